/- Proved: the statement RulesAtoms, tied to the program as its card says, for every input; there are no conditions. Texts of this claim, one behind the other: Px17, PureN, LawRulesAtoms. Merged by wip/mkmerge.py. -/
import Derived.Test.YtabocfninjankaaDoorCaAt1
import Derived.Test.YtabocfninjankaaDoorCaAt2
import Derived.Test.YtabocfninjankaaDoorCaAt3
import Derived.Test.YtabocfninjankaaDoorRows
import Derived.Test.YtabocfninjankaaDoorCards
import Derived.Test.YtabocfninjankaaDoorTie
import Derived.WalkKit
import Derived.ProofKit
import Derived.OpenShut
import Derived.ShutString
import Derived.ChangeOld
import Derived.Below
import Derived.SizedLaws
import Derived.LaidMore
import Derived.Stop.Joined
import Derived.SevenTiedAt
namespace Go.Proofs.YtabocfninjankaaDoor.P
open Go.RowKit Go.Proofs.YtabocfninjankaaDoorW.PrintWords Go.Proofs.YtabocfninjankaaDoorW.PrintLast Go.Proofs.YtabocfninjankaaDoorW.PrintMore
attribute [local go_sem] max2_int min2_int max_two min_two max_three min_three max_four min_four   -- for this text's walks alone
set_option linter.unusedVariables false
set_option linter.unusedSimpArgs false
mutual
def sizarlaw12_RulesAtoms.j0 : Nat → Bool → Int → Int → ByteArray → Int → Int → List (S24) → List (S49) → Int → Int → Int → List (S49) → Int → Int → Int → Option (Bool)
 | 0, _, _, _, _, _, _, _, _, _, _, _, _, _, _, _ => none
 | k + 1, x40, x468000, x468001, x468002, x468003, x468004, x468005, x469000, x469001, x469002, x469003, x470000, x470001, x470002, x470003 => if x40 = true then (some true) else ((rules_Atoms.f x468000 x468001 x468002 x468003 x468004 x468005).bind fun t475 => (sizarlaw12_RulesAtoms.l0 k t475 0 x468000 x468001 x468002 x468003 x468004 x468005 x469000 x469001 x469002 x469003 x470000 x470001 x470002 x470003))
def sizarlaw12_RulesAtoms.l0 : Nat → List (S24) → Int → Int → Int → ByteArray → Int → Int → List (S24) → List (S49) → Int → Int → Int → List (S49) → Int → Int → Int → Option (Bool)
 | 0, _, _, _, _, _, _, _, _, _, _, _, _, _, _, _, _ => none
 | k + 1, x7, x8, x468000, x468001, x468002, x468003, x468004, x468005, x469000, x469001, x469002, x469003, x470000, x470001, x470002, x470003 => if x8 < (x7.length : Int) then (if 0 ≤ x8 then ((rules_Check.f ((rd_T24 x7 x8).f0) ((rd_T24 x7 x8).f1) ((rd_T24 x7 x8).f2) ((rd_T24 x7 x8).f3) ((rd_T24 x7 x8).f4) ((rd_T24 x7 x8).f5)).bind fun t481 => (if t481 = 0 then ((sizarlaw12_holds.f k ((rd_T24 x7 x8).f0) ((rd_T24 x7 x8).f1) ((rd_T24 x7 x8).f2) ((rd_T24 x7 x8).f3) ((rd_T24 x7 x8).f4) ((rd_T24 x7 x8).f5) x469000 x469001 x469002 x469003).bind fun t483 => ((sizarlaw12_holds.f k ((rd_T24 x7 x8).f0) ((rd_T24 x7 x8).f1) ((rd_T24 x7 x8).f2) ((rd_T24 x7 x8).f3) ((rd_T24 x7 x8).f4) ((rd_T24 x7 x8).f5) x470000 x470001 x470002 x470003).bind fun t485 => (if (t483 != t485) = true then (some true) else (sizarlaw12_RulesAtoms.l0 k x7 (wrap64 (x8 + 1)) x468000 x468001 x468002 x468003 x468004 x468005 x469000 x469001 x469002 x469003 x470000 x470001 x470002 x470003)))) else (some false))) else (none)) else ((sizarlaw12_holds.f k x468000 x468001 x468002 x468003 x468004 x468005 x469000 x469001 x469002 x469003).bind fun t478 => ((sizarlaw12_holds.f k x468000 x468001 x468002 x468003 x468004 x468005 x470000 x470001 x470002 x470003).bind fun t479 => (some (t478 == t479))))
end
def sizarlaw12_RulesAtoms.f (k : Nat) (a0_0 : Int) (a0_1 : Int) (a0_2 : ByteArray) (a0_3 : Int) (a0_4 : Int) (l0_5 : List (S24)) (l1_0 : List (S49)) (a1_1 : Int) (a1_2 : Int) (a1_3 : Int) (l2_0 : List (S49)) (a2_1 : Int) (a2_2 : Int) (a2_3 : Int) : Option (Bool) := (sizarlaw12_sane.f k).bind fun t470 => (if t470 = true then ((sizarref12_Few.f k a0_0 a0_1 a0_2 a0_3 a0_4 l0_5).bind fun t471 => (if t471 = true then (if (l1_0.length : Int) > 50 then (sizarlaw12_RulesAtoms.j0 k true a0_0 a0_1 a0_2 a0_3 a0_4 l0_5 l1_0 a1_1 a1_2 a1_3 l2_0 a2_1 a2_2 a2_3) else (if (l2_0.length : Int) > 50 then (sizarlaw12_RulesAtoms.j0 k true a0_0 a0_1 a0_2 a0_3 a0_4 l0_5 l1_0 a1_1 a1_2 a1_3 l2_0 a2_1 a2_2 a2_3) else ((rules_Check.f a0_0 a0_1 a0_2 a0_3 a0_4 l0_5).bind fun t472 => (if t472 = 0 then ((rules_Fits.f k l1_0 a1_1 a1_2 a1_3).bind fun t473 => (if t473 = 0 then ((rules_Fits.f k l2_0 a2_1 a2_2 a2_3).bind fun t474 => (sizarlaw12_RulesAtoms.j0 k (t474 != 0) a0_0 a0_1 a0_2 a0_3 a0_4 l0_5 l1_0 a1_1 a1_2 a1_3 l2_0 a2_1 a2_2 a2_3)) else (sizarlaw12_RulesAtoms.j0 k true a0_0 a0_1 a0_2 a0_3 a0_4 l0_5 l1_0 a1_1 a1_2 a1_3 l2_0 a2_1 a2_2 a2_3))) else (sizarlaw12_RulesAtoms.j0 k true a0_0 a0_1 a0_2 a0_3 a0_4 l0_5 l1_0 a1_1 a1_2 a1_3 l2_0 a2_1 a2_2 a2_3))))) else (sizarlaw12_RulesAtoms.j0 k true a0_0 a0_1 a0_2 a0_3 a0_4 l0_5 l1_0 a1_1 a1_2 a1_3 l2_0 a2_1 a2_2 a2_3))) else (some false))
def sizarlaw12_RulesAtoms.T11 : Bool × List (List Nat × List Nat) := (true, [([], []), ([], []), ([0, 1], [0, 1]), ([2], [2]), ([], []), ([3, 4], [3, 4]), ([], []), ([], []), ([6, 7], [6, 7]), ([8], [8]), ([], []), ([9, 10, 5], [9, 10]), ([5, 11], [5, 11])])
def sizarlaw12_RulesAtoms.B11 : List Nat := [0, 0, 3, 7, 0, 31, 0, 0, 192, 448, 0, 2047, 4095]
theorem sizarlaw12_RulesAtoms.tab11 : rtab .any (opsOf Tryd.f7 11) = sizarlaw12_RulesAtoms.T11 := by kernel_rfl
theorem sizarlaw12_RulesAtoms.bits11 : waitsOk sizarlaw12_RulesAtoms.T11.2 sizarlaw12_RulesAtoms.B11 = true := by kernel_rfl
def sizarlaw12_RulesAtoms.T13 : Bool × List (List Nat × List Nat) := (true, [([], []), ([], []), ([0, 1], [0, 1]), ([], []), ([], []), ([3, 4, 2], [3, 4]), ([2, 5], [2, 5]), ([6, 5, 0, 1, 2, 3, 4, 5, 6], [6])])
def sizarlaw12_RulesAtoms.B13 : List Nat := [0, 0, 3, 0, 0, 31, 63, 127]
theorem sizarlaw12_RulesAtoms.tab13 : rtab .any (opsOf Tryd.f7 13) = sizarlaw12_RulesAtoms.T13 := by kernel_rfl
theorem sizarlaw12_RulesAtoms.bits13 : waitsOk sizarlaw12_RulesAtoms.T13.2 sizarlaw12_RulesAtoms.B13 = true := by kernel_rfl
set_option maxHeartbeats 8000000 in
set_option maxRecDepth 100000 in
theorem sizarlaw12_RulesAtoms.calls (k : Nat) (a0_0 : Int) (a0_1 : Int) (a0_2 : ByteArray) (a0_3 : Int) (a0_4 : Int) (A0_5 : Option Addr) (c0_5 : Nat) (l0_5 : List (S24)) (A1_0 : Option Addr) (c1_0 : Nat) (l1_0 : List (S49)) (a1_1 : Int) (a1_2 : Int) (a1_3 : Int) (A2_0 : Option Addr) (c2_0 : Nat) (l2_0 : List (S49)) (a2_1 : Int) (a2_2 : Int) (a2_3 : Int) (r : Bool) (w : World) (hr0_5 : Kd.C k24 w A0_5 l0_5.length l0_5) (hc0_5 : l0_5.length ≤ c0_5) (hr1_0 : Kd.C k49 w A1_0 l1_0.length l1_0) (hc1_0 : l1_0.length ≤ c1_0) (hr2_0 : Kd.C k49 w A2_0 l2_0.length l2_0) (hc2_0 : l2_0.length ≤ c2_0) (h : sizarlaw12_RulesAtoms.f k a0_0 a0_1 a0_2 a0_3 a0_4 l0_5 l1_0 a1_1 a1_2 a1_3 l2_0 a2_1 a2_2 a2_3 = some r) (hKT : KindsAt w) :
  Calls Tryd.prog 7 #[.agg #[.int .i64 a0_0, .int .i64 a0_1, .string a0_2, .int .i64 a0_3, .int .i64 a0_4, .slice A0_5 l0_5.length c0_5], .agg #[.slice A1_0 l1_0.length c1_0, .int .i64 a1_1, .int .i64 a1_2, .int .i64 a1_3], .agg #[.slice A2_0 l2_0.length c2_0, .int .i64 a2_1, .int .i64 a2_2, .int .i64 a2_3]] w fun e w' => e = .returned (.bool r) ∧ Below w.heap.size w w' := by
 have HKT := Aside0.mk hKT
 clear hKT
 have hu24 := Tryd.underlying24
 have hu29 := Tryd.underlying29
 have HR0_5 := Aside0.mk hr0_5
 have HC0_5 := Aside0.mk hc0_5
 clear hr0_5 hc0_5
 have HR1_0 := Aside0.mk hr1_0
 have HC1_0 := Aside0.mk hc1_0
 clear hr1_0 hc1_0
 have HR2_0 := Aside0.mk hr2_0
 have HC2_0 := Aside0.mk hc2_0
 clear hr2_0 hc2_0
 have HB := Aside0.mk (Below.refl w.heap.size w)
 have H : ((sizarlaw12_sane.f k).bind fun t470 => (if t470 = true then ((sizarref12_Few.f k a0_0 a0_1 a0_2 a0_3 a0_4 l0_5).bind fun t471 => (if t471 = true then (if (l1_0.length : Int) > 50 then (sizarlaw12_RulesAtoms.j0 k true a0_0 a0_1 a0_2 a0_3 a0_4 l0_5 l1_0 a1_1 a1_2 a1_3 l2_0 a2_1 a2_2 a2_3) else (if (l2_0.length : Int) > 50 then (sizarlaw12_RulesAtoms.j0 k true a0_0 a0_1 a0_2 a0_3 a0_4 l0_5 l1_0 a1_1 a1_2 a1_3 l2_0 a2_1 a2_2 a2_3) else ((rules_Check.f a0_0 a0_1 a0_2 a0_3 a0_4 l0_5).bind fun t472 => (if t472 = 0 then ((rules_Fits.f k l1_0 a1_1 a1_2 a1_3).bind fun t473 => (if t473 = 0 then ((rules_Fits.f k l2_0 a2_1 a2_2 a2_3).bind fun t474 => (sizarlaw12_RulesAtoms.j0 k (t474 != 0) a0_0 a0_1 a0_2 a0_3 a0_4 l0_5 l1_0 a1_1 a1_2 a1_3 l2_0 a2_1 a2_2 a2_3)) else (sizarlaw12_RulesAtoms.j0 k true a0_0 a0_1 a0_2 a0_3 a0_4 l0_5 l1_0 a1_1 a1_2 a1_3 l2_0 a2_1 a2_2 a2_3))) else (sizarlaw12_RulesAtoms.j0 k true a0_0 a0_1 a0_2 a0_3 a0_4 l0_5 l1_0 a1_1 a1_2 a1_3 l2_0 a2_1 a2_2 a2_3))))) else (sizarlaw12_RulesAtoms.j0 k true a0_0 a0_1 a0_2 a0_3 a0_4 l0_5 l1_0 a1_1 a1_2 a1_3 l2_0 a2_1 a2_2 a2_3))) else (some false))) = some r := h
 clear h
 replace H := Option.bind_eq_some_iff.mp H
 obtain ⟨t470, A40, H⟩ := H
 replace H : (if t470 = true then ((sizarref12_Few.f k a0_0 a0_1 a0_2 a0_3 a0_4 l0_5).bind fun t471 => (if t471 = true then (if (l1_0.length : Int) > 50 then (sizarlaw12_RulesAtoms.j0 k true a0_0 a0_1 a0_2 a0_3 a0_4 l0_5 l1_0 a1_1 a1_2 a1_3 l2_0 a2_1 a2_2 a2_3) else (if (l2_0.length : Int) > 50 then (sizarlaw12_RulesAtoms.j0 k true a0_0 a0_1 a0_2 a0_3 a0_4 l0_5 l1_0 a1_1 a1_2 a1_3 l2_0 a2_1 a2_2 a2_3) else ((rules_Check.f a0_0 a0_1 a0_2 a0_3 a0_4 l0_5).bind fun t472 => (if t472 = 0 then ((rules_Fits.f k l1_0 a1_1 a1_2 a1_3).bind fun t473 => (if t473 = 0 then ((rules_Fits.f k l2_0 a2_1 a2_2 a2_3).bind fun t474 => (sizarlaw12_RulesAtoms.j0 k (t474 != 0) a0_0 a0_1 a0_2 a0_3 a0_4 l0_5 l1_0 a1_1 a1_2 a1_3 l2_0 a2_1 a2_2 a2_3)) else (sizarlaw12_RulesAtoms.j0 k true a0_0 a0_1 a0_2 a0_3 a0_4 l0_5 l1_0 a1_1 a1_2 a1_3 l2_0 a2_1 a2_2 a2_3))) else (sizarlaw12_RulesAtoms.j0 k true a0_0 a0_1 a0_2 a0_3 a0_4 l0_5 l1_0 a1_1 a1_2 a1_3 l2_0 a2_1 a2_2 a2_3))))) else (sizarlaw12_RulesAtoms.j0 k true a0_0 a0_1 a0_2 a0_3 a0_4 l0_5 l1_0 a1_1 a1_2 a1_3 l2_0 a2_1 a2_2 a2_3))) else (some false)) = some r := H
 have A4 := Aside0.mk A40
 clear A40
 by_cases c5 : t470 = true
 ·subst c5
  have H1 : ((sizarref12_Few.f k a0_0 a0_1 a0_2 a0_3 a0_4 l0_5).bind fun t471 => (if t471 = true then (if (l1_0.length : Int) > 50 then (sizarlaw12_RulesAtoms.j0 k true a0_0 a0_1 a0_2 a0_3 a0_4 l0_5 l1_0 a1_1 a1_2 a1_3 l2_0 a2_1 a2_2 a2_3) else (if (l2_0.length : Int) > 50 then (sizarlaw12_RulesAtoms.j0 k true a0_0 a0_1 a0_2 a0_3 a0_4 l0_5 l1_0 a1_1 a1_2 a1_3 l2_0 a2_1 a2_2 a2_3) else ((rules_Check.f a0_0 a0_1 a0_2 a0_3 a0_4 l0_5).bind fun t472 => (if t472 = 0 then ((rules_Fits.f k l1_0 a1_1 a1_2 a1_3).bind fun t473 => (if t473 = 0 then ((rules_Fits.f k l2_0 a2_1 a2_2 a2_3).bind fun t474 => (sizarlaw12_RulesAtoms.j0 k (t474 != 0) a0_0 a0_1 a0_2 a0_3 a0_4 l0_5 l1_0 a1_1 a1_2 a1_3 l2_0 a2_1 a2_2 a2_3)) else (sizarlaw12_RulesAtoms.j0 k true a0_0 a0_1 a0_2 a0_3 a0_4 l0_5 l1_0 a1_1 a1_2 a1_3 l2_0 a2_1 a2_2 a2_3))) else (sizarlaw12_RulesAtoms.j0 k true a0_0 a0_1 a0_2 a0_3 a0_4 l0_5 l1_0 a1_1 a1_2 a1_3 l2_0 a2_1 a2_2 a2_3))))) else (sizarlaw12_RulesAtoms.j0 k true a0_0 a0_1 a0_2 a0_3 a0_4 l0_5 l1_0 a1_1 a1_2 a1_3 l2_0 a2_1 a2_2 a2_3))) = some r := by rw [if_pos rfl] at H; exact H
  clear H
  have H := H1
  clear H1
  have HC6 := Aside0.mk H
  clear H
  go_enter Tryd.func7, Tryd.ntmps7
  go_upto_region 3 with (first | ((with_reducible refine gate_dst (N := 3) rfl ?_); (try (refine gate_guard (by rfl) ?_; dsimp only)); refine box_event ?hg (N := 3) ?hd (cs := #[.int .i64 a0_0, .int .i64 a0_1, .string a0_2, .int .i64 a0_3, .int .i64 a0_4, .slice A0_5 l0_5.length c0_5]) (t := 24) ?hr ?_; (case hd => rfl); (case hg => rfl); (case hr => first | (go_simp; done) | (go_simp; rfl)); intro gb467 hg w7 hbox hb; have n0_ := Aside0.mk (below_step (by repeat (first | (with_reducible first | exact HB.out | apply below_alloc | apply pw_below_drewN | apply below_drew1) | exact HB.out)) hb); have n1_ := Aside0.mk (hbox); have n2_ := Aside0.mk ((by rw [hg]; exact (below_size (by repeat (first | (with_reducible first | exact HB.out | apply below_alloc | apply pw_below_drewN | apply below_drew1) | exact HB.out))) : w.heap.size ≤ gb467)); have n3_ := Aside0.mk ((by rw [hg]; exact (below_size (by repeat (first | (with_reducible first | exact HB.out | apply below_alloc | apply pw_below_drewN | apply below_drew1) | exact HB.out))) : w.heap.size ≤ gb467)); clear HB; have HB := n0_; have BK467 := n1_; have GW467 := n2_; have GE467 := n3_; clear n0_ n1_ n2_ n3_; clear hb hbox hg) | ((with_reducible refine gate_dst (N := 4) rfl ?_); (try (refine gate_guard (by rfl) ?_; dsimp only)); refine box_event ?hg (N := 4) ?hd (cs := #[.slice A1_0 l1_0.length c1_0, .int .i64 a1_1, .int .i64 a1_2, .int .i64 a1_3]) (t := 29) ?hr ?_; (case hd => rfl); (case hg => rfl); (case hr => first | (go_simp; done) | (go_simp; rfl)); intro gb468 hg w8 hbox hb; have n0_ := Aside0.mk (blk_below (g := gb467) (o := .cells #[.int .i64 a0_0, .int .i64 a0_1, .string a0_2, .int .i64 a0_3, .int .i64 a0_4, .slice A0_5 l0_5.length c0_5] 24 (0, 0)) (by (with_reducible repeat (first | refine blk_drewN ?_ _ | refine blk_drew ?_ | refine blk_alloc ?_ _)); exact BK467.out) hb); have n1_ := Aside0.mk (below_step (by repeat (first | (with_reducible first | exact HB.out | apply below_alloc | apply pw_below_drewN | apply below_drew1 | refine below_set ?_ GE467.out) | exact HB.out)) hb); have n2_ := Aside0.mk (hbox); have n3_ := Aside0.mk ((by rw [hg]; exact (below_size (by repeat (first | (with_reducible first | exact HB.out | apply below_alloc | apply pw_below_drewN | apply below_drew1 | refine below_set ?_ GE467.out) | exact HB.out))) : w.heap.size ≤ gb468)); have n4_ := Aside0.mk ((by rw [hg]; exact (below_size (by repeat (first | (with_reducible first | exact HB.out | apply below_alloc | apply pw_below_drewN | apply below_drew1 | refine below_set ?_ GE467.out) | exact HB.out))) : w.heap.size ≤ gb468)); have n5_ := Aside0.mk ((by rw [hg]; exact Nat.ne_of_lt (blk_lt (g := gb467) (o := .cells #[.int .i64 a0_0, .int .i64 a0_1, .string a0_2, .int .i64 a0_3, .int .i64 a0_4, .slice A0_5 l0_5.length c0_5] 24 (0, 0)) (by (with_reducible repeat (first | refine blk_drewN ?_ _ | refine blk_drew ?_ | refine blk_alloc ?_ _)); exact BK467.out)) : gb467 ≠ gb468)); have n6_ := Aside0.mk ((by rw [hg]; exact Nat.ne_of_gt (blk_lt (g := gb467) (o := .cells #[.int .i64 a0_0, .int .i64 a0_1, .string a0_2, .int .i64 a0_3, .int .i64 a0_4, .slice A0_5 l0_5.length c0_5] 24 (0, 0)) (by (with_reducible repeat (first | refine blk_drewN ?_ _ | refine blk_drew ?_ | refine blk_alloc ?_ _)); exact BK467.out)) : gb468 ≠ gb467)); clear BK467; clear HB; have BK467 := n0_; have HB := n1_; have BK468 := n2_; have GW468 := n3_; have GE468 := n4_; have NB467_468 := n5_; have NB468_467 := n6_; clear n0_ n1_ n2_ n3_ n4_ n5_ n6_; clear hb hbox hg) | ((with_reducible refine gate_dst (N := 5) rfl ?_); (try (refine gate_guard (by rfl) ?_; dsimp only)); refine box_event ?hg (N := 5) ?hd (cs := #[.slice A2_0 l2_0.length c2_0, .int .i64 a2_1, .int .i64 a2_2, .int .i64 a2_3]) (t := 29) ?hr ?_; (case hd => rfl); (case hg => rfl); (case hr => first | (go_simp; done) | (go_simp; rfl)); intro gb469 hg w9 hbox hb; have n0_ := Aside0.mk (blk_below (g := gb467) (o := .cells #[.int .i64 a0_0, .int .i64 a0_1, .string a0_2, .int .i64 a0_3, .int .i64 a0_4, .slice A0_5 l0_5.length c0_5] 24 (0, 0)) (by (with_reducible repeat (first | refine blk_drewN ?_ _ | refine blk_drew ?_ | refine blk_alloc ?_ _)); exact BK467.out) hb); have n1_ := Aside0.mk (blk_below (g := gb468) (o := .cells #[.slice A1_0 l1_0.length c1_0, .int .i64 a1_1, .int .i64 a1_2, .int .i64 a1_3] 29 (0, 0)) (by (with_reducible repeat (first | refine blk_drewN ?_ _ | refine blk_drew ?_ | refine blk_alloc ?_ _)); exact BK468.out) hb); have n2_ := Aside0.mk (below_step (by repeat (first | (with_reducible first | exact HB.out | apply below_alloc | apply pw_below_drewN | apply below_drew1 | refine below_set ?_ GE467.out | refine below_set ?_ GE468.out) | exact HB.out)) hb); have n3_ := Aside0.mk (hbox); have n4_ := Aside0.mk ((by rw [hg]; exact (below_size (by repeat (first | (with_reducible first | exact HB.out | apply below_alloc | apply pw_below_drewN | apply below_drew1 | refine below_set ?_ GE467.out | refine below_set ?_ GE468.out) | exact HB.out))) : w.heap.size ≤ gb469)); have n5_ := Aside0.mk ((by rw [hg]; exact (below_size (by repeat (first | (with_reducible first | exact HB.out | apply below_alloc | apply pw_below_drewN | apply below_drew1 | refine below_set ?_ GE467.out | refine below_set ?_ GE468.out) | exact HB.out))) : w.heap.size ≤ gb469)); have n6_ := Aside0.mk ((by rw [hg]; exact Nat.ne_of_lt (blk_lt (g := gb467) (o := .cells #[.int .i64 a0_0, .int .i64 a0_1, .string a0_2, .int .i64 a0_3, .int .i64 a0_4, .slice A0_5 l0_5.length c0_5] 24 (0, 0)) (by (with_reducible repeat (first | refine blk_drewN ?_ _ | refine blk_drew ?_ | refine blk_alloc ?_ _)); exact BK467.out)) : gb467 ≠ gb469)); have n7_ := Aside0.mk ((by rw [hg]; exact Nat.ne_of_gt (blk_lt (g := gb467) (o := .cells #[.int .i64 a0_0, .int .i64 a0_1, .string a0_2, .int .i64 a0_3, .int .i64 a0_4, .slice A0_5 l0_5.length c0_5] 24 (0, 0)) (by (with_reducible repeat (first | refine blk_drewN ?_ _ | refine blk_drew ?_ | refine blk_alloc ?_ _)); exact BK467.out)) : gb469 ≠ gb467)); have n8_ := Aside0.mk ((by rw [hg]; exact Nat.ne_of_lt (blk_lt (g := gb468) (o := .cells #[.slice A1_0 l1_0.length c1_0, .int .i64 a1_1, .int .i64 a1_2, .int .i64 a1_3] 29 (0, 0)) (by (with_reducible repeat (first | refine blk_drewN ?_ _ | refine blk_drew ?_ | refine blk_alloc ?_ _)); exact BK468.out)) : gb468 ≠ gb469)); have n9_ := Aside0.mk ((by rw [hg]; exact Nat.ne_of_gt (blk_lt (g := gb468) (o := .cells #[.slice A1_0 l1_0.length c1_0, .int .i64 a1_1, .int .i64 a1_2, .int .i64 a1_3] 29 (0, 0)) (by (with_reducible repeat (first | refine blk_drewN ?_ _ | refine blk_drew ?_ | refine blk_alloc ?_ _)); exact BK468.out)) : gb469 ≠ gb468)); clear BK467; clear BK468; clear HB; have BK467 := n0_; have BK468 := n1_; have HB := n2_; have BK469 := n3_; have GW469 := n4_; have GE469 := n5_; have NB467_469 := n6_; have NB469_467 := n7_; have NB468_469 := n8_; have NB469_468 := n9_; clear n0_ n1_ n2_ n3_ n4_ n5_ n6_ n7_ n8_ n9_; clear hb hbox hg) | ((with_reducible refine gate_callee (f := 10) rfl ?_); refine goesL_ (some 9) rfl rfl Tryd.func10 (by kernel_rfl) rfl #[] rfl (by (try simp only [List.map_toArray, List.map_cons, List.map_nil]); first | done | rfl | (simp only [List.length_drop, List.length_take]; rfl)) ?_; (with_reducible refine (sizarlaw12_sane.calls k  true _ A4.out ?sideK).mono ?_); (case sideK => exact HKT.out.below (by repeat (first | (with_reducible first | exact HB.out | apply below_alloc | apply pw_below_drewN | apply below_drew1 | refine below_set ?_ GE467.out | refine below_set ?_ GE468.out | refine below_set ?_ GE469.out) | exact HB.out))); rintro e w10 ⟨rfl, hb⟩; refine ⟨_, rfl, ?_⟩; have n0_ := Aside0.mk (blk_below (g := gb467) (o := .cells #[.int .i64 a0_0, .int .i64 a0_1, .string a0_2, .int .i64 a0_3, .int .i64 a0_4, .slice A0_5 l0_5.length c0_5] 24 (0, 0)) (by (with_reducible repeat (first | refine blk_drewN ?_ _ | refine blk_drew ?_ | refine blk_alloc ?_ _)); exact BK467.out) hb); have n1_ := Aside0.mk (blk_below (g := gb468) (o := .cells #[.slice A1_0 l1_0.length c1_0, .int .i64 a1_1, .int .i64 a1_2, .int .i64 a1_3] 29 (0, 0)) (by (with_reducible repeat (first | refine blk_drewN ?_ _ | refine blk_drew ?_ | refine blk_alloc ?_ _)); exact BK468.out) hb); have n2_ := Aside0.mk (blk_below (g := gb469) (o := .cells #[.slice A2_0 l2_0.length c2_0, .int .i64 a2_1, .int .i64 a2_2, .int .i64 a2_3] 29 (0, 0)) (by (with_reducible repeat (first | refine blk_drewN ?_ _ | refine blk_drew ?_ | refine blk_alloc ?_ _)); exact BK469.out) hb); have n3_ := Aside0.mk (below_step (by repeat (first | (with_reducible first | exact HB.out | apply below_alloc | apply pw_below_drewN | apply below_drew1 | refine below_set ?_ GE467.out | refine below_set ?_ GE468.out | refine below_set ?_ GE469.out) | exact HB.out)) hb); clear BK467; clear BK468; clear BK469; clear HB; have BK467 := n0_; have BK468 := n1_; have BK469 := n2_; have HB := n3_; clear n0_ n1_ n2_ n3_; (try clear hb); (try clear hb2); (try clear hk); (try clear hi)))
  (try simp only [Act.put, List.setIfInBounds_toArray, List.set_cons_zero, List.set_cons_succ])
  go_cut [40] (fun v40 wc => ∃ (kq : Nat) (x40_5 : Bool), v40 = .bool x40_5 ∧ Aside0 (sizarlaw12_RulesAtoms.j0 kq x40_5 a0_0 a0_1 a0_2 a0_3 a0_4 l0_5 l1_0 a1_1 a1_2 a1_3 l2_0 a2_1 a2_2 a2_3 = some r) ∧ Aside0 (kq ≤ k) ∧ Aside0 (wc.heap[gb467]? = some (.cells #[.int .i64 a0_0, .int .i64 a0_1, .string a0_2, .int .i64 a0_3, .int .i64 a0_4, (.slice A0_5 l0_5.length c0_5)] 24 (0, 0))) ∧ Aside0 (wc.heap[gb468]? = some (.cells #[(.slice A1_0 l1_0.length c1_0), .int .i64 a1_1, .int .i64 a1_2, .int .i64 a1_3] 29 (0, 0))) ∧ Aside0 (wc.heap[gb469]? = some (.cells #[(.slice A2_0 l2_0.length c2_0), .int .i64 a2_1, .int .i64 a2_2, .int .i64 a2_3] 29 (0, 0))) ∧ Aside0 (Below w.heap.size w wc))
  case first =>
   have H := HC6.out
   clear HC6
   replace H := Option.bind_eq_some_iff.mp H
   obtain ⟨t471, A110, H⟩ := H
   replace H : (if t471 = true then (if (l1_0.length : Int) > 50 then (sizarlaw12_RulesAtoms.j0 k true a0_0 a0_1 a0_2 a0_3 a0_4 l0_5 l1_0 a1_1 a1_2 a1_3 l2_0 a2_1 a2_2 a2_3) else (if (l2_0.length : Int) > 50 then (sizarlaw12_RulesAtoms.j0 k true a0_0 a0_1 a0_2 a0_3 a0_4 l0_5 l1_0 a1_1 a1_2 a1_3 l2_0 a2_1 a2_2 a2_3) else ((rules_Check.f a0_0 a0_1 a0_2 a0_3 a0_4 l0_5).bind fun t472 => (if t472 = 0 then ((rules_Fits.f k l1_0 a1_1 a1_2 a1_3).bind fun t473 => (if t473 = 0 then ((rules_Fits.f k l2_0 a2_1 a2_2 a2_3).bind fun t474 => (sizarlaw12_RulesAtoms.j0 k (t474 != 0) a0_0 a0_1 a0_2 a0_3 a0_4 l0_5 l1_0 a1_1 a1_2 a1_3 l2_0 a2_1 a2_2 a2_3)) else (sizarlaw12_RulesAtoms.j0 k true a0_0 a0_1 a0_2 a0_3 a0_4 l0_5 l1_0 a1_1 a1_2 a1_3 l2_0 a2_1 a2_2 a2_3))) else (sizarlaw12_RulesAtoms.j0 k true a0_0 a0_1 a0_2 a0_3 a0_4 l0_5 l1_0 a1_1 a1_2 a1_3 l2_0 a2_1 a2_2 a2_3))))) else (sizarlaw12_RulesAtoms.j0 k true a0_0 a0_1 a0_2 a0_3 a0_4 l0_5 l1_0 a1_1 a1_2 a1_3 l2_0 a2_1 a2_2 a2_3)) = some r := H
   have A11 := Aside0.mk A110
   clear A110
   by_cases c12 : t471 = true
   ·subst c12
    have H1 : (if (l1_0.length : Int) > 50 then (sizarlaw12_RulesAtoms.j0 k true a0_0 a0_1 a0_2 a0_3 a0_4 l0_5 l1_0 a1_1 a1_2 a1_3 l2_0 a2_1 a2_2 a2_3) else (if (l2_0.length : Int) > 50 then (sizarlaw12_RulesAtoms.j0 k true a0_0 a0_1 a0_2 a0_3 a0_4 l0_5 l1_0 a1_1 a1_2 a1_3 l2_0 a2_1 a2_2 a2_3) else ((rules_Check.f a0_0 a0_1 a0_2 a0_3 a0_4 l0_5).bind fun t472 => (if t472 = 0 then ((rules_Fits.f k l1_0 a1_1 a1_2 a1_3).bind fun t473 => (if t473 = 0 then ((rules_Fits.f k l2_0 a2_1 a2_2 a2_3).bind fun t474 => (sizarlaw12_RulesAtoms.j0 k (t474 != 0) a0_0 a0_1 a0_2 a0_3 a0_4 l0_5 l1_0 a1_1 a1_2 a1_3 l2_0 a2_1 a2_2 a2_3)) else (sizarlaw12_RulesAtoms.j0 k true a0_0 a0_1 a0_2 a0_3 a0_4 l0_5 l1_0 a1_1 a1_2 a1_3 l2_0 a2_1 a2_2 a2_3))) else (sizarlaw12_RulesAtoms.j0 k true a0_0 a0_1 a0_2 a0_3 a0_4 l0_5 l1_0 a1_1 a1_2 a1_3 l2_0 a2_1 a2_2 a2_3))))) = some r := by rw [if_pos rfl] at H; exact H
    clear H
    have H := H1
    clear H1
    by_cases c13 : (l1_0.length : Int) > 50
    ·rw [if_pos c13] at H
     have c13b0 : decide (50 < (l1_0.length : Int)) = true := decide_eq_true c13
     have c13b1 : decide (50 < l1_0.length) = true := decide_eq_true (by omega)
     clear c13
     (first | rw [c13b0] | (simp only [i64_w, i32_w]; rw [c13b0]) | skip)
     have H' := Aside0.mk H
     clear H
     have hnb14 := NB467_468.out
     have hnc14 := NB468_467.out
     have hnb15 := NB467_469.out
     have hnc15 := NB469_467.out
     have hcz16_0 : w10.cell? ⟨gb467, 0, none⟩ = some (.int .i64 a0_0) := (blk_cell BK467.out 0).trans rfl
     have hcz16_1 : w10.cell? ⟨gb467, 1, none⟩ = some (.int .i64 a0_1) := (blk_cell BK467.out 1).trans rfl
     have hcz16_2 : w10.cell? ⟨gb467, 2, none⟩ = some (.string a0_2) := (blk_cell BK467.out 2).trans rfl
     have hcz16_3 : w10.cell? ⟨gb467, 3, none⟩ = some (.int .i64 a0_3) := (blk_cell BK467.out 3).trans rfl
     have hcz16_4 : w10.cell? ⟨gb467, 4, none⟩ = some (.int .i64 a0_4) := (blk_cell BK467.out 4).trans rfl
     have hcz16_5 : w10.cell? ⟨gb467, 5, none⟩ = some (.slice A0_5 l0_5.length c0_5) := (blk_cell BK467.out 5).trans rfl
     have hfz16_0 := blk_frozen BK467.out 0
     have hfz16_1 := blk_frozen BK467.out 1
     have hfz16_2 := blk_frozen BK467.out 2
     have hfz16_3 := blk_frozen BK467.out 3
     have hfz16_4 := blk_frozen BK467.out 4
     have hfz16_5 := blk_frozen BK467.out 5
     go_wp2_with (first | ((with_reducible refine gate_callee (f := 11) rfl ?_); refine goesL_ (some 12) rfl rfl Tryd.func11 (by kernel_rfl) rfl #[.agg #[.int .i64 a0_0, .int .i64 a0_1, .string a0_2, .int .i64 a0_3, .int .i64 a0_4, .slice A0_5 l0_5.length c0_5]] rfl (by (try simp only [List.map_toArray, List.map_cons, List.map_nil]); first | done | rfl | (simp only [List.length_drop, List.length_take]; rfl)) ?_; (with_reducible refine (sizarref12_Few.calls k a0_0 a0_1 a0_2 a0_3 a0_4 _ _ l0_5 true _ ?side1 ?side2 A11.out).mono ?_); (case side1 => repeat (first | exact (Kd.C_below HR0_5.out HB.out) | (with_reducible refine Kd.C_alloc ?_ _) | (with_reducible refine Kd.C_drewN ?_ _) | (with_reducible refine Kd.C_drew ?_))); (case side2 => exact HC0_5.out); rintro e w17 ⟨rfl, hb⟩; refine ⟨_, rfl, ?_⟩; have n0_ := Aside0.mk (blk_below (g := gb467) (o := .cells #[.int .i64 a0_0, .int .i64 a0_1, .string a0_2, .int .i64 a0_3, .int .i64 a0_4, .slice A0_5 l0_5.length c0_5] 24 (0, 0)) (by (with_reducible repeat (first | refine blk_drewN ?_ _ | refine blk_drew ?_ | refine blk_alloc ?_ _)); exact BK467.out) hb); have n1_ := Aside0.mk (blk_below (g := gb468) (o := .cells #[.slice A1_0 l1_0.length c1_0, .int .i64 a1_1, .int .i64 a1_2, .int .i64 a1_3] 29 (0, 0)) (by (with_reducible repeat (first | refine blk_drewN ?_ _ | refine blk_drew ?_ | refine blk_alloc ?_ _)); exact BK468.out) hb); have n2_ := Aside0.mk (blk_below (g := gb469) (o := .cells #[.slice A2_0 l2_0.length c2_0, .int .i64 a2_1, .int .i64 a2_2, .int .i64 a2_3] 29 (0, 0)) (by (with_reducible repeat (first | refine blk_drewN ?_ _ | refine blk_drew ?_ | refine blk_alloc ?_ _)); exact BK469.out) hb); have n3_ := Aside0.mk (below_step (by repeat (first | (with_reducible first | exact HB.out | apply below_alloc | apply pw_below_drewN | apply below_drew1 | refine below_set ?_ GE467.out | refine below_set ?_ GE468.out | refine below_set ?_ GE469.out) | exact HB.out)) hb); clear BK467; clear BK468; clear BK469; clear HB; have BK467 := n0_; have BK468 := n1_; have BK469 := n2_; have HB := n3_; clear n0_ n1_ n2_ n3_; (try clear hb); (try clear hb2); (try clear hk); (try clear hi); have hnb18 := NB468_469.out; have hnc18 := NB469_468.out; have hcz19_0 : w17.cell? ⟨gb468, 0, none⟩ = some (.slice A1_0 l1_0.length c1_0) := (blk_cell BK468.out 0).trans rfl; have hcz19_1 : w17.cell? ⟨gb468, 1, none⟩ = some (.int .i64 a1_1) := (blk_cell BK468.out 1).trans rfl; have hcz19_2 : w17.cell? ⟨gb468, 2, none⟩ = some (.int .i64 a1_2) := (blk_cell BK468.out 2).trans rfl; have hcz19_3 : w17.cell? ⟨gb468, 3, none⟩ = some (.int .i64 a1_3) := (blk_cell BK468.out 3).trans rfl; have hfz19_0 := blk_frozen BK468.out 0; have hfz19_1 := blk_frozen BK468.out 1; have hfz19_2 := blk_frozen BK468.out 2; have hfz19_3 := blk_frozen BK468.out 3))
     go_meet
     case rel => exact ⟨_, (true), (by first | rfl | (simp; done) | (simp [*]; done)), H', ⟨by first | omega | exact Nat.le_refl _⟩, ⟨by (with_reducible repeat (first | refine blk_drewN ?_ _ | refine blk_drew ?_ | refine blk_alloc ?_ _)); exact BK467.out⟩, ⟨by (with_reducible repeat (first | refine blk_drewN ?_ _ | refine blk_drew ?_ | refine blk_alloc ?_ _)); exact BK468.out⟩, ⟨by (with_reducible repeat (first | refine blk_drewN ?_ _ | refine blk_drew ?_ | refine blk_alloc ?_ _)); exact BK469.out⟩, ⟨by repeat (first | (with_reducible first | exact HB.out | apply below_alloc | apply pw_below_drewN | apply below_drew1 | refine below_set ?_ GE467.out | refine below_set ?_ GE468.out | refine below_set ?_ GE469.out) | exact HB.out)⟩⟩
    ·rw [if_neg c13] at H
     have c13b0 : decide (50 < (l1_0.length : Int)) = false := decide_eq_false c13
     have c13b1 : decide (50 < l1_0.length) = false := decide_eq_false (by omega)
     clear c13
     (first | rw [c13b0] | (simp only [i64_w, i32_w]; rw [c13b0]) | skip)
     by_cases c20 : (l2_0.length : Int) > 50
     ·rw [if_pos c20] at H
      have c20b0 : decide (50 < (l2_0.length : Int)) = true := decide_eq_true c20
      have c20b1 : decide (50 < l2_0.length) = true := decide_eq_true (by omega)
      clear c20
      have H' := Aside0.mk H
      clear H
      have hnb21 := NB467_468.out
      have hnc21 := NB468_467.out
      have hnb22 := NB467_469.out
      have hnc22 := NB469_467.out
      have hcz23_0 : w10.cell? ⟨gb467, 0, none⟩ = some (.int .i64 a0_0) := (blk_cell BK467.out 0).trans rfl
      have hcz23_1 : w10.cell? ⟨gb467, 1, none⟩ = some (.int .i64 a0_1) := (blk_cell BK467.out 1).trans rfl
      have hcz23_2 : w10.cell? ⟨gb467, 2, none⟩ = some (.string a0_2) := (blk_cell BK467.out 2).trans rfl
      have hcz23_3 : w10.cell? ⟨gb467, 3, none⟩ = some (.int .i64 a0_3) := (blk_cell BK467.out 3).trans rfl
      have hcz23_4 : w10.cell? ⟨gb467, 4, none⟩ = some (.int .i64 a0_4) := (blk_cell BK467.out 4).trans rfl
      have hcz23_5 : w10.cell? ⟨gb467, 5, none⟩ = some (.slice A0_5 l0_5.length c0_5) := (blk_cell BK467.out 5).trans rfl
      have hfz23_0 := blk_frozen BK467.out 0
      have hfz23_1 := blk_frozen BK467.out 1
      have hfz23_2 := blk_frozen BK467.out 2
      have hfz23_3 := blk_frozen BK467.out 3
      have hfz23_4 := blk_frozen BK467.out 4
      have hfz23_5 := blk_frozen BK467.out 5
      go_wp2_with (first | ((with_reducible refine gate_callee (f := 11) rfl ?_); refine goesL_ (some 12) rfl rfl Tryd.func11 (by kernel_rfl) rfl #[.agg #[.int .i64 a0_0, .int .i64 a0_1, .string a0_2, .int .i64 a0_3, .int .i64 a0_4, .slice A0_5 l0_5.length c0_5]] rfl (by (try simp only [List.map_toArray, List.map_cons, List.map_nil]); first | done | rfl | (simp only [List.length_drop, List.length_take]; rfl)) ?_; (with_reducible refine (sizarref12_Few.calls k a0_0 a0_1 a0_2 a0_3 a0_4 _ _ l0_5 true _ ?side1 ?side2 A11.out).mono ?_); (case side1 => repeat (first | exact (Kd.C_below HR0_5.out HB.out) | (with_reducible refine Kd.C_alloc ?_ _) | (with_reducible refine Kd.C_drewN ?_ _) | (with_reducible refine Kd.C_drew ?_))); (case side2 => exact HC0_5.out); rintro e w24 ⟨rfl, hb⟩; refine ⟨_, rfl, ?_⟩; have n0_ := Aside0.mk (blk_below (g := gb467) (o := .cells #[.int .i64 a0_0, .int .i64 a0_1, .string a0_2, .int .i64 a0_3, .int .i64 a0_4, .slice A0_5 l0_5.length c0_5] 24 (0, 0)) (by (with_reducible repeat (first | refine blk_drewN ?_ _ | refine blk_drew ?_ | refine blk_alloc ?_ _)); exact BK467.out) hb); have n1_ := Aside0.mk (blk_below (g := gb468) (o := .cells #[.slice A1_0 l1_0.length c1_0, .int .i64 a1_1, .int .i64 a1_2, .int .i64 a1_3] 29 (0, 0)) (by (with_reducible repeat (first | refine blk_drewN ?_ _ | refine blk_drew ?_ | refine blk_alloc ?_ _)); exact BK468.out) hb); have n2_ := Aside0.mk (blk_below (g := gb469) (o := .cells #[.slice A2_0 l2_0.length c2_0, .int .i64 a2_1, .int .i64 a2_2, .int .i64 a2_3] 29 (0, 0)) (by (with_reducible repeat (first | refine blk_drewN ?_ _ | refine blk_drew ?_ | refine blk_alloc ?_ _)); exact BK469.out) hb); have n3_ := Aside0.mk (below_step (by repeat (first | (with_reducible first | exact HB.out | apply below_alloc | apply pw_below_drewN | apply below_drew1 | refine below_set ?_ GE467.out | refine below_set ?_ GE468.out | refine below_set ?_ GE469.out) | exact HB.out)) hb); clear BK467; clear BK468; clear BK469; clear HB; have BK467 := n0_; have BK468 := n1_; have BK469 := n2_; have HB := n3_; clear n0_ n1_ n2_ n3_; (try clear hb); (try clear hb2); (try clear hk); (try clear hi); have hnb25 := NB468_469.out; have hnc25 := NB469_468.out; have hcz26_0 : w24.cell? ⟨gb468, 0, none⟩ = some (.slice A1_0 l1_0.length c1_0) := (blk_cell BK468.out 0).trans rfl; have hcz26_1 : w24.cell? ⟨gb468, 1, none⟩ = some (.int .i64 a1_1) := (blk_cell BK468.out 1).trans rfl; have hcz26_2 : w24.cell? ⟨gb468, 2, none⟩ = some (.int .i64 a1_2) := (blk_cell BK468.out 2).trans rfl; have hcz26_3 : w24.cell? ⟨gb468, 3, none⟩ = some (.int .i64 a1_3) := (blk_cell BK468.out 3).trans rfl; have hfz26_0 := blk_frozen BK468.out 0; have hfz26_1 := blk_frozen BK468.out 1; have hfz26_2 := blk_frozen BK468.out 2; have hfz26_3 := blk_frozen BK468.out 3; have hcz27_0 : w24.cell? ⟨gb469, 0, none⟩ = some (.slice A2_0 l2_0.length c2_0) := (blk_cell BK469.out 0).trans rfl; have hcz27_1 : w24.cell? ⟨gb469, 1, none⟩ = some (.int .i64 a2_1) := (blk_cell BK469.out 1).trans rfl; have hcz27_2 : w24.cell? ⟨gb469, 2, none⟩ = some (.int .i64 a2_2) := (blk_cell BK469.out 2).trans rfl; have hcz27_3 : w24.cell? ⟨gb469, 3, none⟩ = some (.int .i64 a2_3) := (blk_cell BK469.out 3).trans rfl; have hfz27_0 := blk_frozen BK469.out 0; have hfz27_1 := blk_frozen BK469.out 1; have hfz27_2 := blk_frozen BK469.out 2; have hfz27_3 := blk_frozen BK469.out 3))
      go_meet
      case rel => exact ⟨_, (true), (by first | rfl | (simp; done) | (simp [*]; done)), H', ⟨by first | omega | exact Nat.le_refl _⟩, ⟨by (with_reducible repeat (first | refine blk_drewN ?_ _ | refine blk_drew ?_ | refine blk_alloc ?_ _)); exact BK467.out⟩, ⟨by (with_reducible repeat (first | refine blk_drewN ?_ _ | refine blk_drew ?_ | refine blk_alloc ?_ _)); exact BK468.out⟩, ⟨by (with_reducible repeat (first | refine blk_drewN ?_ _ | refine blk_drew ?_ | refine blk_alloc ?_ _)); exact BK469.out⟩, ⟨by repeat (first | (with_reducible first | exact HB.out | apply below_alloc | apply pw_below_drewN | apply below_drew1 | refine below_set ?_ GE467.out | refine below_set ?_ GE468.out | refine below_set ?_ GE469.out) | exact HB.out)⟩⟩
     ·rw [if_neg c20] at H
      have c20b0 : decide (50 < (l2_0.length : Int)) = false := decide_eq_false c20
      have c20b1 : decide (50 < l2_0.length) = false := decide_eq_false (by omega)
      clear c20
      replace H := Option.bind_eq_some_iff.mp H
      obtain ⟨t472, A280, H⟩ := H
      replace H : (if t472 = 0 then ((rules_Fits.f k l1_0 a1_1 a1_2 a1_3).bind fun t473 => (if t473 = 0 then ((rules_Fits.f k l2_0 a2_1 a2_2 a2_3).bind fun t474 => (sizarlaw12_RulesAtoms.j0 k (t474 != 0) a0_0 a0_1 a0_2 a0_3 a0_4 l0_5 l1_0 a1_1 a1_2 a1_3 l2_0 a2_1 a2_2 a2_3)) else (sizarlaw12_RulesAtoms.j0 k true a0_0 a0_1 a0_2 a0_3 a0_4 l0_5 l1_0 a1_1 a1_2 a1_3 l2_0 a2_1 a2_2 a2_3))) else (sizarlaw12_RulesAtoms.j0 k true a0_0 a0_1 a0_2 a0_3 a0_4 l0_5 l1_0 a1_1 a1_2 a1_3 l2_0 a2_1 a2_2 a2_3)) = some r := H
      have A28 := Aside0.mk A280
      clear A280
      by_cases c29 : t472 = 0
      ·rw [if_pos c29] at H
       have c29b0 : (t472 == 0) = true := beq_iff_eq.mpr c29
       have c29b1 : (t472 != 0) = false := bne_eq_false_iff_eq.mpr c29
       clear c29
       replace H := Option.bind_eq_some_iff.mp H
       obtain ⟨t473, A300, H⟩ := H
       replace H : (if t473 = 0 then ((rules_Fits.f k l2_0 a2_1 a2_2 a2_3).bind fun t474 => (sizarlaw12_RulesAtoms.j0 k (t474 != 0) a0_0 a0_1 a0_2 a0_3 a0_4 l0_5 l1_0 a1_1 a1_2 a1_3 l2_0 a2_1 a2_2 a2_3)) else (sizarlaw12_RulesAtoms.j0 k true a0_0 a0_1 a0_2 a0_3 a0_4 l0_5 l1_0 a1_1 a1_2 a1_3 l2_0 a2_1 a2_2 a2_3)) = some r := H
       have A30 := Aside0.mk A300
       clear A300
       by_cases c31 : t473 = 0
       ·rw [if_pos c31] at H
        have c31b0 : (t473 == 0) = true := beq_iff_eq.mpr c31
        have c31b1 : (t473 != 0) = false := bne_eq_false_iff_eq.mpr c31
        clear c31
        replace H := Option.bind_eq_some_iff.mp H
        obtain ⟨t474, A320, H⟩ := H
        replace H : (sizarlaw12_RulesAtoms.j0 k (t474 != 0) a0_0 a0_1 a0_2 a0_3 a0_4 l0_5 l1_0 a1_1 a1_2 a1_3 l2_0 a2_1 a2_2 a2_3) = some r := H
        have A32 := Aside0.mk A320
        clear A320
        have H' := Aside0.mk H
        clear H
        have hnb33 := NB467_468.out
        have hnc33 := NB468_467.out
        have hnb34 := NB467_469.out
        have hnc34 := NB469_467.out
        have hcz35_0 : w10.cell? ⟨gb467, 0, none⟩ = some (.int .i64 a0_0) := (blk_cell BK467.out 0).trans rfl
        have hcz35_1 : w10.cell? ⟨gb467, 1, none⟩ = some (.int .i64 a0_1) := (blk_cell BK467.out 1).trans rfl
        have hcz35_2 : w10.cell? ⟨gb467, 2, none⟩ = some (.string a0_2) := (blk_cell BK467.out 2).trans rfl
        have hcz35_3 : w10.cell? ⟨gb467, 3, none⟩ = some (.int .i64 a0_3) := (blk_cell BK467.out 3).trans rfl
        have hcz35_4 : w10.cell? ⟨gb467, 4, none⟩ = some (.int .i64 a0_4) := (blk_cell BK467.out 4).trans rfl
        have hcz35_5 : w10.cell? ⟨gb467, 5, none⟩ = some (.slice A0_5 l0_5.length c0_5) := (blk_cell BK467.out 5).trans rfl
        have hfz35_0 := blk_frozen BK467.out 0
        have hfz35_1 := blk_frozen BK467.out 1
        have hfz35_2 := blk_frozen BK467.out 2
        have hfz35_3 := blk_frozen BK467.out 3
        have hfz35_4 := blk_frozen BK467.out 4
        have hfz35_5 := blk_frozen BK467.out 5
        go_wp2_with (first | ((with_reducible refine gate_callee (f := 11) rfl ?_); refine goesL_ (some 12) rfl rfl Tryd.func11 (by kernel_rfl) rfl #[.agg #[.int .i64 a0_0, .int .i64 a0_1, .string a0_2, .int .i64 a0_3, .int .i64 a0_4, .slice A0_5 l0_5.length c0_5]] rfl (by (try simp only [List.map_toArray, List.map_cons, List.map_nil]); first | done | rfl | (simp only [List.length_drop, List.length_take]; rfl)) ?_; (with_reducible refine (sizarref12_Few.calls k a0_0 a0_1 a0_2 a0_3 a0_4 _ _ l0_5 true _ ?side1 ?side2 A11.out).mono ?_); (case side1 => repeat (first | exact (Kd.C_below HR0_5.out HB.out) | (with_reducible refine Kd.C_alloc ?_ _) | (with_reducible refine Kd.C_drewN ?_ _) | (with_reducible refine Kd.C_drew ?_))); (case side2 => exact HC0_5.out); rintro e w36 ⟨rfl, hb⟩; refine ⟨_, rfl, ?_⟩; have n0_ := Aside0.mk (blk_below (g := gb467) (o := .cells #[.int .i64 a0_0, .int .i64 a0_1, .string a0_2, .int .i64 a0_3, .int .i64 a0_4, .slice A0_5 l0_5.length c0_5] 24 (0, 0)) (by (with_reducible repeat (first | refine blk_drewN ?_ _ | refine blk_drew ?_ | refine blk_alloc ?_ _)); exact BK467.out) hb); have n1_ := Aside0.mk (blk_below (g := gb468) (o := .cells #[.slice A1_0 l1_0.length c1_0, .int .i64 a1_1, .int .i64 a1_2, .int .i64 a1_3] 29 (0, 0)) (by (with_reducible repeat (first | refine blk_drewN ?_ _ | refine blk_drew ?_ | refine blk_alloc ?_ _)); exact BK468.out) hb); have n2_ := Aside0.mk (blk_below (g := gb469) (o := .cells #[.slice A2_0 l2_0.length c2_0, .int .i64 a2_1, .int .i64 a2_2, .int .i64 a2_3] 29 (0, 0)) (by (with_reducible repeat (first | refine blk_drewN ?_ _ | refine blk_drew ?_ | refine blk_alloc ?_ _)); exact BK469.out) hb); have n3_ := Aside0.mk (below_step (by repeat (first | (with_reducible first | exact HB.out | apply below_alloc | apply pw_below_drewN | apply below_drew1 | refine below_set ?_ GE467.out | refine below_set ?_ GE468.out | refine below_set ?_ GE469.out) | exact HB.out)) hb); clear BK467; clear BK468; clear BK469; clear HB; have BK467 := n0_; have BK468 := n1_; have BK469 := n2_; have HB := n3_; clear n0_ n1_ n2_ n3_; (try clear hb); (try clear hb2); (try clear hk); (try clear hi); have hnb37 := NB468_469.out; have hnc37 := NB469_468.out; have hcz38_0 : w36.cell? ⟨gb468, 0, none⟩ = some (.slice A1_0 l1_0.length c1_0) := (blk_cell BK468.out 0).trans rfl; have hcz38_1 : w36.cell? ⟨gb468, 1, none⟩ = some (.int .i64 a1_1) := (blk_cell BK468.out 1).trans rfl; have hcz38_2 : w36.cell? ⟨gb468, 2, none⟩ = some (.int .i64 a1_2) := (blk_cell BK468.out 2).trans rfl; have hcz38_3 : w36.cell? ⟨gb468, 3, none⟩ = some (.int .i64 a1_3) := (blk_cell BK468.out 3).trans rfl; have hfz38_0 := blk_frozen BK468.out 0; have hfz38_1 := blk_frozen BK468.out 1; have hfz38_2 := blk_frozen BK468.out 2; have hfz38_3 := blk_frozen BK468.out 3; have hcz39_0 : w36.cell? ⟨gb469, 0, none⟩ = some (.slice A2_0 l2_0.length c2_0) := (blk_cell BK469.out 0).trans rfl; have hcz39_1 : w36.cell? ⟨gb469, 1, none⟩ = some (.int .i64 a2_1) := (blk_cell BK469.out 1).trans rfl; have hcz39_2 : w36.cell? ⟨gb469, 2, none⟩ = some (.int .i64 a2_2) := (blk_cell BK469.out 2).trans rfl; have hcz39_3 : w36.cell? ⟨gb469, 3, none⟩ = some (.int .i64 a2_3) := (blk_cell BK469.out 3).trans rfl; have hfz39_0 := blk_frozen BK469.out 0; have hfz39_1 := blk_frozen BK469.out 1; have hfz39_2 := blk_frozen BK469.out 2; have hfz39_3 := blk_frozen BK469.out 3; have hcz40_0 : w36.cell? ⟨gb467, 0, none⟩ = some (.int .i64 a0_0) := (blk_cell BK467.out 0).trans rfl; have hcz40_1 : w36.cell? ⟨gb467, 1, none⟩ = some (.int .i64 a0_1) := (blk_cell BK467.out 1).trans rfl; have hcz40_2 : w36.cell? ⟨gb467, 2, none⟩ = some (.string a0_2) := (blk_cell BK467.out 2).trans rfl; have hcz40_3 : w36.cell? ⟨gb467, 3, none⟩ = some (.int .i64 a0_3) := (blk_cell BK467.out 3).trans rfl; have hcz40_4 : w36.cell? ⟨gb467, 4, none⟩ = some (.int .i64 a0_4) := (blk_cell BK467.out 4).trans rfl; have hcz40_5 : w36.cell? ⟨gb467, 5, none⟩ = some (.slice A0_5 l0_5.length c0_5) := (blk_cell BK467.out 5).trans rfl; have hfz40_0 := blk_frozen BK467.out 0; have hfz40_1 := blk_frozen BK467.out 1; have hfz40_2 := blk_frozen BK467.out 2; have hfz40_3 := blk_frozen BK467.out 3; have hfz40_4 := blk_frozen BK467.out 4; have hfz40_5 := blk_frozen BK467.out 5) | (go_at_call 20; (with_reducible refine (rules_Check.calls a0_0 a0_1 a0_2 a0_3 a0_4 _ _ l0_5 t472 _ ?side1 ?side2 A28.out ?sideK).mono ?_); (case sideK => exact HKT.out.below (by repeat (first | (with_reducible first | exact HB.out | apply below_alloc | apply pw_below_drewN | apply below_drew1 | refine below_set ?_ GE467.out | refine below_set ?_ GE468.out | refine below_set ?_ GE469.out) | exact HB.out))); (case side1 => repeat (first | exact (Kd.C_below HR0_5.out HB.out) | (with_reducible refine Kd.C_alloc ?_ _) | (with_reducible refine Kd.C_drewN ?_ _) | (with_reducible refine Kd.C_drew ?_))); (case side2 => exact HC0_5.out); rintro e w41 ⟨rfl, hb⟩; have n0_ := Aside0.mk (blk_below (g := gb467) (o := .cells #[.int .i64 a0_0, .int .i64 a0_1, .string a0_2, .int .i64 a0_3, .int .i64 a0_4, .slice A0_5 l0_5.length c0_5] 24 (0, 0)) (by (with_reducible repeat (first | refine blk_drewN ?_ _ | refine blk_drew ?_ | refine blk_alloc ?_ _)); exact BK467.out) hb); have n1_ := Aside0.mk (blk_below (g := gb468) (o := .cells #[.slice A1_0 l1_0.length c1_0, .int .i64 a1_1, .int .i64 a1_2, .int .i64 a1_3] 29 (0, 0)) (by (with_reducible repeat (first | refine blk_drewN ?_ _ | refine blk_drew ?_ | refine blk_alloc ?_ _)); exact BK468.out) hb); have n2_ := Aside0.mk (blk_below (g := gb469) (o := .cells #[.slice A2_0 l2_0.length c2_0, .int .i64 a2_1, .int .i64 a2_2, .int .i64 a2_3] 29 (0, 0)) (by (with_reducible repeat (first | refine blk_drewN ?_ _ | refine blk_drew ?_ | refine blk_alloc ?_ _)); exact BK469.out) hb); have n3_ := Aside0.mk (below_step (by repeat (first | (with_reducible first | exact HB.out | apply below_alloc | apply pw_below_drewN | apply below_drew1 | refine below_set ?_ GE467.out | refine below_set ?_ GE468.out | refine below_set ?_ GE469.out) | exact HB.out)) hb); clear BK467; clear BK468; clear BK469; clear HB; have BK467 := n0_; have BK468 := n1_; have BK469 := n2_; have HB := n3_; clear n0_ n1_ n2_ n3_; (try clear hb); (try clear hb2); (try clear hk); (try clear hi); have hcz42_0 : w41.cell? ⟨gb468, 0, none⟩ = some (.slice A1_0 l1_0.length c1_0) := (blk_cell BK468.out 0).trans rfl; have hcz42_1 : w41.cell? ⟨gb468, 1, none⟩ = some (.int .i64 a1_1) := (blk_cell BK468.out 1).trans rfl; have hcz42_2 : w41.cell? ⟨gb468, 2, none⟩ = some (.int .i64 a1_2) := (blk_cell BK468.out 2).trans rfl; have hcz42_3 : w41.cell? ⟨gb468, 3, none⟩ = some (.int .i64 a1_3) := (blk_cell BK468.out 3).trans rfl; have hfz42_0 := blk_frozen BK468.out 0; have hfz42_1 := blk_frozen BK468.out 1; have hfz42_2 := blk_frozen BK468.out 2; have hfz42_3 := blk_frozen BK468.out 3) | (go_at_call 21; (with_reducible refine (rules_Fits.calls k _ _ l1_0 a1_1 a1_2 a1_3 t473 _ ?side1 ?side2 A30.out).mono ?_); (case side1 => repeat (first | exact (Kd.C_below HR1_0.out HB.out) | (with_reducible refine Kd.C_alloc ?_ _) | (with_reducible refine Kd.C_drewN ?_ _) | (with_reducible refine Kd.C_drew ?_))); (case side2 => exact HC1_0.out); rintro e w43 ⟨rfl, hb⟩; have n0_ := Aside0.mk (blk_below (g := gb467) (o := .cells #[.int .i64 a0_0, .int .i64 a0_1, .string a0_2, .int .i64 a0_3, .int .i64 a0_4, .slice A0_5 l0_5.length c0_5] 24 (0, 0)) (by (with_reducible repeat (first | refine blk_drewN ?_ _ | refine blk_drew ?_ | refine blk_alloc ?_ _)); exact BK467.out) hb); have n1_ := Aside0.mk (blk_below (g := gb468) (o := .cells #[.slice A1_0 l1_0.length c1_0, .int .i64 a1_1, .int .i64 a1_2, .int .i64 a1_3] 29 (0, 0)) (by (with_reducible repeat (first | refine blk_drewN ?_ _ | refine blk_drew ?_ | refine blk_alloc ?_ _)); exact BK468.out) hb); have n2_ := Aside0.mk (blk_below (g := gb469) (o := .cells #[.slice A2_0 l2_0.length c2_0, .int .i64 a2_1, .int .i64 a2_2, .int .i64 a2_3] 29 (0, 0)) (by (with_reducible repeat (first | refine blk_drewN ?_ _ | refine blk_drew ?_ | refine blk_alloc ?_ _)); exact BK469.out) hb); have n3_ := Aside0.mk (below_step (by repeat (first | (with_reducible first | exact HB.out | apply below_alloc | apply pw_below_drewN | apply below_drew1 | refine below_set ?_ GE467.out | refine below_set ?_ GE468.out | refine below_set ?_ GE469.out) | exact HB.out)) hb); clear BK467; clear BK468; clear BK469; clear HB; have BK467 := n0_; have BK468 := n1_; have BK469 := n2_; have HB := n3_; clear n0_ n1_ n2_ n3_; (try clear hb); (try clear hb2); (try clear hk); (try clear hi); have hcz44_0 : w43.cell? ⟨gb469, 0, none⟩ = some (.slice A2_0 l2_0.length c2_0) := (blk_cell BK469.out 0).trans rfl; have hcz44_1 : w43.cell? ⟨gb469, 1, none⟩ = some (.int .i64 a2_1) := (blk_cell BK469.out 1).trans rfl; have hcz44_2 : w43.cell? ⟨gb469, 2, none⟩ = some (.int .i64 a2_2) := (blk_cell BK469.out 2).trans rfl; have hcz44_3 : w43.cell? ⟨gb469, 3, none⟩ = some (.int .i64 a2_3) := (blk_cell BK469.out 3).trans rfl; have hfz44_0 := blk_frozen BK469.out 0; have hfz44_1 := blk_frozen BK469.out 1; have hfz44_2 := blk_frozen BK469.out 2; have hfz44_3 := blk_frozen BK469.out 3) | (go_at_call 21; (with_reducible refine (rules_Fits.calls k _ _ l2_0 a2_1 a2_2 a2_3 t474 _ ?side1 ?side2 A32.out).mono ?_); (case side1 => repeat (first | exact (Kd.C_below HR2_0.out HB.out) | (with_reducible refine Kd.C_alloc ?_ _) | (with_reducible refine Kd.C_drewN ?_ _) | (with_reducible refine Kd.C_drew ?_))); (case side2 => exact HC2_0.out); rintro e w45 ⟨rfl, hb⟩; have n0_ := Aside0.mk (blk_below (g := gb467) (o := .cells #[.int .i64 a0_0, .int .i64 a0_1, .string a0_2, .int .i64 a0_3, .int .i64 a0_4, .slice A0_5 l0_5.length c0_5] 24 (0, 0)) (by (with_reducible repeat (first | refine blk_drewN ?_ _ | refine blk_drew ?_ | refine blk_alloc ?_ _)); exact BK467.out) hb); have n1_ := Aside0.mk (blk_below (g := gb468) (o := .cells #[.slice A1_0 l1_0.length c1_0, .int .i64 a1_1, .int .i64 a1_2, .int .i64 a1_3] 29 (0, 0)) (by (with_reducible repeat (first | refine blk_drewN ?_ _ | refine blk_drew ?_ | refine blk_alloc ?_ _)); exact BK468.out) hb); have n2_ := Aside0.mk (blk_below (g := gb469) (o := .cells #[.slice A2_0 l2_0.length c2_0, .int .i64 a2_1, .int .i64 a2_2, .int .i64 a2_3] 29 (0, 0)) (by (with_reducible repeat (first | refine blk_drewN ?_ _ | refine blk_drew ?_ | refine blk_alloc ?_ _)); exact BK469.out) hb); have n3_ := Aside0.mk (below_step (by repeat (first | (with_reducible first | exact HB.out | apply below_alloc | apply pw_below_drewN | apply below_drew1 | refine below_set ?_ GE467.out | refine below_set ?_ GE468.out | refine below_set ?_ GE469.out) | exact HB.out)) hb); clear BK467; clear BK468; clear BK469; clear HB; have BK467 := n0_; have BK468 := n1_; have BK469 := n2_; have HB := n3_; clear n0_ n1_ n2_ n3_; (try clear hb); (try clear hb2); (try clear hk); (try clear hi)))
        go_meet
        case rel => exact ⟨_, ((t474 != 0)), (by first | rfl | (simp; done) | (simp [*]; done)), H', ⟨by first | omega | exact Nat.le_refl _⟩, ⟨by (with_reducible repeat (first | refine blk_drewN ?_ _ | refine blk_drew ?_ | refine blk_alloc ?_ _)); exact BK467.out⟩, ⟨by (with_reducible repeat (first | refine blk_drewN ?_ _ | refine blk_drew ?_ | refine blk_alloc ?_ _)); exact BK468.out⟩, ⟨by (with_reducible repeat (first | refine blk_drewN ?_ _ | refine blk_drew ?_ | refine blk_alloc ?_ _)); exact BK469.out⟩, ⟨by repeat (first | (with_reducible first | exact HB.out | apply below_alloc | apply pw_below_drewN | apply below_drew1 | refine below_set ?_ GE467.out | refine below_set ?_ GE468.out | refine below_set ?_ GE469.out) | exact HB.out)⟩⟩
       ·rw [if_neg c31] at H
        have c31b0 : (t473 == 0) = false := beq_eq_false_iff_ne.mpr c31
        have c31b1 : (t473 != 0) = true := bne_iff_ne.mpr c31
        have H' := Aside0.mk H
        clear H
        have hnb46 := NB467_468.out
        have hnc46 := NB468_467.out
        have hnb47 := NB467_469.out
        have hnc47 := NB469_467.out
        have hcz48_0 : w10.cell? ⟨gb467, 0, none⟩ = some (.int .i64 a0_0) := (blk_cell BK467.out 0).trans rfl
        have hcz48_1 : w10.cell? ⟨gb467, 1, none⟩ = some (.int .i64 a0_1) := (blk_cell BK467.out 1).trans rfl
        have hcz48_2 : w10.cell? ⟨gb467, 2, none⟩ = some (.string a0_2) := (blk_cell BK467.out 2).trans rfl
        have hcz48_3 : w10.cell? ⟨gb467, 3, none⟩ = some (.int .i64 a0_3) := (blk_cell BK467.out 3).trans rfl
        have hcz48_4 : w10.cell? ⟨gb467, 4, none⟩ = some (.int .i64 a0_4) := (blk_cell BK467.out 4).trans rfl
        have hcz48_5 : w10.cell? ⟨gb467, 5, none⟩ = some (.slice A0_5 l0_5.length c0_5) := (blk_cell BK467.out 5).trans rfl
        have hfz48_0 := blk_frozen BK467.out 0
        have hfz48_1 := blk_frozen BK467.out 1
        have hfz48_2 := blk_frozen BK467.out 2
        have hfz48_3 := blk_frozen BK467.out 3
        have hfz48_4 := blk_frozen BK467.out 4
        have hfz48_5 := blk_frozen BK467.out 5
        go_wp2_with (first | ((with_reducible refine gate_callee (f := 11) rfl ?_); refine goesL_ (some 12) rfl rfl Tryd.func11 (by kernel_rfl) rfl #[.agg #[.int .i64 a0_0, .int .i64 a0_1, .string a0_2, .int .i64 a0_3, .int .i64 a0_4, .slice A0_5 l0_5.length c0_5]] rfl (by (try simp only [List.map_toArray, List.map_cons, List.map_nil]); first | done | rfl | (simp only [List.length_drop, List.length_take]; rfl)) ?_; (with_reducible refine (sizarref12_Few.calls k a0_0 a0_1 a0_2 a0_3 a0_4 _ _ l0_5 true _ ?side1 ?side2 A11.out).mono ?_); (case side1 => repeat (first | exact (Kd.C_below HR0_5.out HB.out) | (with_reducible refine Kd.C_alloc ?_ _) | (with_reducible refine Kd.C_drewN ?_ _) | (with_reducible refine Kd.C_drew ?_))); (case side2 => exact HC0_5.out); rintro e w49 ⟨rfl, hb⟩; refine ⟨_, rfl, ?_⟩; have n0_ := Aside0.mk (blk_below (g := gb467) (o := .cells #[.int .i64 a0_0, .int .i64 a0_1, .string a0_2, .int .i64 a0_3, .int .i64 a0_4, .slice A0_5 l0_5.length c0_5] 24 (0, 0)) (by (with_reducible repeat (first | refine blk_drewN ?_ _ | refine blk_drew ?_ | refine blk_alloc ?_ _)); exact BK467.out) hb); have n1_ := Aside0.mk (blk_below (g := gb468) (o := .cells #[.slice A1_0 l1_0.length c1_0, .int .i64 a1_1, .int .i64 a1_2, .int .i64 a1_3] 29 (0, 0)) (by (with_reducible repeat (first | refine blk_drewN ?_ _ | refine blk_drew ?_ | refine blk_alloc ?_ _)); exact BK468.out) hb); have n2_ := Aside0.mk (blk_below (g := gb469) (o := .cells #[.slice A2_0 l2_0.length c2_0, .int .i64 a2_1, .int .i64 a2_2, .int .i64 a2_3] 29 (0, 0)) (by (with_reducible repeat (first | refine blk_drewN ?_ _ | refine blk_drew ?_ | refine blk_alloc ?_ _)); exact BK469.out) hb); have n3_ := Aside0.mk (below_step (by repeat (first | (with_reducible first | exact HB.out | apply below_alloc | apply pw_below_drewN | apply below_drew1 | refine below_set ?_ GE467.out | refine below_set ?_ GE468.out | refine below_set ?_ GE469.out) | exact HB.out)) hb); clear BK467; clear BK468; clear BK469; clear HB; have BK467 := n0_; have BK468 := n1_; have BK469 := n2_; have HB := n3_; clear n0_ n1_ n2_ n3_; (try clear hb); (try clear hb2); (try clear hk); (try clear hi); have hnb50 := NB468_469.out; have hnc50 := NB469_468.out; have hcz51_0 : w49.cell? ⟨gb468, 0, none⟩ = some (.slice A1_0 l1_0.length c1_0) := (blk_cell BK468.out 0).trans rfl; have hcz51_1 : w49.cell? ⟨gb468, 1, none⟩ = some (.int .i64 a1_1) := (blk_cell BK468.out 1).trans rfl; have hcz51_2 : w49.cell? ⟨gb468, 2, none⟩ = some (.int .i64 a1_2) := (blk_cell BK468.out 2).trans rfl; have hcz51_3 : w49.cell? ⟨gb468, 3, none⟩ = some (.int .i64 a1_3) := (blk_cell BK468.out 3).trans rfl; have hfz51_0 := blk_frozen BK468.out 0; have hfz51_1 := blk_frozen BK468.out 1; have hfz51_2 := blk_frozen BK468.out 2; have hfz51_3 := blk_frozen BK468.out 3; have hcz52_0 : w49.cell? ⟨gb469, 0, none⟩ = some (.slice A2_0 l2_0.length c2_0) := (blk_cell BK469.out 0).trans rfl; have hcz52_1 : w49.cell? ⟨gb469, 1, none⟩ = some (.int .i64 a2_1) := (blk_cell BK469.out 1).trans rfl; have hcz52_2 : w49.cell? ⟨gb469, 2, none⟩ = some (.int .i64 a2_2) := (blk_cell BK469.out 2).trans rfl; have hcz52_3 : w49.cell? ⟨gb469, 3, none⟩ = some (.int .i64 a2_3) := (blk_cell BK469.out 3).trans rfl; have hfz52_0 := blk_frozen BK469.out 0; have hfz52_1 := blk_frozen BK469.out 1; have hfz52_2 := blk_frozen BK469.out 2; have hfz52_3 := blk_frozen BK469.out 3; have hcz53_0 : w49.cell? ⟨gb467, 0, none⟩ = some (.int .i64 a0_0) := (blk_cell BK467.out 0).trans rfl; have hcz53_1 : w49.cell? ⟨gb467, 1, none⟩ = some (.int .i64 a0_1) := (blk_cell BK467.out 1).trans rfl; have hcz53_2 : w49.cell? ⟨gb467, 2, none⟩ = some (.string a0_2) := (blk_cell BK467.out 2).trans rfl; have hcz53_3 : w49.cell? ⟨gb467, 3, none⟩ = some (.int .i64 a0_3) := (blk_cell BK467.out 3).trans rfl; have hcz53_4 : w49.cell? ⟨gb467, 4, none⟩ = some (.int .i64 a0_4) := (blk_cell BK467.out 4).trans rfl; have hcz53_5 : w49.cell? ⟨gb467, 5, none⟩ = some (.slice A0_5 l0_5.length c0_5) := (blk_cell BK467.out 5).trans rfl; have hfz53_0 := blk_frozen BK467.out 0; have hfz53_1 := blk_frozen BK467.out 1; have hfz53_2 := blk_frozen BK467.out 2; have hfz53_3 := blk_frozen BK467.out 3; have hfz53_4 := blk_frozen BK467.out 4; have hfz53_5 := blk_frozen BK467.out 5) | (go_at_call 20; (with_reducible refine (rules_Check.calls a0_0 a0_1 a0_2 a0_3 a0_4 _ _ l0_5 t472 _ ?side1 ?side2 A28.out ?sideK).mono ?_); (case sideK => exact HKT.out.below (by repeat (first | (with_reducible first | exact HB.out | apply below_alloc | apply pw_below_drewN | apply below_drew1 | refine below_set ?_ GE467.out | refine below_set ?_ GE468.out | refine below_set ?_ GE469.out) | exact HB.out))); (case side1 => repeat (first | exact (Kd.C_below HR0_5.out HB.out) | (with_reducible refine Kd.C_alloc ?_ _) | (with_reducible refine Kd.C_drewN ?_ _) | (with_reducible refine Kd.C_drew ?_))); (case side2 => exact HC0_5.out); rintro e w54 ⟨rfl, hb⟩; have n0_ := Aside0.mk (blk_below (g := gb467) (o := .cells #[.int .i64 a0_0, .int .i64 a0_1, .string a0_2, .int .i64 a0_3, .int .i64 a0_4, .slice A0_5 l0_5.length c0_5] 24 (0, 0)) (by (with_reducible repeat (first | refine blk_drewN ?_ _ | refine blk_drew ?_ | refine blk_alloc ?_ _)); exact BK467.out) hb); have n1_ := Aside0.mk (blk_below (g := gb468) (o := .cells #[.slice A1_0 l1_0.length c1_0, .int .i64 a1_1, .int .i64 a1_2, .int .i64 a1_3] 29 (0, 0)) (by (with_reducible repeat (first | refine blk_drewN ?_ _ | refine blk_drew ?_ | refine blk_alloc ?_ _)); exact BK468.out) hb); have n2_ := Aside0.mk (blk_below (g := gb469) (o := .cells #[.slice A2_0 l2_0.length c2_0, .int .i64 a2_1, .int .i64 a2_2, .int .i64 a2_3] 29 (0, 0)) (by (with_reducible repeat (first | refine blk_drewN ?_ _ | refine blk_drew ?_ | refine blk_alloc ?_ _)); exact BK469.out) hb); have n3_ := Aside0.mk (below_step (by repeat (first | (with_reducible first | exact HB.out | apply below_alloc | apply pw_below_drewN | apply below_drew1 | refine below_set ?_ GE467.out | refine below_set ?_ GE468.out | refine below_set ?_ GE469.out) | exact HB.out)) hb); clear BK467; clear BK468; clear BK469; clear HB; have BK467 := n0_; have BK468 := n1_; have BK469 := n2_; have HB := n3_; clear n0_ n1_ n2_ n3_; (try clear hb); (try clear hb2); (try clear hk); (try clear hi); have hcz55_0 : w54.cell? ⟨gb468, 0, none⟩ = some (.slice A1_0 l1_0.length c1_0) := (blk_cell BK468.out 0).trans rfl; have hcz55_1 : w54.cell? ⟨gb468, 1, none⟩ = some (.int .i64 a1_1) := (blk_cell BK468.out 1).trans rfl; have hcz55_2 : w54.cell? ⟨gb468, 2, none⟩ = some (.int .i64 a1_2) := (blk_cell BK468.out 2).trans rfl; have hcz55_3 : w54.cell? ⟨gb468, 3, none⟩ = some (.int .i64 a1_3) := (blk_cell BK468.out 3).trans rfl; have hfz55_0 := blk_frozen BK468.out 0; have hfz55_1 := blk_frozen BK468.out 1; have hfz55_2 := blk_frozen BK468.out 2; have hfz55_3 := blk_frozen BK468.out 3) | (go_at_call 21; (with_reducible refine (rules_Fits.calls k _ _ l1_0 a1_1 a1_2 a1_3 t473 _ ?side1 ?side2 A30.out).mono ?_); (case side1 => repeat (first | exact (Kd.C_below HR1_0.out HB.out) | (with_reducible refine Kd.C_alloc ?_ _) | (with_reducible refine Kd.C_drewN ?_ _) | (with_reducible refine Kd.C_drew ?_))); (case side2 => exact HC1_0.out); rintro e w56 ⟨rfl, hb⟩; have n0_ := Aside0.mk (blk_below (g := gb467) (o := .cells #[.int .i64 a0_0, .int .i64 a0_1, .string a0_2, .int .i64 a0_3, .int .i64 a0_4, .slice A0_5 l0_5.length c0_5] 24 (0, 0)) (by (with_reducible repeat (first | refine blk_drewN ?_ _ | refine blk_drew ?_ | refine blk_alloc ?_ _)); exact BK467.out) hb); have n1_ := Aside0.mk (blk_below (g := gb468) (o := .cells #[.slice A1_0 l1_0.length c1_0, .int .i64 a1_1, .int .i64 a1_2, .int .i64 a1_3] 29 (0, 0)) (by (with_reducible repeat (first | refine blk_drewN ?_ _ | refine blk_drew ?_ | refine blk_alloc ?_ _)); exact BK468.out) hb); have n2_ := Aside0.mk (blk_below (g := gb469) (o := .cells #[.slice A2_0 l2_0.length c2_0, .int .i64 a2_1, .int .i64 a2_2, .int .i64 a2_3] 29 (0, 0)) (by (with_reducible repeat (first | refine blk_drewN ?_ _ | refine blk_drew ?_ | refine blk_alloc ?_ _)); exact BK469.out) hb); have n3_ := Aside0.mk (below_step (by repeat (first | (with_reducible first | exact HB.out | apply below_alloc | apply pw_below_drewN | apply below_drew1 | refine below_set ?_ GE467.out | refine below_set ?_ GE468.out | refine below_set ?_ GE469.out) | exact HB.out)) hb); clear BK467; clear BK468; clear BK469; clear HB; have BK467 := n0_; have BK468 := n1_; have BK469 := n2_; have HB := n3_; clear n0_ n1_ n2_ n3_; (try clear hb); (try clear hb2); (try clear hk); (try clear hi)))
        go_meet
        case rel => exact ⟨_, (true), (by first | rfl | (simp; done) | (simp [*]; done)), H', ⟨by first | omega | exact Nat.le_refl _⟩, ⟨by (with_reducible repeat (first | refine blk_drewN ?_ _ | refine blk_drew ?_ | refine blk_alloc ?_ _)); exact BK467.out⟩, ⟨by (with_reducible repeat (first | refine blk_drewN ?_ _ | refine blk_drew ?_ | refine blk_alloc ?_ _)); exact BK468.out⟩, ⟨by (with_reducible repeat (first | refine blk_drewN ?_ _ | refine blk_drew ?_ | refine blk_alloc ?_ _)); exact BK469.out⟩, ⟨by repeat (first | (with_reducible first | exact HB.out | apply below_alloc | apply pw_below_drewN | apply below_drew1 | refine below_set ?_ GE467.out | refine below_set ?_ GE468.out | refine below_set ?_ GE469.out) | exact HB.out)⟩⟩
      ·rw [if_neg c29] at H
       have c29b0 : (t472 == 0) = false := beq_eq_false_iff_ne.mpr c29
       have c29b1 : (t472 != 0) = true := bne_iff_ne.mpr c29
       have H' := Aside0.mk H
       clear H
       have hnb57 := NB467_468.out
       have hnc57 := NB468_467.out
       have hnb58 := NB467_469.out
       have hnc58 := NB469_467.out
       have hcz59_0 : w10.cell? ⟨gb467, 0, none⟩ = some (.int .i64 a0_0) := (blk_cell BK467.out 0).trans rfl
       have hcz59_1 : w10.cell? ⟨gb467, 1, none⟩ = some (.int .i64 a0_1) := (blk_cell BK467.out 1).trans rfl
       have hcz59_2 : w10.cell? ⟨gb467, 2, none⟩ = some (.string a0_2) := (blk_cell BK467.out 2).trans rfl
       have hcz59_3 : w10.cell? ⟨gb467, 3, none⟩ = some (.int .i64 a0_3) := (blk_cell BK467.out 3).trans rfl
       have hcz59_4 : w10.cell? ⟨gb467, 4, none⟩ = some (.int .i64 a0_4) := (blk_cell BK467.out 4).trans rfl
       have hcz59_5 : w10.cell? ⟨gb467, 5, none⟩ = some (.slice A0_5 l0_5.length c0_5) := (blk_cell BK467.out 5).trans rfl
       have hfz59_0 := blk_frozen BK467.out 0
       have hfz59_1 := blk_frozen BK467.out 1
       have hfz59_2 := blk_frozen BK467.out 2
       have hfz59_3 := blk_frozen BK467.out 3
       have hfz59_4 := blk_frozen BK467.out 4
       have hfz59_5 := blk_frozen BK467.out 5
       go_wp2_with (first | ((with_reducible refine gate_callee (f := 11) rfl ?_); refine goesL_ (some 12) rfl rfl Tryd.func11 (by kernel_rfl) rfl #[.agg #[.int .i64 a0_0, .int .i64 a0_1, .string a0_2, .int .i64 a0_3, .int .i64 a0_4, .slice A0_5 l0_5.length c0_5]] rfl (by (try simp only [List.map_toArray, List.map_cons, List.map_nil]); first | done | rfl | (simp only [List.length_drop, List.length_take]; rfl)) ?_; (with_reducible refine (sizarref12_Few.calls k a0_0 a0_1 a0_2 a0_3 a0_4 _ _ l0_5 true _ ?side1 ?side2 A11.out).mono ?_); (case side1 => repeat (first | exact (Kd.C_below HR0_5.out HB.out) | (with_reducible refine Kd.C_alloc ?_ _) | (with_reducible refine Kd.C_drewN ?_ _) | (with_reducible refine Kd.C_drew ?_))); (case side2 => exact HC0_5.out); rintro e w60 ⟨rfl, hb⟩; refine ⟨_, rfl, ?_⟩; have n0_ := Aside0.mk (blk_below (g := gb467) (o := .cells #[.int .i64 a0_0, .int .i64 a0_1, .string a0_2, .int .i64 a0_3, .int .i64 a0_4, .slice A0_5 l0_5.length c0_5] 24 (0, 0)) (by (with_reducible repeat (first | refine blk_drewN ?_ _ | refine blk_drew ?_ | refine blk_alloc ?_ _)); exact BK467.out) hb); have n1_ := Aside0.mk (blk_below (g := gb468) (o := .cells #[.slice A1_0 l1_0.length c1_0, .int .i64 a1_1, .int .i64 a1_2, .int .i64 a1_3] 29 (0, 0)) (by (with_reducible repeat (first | refine blk_drewN ?_ _ | refine blk_drew ?_ | refine blk_alloc ?_ _)); exact BK468.out) hb); have n2_ := Aside0.mk (blk_below (g := gb469) (o := .cells #[.slice A2_0 l2_0.length c2_0, .int .i64 a2_1, .int .i64 a2_2, .int .i64 a2_3] 29 (0, 0)) (by (with_reducible repeat (first | refine blk_drewN ?_ _ | refine blk_drew ?_ | refine blk_alloc ?_ _)); exact BK469.out) hb); have n3_ := Aside0.mk (below_step (by repeat (first | (with_reducible first | exact HB.out | apply below_alloc | apply pw_below_drewN | apply below_drew1 | refine below_set ?_ GE467.out | refine below_set ?_ GE468.out | refine below_set ?_ GE469.out) | exact HB.out)) hb); clear BK467; clear BK468; clear BK469; clear HB; have BK467 := n0_; have BK468 := n1_; have BK469 := n2_; have HB := n3_; clear n0_ n1_ n2_ n3_; (try clear hb); (try clear hb2); (try clear hk); (try clear hi); have hnb61 := NB468_469.out; have hnc61 := NB469_468.out; have hcz62_0 : w60.cell? ⟨gb468, 0, none⟩ = some (.slice A1_0 l1_0.length c1_0) := (blk_cell BK468.out 0).trans rfl; have hcz62_1 : w60.cell? ⟨gb468, 1, none⟩ = some (.int .i64 a1_1) := (blk_cell BK468.out 1).trans rfl; have hcz62_2 : w60.cell? ⟨gb468, 2, none⟩ = some (.int .i64 a1_2) := (blk_cell BK468.out 2).trans rfl; have hcz62_3 : w60.cell? ⟨gb468, 3, none⟩ = some (.int .i64 a1_3) := (blk_cell BK468.out 3).trans rfl; have hfz62_0 := blk_frozen BK468.out 0; have hfz62_1 := blk_frozen BK468.out 1; have hfz62_2 := blk_frozen BK468.out 2; have hfz62_3 := blk_frozen BK468.out 3; have hcz63_0 : w60.cell? ⟨gb469, 0, none⟩ = some (.slice A2_0 l2_0.length c2_0) := (blk_cell BK469.out 0).trans rfl; have hcz63_1 : w60.cell? ⟨gb469, 1, none⟩ = some (.int .i64 a2_1) := (blk_cell BK469.out 1).trans rfl; have hcz63_2 : w60.cell? ⟨gb469, 2, none⟩ = some (.int .i64 a2_2) := (blk_cell BK469.out 2).trans rfl; have hcz63_3 : w60.cell? ⟨gb469, 3, none⟩ = some (.int .i64 a2_3) := (blk_cell BK469.out 3).trans rfl; have hfz63_0 := blk_frozen BK469.out 0; have hfz63_1 := blk_frozen BK469.out 1; have hfz63_2 := blk_frozen BK469.out 2; have hfz63_3 := blk_frozen BK469.out 3; have hcz64_0 : w60.cell? ⟨gb467, 0, none⟩ = some (.int .i64 a0_0) := (blk_cell BK467.out 0).trans rfl; have hcz64_1 : w60.cell? ⟨gb467, 1, none⟩ = some (.int .i64 a0_1) := (blk_cell BK467.out 1).trans rfl; have hcz64_2 : w60.cell? ⟨gb467, 2, none⟩ = some (.string a0_2) := (blk_cell BK467.out 2).trans rfl; have hcz64_3 : w60.cell? ⟨gb467, 3, none⟩ = some (.int .i64 a0_3) := (blk_cell BK467.out 3).trans rfl; have hcz64_4 : w60.cell? ⟨gb467, 4, none⟩ = some (.int .i64 a0_4) := (blk_cell BK467.out 4).trans rfl; have hcz64_5 : w60.cell? ⟨gb467, 5, none⟩ = some (.slice A0_5 l0_5.length c0_5) := (blk_cell BK467.out 5).trans rfl; have hfz64_0 := blk_frozen BK467.out 0; have hfz64_1 := blk_frozen BK467.out 1; have hfz64_2 := blk_frozen BK467.out 2; have hfz64_3 := blk_frozen BK467.out 3; have hfz64_4 := blk_frozen BK467.out 4; have hfz64_5 := blk_frozen BK467.out 5) | (go_at_call 20; (with_reducible refine (rules_Check.calls a0_0 a0_1 a0_2 a0_3 a0_4 _ _ l0_5 t472 _ ?side1 ?side2 A28.out ?sideK).mono ?_); (case sideK => exact HKT.out.below (by repeat (first | (with_reducible first | exact HB.out | apply below_alloc | apply pw_below_drewN | apply below_drew1 | refine below_set ?_ GE467.out | refine below_set ?_ GE468.out | refine below_set ?_ GE469.out) | exact HB.out))); (case side1 => repeat (first | exact (Kd.C_below HR0_5.out HB.out) | (with_reducible refine Kd.C_alloc ?_ _) | (with_reducible refine Kd.C_drewN ?_ _) | (with_reducible refine Kd.C_drew ?_))); (case side2 => exact HC0_5.out); rintro e w65 ⟨rfl, hb⟩; have n0_ := Aside0.mk (blk_below (g := gb467) (o := .cells #[.int .i64 a0_0, .int .i64 a0_1, .string a0_2, .int .i64 a0_3, .int .i64 a0_4, .slice A0_5 l0_5.length c0_5] 24 (0, 0)) (by (with_reducible repeat (first | refine blk_drewN ?_ _ | refine blk_drew ?_ | refine blk_alloc ?_ _)); exact BK467.out) hb); have n1_ := Aside0.mk (blk_below (g := gb468) (o := .cells #[.slice A1_0 l1_0.length c1_0, .int .i64 a1_1, .int .i64 a1_2, .int .i64 a1_3] 29 (0, 0)) (by (with_reducible repeat (first | refine blk_drewN ?_ _ | refine blk_drew ?_ | refine blk_alloc ?_ _)); exact BK468.out) hb); have n2_ := Aside0.mk (blk_below (g := gb469) (o := .cells #[.slice A2_0 l2_0.length c2_0, .int .i64 a2_1, .int .i64 a2_2, .int .i64 a2_3] 29 (0, 0)) (by (with_reducible repeat (first | refine blk_drewN ?_ _ | refine blk_drew ?_ | refine blk_alloc ?_ _)); exact BK469.out) hb); have n3_ := Aside0.mk (below_step (by repeat (first | (with_reducible first | exact HB.out | apply below_alloc | apply pw_below_drewN | apply below_drew1 | refine below_set ?_ GE467.out | refine below_set ?_ GE468.out | refine below_set ?_ GE469.out) | exact HB.out)) hb); clear BK467; clear BK468; clear BK469; clear HB; have BK467 := n0_; have BK468 := n1_; have BK469 := n2_; have HB := n3_; clear n0_ n1_ n2_ n3_; (try clear hb); (try clear hb2); (try clear hk); (try clear hi)))
       go_meet
       case rel => exact ⟨_, (true), (by first | rfl | (simp; done) | (simp [*]; done)), H', ⟨by first | omega | exact Nat.le_refl _⟩, ⟨by (with_reducible repeat (first | refine blk_drewN ?_ _ | refine blk_drew ?_ | refine blk_alloc ?_ _)); exact BK467.out⟩, ⟨by (with_reducible repeat (first | refine blk_drewN ?_ _ | refine blk_drew ?_ | refine blk_alloc ?_ _)); exact BK468.out⟩, ⟨by (with_reducible repeat (first | refine blk_drewN ?_ _ | refine blk_drew ?_ | refine blk_alloc ?_ _)); exact BK469.out⟩, ⟨by repeat (first | (with_reducible first | exact HB.out | apply below_alloc | apply pw_below_drewN | apply below_drew1 | refine below_set ?_ GE467.out | refine below_set ?_ GE468.out | refine below_set ?_ GE469.out) | exact HB.out)⟩⟩
   ·replace c12 := Bool.eq_false_iff.mpr c12
    subst c12
    have H1 : (sizarlaw12_RulesAtoms.j0 k true a0_0 a0_1 a0_2 a0_3 a0_4 l0_5 l1_0 a1_1 a1_2 a1_3 l2_0 a2_1 a2_2 a2_3) = some r := by rw [if_neg (show ¬ (false = true) by decide)] at H; exact H
    clear H
    have H := H1
    clear H1
    have H' := Aside0.mk H
    clear H
    have hnb66 := NB467_468.out
    have hnc66 := NB468_467.out
    have hnb67 := NB467_469.out
    have hnc67 := NB469_467.out
    have hcz68_0 : w10.cell? ⟨gb467, 0, none⟩ = some (.int .i64 a0_0) := (blk_cell BK467.out 0).trans rfl
    have hcz68_1 : w10.cell? ⟨gb467, 1, none⟩ = some (.int .i64 a0_1) := (blk_cell BK467.out 1).trans rfl
    have hcz68_2 : w10.cell? ⟨gb467, 2, none⟩ = some (.string a0_2) := (blk_cell BK467.out 2).trans rfl
    have hcz68_3 : w10.cell? ⟨gb467, 3, none⟩ = some (.int .i64 a0_3) := (blk_cell BK467.out 3).trans rfl
    have hcz68_4 : w10.cell? ⟨gb467, 4, none⟩ = some (.int .i64 a0_4) := (blk_cell BK467.out 4).trans rfl
    have hcz68_5 : w10.cell? ⟨gb467, 5, none⟩ = some (.slice A0_5 l0_5.length c0_5) := (blk_cell BK467.out 5).trans rfl
    have hfz68_0 := blk_frozen BK467.out 0
    have hfz68_1 := blk_frozen BK467.out 1
    have hfz68_2 := blk_frozen BK467.out 2
    have hfz68_3 := blk_frozen BK467.out 3
    have hfz68_4 := blk_frozen BK467.out 4
    have hfz68_5 := blk_frozen BK467.out 5
    go_wp2_with (first | ((with_reducible refine gate_callee (f := 11) rfl ?_); refine goesL_ (some 12) rfl rfl Tryd.func11 (by kernel_rfl) rfl #[.agg #[.int .i64 a0_0, .int .i64 a0_1, .string a0_2, .int .i64 a0_3, .int .i64 a0_4, .slice A0_5 l0_5.length c0_5]] rfl (by (try simp only [List.map_toArray, List.map_cons, List.map_nil]); first | done | rfl | (simp only [List.length_drop, List.length_take]; rfl)) ?_; (with_reducible refine (sizarref12_Few.calls k a0_0 a0_1 a0_2 a0_3 a0_4 _ _ l0_5 false _ ?side1 ?side2 A11.out).mono ?_); (case side1 => repeat (first | exact (Kd.C_below HR0_5.out HB.out) | (with_reducible refine Kd.C_alloc ?_ _) | (with_reducible refine Kd.C_drewN ?_ _) | (with_reducible refine Kd.C_drew ?_))); (case side2 => exact HC0_5.out); rintro e w69 ⟨rfl, hb⟩; refine ⟨_, rfl, ?_⟩; have n0_ := Aside0.mk (blk_below (g := gb467) (o := .cells #[.int .i64 a0_0, .int .i64 a0_1, .string a0_2, .int .i64 a0_3, .int .i64 a0_4, .slice A0_5 l0_5.length c0_5] 24 (0, 0)) (by (with_reducible repeat (first | refine blk_drewN ?_ _ | refine blk_drew ?_ | refine blk_alloc ?_ _)); exact BK467.out) hb); have n1_ := Aside0.mk (blk_below (g := gb468) (o := .cells #[.slice A1_0 l1_0.length c1_0, .int .i64 a1_1, .int .i64 a1_2, .int .i64 a1_3] 29 (0, 0)) (by (with_reducible repeat (first | refine blk_drewN ?_ _ | refine blk_drew ?_ | refine blk_alloc ?_ _)); exact BK468.out) hb); have n2_ := Aside0.mk (blk_below (g := gb469) (o := .cells #[.slice A2_0 l2_0.length c2_0, .int .i64 a2_1, .int .i64 a2_2, .int .i64 a2_3] 29 (0, 0)) (by (with_reducible repeat (first | refine blk_drewN ?_ _ | refine blk_drew ?_ | refine blk_alloc ?_ _)); exact BK469.out) hb); have n3_ := Aside0.mk (below_step (by repeat (first | (with_reducible first | exact HB.out | apply below_alloc | apply pw_below_drewN | apply below_drew1 | refine below_set ?_ GE467.out | refine below_set ?_ GE468.out | refine below_set ?_ GE469.out) | exact HB.out)) hb); clear BK467; clear BK468; clear BK469; clear HB; have BK467 := n0_; have BK468 := n1_; have BK469 := n2_; have HB := n3_; clear n0_ n1_ n2_ n3_; (try clear hb); (try clear hb2); (try clear hk); (try clear hi)))
    go_meet
    case rel => exact ⟨_, (true), (by first | rfl | (simp; done) | (simp [*]; done)), H', ⟨by first | omega | exact Nat.le_refl _⟩, ⟨by (with_reducible repeat (first | refine blk_drewN ?_ _ | refine blk_drew ?_ | refine blk_alloc ?_ _)); exact BK467.out⟩, ⟨by (with_reducible repeat (first | refine blk_drewN ?_ _ | refine blk_drew ?_ | refine blk_alloc ?_ _)); exact BK468.out⟩, ⟨by (with_reducible repeat (first | refine blk_drewN ?_ _ | refine blk_drew ?_ | refine blk_alloc ?_ _)); exact BK469.out⟩, ⟨by repeat (first | (with_reducible first | exact HB.out | apply below_alloc | apply pw_below_drewN | apply below_drew1 | refine below_set ?_ GE467.out | refine below_set ?_ GE468.out | refine below_set ?_ GE469.out) | exact HB.out)⟩⟩
  case rest =>
   clear HC6
   try clear c1
   try clear c2
   try clear p2
   try clear c3
   try clear c4
   try clear c5
   try clear c6
   try clear c7
   try clear c10
   try clear c11
   try clear c12
   try clear c13
   try clear c13b0
   try clear c13b1
   try clear c14
   try clear c15
   try clear c18
   try clear c20
   try clear c20b0
   try clear c20b1
   try clear c21
   try clear c22
   try clear c25
   try clear c29
   try clear c29b0
   try clear c29b1
   try clear c31
   try clear c31b0
   try clear c31b1
   try clear c33
   try clear c34
   try clear c37
   try clear c46
   try clear c47
   try clear c50
   try clear c57
   try clear c58
   try clear c61
   try clear c66
   try clear c67
   try clear hcz16_0
   try clear hcz16_1
   try clear hcz16_2
   try clear hcz16_3
   try clear hcz16_4
   try clear hcz16_5
   try clear hcz19_0
   try clear hcz19_1
   try clear hcz19_2
   try clear hcz19_3
   try clear hcz23_0
   try clear hcz23_1
   try clear hcz23_2
   try clear hcz23_3
   try clear hcz23_4
   try clear hcz23_5
   try clear hcz26_0
   try clear hcz26_1
   try clear hcz26_2
   try clear hcz26_3
   try clear hcz27_0
   try clear hcz27_1
   try clear hcz27_2
   try clear hcz27_3
   try clear hcz35_0
   try clear hcz35_1
   try clear hcz35_2
   try clear hcz35_3
   try clear hcz35_4
   try clear hcz35_5
   try clear hcz38_0
   try clear hcz38_1
   try clear hcz38_2
   try clear hcz38_3
   try clear hcz39_0
   try clear hcz39_1
   try clear hcz39_2
   try clear hcz39_3
   try clear hcz40_0
   try clear hcz40_1
   try clear hcz40_2
   try clear hcz40_3
   try clear hcz40_4
   try clear hcz40_5
   try clear hcz42_0
   try clear hcz42_1
   try clear hcz42_2
   try clear hcz42_3
   try clear hcz44_0
   try clear hcz44_1
   try clear hcz44_2
   try clear hcz44_3
   try clear hcz48_0
   try clear hcz48_1
   try clear hcz48_2
   try clear hcz48_3
   try clear hcz48_4
   try clear hcz48_5
   try clear hcz51_0
   try clear hcz51_1
   try clear hcz51_2
   try clear hcz51_3
   try clear hcz52_0
   try clear hcz52_1
   try clear hcz52_2
   try clear hcz52_3
   try clear hcz53_0
   try clear hcz53_1
   try clear hcz53_2
   try clear hcz53_3
   try clear hcz53_4
   try clear hcz53_5
   try clear hcz55_0
   try clear hcz55_1
   try clear hcz55_2
   try clear hcz55_3
   try clear hcz59_0
   try clear hcz59_1
   try clear hcz59_2
   try clear hcz59_3
   try clear hcz59_4
   try clear hcz59_5
   try clear hcz62_0
   try clear hcz62_1
   try clear hcz62_2
   try clear hcz62_3
   try clear hcz63_0
   try clear hcz63_1
   try clear hcz63_2
   try clear hcz63_3
   try clear hcz64_0
   try clear hcz64_1
   try clear hcz64_2
   try clear hcz64_3
   try clear hcz64_4
   try clear hcz64_5
   try clear hcz68_0
   try clear hcz68_1
   try clear hcz68_2
   try clear hcz68_3
   try clear hcz68_4
   try clear hcz68_5
   try clear hfz16_0
   try clear hfz16_1
   try clear hfz16_2
   try clear hfz16_3
   try clear hfz16_4
   try clear hfz16_5
   try clear hfz19_0
   try clear hfz19_1
   try clear hfz19_2
   try clear hfz19_3
   try clear hfz23_0
   try clear hfz23_1
   try clear hfz23_2
   try clear hfz23_3
   try clear hfz23_4
   try clear hfz23_5
   try clear hfz26_0
   try clear hfz26_1
   try clear hfz26_2
   try clear hfz26_3
   try clear hfz27_0
   try clear hfz27_1
   try clear hfz27_2
   try clear hfz27_3
   try clear hfz35_0
   try clear hfz35_1
   try clear hfz35_2
   try clear hfz35_3
   try clear hfz35_4
   try clear hfz35_5
   try clear hfz38_0
   try clear hfz38_1
   try clear hfz38_2
   try clear hfz38_3
   try clear hfz39_0
   try clear hfz39_1
   try clear hfz39_2
   try clear hfz39_3
   try clear hfz40_0
   try clear hfz40_1
   try clear hfz40_2
   try clear hfz40_3
   try clear hfz40_4
   try clear hfz40_5
   try clear hfz42_0
   try clear hfz42_1
   try clear hfz42_2
   try clear hfz42_3
   try clear hfz44_0
   try clear hfz44_1
   try clear hfz44_2
   try clear hfz44_3
   try clear hfz48_0
   try clear hfz48_1
   try clear hfz48_2
   try clear hfz48_3
   try clear hfz48_4
   try clear hfz48_5
   try clear hfz51_0
   try clear hfz51_1
   try clear hfz51_2
   try clear hfz51_3
   try clear hfz52_0
   try clear hfz52_1
   try clear hfz52_2
   try clear hfz52_3
   try clear hfz53_0
   try clear hfz53_1
   try clear hfz53_2
   try clear hfz53_3
   try clear hfz53_4
   try clear hfz53_5
   try clear hfz55_0
   try clear hfz55_1
   try clear hfz55_2
   try clear hfz55_3
   try clear hfz59_0
   try clear hfz59_1
   try clear hfz59_2
   try clear hfz59_3
   try clear hfz59_4
   try clear hfz59_5
   try clear hfz62_0
   try clear hfz62_1
   try clear hfz62_2
   try clear hfz62_3
   try clear hfz63_0
   try clear hfz63_1
   try clear hfz63_2
   try clear hfz63_3
   try clear hfz64_0
   try clear hfz64_1
   try clear hfz64_2
   try clear hfz64_3
   try clear hfz64_4
   try clear hfz64_5
   try clear hfz68_0
   try clear hfz68_1
   try clear hfz68_2
   try clear hfz68_3
   try clear hfz68_4
   try clear hfz68_5
   obtain ⟨kq, x40_5, rfl, HA, HJ5, BK467, BK468, BK469, HB⟩ := hcut
   cases kq with
   | zero => exact absurd HA.out (by simp [sizarlaw12_RulesAtoms.j0])
   | succ kj5 =>
    have H := HA.out
    clear HA
    simp only [sizarlaw12_RulesAtoms.j0] at H
    by_cases c70 : x40_5 = true
    ·subst c70
     have H1 : (some true) = some r := by rw [if_pos rfl] at H; exact H
     clear H
     have H := H1
     clear H1
     obtain rfl := Option.some.inj H
     go_wp2
     go_ret
     exact ⟨by first | rfl | (simp [errW_none, errW_some] <;> rfl) | (simp [*, errW_none, errW_some] <;> rfl), by repeat (first | (with_reducible first | exact HB.out | apply below_alloc | apply pw_below_drewN | apply below_drew1 | refine below_set ?_ GE467.out | refine below_set ?_ GE468.out | refine below_set ?_ GE469.out) | exact HB.out)⟩
    ·replace c70 := Bool.eq_false_iff.mpr c70
     subst c70
     have H1 : ((rules_Atoms.f a0_0 a0_1 a0_2 a0_3 a0_4 l0_5).bind fun t475 => (sizarlaw12_RulesAtoms.l0 kj5 t475 0 a0_0 a0_1 a0_2 a0_3 a0_4 l0_5 l1_0 a1_1 a1_2 a1_3 l2_0 a2_1 a2_2 a2_3)) = some r := by rw [if_neg (show ¬ (false = true) by decide)] at H; exact H
     clear H
     have H := H1
     clear H1
     replace H := Option.bind_eq_some_iff.mp H
     obtain ⟨t475, A710, H⟩ := H
     replace H : (sizarlaw12_RulesAtoms.l0 kj5 t475 0 a0_0 a0_1 a0_2 a0_3 a0_4 l0_5 l1_0 a1_1 a1_2 a1_3 l2_0 a2_1 a2_2 a2_3) = some r := H
     have A71 := Aside0.mk A710
     clear A710
     have H' := Aside0.mk H
     clear H
     have hnb72 := NB467_468.out
     have hnc72 := NB468_467.out
     have hnb73 := NB467_469.out
     have hnc73 := NB469_467.out
     have hcz74_0 : wc.cell? ⟨gb467, 0, none⟩ = some (.int .i64 a0_0) := (blk_cell BK467.out 0).trans rfl
     have hcz74_1 : wc.cell? ⟨gb467, 1, none⟩ = some (.int .i64 a0_1) := (blk_cell BK467.out 1).trans rfl
     have hcz74_2 : wc.cell? ⟨gb467, 2, none⟩ = some (.string a0_2) := (blk_cell BK467.out 2).trans rfl
     have hcz74_3 : wc.cell? ⟨gb467, 3, none⟩ = some (.int .i64 a0_3) := (blk_cell BK467.out 3).trans rfl
     have hcz74_4 : wc.cell? ⟨gb467, 4, none⟩ = some (.int .i64 a0_4) := (blk_cell BK467.out 4).trans rfl
     have hcz74_5 : wc.cell? ⟨gb467, 5, none⟩ = some (.slice A0_5 l0_5.length c0_5) := (blk_cell BK467.out 5).trans rfl
     have hfz74_0 := blk_frozen BK467.out 0
     have hfz74_1 := blk_frozen BK467.out 1
     have hfz74_2 := blk_frozen BK467.out 2
     have hfz74_3 := blk_frozen BK467.out 3
     have hfz74_4 := blk_frozen BK467.out 4
     have hfz74_5 := blk_frozen BK467.out 5
     go_wp2_with (first | ((with_reducible refine gate_callee (f := 15) rfl ?_); refine goesL_ (some 42) rfl rfl Tryd.func15 (by kernel_rfl) rfl #[.agg #[.int .i64 a0_0, .int .i64 a0_1, .string a0_2, .int .i64 a0_3, .int .i64 a0_4, .slice A0_5 l0_5.length c0_5]] rfl (by (try simp only [List.map_toArray, List.map_cons, List.map_nil]); first | done | rfl | (simp only [List.length_drop, List.length_take]; rfl)) ?_; (with_reducible refine (rules_Atoms.calls a0_0 a0_1 a0_2 a0_3 a0_4 _ _ l0_5 t475 _ ?side1 ?side2 A71.out).mono ?_); (case side1 => repeat (first | exact (Kd.C_below HR0_5.out HB.out) | (with_reducible refine Kd.C_alloc ?_ _) | (with_reducible refine Kd.C_drewN ?_ _) | (with_reducible refine Kd.C_drew ?_))); (case side2 => exact HC0_5.out); rintro e w75 ⟨v476, rfl, ho0, hb⟩; refine ⟨_, rfl, ?_⟩; have n0_ := Aside0.mk (Kd.R_lower (Kd.R_newB ho0 (g := gb467) (o := .cells #[.int .i64 a0_0, .int .i64 a0_1, .string a0_2, .int .i64 a0_3, .int .i64 a0_4, .slice A0_5 l0_5.length c0_5] 24 (0, 0)) (by (with_reducible repeat (first | refine blk_drewN ?_ _ | refine blk_drew ?_ | refine blk_alloc ?_ _)); exact BK467.out)) (below_size (by repeat (first | (with_reducible first | exact HB.out | apply below_alloc | apply pw_below_drewN | apply below_drew1 | refine below_set ?_ GE467.out | refine below_set ?_ GE468.out | refine below_set ?_ GE469.out) | exact HB.out)))); have n1_ := Aside0.mk (blk_below (g := gb467) (o := .cells #[.int .i64 a0_0, .int .i64 a0_1, .string a0_2, .int .i64 a0_3, .int .i64 a0_4, .slice A0_5 l0_5.length c0_5] 24 (0, 0)) (by (with_reducible repeat (first | refine blk_drewN ?_ _ | refine blk_drew ?_ | refine blk_alloc ?_ _)); exact BK467.out) hb); have n2_ := Aside0.mk (blk_below (g := gb468) (o := .cells #[.slice A1_0 l1_0.length c1_0, .int .i64 a1_1, .int .i64 a1_2, .int .i64 a1_3] 29 (0, 0)) (by (with_reducible repeat (first | refine blk_drewN ?_ _ | refine blk_drew ?_ | refine blk_alloc ?_ _)); exact BK468.out) hb); have n3_ := Aside0.mk (blk_below (g := gb469) (o := .cells #[.slice A2_0 l2_0.length c2_0, .int .i64 a2_1, .int .i64 a2_2, .int .i64 a2_3] 29 (0, 0)) (by (with_reducible repeat (first | refine blk_drewN ?_ _ | refine blk_drew ?_ | refine blk_alloc ?_ _)); exact BK469.out) hb); have n4_ := Aside0.mk (below_step (by repeat (first | (with_reducible first | exact HB.out | apply below_alloc | apply pw_below_drewN | apply below_drew1 | refine below_set ?_ GE467.out | refine below_set ?_ GE468.out | refine below_set ?_ GE469.out) | exact HB.out)) hb); clear BK467; clear BK468; clear BK469; clear HB; have HO477 := n0_; have BK467 := n1_; have BK468 := n2_; have BK469 := n3_; have HB := n4_; clear n0_ n1_ n2_ n3_ n4_; (try clear hb); (try clear hb2); (try clear hk); (try clear hi); (try clear ho0)))
     go_loopg [8] kj5 (fun kq v8 w' => ∃ (x8_2 : Int), v8 = .int .i64 x8_2 ∧ Aside0 (sizarlaw12_RulesAtoms.l0 kq t475 x8_2 a0_0 a0_1 a0_2 a0_3 a0_4 l0_5 l1_0 a1_1 a1_2 a1_3 l2_0 a2_1 a2_2 a2_3 = some r) ∧ Aside0 (kq ≤ kj5) ∧ Aside0 (Kd.R k24 24 w' w.heap.size (fun k_ => k_ ≠ gb467) v476 t475) ∧ Aside0 (w'.heap[gb467]? = some (.cells #[.int .i64 a0_0, .int .i64 a0_1, .string a0_2, .int .i64 a0_3, .int .i64 a0_4, (.slice A0_5 l0_5.length c0_5)] 24 (0, 0))) ∧ Aside0 (w'.heap[gb468]? = some (.cells #[(.slice A1_0 l1_0.length c1_0), .int .i64 a1_1, .int .i64 a1_2, .int .i64 a1_3] 29 (0, 0))) ∧ Aside0 (w'.heap[gb469]? = some (.cells #[(.slice A2_0 l2_0.length c2_0), .int .i64 a2_1, .int .i64 a2_2, .int .i64 a2_3] 29 (0, 0))) ∧ Aside0 (Below w.heap.size w w'))
     case atStart => exact ⟨(0), (by first | rfl | (simp; done) | (simp [*]; done)), H', ⟨Nat.le_refl _⟩, ⟨by (with_reducible repeat (first | apply Kd.R_alloc | apply Kd.R_drewN | apply Kd.R_drew)); exact Kd.R_mono HO477.out (fun _ hk => hk.2)⟩, ⟨by (with_reducible repeat (first | refine blk_drewN ?_ _ | refine blk_drew ?_ | refine blk_alloc ?_ _)); exact BK467.out⟩, ⟨by (with_reducible repeat (first | refine blk_drewN ?_ _ | refine blk_drew ?_ | refine blk_alloc ?_ _)); exact BK468.out⟩, ⟨by (with_reducible repeat (first | refine blk_drewN ?_ _ | refine blk_drew ?_ | refine blk_alloc ?_ _)); exact BK469.out⟩, ⟨by repeat (first | (with_reducible first | exact HB.out | apply below_alloc | apply pw_below_drewN | apply below_drew1 | refine below_set ?_ GE467.out | refine below_set ?_ GE468.out | refine below_set ?_ GE469.out) | exact HB.out)⟩⟩
     case round =>
      clear H'
      try clear c1
      try clear c2
      try clear p2
      try clear c3
      try clear c4
      try clear c5
      try clear c6
      try clear c7
      try clear c10
      try clear c11
      try clear c12
      try clear c13
      try clear c13b0
      try clear c13b1
      try clear c14
      try clear c15
      try clear c18
      try clear c20
      try clear c20b0
      try clear c20b1
      try clear c21
      try clear c22
      try clear c25
      try clear c29
      try clear c29b0
      try clear c29b1
      try clear c31
      try clear c31b0
      try clear c31b1
      try clear c33
      try clear c34
      try clear c37
      try clear c46
      try clear c47
      try clear c50
      try clear c57
      try clear c58
      try clear c61
      try clear c66
      try clear c67
      try clear c70
      try clear c72
      try clear c73
      try clear hcz16_0
      try clear hcz16_1
      try clear hcz16_2
      try clear hcz16_3
      try clear hcz16_4
      try clear hcz16_5
      try clear hcz19_0
      try clear hcz19_1
      try clear hcz19_2
      try clear hcz19_3
      try clear hcz23_0
      try clear hcz23_1
      try clear hcz23_2
      try clear hcz23_3
      try clear hcz23_4
      try clear hcz23_5
      try clear hcz26_0
      try clear hcz26_1
      try clear hcz26_2
      try clear hcz26_3
      try clear hcz27_0
      try clear hcz27_1
      try clear hcz27_2
      try clear hcz27_3
      try clear hcz35_0
      try clear hcz35_1
      try clear hcz35_2
      try clear hcz35_3
      try clear hcz35_4
      try clear hcz35_5
      try clear hcz38_0
      try clear hcz38_1
      try clear hcz38_2
      try clear hcz38_3
      try clear hcz39_0
      try clear hcz39_1
      try clear hcz39_2
      try clear hcz39_3
      try clear hcz40_0
      try clear hcz40_1
      try clear hcz40_2
      try clear hcz40_3
      try clear hcz40_4
      try clear hcz40_5
      try clear hcz42_0
      try clear hcz42_1
      try clear hcz42_2
      try clear hcz42_3
      try clear hcz44_0
      try clear hcz44_1
      try clear hcz44_2
      try clear hcz44_3
      try clear hcz48_0
      try clear hcz48_1
      try clear hcz48_2
      try clear hcz48_3
      try clear hcz48_4
      try clear hcz48_5
      try clear hcz51_0
      try clear hcz51_1
      try clear hcz51_2
      try clear hcz51_3
      try clear hcz52_0
      try clear hcz52_1
      try clear hcz52_2
      try clear hcz52_3
      try clear hcz53_0
      try clear hcz53_1
      try clear hcz53_2
      try clear hcz53_3
      try clear hcz53_4
      try clear hcz53_5
      try clear hcz55_0
      try clear hcz55_1
      try clear hcz55_2
      try clear hcz55_3
      try clear hcz59_0
      try clear hcz59_1
      try clear hcz59_2
      try clear hcz59_3
      try clear hcz59_4
      try clear hcz59_5
      try clear hcz62_0
      try clear hcz62_1
      try clear hcz62_2
      try clear hcz62_3
      try clear hcz63_0
      try clear hcz63_1
      try clear hcz63_2
      try clear hcz63_3
      try clear hcz64_0
      try clear hcz64_1
      try clear hcz64_2
      try clear hcz64_3
      try clear hcz64_4
      try clear hcz64_5
      try clear hcz68_0
      try clear hcz68_1
      try clear hcz68_2
      try clear hcz68_3
      try clear hcz68_4
      try clear hcz68_5
      try clear hcz74_0
      try clear hcz74_1
      try clear hcz74_2
      try clear hcz74_3
      try clear hcz74_4
      try clear hcz74_5
      try clear hfz16_0
      try clear hfz16_1
      try clear hfz16_2
      try clear hfz16_3
      try clear hfz16_4
      try clear hfz16_5
      try clear hfz19_0
      try clear hfz19_1
      try clear hfz19_2
      try clear hfz19_3
      try clear hfz23_0
      try clear hfz23_1
      try clear hfz23_2
      try clear hfz23_3
      try clear hfz23_4
      try clear hfz23_5
      try clear hfz26_0
      try clear hfz26_1
      try clear hfz26_2
      try clear hfz26_3
      try clear hfz27_0
      try clear hfz27_1
      try clear hfz27_2
      try clear hfz27_3
      try clear hfz35_0
      try clear hfz35_1
      try clear hfz35_2
      try clear hfz35_3
      try clear hfz35_4
      try clear hfz35_5
      try clear hfz38_0
      try clear hfz38_1
      try clear hfz38_2
      try clear hfz38_3
      try clear hfz39_0
      try clear hfz39_1
      try clear hfz39_2
      try clear hfz39_3
      try clear hfz40_0
      try clear hfz40_1
      try clear hfz40_2
      try clear hfz40_3
      try clear hfz40_4
      try clear hfz40_5
      try clear hfz42_0
      try clear hfz42_1
      try clear hfz42_2
      try clear hfz42_3
      try clear hfz44_0
      try clear hfz44_1
      try clear hfz44_2
      try clear hfz44_3
      try clear hfz48_0
      try clear hfz48_1
      try clear hfz48_2
      try clear hfz48_3
      try clear hfz48_4
      try clear hfz48_5
      try clear hfz51_0
      try clear hfz51_1
      try clear hfz51_2
      try clear hfz51_3
      try clear hfz52_0
      try clear hfz52_1
      try clear hfz52_2
      try clear hfz52_3
      try clear hfz53_0
      try clear hfz53_1
      try clear hfz53_2
      try clear hfz53_3
      try clear hfz53_4
      try clear hfz53_5
      try clear hfz55_0
      try clear hfz55_1
      try clear hfz55_2
      try clear hfz55_3
      try clear hfz59_0
      try clear hfz59_1
      try clear hfz59_2
      try clear hfz59_3
      try clear hfz59_4
      try clear hfz59_5
      try clear hfz62_0
      try clear hfz62_1
      try clear hfz62_2
      try clear hfz62_3
      try clear hfz63_0
      try clear hfz63_1
      try clear hfz63_2
      try clear hfz63_3
      try clear hfz64_0
      try clear hfz64_1
      try clear hfz64_2
      try clear hfz64_3
      try clear hfz64_4
      try clear hfz64_5
      try clear hfz68_0
      try clear hfz68_1
      try clear hfz68_2
      try clear hfz68_3
      try clear hfz68_4
      try clear hfz68_5
      try clear hfz74_0
      try clear hfz74_1
      try clear hfz74_2
      try clear hfz74_3
      try clear hfz74_4
      try clear hfz74_5
      try clear p2
      obtain ⟨x8_2, rfl, HA, HK2, HO_7, BK467, BK468, BK469, HB⟩ := hrel
      cases gk with
      | zero => exact absurd HA.out (by simp [sizarlaw12_RulesAtoms.l0])
      | succ k2 =>
       have H := HA.out
       clear HA
       simp only [sizarlaw12_RulesAtoms.l0] at H
       by_cases c76 : x8_2 < (t475.length : Int)
       ·rw [if_pos c76] at H
        have c76b0 : decide (x8_2 < (t475.length : Int)) = true := decide_eq_true c76
        clear c76
        by_cases c77 : 0 ≤ x8_2
        ·rw [if_pos c77] at H
         have c77b0 : decide (0 ≤ x8_2) = true := decide_eq_true c77
         clear c77
         replace H := Option.bind_eq_some_iff.mp H
         obtain ⟨t481, A780, H⟩ := H
         replace H : (if t481 = 0 then ((sizarlaw12_holds.f k2 ((rd_T24 t475 x8_2).f0) ((rd_T24 t475 x8_2).f1) ((rd_T24 t475 x8_2).f2) ((rd_T24 t475 x8_2).f3) ((rd_T24 t475 x8_2).f4) ((rd_T24 t475 x8_2).f5) l1_0 a1_1 a1_2 a1_3).bind fun t483 => ((sizarlaw12_holds.f k2 ((rd_T24 t475 x8_2).f0) ((rd_T24 t475 x8_2).f1) ((rd_T24 t475 x8_2).f2) ((rd_T24 t475 x8_2).f3) ((rd_T24 t475 x8_2).f4) ((rd_T24 t475 x8_2).f5) l2_0 a2_1 a2_2 a2_3).bind fun t485 => (if (t483 != t485) = true then (some true) else (sizarlaw12_RulesAtoms.l0 k2 t475 (wrap64 (x8_2 + 1)) a0_0 a0_1 a0_2 a0_3 a0_4 l0_5 l1_0 a1_1 a1_2 a1_3 l2_0 a2_1 a2_2 a2_3)))) else (some false)) = some r := H
         have A78 := Aside0.mk A780
         clear A780
         by_cases c79 : t481 = 0
         ·rw [if_pos c79] at H
          have c79b0 : (t481 == 0) = true := beq_iff_eq.mpr c79
          have c79b1 : (t481 != 0) = false := bne_eq_false_iff_eq.mpr c79
          clear c79
          replace H := Option.bind_eq_some_iff.mp H
          obtain ⟨t483, A800, H⟩ := H
          replace H : ((sizarlaw12_holds.f k2 ((rd_T24 t475 x8_2).f0) ((rd_T24 t475 x8_2).f1) ((rd_T24 t475 x8_2).f2) ((rd_T24 t475 x8_2).f3) ((rd_T24 t475 x8_2).f4) ((rd_T24 t475 x8_2).f5) l2_0 a2_1 a2_2 a2_3).bind fun t485 => (if (t483 != t485) = true then (some true) else (sizarlaw12_RulesAtoms.l0 k2 t475 (wrap64 (x8_2 + 1)) a0_0 a0_1 a0_2 a0_3 a0_4 l0_5 l1_0 a1_1 a1_2 a1_3 l2_0 a2_1 a2_2 a2_3))) = some r := H
          have A80 := Aside0.mk A800
          clear A800
          replace H := Option.bind_eq_some_iff.mp H
          obtain ⟨t485, A810, H⟩ := H
          replace H : (if (t483 != t485) = true then (some true) else (sizarlaw12_RulesAtoms.l0 k2 t475 (wrap64 (x8_2 + 1)) a0_0 a0_1 a0_2 a0_3 a0_4 l0_5 l1_0 a1_1 a1_2 a1_3 l2_0 a2_1 a2_2 a2_3)) = some r := H
          have A81 := Aside0.mk A810
          clear A810
          by_cases c82 : (t483 != t485) = true
          ·rw [if_pos c82] at H
           have c82b0 : (t483 != t485) = true := c82
           (try (have c82b1 : decide (t483 = t485) = false := by simpa using c82))
           (try (have c82b2 : (t483 == t485) = false := by simpa using c82))
           (try (have c82b3 : ¬ (t483 = t485) := by simpa using c82))
           clear c82
           obtain rfl := Option.some.inj H
           obtain ⟨Ao83, co83, eo83⟩ := Kd.R_slice HO_7.out
           subst eo83
           have p480 : 0 ≤ (x8_2 : Int) := of_decide_eq_true (by first | (with_reducible assumption) | assumption)
           have q480 : x8_2 < (t475.length : Int) := of_decide_eq_true (by first | (with_reducible assumption) | assumption)
           obtain ⟨ad480, A480_5, c480_5, e480, hx480_0, hx480_1, hx480_2, hx480_3, hx480_4, hx480_5, hl480_5, hi480_5⟩ := at_T24 (Kd.R_reads' HO_7.out).2.2 x8_2 p480 q480
           cases e480
           obtain ⟨ce480, hce480, hMe480, hcc480⟩ := Kd.R_get HO_7.out z24 x8_2 p480 (by first | exact q480 | exact of_decide_eq_true (by first | (with_reducible assumption) | assumption) | (have e_ := (Kd.R_reads' HO_7.out).1; omega))
           obtain ⟨ve480_5, rfl, ge480_5⟩ := k24_openM hMe480
           have hv480_5 := hcc480 5 _ rfl
           rw [add_field _ _ 5 (by omega)] at hv480_5
           replace hv480_5 := Option.some.inj (hv480_5.symm.trans hx480_5)
           rw [hv480_5] at ge480_5
           have HL480_5 := Aside0.mk (show Kd.R k24 24 _ _ _ _ ((rd_T24 t475 x8_2).f5) from ge480_5)
           clear hv480_5 ge480_5
           clear hcc480 hce480
           have HR480_5 := Aside0.mk hi480_5
           have HC480_5 := Aside0.mk hl480_5
           clear hi480_5 hl480_5
           replace p480 := eq_true p480
           replace q480 := eq_true q480
           try go_wp2_with (first | ((with_reducible refine gate_callee (f := 20) rfl ?_); refine goesL_ (some 53) rfl rfl Tryd.func20 (by kernel_rfl) rfl #[.agg #[.int .i64 ((rd_T24 t475 x8_2).f0), .int .i64 ((rd_T24 t475 x8_2).f1), .string ((rd_T24 t475 x8_2).f2), .int .i64 ((rd_T24 t475 x8_2).f3), .int .i64 ((rd_T24 t475 x8_2).f4), .slice A480_5 ((rd_T24 t475 x8_2).f5).length c480_5]] rfl (by (try simp only [List.map_toArray, List.map_cons, List.map_nil]); first | done | rfl | (simp only [List.length_drop, List.length_take]; rfl)) ?_; (with_reducible refine (rules_Check.calls ((rd_T24 t475 x8_2).f0) ((rd_T24 t475 x8_2).f1) ((rd_T24 t475 x8_2).f2) ((rd_T24 t475 x8_2).f3) ((rd_T24 t475 x8_2).f4) _ _ ((rd_T24 t475 x8_2).f5) t481 _ ?side1 ?side2 A78.out ?sideK).mono ?_); (case sideK => exact HKT.out.below (by repeat (first | (with_reducible first | exact HB.out | apply below_alloc | apply pw_below_drewN | apply below_drew1 | refine below_set ?_ GE467.out | refine below_set ?_ GE468.out | refine below_set ?_ GE469.out) | exact HB.out))); (case side1 => repeat (first | exact (by repeat (first | (with_reducible exact HR480_5.out) | (with_reducible refine Kd.C_alloc ?_ _) | (with_reducible refine Kd.C_drewN ?_ _) | (with_reducible refine Kd.C_drew ?_) | exact HR480_5.out)) | (with_reducible refine Kd.C_alloc ?_ _) | (with_reducible refine Kd.C_drewN ?_ _) | (with_reducible refine Kd.C_drew ?_))); (case side2 => exact HC480_5.out); rintro e w84 ⟨rfl, hb⟩; refine ⟨_, rfl, ?_⟩; have n0_ := Aside0.mk (Kd.R_below (by (with_reducible repeat (first | apply Kd.R_alloc | apply Kd.R_drewN | apply Kd.R_drew)); exact HO_7.out) hb); have n1_ := Aside0.mk (Kd.R_below (by (with_reducible repeat (first | apply Kd.R_alloc | apply Kd.R_drewN | apply Kd.R_drew)); exact HL480_5.out) hb); have n2_ := Aside0.mk (blk_below (g := gb467) (o := .cells #[.int .i64 a0_0, .int .i64 a0_1, .string a0_2, .int .i64 a0_3, .int .i64 a0_4, .slice A0_5 l0_5.length c0_5] 24 (0, 0)) (by (with_reducible repeat (first | refine blk_drewN ?_ _ | refine blk_drew ?_ | refine blk_alloc ?_ _)); exact BK467.out) hb); have n3_ := Aside0.mk (blk_below (g := gb468) (o := .cells #[.slice A1_0 l1_0.length c1_0, .int .i64 a1_1, .int .i64 a1_2, .int .i64 a1_3] 29 (0, 0)) (by (with_reducible repeat (first | refine blk_drewN ?_ _ | refine blk_drew ?_ | refine blk_alloc ?_ _)); exact BK468.out) hb); have n4_ := Aside0.mk (blk_below (g := gb469) (o := .cells #[.slice A2_0 l2_0.length c2_0, .int .i64 a2_1, .int .i64 a2_2, .int .i64 a2_3] 29 (0, 0)) (by (with_reducible repeat (first | refine blk_drewN ?_ _ | refine blk_drew ?_ | refine blk_alloc ?_ _)); exact BK469.out) hb); have n5_ := Aside0.mk (Kd.C_below (by repeat (first | (with_reducible exact HR480_5.out) | (with_reducible refine Kd.C_alloc ?_ _) | (with_reducible refine Kd.C_drewN ?_ _) | (with_reducible refine Kd.C_drew ?_) | exact HR480_5.out)) hb); have n6_ := Aside0.mk (below_step (by repeat (first | (with_reducible first | exact HB.out | apply below_alloc | apply pw_below_drewN | apply below_drew1 | refine below_set ?_ GE467.out | refine below_set ?_ GE468.out | refine below_set ?_ GE469.out) | exact HB.out)) hb); clear HO_7; clear HL480_5; clear BK467; clear BK468; clear BK469; clear HR480_5; clear HB; have HO_7 := n0_; have HL480_5 := n1_; have BK467 := n2_; have BK468 := n3_; have BK469 := n4_; have HR480_5 := n5_; have HB := n6_; clear n0_ n1_ n2_ n3_ n4_ n5_ n6_; (try clear hb); (try clear hb2); (try clear hk); (try clear hi)))
           have n0_ := Aside0.mk (Kd.R_drew HO_7.out)
           have n1_ := Aside0.mk (Kd.R_drew HL480_5.out)
           have n2_ := Aside0.mk (blk_drew BK467.out)
           have n3_ := Aside0.mk (blk_drew BK468.out)
           have n4_ := Aside0.mk (blk_drew BK469.out)
           have n5_ := Aside0.mk (Kd.C_drew HR480_5.out)
           have n6_ := Aside0.mk (below_drew1 HB.out)
           clear HO_7
           clear HL480_5
           clear BK467
           clear BK468
           clear BK469
           clear HR480_5
           clear HB
           have HO_7 := n0_
           have HL480_5 := n1_
           have BK467 := n2_
           have BK468 := n3_
           have BK469 := n4_
           have HR480_5 := n5_
           have HB := n6_
           clear n0_ n1_ n2_ n3_ n4_ n5_ n6_
           have p482 : 0 ≤ (x8_2 : Int) := of_decide_eq_true (by first | (with_reducible assumption) | assumption)
           have q482 : x8_2 < (t475.length : Int) := of_decide_eq_true (by first | (with_reducible assumption) | assumption)
           obtain ⟨ad482, A482_5, c482_5, e482, hx482_0, hx482_1, hx482_2, hx482_3, hx482_4, hx482_5, hl482_5, hi482_5⟩ := at_T24 (Kd.R_reads' HO_7.out).2.2 x8_2 p482 q482
           obtain rfl : ad480 = ad482 := (by injection e482)
           obtain ⟨ce482, hce482, hMe482, hcc482⟩ := Kd.R_get HO_7.out z24 x8_2 p482 (by first | exact q482 | exact of_decide_eq_true (by first | (with_reducible assumption) | assumption) | (have e_ := (Kd.R_reads' HO_7.out).1; omega))
           obtain ⟨ve482_5, rfl, ge482_5⟩ := k24_openM hMe482
           have hv482_5 := hcc482 5 _ rfl
           rw [add_field _ _ 5 (by omega)] at hv482_5
           replace hv482_5 := Option.some.inj (hv482_5.symm.trans hx482_5)
           rw [hv482_5] at ge482_5
           have HL482_5 := Aside0.mk (show Kd.R k24 24 _ _ _ _ ((rd_T24 t475 x8_2).f5) from ge482_5)
           clear hv482_5 ge482_5
           clear hcc482 hce482
           have HR482_5 := Aside0.mk hi482_5
           have HC482_5 := Aside0.mk hl482_5
           clear hi482_5 hl482_5
           replace p482 := eq_true p482
           replace q482 := eq_true q482
           have p484 : 0 ≤ (x8_2 : Int) := of_decide_eq_true (by first | (with_reducible assumption) | assumption)
           have q484 : x8_2 < (t475.length : Int) := of_decide_eq_true (by first | (with_reducible assumption) | assumption)
           obtain ⟨ad484, A484_5, c484_5, e484, hx484_0, hx484_1, hx484_2, hx484_3, hx484_4, hx484_5, hl484_5, hi484_5⟩ := at_T24 (Kd.R_reads' HO_7.out).2.2 x8_2 p484 q484
           obtain rfl : ad480 = ad484 := (by injection e484)
           obtain ⟨ce484, hce484, hMe484, hcc484⟩ := Kd.R_get HO_7.out z24 x8_2 p484 (by first | exact q484 | exact of_decide_eq_true (by first | (with_reducible assumption) | assumption) | (have e_ := (Kd.R_reads' HO_7.out).1; omega))
           obtain ⟨ve484_5, rfl, ge484_5⟩ := k24_openM hMe484
           have hv484_5 := hcc484 5 _ rfl
           rw [add_field _ _ 5 (by omega)] at hv484_5
           replace hv484_5 := Option.some.inj (hv484_5.symm.trans hx484_5)
           rw [hv484_5] at ge484_5
           have HL484_5 := Aside0.mk (show Kd.R k24 24 _ _ _ _ ((rd_T24 t475 x8_2).f5) from ge484_5)
           clear hv484_5 ge484_5
           clear hcc484 hce484
           have HR484_5 := Aside0.mk hi484_5
           have HC484_5 := Aside0.mk hl484_5
           clear hi484_5 hl484_5
           replace p484 := eq_true p484
           replace q484 := eq_true q484
           have ea_ := Option.some.inj (hx482_5.symm.trans hx484_5)
           injection ea_ with ea_ en_ ec_
           subst ea_
           subst ec_
           clear en_
           refine start_ (n := 13) (S := fun w' => w'.cell? ⟨gb468, 0, none⟩ = some (.slice A1_0 l1_0.length c1_0) ∧ w'.cell? ⟨gb468, 1, none⟩ = some (.int .i64 a1_1) ∧ w'.cell? ⟨gb468, 2, none⟩ = some (.int .i64 a1_2) ∧ w'.cell? ⟨gb468, 3, none⟩ = some (.int .i64 a1_3) ∧ w'.cell? ⟨gb469, 0, none⟩ = some (.slice A2_0 l2_0.length c2_0) ∧ w'.cell? ⟨gb469, 1, none⟩ = some (.int .i64 a2_1) ∧ w'.cell? ⟨gb469, 2, none⟩ = some (.int .i64 a2_2) ∧ w'.cell? ⟨gb469, 3, none⟩ = some (.int .i64 a2_3) ∧ w'.cell? (ad480.add ((x8_2).toNat * 6)) = some (.int .i64 ((rd_T24 t475 x8_2).f0)) ∧ w'.cell? ⟨(ad480.add ((x8_2).toNat * 6)).block, (ad480.add ((x8_2).toNat * 6)).off + 1, none⟩ = some (.int .i64 ((rd_T24 t475 x8_2).f1)) ∧ w'.cell? ⟨(ad480.add ((x8_2).toNat * 6)).block, (ad480.add ((x8_2).toNat * 6)).off + 2, none⟩ = some (.string ((rd_T24 t475 x8_2).f2)) ∧ w'.cell? ⟨(ad480.add ((x8_2).toNat * 6)).block, (ad480.add ((x8_2).toNat * 6)).off + 3, none⟩ = some (.int .i64 ((rd_T24 t475 x8_2).f3)) ∧ w'.cell? ⟨(ad480.add ((x8_2).toNat * 6)).block, (ad480.add ((x8_2).toNat * 6)).off + 4, none⟩ = some (.int .i64 ((rd_T24 t475 x8_2).f4)) ∧ w'.cell? ⟨(ad480.add ((x8_2).toNat * 6)).block, (ad480.add ((x8_2).toNat * 6)).off + 5, none⟩ = some (.slice A482_5 ((rd_T24 t475 x8_2).f5).length c482_5) ∧ w'.cell? (ad480.add ((x8_2).toNat * 6)) = some (.int .i64 ((rd_T24 t475 x8_2).f0)) ∧ w'.cell? ⟨(ad480.add ((x8_2).toNat * 6)).block, (ad480.add ((x8_2).toNat * 6)).off + 1, none⟩ = some (.int .i64 ((rd_T24 t475 x8_2).f1)) ∧ w'.cell? ⟨(ad480.add ((x8_2).toNat * 6)).block, (ad480.add ((x8_2).toNat * 6)).off + 2, none⟩ = some (.string ((rd_T24 t475 x8_2).f2)) ∧ w'.cell? ⟨(ad480.add ((x8_2).toNat * 6)).block, (ad480.add ((x8_2).toNat * 6)).off + 3, none⟩ = some (.int .i64 ((rd_T24 t475 x8_2).f3)) ∧ w'.cell? ⟨(ad480.add ((x8_2).toNat * 6)).block, (ad480.add ((x8_2).toNat * 6)).off + 4, none⟩ = some (.int .i64 ((rd_T24 t475 x8_2).f4)) ∧ w'.cell? ⟨(ad480.add ((x8_2).toNat * 6)).block, (ad480.add ((x8_2).toNat * 6)).off + 5, none⟩ = some (.slice A482_5 ((rd_T24 t475 x8_2).f5).length c482_5)) (ds := []) #[false, false, false, false, false, false, false, false, false, false, false, false, false] (by kernel_rfl) rfl rfl ⟨(blk_cell BK468.out 0).trans rfl, (blk_cell BK468.out 1).trans rfl, (blk_cell BK468.out 2).trans rfl, (blk_cell BK468.out 3).trans rfl, (blk_cell BK469.out 0).trans rfl, (blk_cell BK469.out 1).trans rfl, (blk_cell BK469.out 2).trans rfl, (blk_cell BK469.out 3).trans rfl, hx482_0, hx482_1, hx482_2, hx482_3, hx482_4, hx482_5, hx484_0, hx484_1, hx484_2, hx484_3, hx484_4, hx484_5⟩ (fun hHeld => ?_); refine with_tabW sizarlaw12_RulesAtoms.tab11 sizarlaw12_RulesAtoms.bits11 (fun HT_ HW_ => ?_)
           generalize w84.drew = w85 at HO_7 HL480_5 BK467 BK468 BK469 HR480_5 HB HL482_5 HL484_5 HR482_5 HR484_5 hx482_0 hx482_1 hx482_2 hx482_3 hx482_4 hx482_5 hx484_0 hx484_1 hx484_2 hx484_3 hx484_4 hx484_5 hHeld ⊢
           refine pure_ (i := 0) (N := some 55) (v := ?_) (a' := ?_) #[true, false, false, false, false, false, false, false, false, false, false, false, false] rfl rfl (any_of HT_.out (by kernel_rfl)) (fun _ _ _ h => h) (Or.inl ⟨by rfl, ?_⟩) ?_ ?_
           rotate_left
           ·intro w'
            go_simp
            with_reducible rfl
           rotate_left
           ·simp only [Act.put, List.setIfInBounds_toArray, List.set_cons_zero, List.set_cons_succ, i64_w, i32_w]
            rfl
           refine pure_ (i := 1) (N := some 56) (v := ?_) (a' := ?_) #[true, true, false, false, false, false, false, false, false, false, false, false, false] rfl rfl (any_of HT_.out (by kernel_rfl)) (fun _ _ _ h => h) (Or.inl ⟨by rfl, ?_⟩) ?_ ?_
           rotate_left
           ·intro w'
            go_simp
            with_reducible rfl
           rotate_left
           ·simp only [Act.put, List.setIfInBounds_toArray, List.set_cons_zero, List.set_cons_succ, i64_w, i32_w]
            rfl
           refine pure_ (i := 2) (N := some 57) (v := ?_) (a' := ?_) #[true, true, true, false, false, false, false, false, false, false, false, false, false] rfl rfl (any_of HT_.out (by kernel_rfl)) (fun _ _ _ h => h) (Or.inl ⟨by rfl, ?_⟩) ?_ ?_
           rotate_left
           ·intro w'
            go_simp
            with_reducible rfl
           rotate_left
           ·simp only [Act.put, List.setIfInBounds_toArray, List.set_cons_zero, List.set_cons_succ, i64_w, i32_w]
            rfl
           refine pure_ (i := 6) (N := some 61) (v := ?_) (a' := ?_) #[true, true, true, false, false, false, true, false, false, false, false, false, false] rfl rfl (any_of HT_.out (by kernel_rfl)) (fun _ _ _ h => h) (Or.inl ⟨by rfl, ?_⟩) ?_ ?_
           rotate_left
           ·intro w'
            go_simp
            with_reducible rfl
           rotate_left
           ·simp only [Act.put, List.setIfInBounds_toArray, List.set_cons_zero, List.set_cons_succ, i64_w, i32_w]
            rfl
           refine pure_ (i := 7) (N := some 62) (v := ?_) (a' := ?_) #[true, true, true, false, false, false, true, true, false, false, false, false, false] rfl rfl (any_of HT_.out (by kernel_rfl)) (fun _ _ _ h => h) (Or.inl ⟨by rfl, ?_⟩) ?_ ?_
           rotate_left
           ·intro w'
            go_simp
            with_reducible rfl
           rotate_left
           ·simp only [Act.put, List.setIfInBounds_toArray, List.set_cons_zero, List.set_cons_succ, i64_w, i32_w]
            rfl
           refine pure_ (i := 8) (N := some 63) (v := ?_) (a' := ?_) #[true, true, true, false, false, false, true, true, true, false, false, false, false] rfl rfl (any_of HT_.out (by kernel_rfl)) (fun _ _ _ h => h) (Or.inl ⟨by rfl, ?_⟩) ?_ ?_
           rotate_left
           ·intro w'
            go_simp
            with_reducible rfl
           rotate_left
           ·simp only [Act.put, List.setIfInBounds_toArray, List.set_cons_zero, List.set_cons_succ, i64_w, i32_w]
            rfl
           refine take_ (i := 3) (N := some 58) (v := ?_) (a' := ?_) #[true, true, true, true, false, false, true, true, true, false, false, false, false] rfl rfl (take_ofW HT_.out HW_.out (by kernel_rfl)) (fun _ _ _ h => h) (Or.inl ⟨by rfl, ?_⟩) hHeld ?_ ?_
           rotate_left
           ·rintro w' ⟨s0, s1, s2, s3, s4, s5, s6, s7, s8, s9, s10, s11, s12, s13, s14, s15, s16, s17, s18, s19⟩
            go_simp
            with_reducible rfl
           rotate_left
           ·simp only [Act.put, List.setIfInBounds_toArray, List.set_cons_zero, List.set_cons_succ, i64_w, i32_w]
            rfl
           refine take_ (i := 4) (N := some 59) (v := ?_) (a' := ?_) #[true, true, true, true, true, false, true, true, true, false, false, false, false] rfl rfl (take_ofW HT_.out HW_.out (by kernel_rfl)) (fun _ _ _ h => h) (Or.inl ⟨by rfl, ?_⟩) hHeld ?_ ?_
           rotate_left
           ·rintro w' ⟨s0, s1, s2, s3, s4, s5, s6, s7, s8, s9, s10, s11, s12, s13, s14, s15, s16, s17, s18, s19⟩
            go_simp
            with_reducible rfl
           rotate_left
           ·simp only [Act.put, List.setIfInBounds_toArray, List.set_cons_zero, List.set_cons_succ, i64_w, i32_w]
            rfl
           refine take_ (i := 9) (N := some 64) (v := ?_) (a' := ?_) #[true, true, true, true, true, false, true, true, true, true, false, false, false] rfl rfl (take_ofW HT_.out HW_.out (by kernel_rfl)) (fun _ _ _ h => h) (Or.inl ⟨by rfl, ?_⟩) hHeld ?_ ?_
           rotate_left
           ·rintro w' ⟨s0, s1, s2, s3, s4, s5, s6, s7, s8, s9, s10, s11, s12, s13, s14, s15, s16, s17, s18, s19⟩
            go_simp
            with_reducible rfl
           rotate_left
           ·simp only [Act.put, List.setIfInBounds_toArray, List.set_cons_zero, List.set_cons_succ, i64_w, i32_w]
            rfl
           refine take_ (i := 10) (N := some 65) (v := ?_) (a' := ?_) #[true, true, true, true, true, false, true, true, true, true, true, false, false] rfl rfl (take_ofW HT_.out HW_.out (by kernel_rfl)) (fun _ _ _ h => h) (Or.inl ⟨by rfl, ?_⟩) hHeld ?_ ?_
           rotate_left
           ·rintro w' ⟨s0, s1, s2, s3, s4, s5, s6, s7, s8, s9, s10, s11, s12, s13, s14, s15, s16, s17, s18, s19⟩
            go_simp
            with_reducible rfl
           rotate_left
           ·simp only [Act.put, List.setIfInBounds_toArray, List.set_cons_zero, List.set_cons_succ, i64_w, i32_w]
            rfl
           refine one_ (i := 5) (N := some 60) #[true, true, true, true, true, true, true, true, true, true, true, false, false] rfl rfl (one_of HT_.out (by kernel_rfl)) (by decide) (fun K hK => ?_)
           refine goes_ Tryd.func22 (by kernel_rfl) rfl #[.agg #[.int .i64 ((rd_T24 t475 x8_2).f0), .int .i64 ((rd_T24 t475 x8_2).f1), .string ((rd_T24 t475 x8_2).f2), .int .i64 ((rd_T24 t475 x8_2).f3), .int .i64 ((rd_T24 t475 x8_2).f4), .slice A482_5 ((rd_T24 t475 x8_2).f5).length c482_5], .agg #[.slice A1_0 l1_0.length c1_0, .int .i64 a1_1, .int .i64 a1_2, .int .i64 a1_3]] (by rfl) rfl rfl (by (try simp only [List.map_toArray, List.map_cons, List.map_nil]); first | done | rfl | (simp only [List.length_drop, List.length_take]; rfl)) ?_
           with_reducible refine (sizarlaw12_holds.calls k2 ((rd_T24 t475 x8_2).f0) ((rd_T24 t475 x8_2).f1) ((rd_T24 t475 x8_2).f2) ((rd_T24 t475 x8_2).f3) ((rd_T24 t475 x8_2).f4) _ _ ((rd_T24 t475 x8_2).f5) _ _ l1_0 a1_1 a1_2 a1_3 t483 _ ?side1 ?side2 ?side3 ?side4 A80.out ?sideK).mono ?_
           (case sideK => exact HKT.out.below (by repeat (first | (with_reducible first | exact HB.out | apply below_alloc | apply pw_below_drewN | apply below_drew1 | refine below_set ?_ GE467.out | refine below_set ?_ GE468.out | refine below_set ?_ GE469.out) | exact HB.out)))
           (case side1 => repeat (first | exact (by repeat (first | (with_reducible exact HR482_5.out) | (with_reducible refine Kd.C_alloc ?_ _) | (with_reducible refine Kd.C_drewN ?_ _) | (with_reducible refine Kd.C_drew ?_) | exact HR482_5.out)) | (with_reducible refine Kd.C_alloc ?_ _) | (with_reducible refine Kd.C_drewN ?_ _) | (with_reducible refine Kd.C_drew ?_)))
           (case side2 => exact HC482_5.out)
           (case side3 => repeat (first | exact (Kd.C_below HR1_0.out HB.out) | (with_reducible refine Kd.C_alloc ?_ _) | (with_reducible refine Kd.C_drewN ?_ _) | (with_reducible refine Kd.C_drew ?_)))
           (case side4 => exact HC1_0.out)
           rintro e w86 ⟨rfl, hb⟩
           have HS8_ := (hb.cell (World.block_lt_of_cell? _ _ (hHeld.2.2.2.2.2.2.2.2.1))).trans (hHeld.2.2.2.2.2.2.2.2.1)
           have HS9_ := (hb.cell (World.block_lt_of_cell? _ _ (hHeld.2.2.2.2.2.2.2.2.2.1))).trans (hHeld.2.2.2.2.2.2.2.2.2.1)
           have HS10_ := (hb.cell (World.block_lt_of_cell? _ _ (hHeld.2.2.2.2.2.2.2.2.2.2.1))).trans (hHeld.2.2.2.2.2.2.2.2.2.2.1)
           have HS11_ := (hb.cell (World.block_lt_of_cell? _ _ (hHeld.2.2.2.2.2.2.2.2.2.2.2.1))).trans (hHeld.2.2.2.2.2.2.2.2.2.2.2.1)
           have HS12_ := (hb.cell (World.block_lt_of_cell? _ _ (hHeld.2.2.2.2.2.2.2.2.2.2.2.2.1))).trans (hHeld.2.2.2.2.2.2.2.2.2.2.2.2.1)
           have HS13_ := (hb.cell (World.block_lt_of_cell? _ _ (hHeld.2.2.2.2.2.2.2.2.2.2.2.2.2.1))).trans (hHeld.2.2.2.2.2.2.2.2.2.2.2.2.2.1)
           have HS14_ := (hb.cell (World.block_lt_of_cell? _ _ (hHeld.2.2.2.2.2.2.2.2.2.2.2.2.2.2.1))).trans (hHeld.2.2.2.2.2.2.2.2.2.2.2.2.2.2.1)
           have HS15_ := (hb.cell (World.block_lt_of_cell? _ _ (hHeld.2.2.2.2.2.2.2.2.2.2.2.2.2.2.2.1))).trans (hHeld.2.2.2.2.2.2.2.2.2.2.2.2.2.2.2.1)
           have HS16_ := (hb.cell (World.block_lt_of_cell? _ _ (hHeld.2.2.2.2.2.2.2.2.2.2.2.2.2.2.2.2.1))).trans (hHeld.2.2.2.2.2.2.2.2.2.2.2.2.2.2.2.2.1)
           have HS17_ := (hb.cell (World.block_lt_of_cell? _ _ (hHeld.2.2.2.2.2.2.2.2.2.2.2.2.2.2.2.2.2.1))).trans (hHeld.2.2.2.2.2.2.2.2.2.2.2.2.2.2.2.2.2.1)
           have HS18_ := (hb.cell (World.block_lt_of_cell? _ _ (hHeld.2.2.2.2.2.2.2.2.2.2.2.2.2.2.2.2.2.2.1))).trans (hHeld.2.2.2.2.2.2.2.2.2.2.2.2.2.2.2.2.2.2.1)
           have HS19_ := (hb.cell (World.block_lt_of_cell? _ _ (hHeld.2.2.2.2.2.2.2.2.2.2.2.2.2.2.2.2.2.2.2))).trans (hHeld.2.2.2.2.2.2.2.2.2.2.2.2.2.2.2.2.2.2.2)
           refine ⟨_, rfl, ?_⟩
           have n0_ := Aside0.mk (Kd.R_below (by (with_reducible repeat (first | apply Kd.R_alloc | apply Kd.R_drewN | apply Kd.R_drew)); exact HO_7.out) hb)
           have n1_ := Aside0.mk (Kd.R_below (by (with_reducible repeat (first | apply Kd.R_alloc | apply Kd.R_drewN | apply Kd.R_drew)); exact HL480_5.out) hb)
           have n2_ := Aside0.mk (Kd.R_below (by (with_reducible repeat (first | apply Kd.R_alloc | apply Kd.R_drewN | apply Kd.R_drew)); exact HL482_5.out) hb)
           have n3_ := Aside0.mk (Kd.R_below (by (with_reducible repeat (first | apply Kd.R_alloc | apply Kd.R_drewN | apply Kd.R_drew)); exact HL484_5.out) hb)
           have n4_ := Aside0.mk (blk_below (g := gb467) (o := .cells #[.int .i64 a0_0, .int .i64 a0_1, .string a0_2, .int .i64 a0_3, .int .i64 a0_4, .slice A0_5 l0_5.length c0_5] 24 (0, 0)) (by (with_reducible repeat (first | refine blk_drewN ?_ _ | refine blk_drew ?_ | refine blk_alloc ?_ _)); exact BK467.out) hb)
           have n5_ := Aside0.mk (blk_below (g := gb468) (o := .cells #[.slice A1_0 l1_0.length c1_0, .int .i64 a1_1, .int .i64 a1_2, .int .i64 a1_3] 29 (0, 0)) (by (with_reducible repeat (first | refine blk_drewN ?_ _ | refine blk_drew ?_ | refine blk_alloc ?_ _)); exact BK468.out) hb)
           have n6_ := Aside0.mk (blk_below (g := gb469) (o := .cells #[.slice A2_0 l2_0.length c2_0, .int .i64 a2_1, .int .i64 a2_2, .int .i64 a2_3] 29 (0, 0)) (by (with_reducible repeat (first | refine blk_drewN ?_ _ | refine blk_drew ?_ | refine blk_alloc ?_ _)); exact BK469.out) hb)
           have n7_ := Aside0.mk (Kd.C_below (by repeat (first | (with_reducible exact HR480_5.out) | (with_reducible refine Kd.C_alloc ?_ _) | (with_reducible refine Kd.C_drewN ?_ _) | (with_reducible refine Kd.C_drew ?_) | exact HR480_5.out)) hb)
           have n8_ := Aside0.mk (Kd.C_below (by repeat (first | (with_reducible exact HR482_5.out) | (with_reducible refine Kd.C_alloc ?_ _) | (with_reducible refine Kd.C_drewN ?_ _) | (with_reducible refine Kd.C_drew ?_) | exact HR482_5.out)) hb)
           have n9_ := Aside0.mk (Kd.C_below (by repeat (first | (with_reducible exact HR484_5.out) | (with_reducible refine Kd.C_alloc ?_ _) | (with_reducible refine Kd.C_drewN ?_ _) | (with_reducible refine Kd.C_drew ?_) | exact HR484_5.out)) hb)
           have n10_ := Aside0.mk (below_step (by repeat (first | (with_reducible first | exact HB.out | apply below_alloc | apply pw_below_drewN | apply below_drew1 | refine below_set ?_ GE467.out | refine below_set ?_ GE468.out | refine below_set ?_ GE469.out) | exact HB.out)) hb)
           clear HO_7
           clear HL480_5
           clear HL482_5
           clear HL484_5
           clear BK467
           clear BK468
           clear BK469
           clear HR480_5
           clear HR482_5
           clear HR484_5
           clear HB
           have HO_7 := n0_
           have HL480_5 := n1_
           have HL482_5 := n2_
           have HL484_5 := n3_
           have BK467 := n4_
           have BK468 := n5_
           have BK469 := n6_
           have HR480_5 := n7_
           have HR482_5 := n8_
           have HR484_5 := n9_
           have HB := n10_
           clear n0_ n1_ n2_ n3_ n4_ n5_ n6_ n7_ n8_ n9_ n10_
           (try clear hb)
           (try clear hb2)
           (try clear hk)
           (try clear hi)
           refine hK.out _ _ ⟨(blk_cell BK468.out 0).trans rfl, (blk_cell BK468.out 1).trans rfl, (blk_cell BK468.out 2).trans rfl, (blk_cell BK468.out 3).trans rfl, (blk_cell BK469.out 0).trans rfl, (blk_cell BK469.out 1).trans rfl, (blk_cell BK469.out 2).trans rfl, (blk_cell BK469.out 3).trans rfl, HS8_, HS9_, HS10_, HS11_, HS12_, HS13_, HS14_, HS15_, HS16_, HS17_, HS18_, HS19_⟩ (fun hHeld => ?_)
           clear hK K
           refine norm_ (a' := ?_) ?_ ?_
           rotate_left
           ·show Act.put _ (some 60) _ = _
            simp only [Act.put, List.setIfInBounds_toArray, List.set_cons_zero, List.set_cons_succ, i64_w, i32_w]
            rfl
           refine one_ (i := 11) (N := some 66) #[true, true, true, true, true, true, true, true, true, true, true, true, false] rfl rfl (one_of HT_.out (by kernel_rfl)) (by decide) (fun K hK => ?_)
           refine goes_ Tryd.func22 (by kernel_rfl) rfl #[.agg #[.int .i64 ((rd_T24 t475 x8_2).f0), .int .i64 ((rd_T24 t475 x8_2).f1), .string ((rd_T24 t475 x8_2).f2), .int .i64 ((rd_T24 t475 x8_2).f3), .int .i64 ((rd_T24 t475 x8_2).f4), .slice A482_5 ((rd_T24 t475 x8_2).f5).length c482_5], .agg #[.slice A2_0 l2_0.length c2_0, .int .i64 a2_1, .int .i64 a2_2, .int .i64 a2_3]] (by rfl) rfl rfl (by (try simp only [List.map_toArray, List.map_cons, List.map_nil]); first | done | rfl | (simp only [List.length_drop, List.length_take]; rfl)) ?_
           with_reducible refine (sizarlaw12_holds.calls k2 ((rd_T24 t475 x8_2).f0) ((rd_T24 t475 x8_2).f1) ((rd_T24 t475 x8_2).f2) ((rd_T24 t475 x8_2).f3) ((rd_T24 t475 x8_2).f4) _ _ ((rd_T24 t475 x8_2).f5) _ _ l2_0 a2_1 a2_2 a2_3 t485 _ ?side1 ?side2 ?side3 ?side4 A81.out ?sideK).mono ?_
           (case sideK => exact HKT.out.below (by repeat (first | (with_reducible first | exact HB.out | apply below_alloc | apply pw_below_drewN | apply below_drew1 | refine below_set ?_ GE467.out | refine below_set ?_ GE468.out | refine below_set ?_ GE469.out) | exact HB.out)))
           (case side1 => repeat (first | exact (by repeat (first | (with_reducible exact HR484_5.out) | (with_reducible refine Kd.C_alloc ?_ _) | (with_reducible refine Kd.C_drewN ?_ _) | (with_reducible refine Kd.C_drew ?_) | exact HR484_5.out)) | (with_reducible refine Kd.C_alloc ?_ _) | (with_reducible refine Kd.C_drewN ?_ _) | (with_reducible refine Kd.C_drew ?_)))
           (case side2 => exact HC484_5.out)
           (case side3 => repeat (first | exact (Kd.C_below HR2_0.out HB.out) | (with_reducible refine Kd.C_alloc ?_ _) | (with_reducible refine Kd.C_drewN ?_ _) | (with_reducible refine Kd.C_drew ?_)))
           (case side4 => exact HC2_0.out)
           rintro e w87 ⟨rfl, hb⟩
           have HS8_ := (hb.cell (World.block_lt_of_cell? _ _ (hHeld.2.2.2.2.2.2.2.2.1))).trans (hHeld.2.2.2.2.2.2.2.2.1)
           have HS9_ := (hb.cell (World.block_lt_of_cell? _ _ (hHeld.2.2.2.2.2.2.2.2.2.1))).trans (hHeld.2.2.2.2.2.2.2.2.2.1)
           have HS10_ := (hb.cell (World.block_lt_of_cell? _ _ (hHeld.2.2.2.2.2.2.2.2.2.2.1))).trans (hHeld.2.2.2.2.2.2.2.2.2.2.1)
           have HS11_ := (hb.cell (World.block_lt_of_cell? _ _ (hHeld.2.2.2.2.2.2.2.2.2.2.2.1))).trans (hHeld.2.2.2.2.2.2.2.2.2.2.2.1)
           have HS12_ := (hb.cell (World.block_lt_of_cell? _ _ (hHeld.2.2.2.2.2.2.2.2.2.2.2.2.1))).trans (hHeld.2.2.2.2.2.2.2.2.2.2.2.2.1)
           have HS13_ := (hb.cell (World.block_lt_of_cell? _ _ (hHeld.2.2.2.2.2.2.2.2.2.2.2.2.2.1))).trans (hHeld.2.2.2.2.2.2.2.2.2.2.2.2.2.1)
           have HS14_ := (hb.cell (World.block_lt_of_cell? _ _ (hHeld.2.2.2.2.2.2.2.2.2.2.2.2.2.2.1))).trans (hHeld.2.2.2.2.2.2.2.2.2.2.2.2.2.2.1)
           have HS15_ := (hb.cell (World.block_lt_of_cell? _ _ (hHeld.2.2.2.2.2.2.2.2.2.2.2.2.2.2.2.1))).trans (hHeld.2.2.2.2.2.2.2.2.2.2.2.2.2.2.2.1)
           have HS16_ := (hb.cell (World.block_lt_of_cell? _ _ (hHeld.2.2.2.2.2.2.2.2.2.2.2.2.2.2.2.2.1))).trans (hHeld.2.2.2.2.2.2.2.2.2.2.2.2.2.2.2.2.1)
           have HS17_ := (hb.cell (World.block_lt_of_cell? _ _ (hHeld.2.2.2.2.2.2.2.2.2.2.2.2.2.2.2.2.2.1))).trans (hHeld.2.2.2.2.2.2.2.2.2.2.2.2.2.2.2.2.2.1)
           have HS18_ := (hb.cell (World.block_lt_of_cell? _ _ (hHeld.2.2.2.2.2.2.2.2.2.2.2.2.2.2.2.2.2.2.1))).trans (hHeld.2.2.2.2.2.2.2.2.2.2.2.2.2.2.2.2.2.2.1)
           have HS19_ := (hb.cell (World.block_lt_of_cell? _ _ (hHeld.2.2.2.2.2.2.2.2.2.2.2.2.2.2.2.2.2.2.2))).trans (hHeld.2.2.2.2.2.2.2.2.2.2.2.2.2.2.2.2.2.2.2)
           refine ⟨_, rfl, ?_⟩
           have n0_ := Aside0.mk (Kd.R_below (by (with_reducible repeat (first | apply Kd.R_alloc | apply Kd.R_drewN | apply Kd.R_drew)); exact HO_7.out) hb)
           have n1_ := Aside0.mk (Kd.R_below (by (with_reducible repeat (first | apply Kd.R_alloc | apply Kd.R_drewN | apply Kd.R_drew)); exact HL480_5.out) hb)
           have n2_ := Aside0.mk (Kd.R_below (by (with_reducible repeat (first | apply Kd.R_alloc | apply Kd.R_drewN | apply Kd.R_drew)); exact HL482_5.out) hb)
           have n3_ := Aside0.mk (Kd.R_below (by (with_reducible repeat (first | apply Kd.R_alloc | apply Kd.R_drewN | apply Kd.R_drew)); exact HL484_5.out) hb)
           have n4_ := Aside0.mk (blk_below (g := gb467) (o := .cells #[.int .i64 a0_0, .int .i64 a0_1, .string a0_2, .int .i64 a0_3, .int .i64 a0_4, .slice A0_5 l0_5.length c0_5] 24 (0, 0)) (by (with_reducible repeat (first | refine blk_drewN ?_ _ | refine blk_drew ?_ | refine blk_alloc ?_ _)); exact BK467.out) hb)
           have n5_ := Aside0.mk (blk_below (g := gb468) (o := .cells #[.slice A1_0 l1_0.length c1_0, .int .i64 a1_1, .int .i64 a1_2, .int .i64 a1_3] 29 (0, 0)) (by (with_reducible repeat (first | refine blk_drewN ?_ _ | refine blk_drew ?_ | refine blk_alloc ?_ _)); exact BK468.out) hb)
           have n6_ := Aside0.mk (blk_below (g := gb469) (o := .cells #[.slice A2_0 l2_0.length c2_0, .int .i64 a2_1, .int .i64 a2_2, .int .i64 a2_3] 29 (0, 0)) (by (with_reducible repeat (first | refine blk_drewN ?_ _ | refine blk_drew ?_ | refine blk_alloc ?_ _)); exact BK469.out) hb)
           have n7_ := Aside0.mk (Kd.C_below (by repeat (first | (with_reducible exact HR480_5.out) | (with_reducible refine Kd.C_alloc ?_ _) | (with_reducible refine Kd.C_drewN ?_ _) | (with_reducible refine Kd.C_drew ?_) | exact HR480_5.out)) hb)
           have n8_ := Aside0.mk (Kd.C_below (by repeat (first | (with_reducible exact HR482_5.out) | (with_reducible refine Kd.C_alloc ?_ _) | (with_reducible refine Kd.C_drewN ?_ _) | (with_reducible refine Kd.C_drew ?_) | exact HR482_5.out)) hb)
           have n9_ := Aside0.mk (Kd.C_below (by repeat (first | (with_reducible exact HR484_5.out) | (with_reducible refine Kd.C_alloc ?_ _) | (with_reducible refine Kd.C_drewN ?_ _) | (with_reducible refine Kd.C_drew ?_) | exact HR484_5.out)) hb)
           have n10_ := Aside0.mk (below_step (by repeat (first | (with_reducible first | exact HB.out | apply below_alloc | apply pw_below_drewN | apply below_drew1 | refine below_set ?_ GE467.out | refine below_set ?_ GE468.out | refine below_set ?_ GE469.out) | exact HB.out)) hb)
           clear HO_7
           clear HL480_5
           clear HL482_5
           clear HL484_5
           clear BK467
           clear BK468
           clear BK469
           clear HR480_5
           clear HR482_5
           clear HR484_5
           clear HB
           have HO_7 := n0_
           have HL480_5 := n1_
           have HL482_5 := n2_
           have HL484_5 := n3_
           have BK467 := n4_
           have BK468 := n5_
           have BK469 := n6_
           have HR480_5 := n7_
           have HR482_5 := n8_
           have HR484_5 := n9_
           have HB := n10_
           clear n0_ n1_ n2_ n3_ n4_ n5_ n6_ n7_ n8_ n9_ n10_
           (try clear hb)
           (try clear hb2)
           (try clear hk)
           (try clear hi)
           refine hK.out _ _ ⟨(blk_cell BK468.out 0).trans rfl, (blk_cell BK468.out 1).trans rfl, (blk_cell BK468.out 2).trans rfl, (blk_cell BK468.out 3).trans rfl, (blk_cell BK469.out 0).trans rfl, (blk_cell BK469.out 1).trans rfl, (blk_cell BK469.out 2).trans rfl, (blk_cell BK469.out 3).trans rfl, HS8_, HS9_, HS10_, HS11_, HS12_, HS13_, HS14_, HS15_, HS16_, HS17_, HS18_, HS19_⟩ (fun hHeld => ?_)
           clear hK K
           refine norm_ (a' := ?_) ?_ ?_
           rotate_left
           ·show Act.put _ (some 66) _ = _
            simp only [Act.put, List.setIfInBounds_toArray, List.set_cons_zero, List.set_cons_succ, i64_w, i32_w]
            rfl
           refine pure_ (i := 12) (N := some 67) (v := ?_) (a' := ?_) #[true, true, true, true, true, true, true, true, true, true, true, true, true] rfl rfl (any_of HT_.out (by kernel_rfl)) (fun _ _ _ h => h) (Or.inl ⟨by rfl, ?_⟩) ?_ ?_
           rotate_left
           ·intro w'
            go_simp
            with_reducible rfl
           rotate_left
           ·simp only [Act.put, List.setIfInBounds_toArray, List.set_cons_zero, List.set_cons_succ, i64_w, i32_w]
            rfl
           refine done_ (done_of HT_.out (by kernel_rfl)) ?_
           try go_wp2
           go_ret
           exact ⟨by first | rfl | (simp [errW_none, errW_some] <;> rfl) | (simp [*, errW_none, errW_some] <;> rfl), by repeat (first | (with_reducible first | exact HB.out | apply below_alloc | apply pw_below_drewN | apply below_drew1 | refine below_set ?_ GE467.out | refine below_set ?_ GE468.out | refine below_set ?_ GE469.out) | exact HB.out)⟩
          ·rw [if_neg c82] at H
           have c82b0 : (t483 != t485) = false := by simpa using c82
           (try (have c82b1 : decide (t483 = t485) = true := by simpa using c82))
           (try (have c82b2 : (t483 == t485) = true := by simpa using c82))
           clear c82
           have H' := Aside0.mk H
           clear H
           obtain ⟨Ao88, co88, eo88⟩ := Kd.R_slice HO_7.out
           subst eo88
           have p480 : 0 ≤ (x8_2 : Int) := of_decide_eq_true (by first | (with_reducible assumption) | assumption)
           have q480 : x8_2 < (t475.length : Int) := of_decide_eq_true (by first | (with_reducible assumption) | assumption)
           obtain ⟨ad480, A480_5, c480_5, e480, hx480_0, hx480_1, hx480_2, hx480_3, hx480_4, hx480_5, hl480_5, hi480_5⟩ := at_T24 (Kd.R_reads' HO_7.out).2.2 x8_2 p480 q480
           cases e480
           obtain ⟨ce480, hce480, hMe480, hcc480⟩ := Kd.R_get HO_7.out z24 x8_2 p480 (by first | exact q480 | exact of_decide_eq_true (by first | (with_reducible assumption) | assumption) | (have e_ := (Kd.R_reads' HO_7.out).1; omega))
           obtain ⟨ve480_5, rfl, ge480_5⟩ := k24_openM hMe480
           have hv480_5 := hcc480 5 _ rfl
           rw [add_field _ _ 5 (by omega)] at hv480_5
           replace hv480_5 := Option.some.inj (hv480_5.symm.trans hx480_5)
           rw [hv480_5] at ge480_5
           have HL480_5 := Aside0.mk (show Kd.R k24 24 _ _ _ _ ((rd_T24 t475 x8_2).f5) from ge480_5)
           clear hv480_5 ge480_5
           clear hcc480 hce480
           have HR480_5 := Aside0.mk hi480_5
           have HC480_5 := Aside0.mk hl480_5
           clear hi480_5 hl480_5
           replace p480 := eq_true p480
           replace q480 := eq_true q480
           try go_wp2_with (first | ((with_reducible refine gate_callee (f := 20) rfl ?_); refine goesL_ (some 53) rfl rfl Tryd.func20 (by kernel_rfl) rfl #[.agg #[.int .i64 ((rd_T24 t475 x8_2).f0), .int .i64 ((rd_T24 t475 x8_2).f1), .string ((rd_T24 t475 x8_2).f2), .int .i64 ((rd_T24 t475 x8_2).f3), .int .i64 ((rd_T24 t475 x8_2).f4), .slice A480_5 ((rd_T24 t475 x8_2).f5).length c480_5]] rfl (by (try simp only [List.map_toArray, List.map_cons, List.map_nil]); first | done | rfl | (simp only [List.length_drop, List.length_take]; rfl)) ?_; (with_reducible refine (rules_Check.calls ((rd_T24 t475 x8_2).f0) ((rd_T24 t475 x8_2).f1) ((rd_T24 t475 x8_2).f2) ((rd_T24 t475 x8_2).f3) ((rd_T24 t475 x8_2).f4) _ _ ((rd_T24 t475 x8_2).f5) t481 _ ?side1 ?side2 A78.out ?sideK).mono ?_); (case sideK => exact HKT.out.below (by repeat (first | (with_reducible first | exact HB.out | apply below_alloc | apply pw_below_drewN | apply below_drew1 | refine below_set ?_ GE467.out | refine below_set ?_ GE468.out | refine below_set ?_ GE469.out) | exact HB.out))); (case side1 => repeat (first | exact (by repeat (first | (with_reducible exact HR480_5.out) | (with_reducible refine Kd.C_alloc ?_ _) | (with_reducible refine Kd.C_drewN ?_ _) | (with_reducible refine Kd.C_drew ?_) | exact HR480_5.out)) | (with_reducible refine Kd.C_alloc ?_ _) | (with_reducible refine Kd.C_drewN ?_ _) | (with_reducible refine Kd.C_drew ?_))); (case side2 => exact HC480_5.out); rintro e w89 ⟨rfl, hb⟩; refine ⟨_, rfl, ?_⟩; have n0_ := Aside0.mk (Kd.R_below (by (with_reducible repeat (first | apply Kd.R_alloc | apply Kd.R_drewN | apply Kd.R_drew)); exact HO_7.out) hb); have n1_ := Aside0.mk (Kd.R_below (by (with_reducible repeat (first | apply Kd.R_alloc | apply Kd.R_drewN | apply Kd.R_drew)); exact HL480_5.out) hb); have n2_ := Aside0.mk (blk_below (g := gb467) (o := .cells #[.int .i64 a0_0, .int .i64 a0_1, .string a0_2, .int .i64 a0_3, .int .i64 a0_4, .slice A0_5 l0_5.length c0_5] 24 (0, 0)) (by (with_reducible repeat (first | refine blk_drewN ?_ _ | refine blk_drew ?_ | refine blk_alloc ?_ _)); exact BK467.out) hb); have n3_ := Aside0.mk (blk_below (g := gb468) (o := .cells #[.slice A1_0 l1_0.length c1_0, .int .i64 a1_1, .int .i64 a1_2, .int .i64 a1_3] 29 (0, 0)) (by (with_reducible repeat (first | refine blk_drewN ?_ _ | refine blk_drew ?_ | refine blk_alloc ?_ _)); exact BK468.out) hb); have n4_ := Aside0.mk (blk_below (g := gb469) (o := .cells #[.slice A2_0 l2_0.length c2_0, .int .i64 a2_1, .int .i64 a2_2, .int .i64 a2_3] 29 (0, 0)) (by (with_reducible repeat (first | refine blk_drewN ?_ _ | refine blk_drew ?_ | refine blk_alloc ?_ _)); exact BK469.out) hb); have n5_ := Aside0.mk (Kd.C_below (by repeat (first | (with_reducible exact HR480_5.out) | (with_reducible refine Kd.C_alloc ?_ _) | (with_reducible refine Kd.C_drewN ?_ _) | (with_reducible refine Kd.C_drew ?_) | exact HR480_5.out)) hb); have n6_ := Aside0.mk (below_step (by repeat (first | (with_reducible first | exact HB.out | apply below_alloc | apply pw_below_drewN | apply below_drew1 | refine below_set ?_ GE467.out | refine below_set ?_ GE468.out | refine below_set ?_ GE469.out) | exact HB.out)) hb); clear HO_7; clear HL480_5; clear BK467; clear BK468; clear BK469; clear HR480_5; clear HB; have HO_7 := n0_; have HL480_5 := n1_; have BK467 := n2_; have BK468 := n3_; have BK469 := n4_; have HR480_5 := n5_; have HB := n6_; clear n0_ n1_ n2_ n3_ n4_ n5_ n6_; (try clear hb); (try clear hb2); (try clear hk); (try clear hi)))
           have n0_ := Aside0.mk (Kd.R_drew HO_7.out)
           have n1_ := Aside0.mk (Kd.R_drew HL480_5.out)
           have n2_ := Aside0.mk (blk_drew BK467.out)
           have n3_ := Aside0.mk (blk_drew BK468.out)
           have n4_ := Aside0.mk (blk_drew BK469.out)
           have n5_ := Aside0.mk (Kd.C_drew HR480_5.out)
           have n6_ := Aside0.mk (below_drew1 HB.out)
           clear HO_7
           clear HL480_5
           clear BK467
           clear BK468
           clear BK469
           clear HR480_5
           clear HB
           have HO_7 := n0_
           have HL480_5 := n1_
           have BK467 := n2_
           have BK468 := n3_
           have BK469 := n4_
           have HR480_5 := n5_
           have HB := n6_
           clear n0_ n1_ n2_ n3_ n4_ n5_ n6_
           have p482 : 0 ≤ (x8_2 : Int) := of_decide_eq_true (by first | (with_reducible assumption) | assumption)
           have q482 : x8_2 < (t475.length : Int) := of_decide_eq_true (by first | (with_reducible assumption) | assumption)
           obtain ⟨ad482, A482_5, c482_5, e482, hx482_0, hx482_1, hx482_2, hx482_3, hx482_4, hx482_5, hl482_5, hi482_5⟩ := at_T24 (Kd.R_reads' HO_7.out).2.2 x8_2 p482 q482
           obtain rfl : ad480 = ad482 := (by injection e482)
           obtain ⟨ce482, hce482, hMe482, hcc482⟩ := Kd.R_get HO_7.out z24 x8_2 p482 (by first | exact q482 | exact of_decide_eq_true (by first | (with_reducible assumption) | assumption) | (have e_ := (Kd.R_reads' HO_7.out).1; omega))
           obtain ⟨ve482_5, rfl, ge482_5⟩ := k24_openM hMe482
           have hv482_5 := hcc482 5 _ rfl
           rw [add_field _ _ 5 (by omega)] at hv482_5
           replace hv482_5 := Option.some.inj (hv482_5.symm.trans hx482_5)
           rw [hv482_5] at ge482_5
           have HL482_5 := Aside0.mk (show Kd.R k24 24 _ _ _ _ ((rd_T24 t475 x8_2).f5) from ge482_5)
           clear hv482_5 ge482_5
           clear hcc482 hce482
           have HR482_5 := Aside0.mk hi482_5
           have HC482_5 := Aside0.mk hl482_5
           clear hi482_5 hl482_5
           replace p482 := eq_true p482
           replace q482 := eq_true q482
           have p484 : 0 ≤ (x8_2 : Int) := of_decide_eq_true (by first | (with_reducible assumption) | assumption)
           have q484 : x8_2 < (t475.length : Int) := of_decide_eq_true (by first | (with_reducible assumption) | assumption)
           obtain ⟨ad484, A484_5, c484_5, e484, hx484_0, hx484_1, hx484_2, hx484_3, hx484_4, hx484_5, hl484_5, hi484_5⟩ := at_T24 (Kd.R_reads' HO_7.out).2.2 x8_2 p484 q484
           obtain rfl : ad480 = ad484 := (by injection e484)
           obtain ⟨ce484, hce484, hMe484, hcc484⟩ := Kd.R_get HO_7.out z24 x8_2 p484 (by first | exact q484 | exact of_decide_eq_true (by first | (with_reducible assumption) | assumption) | (have e_ := (Kd.R_reads' HO_7.out).1; omega))
           obtain ⟨ve484_5, rfl, ge484_5⟩ := k24_openM hMe484
           have hv484_5 := hcc484 5 _ rfl
           rw [add_field _ _ 5 (by omega)] at hv484_5
           replace hv484_5 := Option.some.inj (hv484_5.symm.trans hx484_5)
           rw [hv484_5] at ge484_5
           have HL484_5 := Aside0.mk (show Kd.R k24 24 _ _ _ _ ((rd_T24 t475 x8_2).f5) from ge484_5)
           clear hv484_5 ge484_5
           clear hcc484 hce484
           have HR484_5 := Aside0.mk hi484_5
           have HC484_5 := Aside0.mk hl484_5
           clear hi484_5 hl484_5
           replace p484 := eq_true p484
           replace q484 := eq_true q484
           have ea_ := Option.some.inj (hx482_5.symm.trans hx484_5)
           injection ea_ with ea_ en_ ec_
           subst ea_
           subst ec_
           clear en_
           refine start_ (n := 13) (S := fun w' => w'.cell? ⟨gb468, 0, none⟩ = some (.slice A1_0 l1_0.length c1_0) ∧ w'.cell? ⟨gb468, 1, none⟩ = some (.int .i64 a1_1) ∧ w'.cell? ⟨gb468, 2, none⟩ = some (.int .i64 a1_2) ∧ w'.cell? ⟨gb468, 3, none⟩ = some (.int .i64 a1_3) ∧ w'.cell? ⟨gb469, 0, none⟩ = some (.slice A2_0 l2_0.length c2_0) ∧ w'.cell? ⟨gb469, 1, none⟩ = some (.int .i64 a2_1) ∧ w'.cell? ⟨gb469, 2, none⟩ = some (.int .i64 a2_2) ∧ w'.cell? ⟨gb469, 3, none⟩ = some (.int .i64 a2_3) ∧ w'.cell? (ad480.add ((x8_2).toNat * 6)) = some (.int .i64 ((rd_T24 t475 x8_2).f0)) ∧ w'.cell? ⟨(ad480.add ((x8_2).toNat * 6)).block, (ad480.add ((x8_2).toNat * 6)).off + 1, none⟩ = some (.int .i64 ((rd_T24 t475 x8_2).f1)) ∧ w'.cell? ⟨(ad480.add ((x8_2).toNat * 6)).block, (ad480.add ((x8_2).toNat * 6)).off + 2, none⟩ = some (.string ((rd_T24 t475 x8_2).f2)) ∧ w'.cell? ⟨(ad480.add ((x8_2).toNat * 6)).block, (ad480.add ((x8_2).toNat * 6)).off + 3, none⟩ = some (.int .i64 ((rd_T24 t475 x8_2).f3)) ∧ w'.cell? ⟨(ad480.add ((x8_2).toNat * 6)).block, (ad480.add ((x8_2).toNat * 6)).off + 4, none⟩ = some (.int .i64 ((rd_T24 t475 x8_2).f4)) ∧ w'.cell? ⟨(ad480.add ((x8_2).toNat * 6)).block, (ad480.add ((x8_2).toNat * 6)).off + 5, none⟩ = some (.slice A482_5 ((rd_T24 t475 x8_2).f5).length c482_5) ∧ w'.cell? (ad480.add ((x8_2).toNat * 6)) = some (.int .i64 ((rd_T24 t475 x8_2).f0)) ∧ w'.cell? ⟨(ad480.add ((x8_2).toNat * 6)).block, (ad480.add ((x8_2).toNat * 6)).off + 1, none⟩ = some (.int .i64 ((rd_T24 t475 x8_2).f1)) ∧ w'.cell? ⟨(ad480.add ((x8_2).toNat * 6)).block, (ad480.add ((x8_2).toNat * 6)).off + 2, none⟩ = some (.string ((rd_T24 t475 x8_2).f2)) ∧ w'.cell? ⟨(ad480.add ((x8_2).toNat * 6)).block, (ad480.add ((x8_2).toNat * 6)).off + 3, none⟩ = some (.int .i64 ((rd_T24 t475 x8_2).f3)) ∧ w'.cell? ⟨(ad480.add ((x8_2).toNat * 6)).block, (ad480.add ((x8_2).toNat * 6)).off + 4, none⟩ = some (.int .i64 ((rd_T24 t475 x8_2).f4)) ∧ w'.cell? ⟨(ad480.add ((x8_2).toNat * 6)).block, (ad480.add ((x8_2).toNat * 6)).off + 5, none⟩ = some (.slice A482_5 ((rd_T24 t475 x8_2).f5).length c482_5)) (ds := []) #[false, false, false, false, false, false, false, false, false, false, false, false, false] (by kernel_rfl) rfl rfl ⟨(blk_cell BK468.out 0).trans rfl, (blk_cell BK468.out 1).trans rfl, (blk_cell BK468.out 2).trans rfl, (blk_cell BK468.out 3).trans rfl, (blk_cell BK469.out 0).trans rfl, (blk_cell BK469.out 1).trans rfl, (blk_cell BK469.out 2).trans rfl, (blk_cell BK469.out 3).trans rfl, hx482_0, hx482_1, hx482_2, hx482_3, hx482_4, hx482_5, hx484_0, hx484_1, hx484_2, hx484_3, hx484_4, hx484_5⟩ (fun hHeld => ?_); refine with_tabW sizarlaw12_RulesAtoms.tab11 sizarlaw12_RulesAtoms.bits11 (fun HT_ HW_ => ?_)
           generalize w89.drew = w90 at HO_7 HL480_5 BK467 BK468 BK469 HR480_5 HB HL482_5 HL484_5 HR482_5 HR484_5 hx482_0 hx482_1 hx482_2 hx482_3 hx482_4 hx482_5 hx484_0 hx484_1 hx484_2 hx484_3 hx484_4 hx484_5 hHeld ⊢
           refine pure_ (i := 0) (N := some 55) (v := ?_) (a' := ?_) #[true, false, false, false, false, false, false, false, false, false, false, false, false] rfl rfl (any_of HT_.out (by kernel_rfl)) (fun _ _ _ h => h) (Or.inl ⟨by rfl, ?_⟩) ?_ ?_
           rotate_left
           ·intro w'
            go_simp
            with_reducible rfl
           rotate_left
           ·simp only [Act.put, List.setIfInBounds_toArray, List.set_cons_zero, List.set_cons_succ, i64_w, i32_w]
            rfl
           refine pure_ (i := 1) (N := some 56) (v := ?_) (a' := ?_) #[true, true, false, false, false, false, false, false, false, false, false, false, false] rfl rfl (any_of HT_.out (by kernel_rfl)) (fun _ _ _ h => h) (Or.inl ⟨by rfl, ?_⟩) ?_ ?_
           rotate_left
           ·intro w'
            go_simp
            with_reducible rfl
           rotate_left
           ·simp only [Act.put, List.setIfInBounds_toArray, List.set_cons_zero, List.set_cons_succ, i64_w, i32_w]
            rfl
           refine pure_ (i := 2) (N := some 57) (v := ?_) (a' := ?_) #[true, true, true, false, false, false, false, false, false, false, false, false, false] rfl rfl (any_of HT_.out (by kernel_rfl)) (fun _ _ _ h => h) (Or.inl ⟨by rfl, ?_⟩) ?_ ?_
           rotate_left
           ·intro w'
            go_simp
            with_reducible rfl
           rotate_left
           ·simp only [Act.put, List.setIfInBounds_toArray, List.set_cons_zero, List.set_cons_succ, i64_w, i32_w]
            rfl
           refine pure_ (i := 6) (N := some 61) (v := ?_) (a' := ?_) #[true, true, true, false, false, false, true, false, false, false, false, false, false] rfl rfl (any_of HT_.out (by kernel_rfl)) (fun _ _ _ h => h) (Or.inl ⟨by rfl, ?_⟩) ?_ ?_
           rotate_left
           ·intro w'
            go_simp
            with_reducible rfl
           rotate_left
           ·simp only [Act.put, List.setIfInBounds_toArray, List.set_cons_zero, List.set_cons_succ, i64_w, i32_w]
            rfl
           refine pure_ (i := 7) (N := some 62) (v := ?_) (a' := ?_) #[true, true, true, false, false, false, true, true, false, false, false, false, false] rfl rfl (any_of HT_.out (by kernel_rfl)) (fun _ _ _ h => h) (Or.inl ⟨by rfl, ?_⟩) ?_ ?_
           rotate_left
           ·intro w'
            go_simp
            with_reducible rfl
           rotate_left
           ·simp only [Act.put, List.setIfInBounds_toArray, List.set_cons_zero, List.set_cons_succ, i64_w, i32_w]
            rfl
           refine pure_ (i := 8) (N := some 63) (v := ?_) (a' := ?_) #[true, true, true, false, false, false, true, true, true, false, false, false, false] rfl rfl (any_of HT_.out (by kernel_rfl)) (fun _ _ _ h => h) (Or.inl ⟨by rfl, ?_⟩) ?_ ?_
           rotate_left
           ·intro w'
            go_simp
            with_reducible rfl
           rotate_left
           ·simp only [Act.put, List.setIfInBounds_toArray, List.set_cons_zero, List.set_cons_succ, i64_w, i32_w]
            rfl
           refine take_ (i := 3) (N := some 58) (v := ?_) (a' := ?_) #[true, true, true, true, false, false, true, true, true, false, false, false, false] rfl rfl (take_ofW HT_.out HW_.out (by kernel_rfl)) (fun _ _ _ h => h) (Or.inl ⟨by rfl, ?_⟩) hHeld ?_ ?_
           rotate_left
           ·rintro w' ⟨s0, s1, s2, s3, s4, s5, s6, s7, s8, s9, s10, s11, s12, s13, s14, s15, s16, s17, s18, s19⟩
            go_simp
            with_reducible rfl
           rotate_left
           ·simp only [Act.put, List.setIfInBounds_toArray, List.set_cons_zero, List.set_cons_succ, i64_w, i32_w]
            rfl
           refine take_ (i := 4) (N := some 59) (v := ?_) (a' := ?_) #[true, true, true, true, true, false, true, true, true, false, false, false, false] rfl rfl (take_ofW HT_.out HW_.out (by kernel_rfl)) (fun _ _ _ h => h) (Or.inl ⟨by rfl, ?_⟩) hHeld ?_ ?_
           rotate_left
           ·rintro w' ⟨s0, s1, s2, s3, s4, s5, s6, s7, s8, s9, s10, s11, s12, s13, s14, s15, s16, s17, s18, s19⟩
            go_simp
            with_reducible rfl
           rotate_left
           ·simp only [Act.put, List.setIfInBounds_toArray, List.set_cons_zero, List.set_cons_succ, i64_w, i32_w]
            rfl
           refine take_ (i := 9) (N := some 64) (v := ?_) (a' := ?_) #[true, true, true, true, true, false, true, true, true, true, false, false, false] rfl rfl (take_ofW HT_.out HW_.out (by kernel_rfl)) (fun _ _ _ h => h) (Or.inl ⟨by rfl, ?_⟩) hHeld ?_ ?_
           rotate_left
           ·rintro w' ⟨s0, s1, s2, s3, s4, s5, s6, s7, s8, s9, s10, s11, s12, s13, s14, s15, s16, s17, s18, s19⟩
            go_simp
            with_reducible rfl
           rotate_left
           ·simp only [Act.put, List.setIfInBounds_toArray, List.set_cons_zero, List.set_cons_succ, i64_w, i32_w]
            rfl
           refine take_ (i := 10) (N := some 65) (v := ?_) (a' := ?_) #[true, true, true, true, true, false, true, true, true, true, true, false, false] rfl rfl (take_ofW HT_.out HW_.out (by kernel_rfl)) (fun _ _ _ h => h) (Or.inl ⟨by rfl, ?_⟩) hHeld ?_ ?_
           rotate_left
           ·rintro w' ⟨s0, s1, s2, s3, s4, s5, s6, s7, s8, s9, s10, s11, s12, s13, s14, s15, s16, s17, s18, s19⟩
            go_simp
            with_reducible rfl
           rotate_left
           ·simp only [Act.put, List.setIfInBounds_toArray, List.set_cons_zero, List.set_cons_succ, i64_w, i32_w]
            rfl
           refine one_ (i := 5) (N := some 60) #[true, true, true, true, true, true, true, true, true, true, true, false, false] rfl rfl (one_of HT_.out (by kernel_rfl)) (by decide) (fun K hK => ?_)
           refine goes_ Tryd.func22 (by kernel_rfl) rfl #[.agg #[.int .i64 ((rd_T24 t475 x8_2).f0), .int .i64 ((rd_T24 t475 x8_2).f1), .string ((rd_T24 t475 x8_2).f2), .int .i64 ((rd_T24 t475 x8_2).f3), .int .i64 ((rd_T24 t475 x8_2).f4), .slice A482_5 ((rd_T24 t475 x8_2).f5).length c482_5], .agg #[.slice A1_0 l1_0.length c1_0, .int .i64 a1_1, .int .i64 a1_2, .int .i64 a1_3]] (by rfl) rfl rfl (by (try simp only [List.map_toArray, List.map_cons, List.map_nil]); first | done | rfl | (simp only [List.length_drop, List.length_take]; rfl)) ?_
           with_reducible refine (sizarlaw12_holds.calls k2 ((rd_T24 t475 x8_2).f0) ((rd_T24 t475 x8_2).f1) ((rd_T24 t475 x8_2).f2) ((rd_T24 t475 x8_2).f3) ((rd_T24 t475 x8_2).f4) _ _ ((rd_T24 t475 x8_2).f5) _ _ l1_0 a1_1 a1_2 a1_3 t483 _ ?side1 ?side2 ?side3 ?side4 A80.out ?sideK).mono ?_
           (case sideK => exact HKT.out.below (by repeat (first | (with_reducible first | exact HB.out | apply below_alloc | apply pw_below_drewN | apply below_drew1 | refine below_set ?_ GE467.out | refine below_set ?_ GE468.out | refine below_set ?_ GE469.out) | exact HB.out)))
           (case side1 => repeat (first | exact (by repeat (first | (with_reducible exact HR482_5.out) | (with_reducible refine Kd.C_alloc ?_ _) | (with_reducible refine Kd.C_drewN ?_ _) | (with_reducible refine Kd.C_drew ?_) | exact HR482_5.out)) | (with_reducible refine Kd.C_alloc ?_ _) | (with_reducible refine Kd.C_drewN ?_ _) | (with_reducible refine Kd.C_drew ?_)))
           (case side2 => exact HC482_5.out)
           (case side3 => repeat (first | exact (Kd.C_below HR1_0.out HB.out) | (with_reducible refine Kd.C_alloc ?_ _) | (with_reducible refine Kd.C_drewN ?_ _) | (with_reducible refine Kd.C_drew ?_)))
           (case side4 => exact HC1_0.out)
           rintro e w91 ⟨rfl, hb⟩
           have HS8_ := (hb.cell (World.block_lt_of_cell? _ _ (hHeld.2.2.2.2.2.2.2.2.1))).trans (hHeld.2.2.2.2.2.2.2.2.1)
           have HS9_ := (hb.cell (World.block_lt_of_cell? _ _ (hHeld.2.2.2.2.2.2.2.2.2.1))).trans (hHeld.2.2.2.2.2.2.2.2.2.1)
           have HS10_ := (hb.cell (World.block_lt_of_cell? _ _ (hHeld.2.2.2.2.2.2.2.2.2.2.1))).trans (hHeld.2.2.2.2.2.2.2.2.2.2.1)
           have HS11_ := (hb.cell (World.block_lt_of_cell? _ _ (hHeld.2.2.2.2.2.2.2.2.2.2.2.1))).trans (hHeld.2.2.2.2.2.2.2.2.2.2.2.1)
           have HS12_ := (hb.cell (World.block_lt_of_cell? _ _ (hHeld.2.2.2.2.2.2.2.2.2.2.2.2.1))).trans (hHeld.2.2.2.2.2.2.2.2.2.2.2.2.1)
           have HS13_ := (hb.cell (World.block_lt_of_cell? _ _ (hHeld.2.2.2.2.2.2.2.2.2.2.2.2.2.1))).trans (hHeld.2.2.2.2.2.2.2.2.2.2.2.2.2.1)
           have HS14_ := (hb.cell (World.block_lt_of_cell? _ _ (hHeld.2.2.2.2.2.2.2.2.2.2.2.2.2.2.1))).trans (hHeld.2.2.2.2.2.2.2.2.2.2.2.2.2.2.1)
           have HS15_ := (hb.cell (World.block_lt_of_cell? _ _ (hHeld.2.2.2.2.2.2.2.2.2.2.2.2.2.2.2.1))).trans (hHeld.2.2.2.2.2.2.2.2.2.2.2.2.2.2.2.1)
           have HS16_ := (hb.cell (World.block_lt_of_cell? _ _ (hHeld.2.2.2.2.2.2.2.2.2.2.2.2.2.2.2.2.1))).trans (hHeld.2.2.2.2.2.2.2.2.2.2.2.2.2.2.2.2.1)
           have HS17_ := (hb.cell (World.block_lt_of_cell? _ _ (hHeld.2.2.2.2.2.2.2.2.2.2.2.2.2.2.2.2.2.1))).trans (hHeld.2.2.2.2.2.2.2.2.2.2.2.2.2.2.2.2.2.1)
           have HS18_ := (hb.cell (World.block_lt_of_cell? _ _ (hHeld.2.2.2.2.2.2.2.2.2.2.2.2.2.2.2.2.2.2.1))).trans (hHeld.2.2.2.2.2.2.2.2.2.2.2.2.2.2.2.2.2.2.1)
           have HS19_ := (hb.cell (World.block_lt_of_cell? _ _ (hHeld.2.2.2.2.2.2.2.2.2.2.2.2.2.2.2.2.2.2.2))).trans (hHeld.2.2.2.2.2.2.2.2.2.2.2.2.2.2.2.2.2.2.2)
           refine ⟨_, rfl, ?_⟩
           have n0_ := Aside0.mk (Kd.R_below (by (with_reducible repeat (first | apply Kd.R_alloc | apply Kd.R_drewN | apply Kd.R_drew)); exact HO_7.out) hb)
           have n1_ := Aside0.mk (Kd.R_below (by (with_reducible repeat (first | apply Kd.R_alloc | apply Kd.R_drewN | apply Kd.R_drew)); exact HL480_5.out) hb)
           have n2_ := Aside0.mk (Kd.R_below (by (with_reducible repeat (first | apply Kd.R_alloc | apply Kd.R_drewN | apply Kd.R_drew)); exact HL482_5.out) hb)
           have n3_ := Aside0.mk (Kd.R_below (by (with_reducible repeat (first | apply Kd.R_alloc | apply Kd.R_drewN | apply Kd.R_drew)); exact HL484_5.out) hb)
           have n4_ := Aside0.mk (blk_below (g := gb467) (o := .cells #[.int .i64 a0_0, .int .i64 a0_1, .string a0_2, .int .i64 a0_3, .int .i64 a0_4, .slice A0_5 l0_5.length c0_5] 24 (0, 0)) (by (with_reducible repeat (first | refine blk_drewN ?_ _ | refine blk_drew ?_ | refine blk_alloc ?_ _)); exact BK467.out) hb)
           have n5_ := Aside0.mk (blk_below (g := gb468) (o := .cells #[.slice A1_0 l1_0.length c1_0, .int .i64 a1_1, .int .i64 a1_2, .int .i64 a1_3] 29 (0, 0)) (by (with_reducible repeat (first | refine blk_drewN ?_ _ | refine blk_drew ?_ | refine blk_alloc ?_ _)); exact BK468.out) hb)
           have n6_ := Aside0.mk (blk_below (g := gb469) (o := .cells #[.slice A2_0 l2_0.length c2_0, .int .i64 a2_1, .int .i64 a2_2, .int .i64 a2_3] 29 (0, 0)) (by (with_reducible repeat (first | refine blk_drewN ?_ _ | refine blk_drew ?_ | refine blk_alloc ?_ _)); exact BK469.out) hb)
           have n7_ := Aside0.mk (Kd.C_below (by repeat (first | (with_reducible exact HR480_5.out) | (with_reducible refine Kd.C_alloc ?_ _) | (with_reducible refine Kd.C_drewN ?_ _) | (with_reducible refine Kd.C_drew ?_) | exact HR480_5.out)) hb)
           have n8_ := Aside0.mk (Kd.C_below (by repeat (first | (with_reducible exact HR482_5.out) | (with_reducible refine Kd.C_alloc ?_ _) | (with_reducible refine Kd.C_drewN ?_ _) | (with_reducible refine Kd.C_drew ?_) | exact HR482_5.out)) hb)
           have n9_ := Aside0.mk (Kd.C_below (by repeat (first | (with_reducible exact HR484_5.out) | (with_reducible refine Kd.C_alloc ?_ _) | (with_reducible refine Kd.C_drewN ?_ _) | (with_reducible refine Kd.C_drew ?_) | exact HR484_5.out)) hb)
           have n10_ := Aside0.mk (below_step (by repeat (first | (with_reducible first | exact HB.out | apply below_alloc | apply pw_below_drewN | apply below_drew1 | refine below_set ?_ GE467.out | refine below_set ?_ GE468.out | refine below_set ?_ GE469.out) | exact HB.out)) hb)
           clear HO_7
           clear HL480_5
           clear HL482_5
           clear HL484_5
           clear BK467
           clear BK468
           clear BK469
           clear HR480_5
           clear HR482_5
           clear HR484_5
           clear HB
           have HO_7 := n0_
           have HL480_5 := n1_
           have HL482_5 := n2_
           have HL484_5 := n3_
           have BK467 := n4_
           have BK468 := n5_
           have BK469 := n6_
           have HR480_5 := n7_
           have HR482_5 := n8_
           have HR484_5 := n9_
           have HB := n10_
           clear n0_ n1_ n2_ n3_ n4_ n5_ n6_ n7_ n8_ n9_ n10_
           (try clear hb)
           (try clear hb2)
           (try clear hk)
           (try clear hi)
           refine hK.out _ _ ⟨(blk_cell BK468.out 0).trans rfl, (blk_cell BK468.out 1).trans rfl, (blk_cell BK468.out 2).trans rfl, (blk_cell BK468.out 3).trans rfl, (blk_cell BK469.out 0).trans rfl, (blk_cell BK469.out 1).trans rfl, (blk_cell BK469.out 2).trans rfl, (blk_cell BK469.out 3).trans rfl, HS8_, HS9_, HS10_, HS11_, HS12_, HS13_, HS14_, HS15_, HS16_, HS17_, HS18_, HS19_⟩ (fun hHeld => ?_)
           clear hK K
           refine norm_ (a' := ?_) ?_ ?_
           rotate_left
           ·show Act.put _ (some 60) _ = _
            simp only [Act.put, List.setIfInBounds_toArray, List.set_cons_zero, List.set_cons_succ, i64_w, i32_w]
            rfl
           refine one_ (i := 11) (N := some 66) #[true, true, true, true, true, true, true, true, true, true, true, true, false] rfl rfl (one_of HT_.out (by kernel_rfl)) (by decide) (fun K hK => ?_)
           refine goes_ Tryd.func22 (by kernel_rfl) rfl #[.agg #[.int .i64 ((rd_T24 t475 x8_2).f0), .int .i64 ((rd_T24 t475 x8_2).f1), .string ((rd_T24 t475 x8_2).f2), .int .i64 ((rd_T24 t475 x8_2).f3), .int .i64 ((rd_T24 t475 x8_2).f4), .slice A482_5 ((rd_T24 t475 x8_2).f5).length c482_5], .agg #[.slice A2_0 l2_0.length c2_0, .int .i64 a2_1, .int .i64 a2_2, .int .i64 a2_3]] (by rfl) rfl rfl (by (try simp only [List.map_toArray, List.map_cons, List.map_nil]); first | done | rfl | (simp only [List.length_drop, List.length_take]; rfl)) ?_
           with_reducible refine (sizarlaw12_holds.calls k2 ((rd_T24 t475 x8_2).f0) ((rd_T24 t475 x8_2).f1) ((rd_T24 t475 x8_2).f2) ((rd_T24 t475 x8_2).f3) ((rd_T24 t475 x8_2).f4) _ _ ((rd_T24 t475 x8_2).f5) _ _ l2_0 a2_1 a2_2 a2_3 t485 _ ?side1 ?side2 ?side3 ?side4 A81.out ?sideK).mono ?_
           (case sideK => exact HKT.out.below (by repeat (first | (with_reducible first | exact HB.out | apply below_alloc | apply pw_below_drewN | apply below_drew1 | refine below_set ?_ GE467.out | refine below_set ?_ GE468.out | refine below_set ?_ GE469.out) | exact HB.out)))
           (case side1 => repeat (first | exact (by repeat (first | (with_reducible exact HR484_5.out) | (with_reducible refine Kd.C_alloc ?_ _) | (with_reducible refine Kd.C_drewN ?_ _) | (with_reducible refine Kd.C_drew ?_) | exact HR484_5.out)) | (with_reducible refine Kd.C_alloc ?_ _) | (with_reducible refine Kd.C_drewN ?_ _) | (with_reducible refine Kd.C_drew ?_)))
           (case side2 => exact HC484_5.out)
           (case side3 => repeat (first | exact (Kd.C_below HR2_0.out HB.out) | (with_reducible refine Kd.C_alloc ?_ _) | (with_reducible refine Kd.C_drewN ?_ _) | (with_reducible refine Kd.C_drew ?_)))
           (case side4 => exact HC2_0.out)
           rintro e w92 ⟨rfl, hb⟩
           have HS8_ := (hb.cell (World.block_lt_of_cell? _ _ (hHeld.2.2.2.2.2.2.2.2.1))).trans (hHeld.2.2.2.2.2.2.2.2.1)
           have HS9_ := (hb.cell (World.block_lt_of_cell? _ _ (hHeld.2.2.2.2.2.2.2.2.2.1))).trans (hHeld.2.2.2.2.2.2.2.2.2.1)
           have HS10_ := (hb.cell (World.block_lt_of_cell? _ _ (hHeld.2.2.2.2.2.2.2.2.2.2.1))).trans (hHeld.2.2.2.2.2.2.2.2.2.2.1)
           have HS11_ := (hb.cell (World.block_lt_of_cell? _ _ (hHeld.2.2.2.2.2.2.2.2.2.2.2.1))).trans (hHeld.2.2.2.2.2.2.2.2.2.2.2.1)
           have HS12_ := (hb.cell (World.block_lt_of_cell? _ _ (hHeld.2.2.2.2.2.2.2.2.2.2.2.2.1))).trans (hHeld.2.2.2.2.2.2.2.2.2.2.2.2.1)
           have HS13_ := (hb.cell (World.block_lt_of_cell? _ _ (hHeld.2.2.2.2.2.2.2.2.2.2.2.2.2.1))).trans (hHeld.2.2.2.2.2.2.2.2.2.2.2.2.2.1)
           have HS14_ := (hb.cell (World.block_lt_of_cell? _ _ (hHeld.2.2.2.2.2.2.2.2.2.2.2.2.2.2.1))).trans (hHeld.2.2.2.2.2.2.2.2.2.2.2.2.2.2.1)
           have HS15_ := (hb.cell (World.block_lt_of_cell? _ _ (hHeld.2.2.2.2.2.2.2.2.2.2.2.2.2.2.2.1))).trans (hHeld.2.2.2.2.2.2.2.2.2.2.2.2.2.2.2.1)
           have HS16_ := (hb.cell (World.block_lt_of_cell? _ _ (hHeld.2.2.2.2.2.2.2.2.2.2.2.2.2.2.2.2.1))).trans (hHeld.2.2.2.2.2.2.2.2.2.2.2.2.2.2.2.2.1)
           have HS17_ := (hb.cell (World.block_lt_of_cell? _ _ (hHeld.2.2.2.2.2.2.2.2.2.2.2.2.2.2.2.2.2.1))).trans (hHeld.2.2.2.2.2.2.2.2.2.2.2.2.2.2.2.2.2.1)
           have HS18_ := (hb.cell (World.block_lt_of_cell? _ _ (hHeld.2.2.2.2.2.2.2.2.2.2.2.2.2.2.2.2.2.2.1))).trans (hHeld.2.2.2.2.2.2.2.2.2.2.2.2.2.2.2.2.2.2.1)
           have HS19_ := (hb.cell (World.block_lt_of_cell? _ _ (hHeld.2.2.2.2.2.2.2.2.2.2.2.2.2.2.2.2.2.2.2))).trans (hHeld.2.2.2.2.2.2.2.2.2.2.2.2.2.2.2.2.2.2.2)
           refine ⟨_, rfl, ?_⟩
           have n0_ := Aside0.mk (Kd.R_below (by (with_reducible repeat (first | apply Kd.R_alloc | apply Kd.R_drewN | apply Kd.R_drew)); exact HO_7.out) hb)
           have n1_ := Aside0.mk (Kd.R_below (by (with_reducible repeat (first | apply Kd.R_alloc | apply Kd.R_drewN | apply Kd.R_drew)); exact HL480_5.out) hb)
           have n2_ := Aside0.mk (Kd.R_below (by (with_reducible repeat (first | apply Kd.R_alloc | apply Kd.R_drewN | apply Kd.R_drew)); exact HL482_5.out) hb)
           have n3_ := Aside0.mk (Kd.R_below (by (with_reducible repeat (first | apply Kd.R_alloc | apply Kd.R_drewN | apply Kd.R_drew)); exact HL484_5.out) hb)
           have n4_ := Aside0.mk (blk_below (g := gb467) (o := .cells #[.int .i64 a0_0, .int .i64 a0_1, .string a0_2, .int .i64 a0_3, .int .i64 a0_4, .slice A0_5 l0_5.length c0_5] 24 (0, 0)) (by (with_reducible repeat (first | refine blk_drewN ?_ _ | refine blk_drew ?_ | refine blk_alloc ?_ _)); exact BK467.out) hb)
           have n5_ := Aside0.mk (blk_below (g := gb468) (o := .cells #[.slice A1_0 l1_0.length c1_0, .int .i64 a1_1, .int .i64 a1_2, .int .i64 a1_3] 29 (0, 0)) (by (with_reducible repeat (first | refine blk_drewN ?_ _ | refine blk_drew ?_ | refine blk_alloc ?_ _)); exact BK468.out) hb)
           have n6_ := Aside0.mk (blk_below (g := gb469) (o := .cells #[.slice A2_0 l2_0.length c2_0, .int .i64 a2_1, .int .i64 a2_2, .int .i64 a2_3] 29 (0, 0)) (by (with_reducible repeat (first | refine blk_drewN ?_ _ | refine blk_drew ?_ | refine blk_alloc ?_ _)); exact BK469.out) hb)
           have n7_ := Aside0.mk (Kd.C_below (by repeat (first | (with_reducible exact HR480_5.out) | (with_reducible refine Kd.C_alloc ?_ _) | (with_reducible refine Kd.C_drewN ?_ _) | (with_reducible refine Kd.C_drew ?_) | exact HR480_5.out)) hb)
           have n8_ := Aside0.mk (Kd.C_below (by repeat (first | (with_reducible exact HR482_5.out) | (with_reducible refine Kd.C_alloc ?_ _) | (with_reducible refine Kd.C_drewN ?_ _) | (with_reducible refine Kd.C_drew ?_) | exact HR482_5.out)) hb)
           have n9_ := Aside0.mk (Kd.C_below (by repeat (first | (with_reducible exact HR484_5.out) | (with_reducible refine Kd.C_alloc ?_ _) | (with_reducible refine Kd.C_drewN ?_ _) | (with_reducible refine Kd.C_drew ?_) | exact HR484_5.out)) hb)
           have n10_ := Aside0.mk (below_step (by repeat (first | (with_reducible first | exact HB.out | apply below_alloc | apply pw_below_drewN | apply below_drew1 | refine below_set ?_ GE467.out | refine below_set ?_ GE468.out | refine below_set ?_ GE469.out) | exact HB.out)) hb)
           clear HO_7
           clear HL480_5
           clear HL482_5
           clear HL484_5
           clear BK467
           clear BK468
           clear BK469
           clear HR480_5
           clear HR482_5
           clear HR484_5
           clear HB
           have HO_7 := n0_
           have HL480_5 := n1_
           have HL482_5 := n2_
           have HL484_5 := n3_
           have BK467 := n4_
           have BK468 := n5_
           have BK469 := n6_
           have HR480_5 := n7_
           have HR482_5 := n8_
           have HR484_5 := n9_
           have HB := n10_
           clear n0_ n1_ n2_ n3_ n4_ n5_ n6_ n7_ n8_ n9_ n10_
           (try clear hb)
           (try clear hb2)
           (try clear hk)
           (try clear hi)
           refine hK.out _ _ ⟨(blk_cell BK468.out 0).trans rfl, (blk_cell BK468.out 1).trans rfl, (blk_cell BK468.out 2).trans rfl, (blk_cell BK468.out 3).trans rfl, (blk_cell BK469.out 0).trans rfl, (blk_cell BK469.out 1).trans rfl, (blk_cell BK469.out 2).trans rfl, (blk_cell BK469.out 3).trans rfl, HS8_, HS9_, HS10_, HS11_, HS12_, HS13_, HS14_, HS15_, HS16_, HS17_, HS18_, HS19_⟩ (fun hHeld => ?_)
           clear hK K
           refine norm_ (a' := ?_) ?_ ?_
           rotate_left
           ·show Act.put _ (some 66) _ = _
            simp only [Act.put, List.setIfInBounds_toArray, List.set_cons_zero, List.set_cons_succ, i64_w, i32_w]
            rfl
           refine pure_ (i := 12) (N := some 67) (v := ?_) (a' := ?_) #[true, true, true, true, true, true, true, true, true, true, true, true, true] rfl rfl (any_of HT_.out (by kernel_rfl)) (fun _ _ _ h => h) (Or.inl ⟨by rfl, ?_⟩) ?_ ?_
           rotate_left
           ·intro w'
            go_simp
            with_reducible rfl
           rotate_left
           ·simp only [Act.put, List.setIfInBounds_toArray, List.set_cons_zero, List.set_cons_succ, i64_w, i32_w]
            rfl
           refine done_ (done_of HT_.out (by kernel_rfl)) ?_
           try go_wp2
           go_roundg k2
           case measure => have := HJ5.out; have := HK2.out; omega
           case rel => exact ⟨(wrap64 (x8_2 + 1)), (by first | rfl | (simp; done) | (simp [*]; done)), H', ⟨by have := HJ5.out; have := HK2.out; omega⟩, ⟨by (with_reducible repeat (first | apply Kd.R_alloc | apply Kd.R_drewN | apply Kd.R_drew)); exact HO_7.out⟩, ⟨by (with_reducible repeat (first | refine blk_drewN ?_ _ | refine blk_drew ?_ | refine blk_alloc ?_ _)); exact BK467.out⟩, ⟨by (with_reducible repeat (first | refine blk_drewN ?_ _ | refine blk_drew ?_ | refine blk_alloc ?_ _)); exact BK468.out⟩, ⟨by (with_reducible repeat (first | refine blk_drewN ?_ _ | refine blk_drew ?_ | refine blk_alloc ?_ _)); exact BK469.out⟩, ⟨by repeat (first | (with_reducible first | exact HB.out | apply below_alloc | apply pw_below_drewN | apply below_drew1 | refine below_set ?_ GE467.out | refine below_set ?_ GE468.out | refine below_set ?_ GE469.out) | exact HB.out)⟩⟩
         ·rw [if_neg c79] at H
          have c79b0 : (t481 == 0) = false := beq_eq_false_iff_ne.mpr c79
          have c79b1 : (t481 != 0) = true := bne_iff_ne.mpr c79
          obtain rfl := Option.some.inj H
          obtain ⟨Ao93, co93, eo93⟩ := Kd.R_slice HO_7.out
          subst eo93
          have p480 : 0 ≤ (x8_2 : Int) := of_decide_eq_true (by first | (with_reducible assumption) | assumption)
          have q480 : x8_2 < (t475.length : Int) := of_decide_eq_true (by first | (with_reducible assumption) | assumption)
          obtain ⟨ad480, A480_5, c480_5, e480, hx480_0, hx480_1, hx480_2, hx480_3, hx480_4, hx480_5, hl480_5, hi480_5⟩ := at_T24 (Kd.R_reads' HO_7.out).2.2 x8_2 p480 q480
          cases e480
          obtain ⟨ce480, hce480, hMe480, hcc480⟩ := Kd.R_get HO_7.out z24 x8_2 p480 (by first | exact q480 | exact of_decide_eq_true (by first | (with_reducible assumption) | assumption) | (have e_ := (Kd.R_reads' HO_7.out).1; omega))
          obtain ⟨ve480_5, rfl, ge480_5⟩ := k24_openM hMe480
          have hv480_5 := hcc480 5 _ rfl
          rw [add_field _ _ 5 (by omega)] at hv480_5
          replace hv480_5 := Option.some.inj (hv480_5.symm.trans hx480_5)
          rw [hv480_5] at ge480_5
          have HL480_5 := Aside0.mk (show Kd.R k24 24 _ _ _ _ ((rd_T24 t475 x8_2).f5) from ge480_5)
          clear hv480_5 ge480_5
          clear hcc480 hce480
          have HR480_5 := Aside0.mk hi480_5
          have HC480_5 := Aside0.mk hl480_5
          clear hi480_5 hl480_5
          replace p480 := eq_true p480
          replace q480 := eq_true q480
          go_wp2_with (first | ((with_reducible refine gate_callee (f := 20) rfl ?_); refine goesL_ (some 53) rfl rfl Tryd.func20 (by kernel_rfl) rfl #[.agg #[.int .i64 ((rd_T24 t475 x8_2).f0), .int .i64 ((rd_T24 t475 x8_2).f1), .string ((rd_T24 t475 x8_2).f2), .int .i64 ((rd_T24 t475 x8_2).f3), .int .i64 ((rd_T24 t475 x8_2).f4), .slice A480_5 ((rd_T24 t475 x8_2).f5).length c480_5]] rfl (by (try simp only [List.map_toArray, List.map_cons, List.map_nil]); first | done | rfl | (simp only [List.length_drop, List.length_take]; rfl)) ?_; (with_reducible refine (rules_Check.calls ((rd_T24 t475 x8_2).f0) ((rd_T24 t475 x8_2).f1) ((rd_T24 t475 x8_2).f2) ((rd_T24 t475 x8_2).f3) ((rd_T24 t475 x8_2).f4) _ _ ((rd_T24 t475 x8_2).f5) t481 _ ?side1 ?side2 A78.out ?sideK).mono ?_); (case sideK => exact HKT.out.below (by repeat (first | (with_reducible first | exact HB.out | apply below_alloc | apply pw_below_drewN | apply below_drew1 | refine below_set ?_ GE467.out | refine below_set ?_ GE468.out | refine below_set ?_ GE469.out) | exact HB.out))); (case side1 => repeat (first | exact (by repeat (first | (with_reducible exact HR480_5.out) | (with_reducible refine Kd.C_alloc ?_ _) | (with_reducible refine Kd.C_drewN ?_ _) | (with_reducible refine Kd.C_drew ?_) | exact HR480_5.out)) | (with_reducible refine Kd.C_alloc ?_ _) | (with_reducible refine Kd.C_drewN ?_ _) | (with_reducible refine Kd.C_drew ?_))); (case side2 => exact HC480_5.out); rintro e w94 ⟨rfl, hb⟩; refine ⟨_, rfl, ?_⟩; have n0_ := Aside0.mk (Kd.R_below (by (with_reducible repeat (first | apply Kd.R_alloc | apply Kd.R_drewN | apply Kd.R_drew)); exact HO_7.out) hb); have n1_ := Aside0.mk (Kd.R_below (by (with_reducible repeat (first | apply Kd.R_alloc | apply Kd.R_drewN | apply Kd.R_drew)); exact HL480_5.out) hb); have n2_ := Aside0.mk (blk_below (g := gb467) (o := .cells #[.int .i64 a0_0, .int .i64 a0_1, .string a0_2, .int .i64 a0_3, .int .i64 a0_4, .slice A0_5 l0_5.length c0_5] 24 (0, 0)) (by (with_reducible repeat (first | refine blk_drewN ?_ _ | refine blk_drew ?_ | refine blk_alloc ?_ _)); exact BK467.out) hb); have n3_ := Aside0.mk (blk_below (g := gb468) (o := .cells #[.slice A1_0 l1_0.length c1_0, .int .i64 a1_1, .int .i64 a1_2, .int .i64 a1_3] 29 (0, 0)) (by (with_reducible repeat (first | refine blk_drewN ?_ _ | refine blk_drew ?_ | refine blk_alloc ?_ _)); exact BK468.out) hb); have n4_ := Aside0.mk (blk_below (g := gb469) (o := .cells #[.slice A2_0 l2_0.length c2_0, .int .i64 a2_1, .int .i64 a2_2, .int .i64 a2_3] 29 (0, 0)) (by (with_reducible repeat (first | refine blk_drewN ?_ _ | refine blk_drew ?_ | refine blk_alloc ?_ _)); exact BK469.out) hb); have n5_ := Aside0.mk (Kd.C_below (by repeat (first | (with_reducible exact HR480_5.out) | (with_reducible refine Kd.C_alloc ?_ _) | (with_reducible refine Kd.C_drewN ?_ _) | (with_reducible refine Kd.C_drew ?_) | exact HR480_5.out)) hb); have n6_ := Aside0.mk (below_step (by repeat (first | (with_reducible first | exact HB.out | apply below_alloc | apply pw_below_drewN | apply below_drew1 | refine below_set ?_ GE467.out | refine below_set ?_ GE468.out | refine below_set ?_ GE469.out) | exact HB.out)) hb); clear HO_7; clear HL480_5; clear BK467; clear BK468; clear BK469; clear HR480_5; clear HB; have HO_7 := n0_; have HL480_5 := n1_; have BK467 := n2_; have BK468 := n3_; have BK469 := n4_; have HR480_5 := n5_; have HB := n6_; clear n0_ n1_ n2_ n3_ n4_ n5_ n6_; (try clear hb); (try clear hb2); (try clear hk); (try clear hi)))
          go_ret
          exact ⟨by first | rfl | (simp [errW_none, errW_some] <;> rfl) | (simp [*, errW_none, errW_some] <;> rfl), by repeat (first | (with_reducible first | exact HB.out | apply below_alloc | apply pw_below_drewN | apply below_drew1 | refine below_set ?_ GE467.out | refine below_set ?_ GE468.out | refine below_set ?_ GE469.out) | exact HB.out)⟩
        ·rw [if_neg c77] at H
         exact absurd H (by simp)
       ·rw [if_neg c76] at H
        have c76b0 : decide (x8_2 < (t475.length : Int)) = false := decide_eq_false c76
        clear c76
        replace H := Option.bind_eq_some_iff.mp H
        obtain ⟨t478, A950, H⟩ := H
        replace H : ((sizarlaw12_holds.f k2 a0_0 a0_1 a0_2 a0_3 a0_4 l0_5 l2_0 a2_1 a2_2 a2_3).bind fun t479 => (some (t478 == t479))) = some r := H
        have A95 := Aside0.mk A950
        clear A950
        replace H := Option.bind_eq_some_iff.mp H
        obtain ⟨t479, A960, H⟩ := H
        replace H : (some (t478 == t479)) = some r := H
        have A96 := Aside0.mk A960
        clear A960
        obtain rfl := Option.some.inj H
        obtain ⟨Ao97, co97, eo97⟩ := Kd.R_slice HO_7.out
        subst eo97
        try go_wp2
        have n0_ := Aside0.mk (Kd.R_drew HO_7.out)
        have n1_ := Aside0.mk (blk_drew BK467.out)
        have n2_ := Aside0.mk (blk_drew BK468.out)
        have n3_ := Aside0.mk (blk_drew BK469.out)
        have n4_ := Aside0.mk (below_drew1 HB.out)
        clear HO_7
        clear BK467
        clear BK468
        clear BK469
        clear HB
        have HO_7 := n0_
        have BK467 := n1_
        have BK468 := n2_
        have BK469 := n3_
        have HB := n4_
        clear n0_ n1_ n2_ n3_ n4_
        refine start_ (n := 8) (S := fun w' => w'.cell? ⟨gb467, 0, none⟩ = some (.int .i64 a0_0) ∧ w'.cell? ⟨gb467, 1, none⟩ = some (.int .i64 a0_1) ∧ w'.cell? ⟨gb467, 2, none⟩ = some (.string a0_2) ∧ w'.cell? ⟨gb467, 3, none⟩ = some (.int .i64 a0_3) ∧ w'.cell? ⟨gb467, 4, none⟩ = some (.int .i64 a0_4) ∧ w'.cell? ⟨gb467, 5, none⟩ = some (.slice A0_5 l0_5.length c0_5) ∧ w'.cell? ⟨gb468, 0, none⟩ = some (.slice A1_0 l1_0.length c1_0) ∧ w'.cell? ⟨gb468, 1, none⟩ = some (.int .i64 a1_1) ∧ w'.cell? ⟨gb468, 2, none⟩ = some (.int .i64 a1_2) ∧ w'.cell? ⟨gb468, 3, none⟩ = some (.int .i64 a1_3) ∧ w'.cell? ⟨gb469, 0, none⟩ = some (.slice A2_0 l2_0.length c2_0) ∧ w'.cell? ⟨gb469, 1, none⟩ = some (.int .i64 a2_1) ∧ w'.cell? ⟨gb469, 2, none⟩ = some (.int .i64 a2_2) ∧ w'.cell? ⟨gb469, 3, none⟩ = some (.int .i64 a2_3)) (ds := []) #[false, false, false, false, false, false, false, false] (by kernel_rfl) rfl rfl ⟨(blk_cell BK467.out 0).trans rfl, (blk_cell BK467.out 1).trans rfl, (blk_cell BK467.out 2).trans rfl, (blk_cell BK467.out 3).trans rfl, (blk_cell BK467.out 4).trans rfl, (blk_cell BK467.out 5).trans rfl, (blk_cell BK468.out 0).trans rfl, (blk_cell BK468.out 1).trans rfl, (blk_cell BK468.out 2).trans rfl, (blk_cell BK468.out 3).trans rfl, (blk_cell BK469.out 0).trans rfl, (blk_cell BK469.out 1).trans rfl, (blk_cell BK469.out 2).trans rfl, (blk_cell BK469.out 3).trans rfl⟩ (fun hHeld => ?_); refine with_tabW sizarlaw12_RulesAtoms.tab13 sizarlaw12_RulesAtoms.bits13 (fun HT_ HW_ => ?_)
        generalize wr.drew = w98 at HO_7 BK467 BK468 BK469 HB hHeld ⊢
        refine take_ (i := 0) (N := some 68) (v := ?_) (a' := ?_) #[true, false, false, false, false, false, false, false] rfl rfl (take_ofW HT_.out HW_.out (by kernel_rfl)) (fun _ _ _ h => h) (Or.inl ⟨by rfl, ?_⟩) hHeld ?_ ?_
        rotate_left
        ·rintro w' ⟨s0, s1, s2, s3, s4, s5, s6, s7, s8, s9, s10, s11, s12, s13⟩
         go_simp
         with_reducible rfl
        rotate_left
        ·simp only [Act.put, List.setIfInBounds_toArray, List.set_cons_zero, List.set_cons_succ, i64_w, i32_w]
         rfl
        refine take_ (i := 1) (N := some 69) (v := ?_) (a' := ?_) #[true, true, false, false, false, false, false, false] rfl rfl (take_ofW HT_.out HW_.out (by kernel_rfl)) (fun _ _ _ h => h) (Or.inl ⟨by rfl, ?_⟩) hHeld ?_ ?_
        rotate_left
        ·rintro w' ⟨s0, s1, s2, s3, s4, s5, s6, s7, s8, s9, s10, s11, s12, s13⟩
         go_simp
         with_reducible rfl
        rotate_left
        ·simp only [Act.put, List.setIfInBounds_toArray, List.set_cons_zero, List.set_cons_succ, i64_w, i32_w]
         rfl
        refine take_ (i := 3) (N := some 71) (v := ?_) (a' := ?_) #[true, true, false, true, false, false, false, false] rfl rfl (take_ofW HT_.out HW_.out (by kernel_rfl)) (fun _ _ _ h => h) (Or.inl ⟨by rfl, ?_⟩) hHeld ?_ ?_
        rotate_left
        ·rintro w' ⟨s0, s1, s2, s3, s4, s5, s6, s7, s8, s9, s10, s11, s12, s13⟩
         go_simp
         with_reducible rfl
        rotate_left
        ·simp only [Act.put, List.setIfInBounds_toArray, List.set_cons_zero, List.set_cons_succ, i64_w, i32_w]
         rfl
        refine take_ (i := 4) (N := some 72) (v := ?_) (a' := ?_) #[true, true, false, true, true, false, false, false] rfl rfl (take_ofW HT_.out HW_.out (by kernel_rfl)) (fun _ _ _ h => h) (Or.inl ⟨by rfl, ?_⟩) hHeld ?_ ?_
        rotate_left
        ·rintro w' ⟨s0, s1, s2, s3, s4, s5, s6, s7, s8, s9, s10, s11, s12, s13⟩
         go_simp
         with_reducible rfl
        rotate_left
        ·simp only [Act.put, List.setIfInBounds_toArray, List.set_cons_zero, List.set_cons_succ, i64_w, i32_w]
         rfl
        refine one_ (i := 2) (N := some 70) #[true, true, true, true, true, false, false, false] rfl rfl (one_of HT_.out (by kernel_rfl)) (by decide) (fun K hK => ?_)
        refine goes_ Tryd.func22 (by kernel_rfl) rfl #[.agg #[.int .i64 a0_0, .int .i64 a0_1, .string a0_2, .int .i64 a0_3, .int .i64 a0_4, .slice A0_5 l0_5.length c0_5], .agg #[.slice A1_0 l1_0.length c1_0, .int .i64 a1_1, .int .i64 a1_2, .int .i64 a1_3]] (by rfl) rfl rfl (by (try simp only [List.map_toArray, List.map_cons, List.map_nil]); first | done | rfl | (simp only [List.length_drop, List.length_take]; rfl)) ?_
        with_reducible refine (sizarlaw12_holds.calls k2 a0_0 a0_1 a0_2 a0_3 a0_4 _ _ l0_5 _ _ l1_0 a1_1 a1_2 a1_3 t478 _ ?side1 ?side2 ?side3 ?side4 A95.out ?sideK).mono ?_
        (case sideK => exact HKT.out.below (by repeat (first | (with_reducible first | exact HB.out | apply below_alloc | apply pw_below_drewN | apply below_drew1 | refine below_set ?_ GE467.out | refine below_set ?_ GE468.out | refine below_set ?_ GE469.out) | exact HB.out)))
        (case side1 => repeat (first | exact (Kd.C_below HR0_5.out HB.out) | (with_reducible refine Kd.C_alloc ?_ _) | (with_reducible refine Kd.C_drewN ?_ _) | (with_reducible refine Kd.C_drew ?_)))
        (case side2 => exact HC0_5.out)
        (case side3 => repeat (first | exact (Kd.C_below HR1_0.out HB.out) | (with_reducible refine Kd.C_alloc ?_ _) | (with_reducible refine Kd.C_drewN ?_ _) | (with_reducible refine Kd.C_drew ?_)))
        (case side4 => exact HC1_0.out)
        rintro e w99 ⟨rfl, hb⟩
        refine ⟨_, rfl, ?_⟩
        have n0_ := Aside0.mk (Kd.R_below (by (with_reducible repeat (first | apply Kd.R_alloc | apply Kd.R_drewN | apply Kd.R_drew)); exact HO_7.out) hb)
        have n1_ := Aside0.mk (blk_below (g := gb467) (o := .cells #[.int .i64 a0_0, .int .i64 a0_1, .string a0_2, .int .i64 a0_3, .int .i64 a0_4, .slice A0_5 l0_5.length c0_5] 24 (0, 0)) (by (with_reducible repeat (first | refine blk_drewN ?_ _ | refine blk_drew ?_ | refine blk_alloc ?_ _)); exact BK467.out) hb)
        have n2_ := Aside0.mk (blk_below (g := gb468) (o := .cells #[.slice A1_0 l1_0.length c1_0, .int .i64 a1_1, .int .i64 a1_2, .int .i64 a1_3] 29 (0, 0)) (by (with_reducible repeat (first | refine blk_drewN ?_ _ | refine blk_drew ?_ | refine blk_alloc ?_ _)); exact BK468.out) hb)
        have n3_ := Aside0.mk (blk_below (g := gb469) (o := .cells #[.slice A2_0 l2_0.length c2_0, .int .i64 a2_1, .int .i64 a2_2, .int .i64 a2_3] 29 (0, 0)) (by (with_reducible repeat (first | refine blk_drewN ?_ _ | refine blk_drew ?_ | refine blk_alloc ?_ _)); exact BK469.out) hb)
        have n4_ := Aside0.mk (below_step (by repeat (first | (with_reducible first | exact HB.out | apply below_alloc | apply pw_below_drewN | apply below_drew1 | refine below_set ?_ GE467.out | refine below_set ?_ GE468.out | refine below_set ?_ GE469.out) | exact HB.out)) hb)
        clear HO_7
        clear BK467
        clear BK468
        clear BK469
        clear HB
        have HO_7 := n0_
        have BK467 := n1_
        have BK468 := n2_
        have BK469 := n3_
        have HB := n4_
        clear n0_ n1_ n2_ n3_ n4_
        (try clear hb)
        (try clear hb2)
        (try clear hk)
        (try clear hi)
        refine hK.out _ _ ⟨(blk_cell BK467.out 0).trans rfl, (blk_cell BK467.out 1).trans rfl, (blk_cell BK467.out 2).trans rfl, (blk_cell BK467.out 3).trans rfl, (blk_cell BK467.out 4).trans rfl, (blk_cell BK467.out 5).trans rfl, (blk_cell BK468.out 0).trans rfl, (blk_cell BK468.out 1).trans rfl, (blk_cell BK468.out 2).trans rfl, (blk_cell BK468.out 3).trans rfl, (blk_cell BK469.out 0).trans rfl, (blk_cell BK469.out 1).trans rfl, (blk_cell BK469.out 2).trans rfl, (blk_cell BK469.out 3).trans rfl⟩ (fun hHeld => ?_)
        clear hK K
        refine norm_ (a' := ?_) ?_ ?_
        rotate_left
        ·show Act.put _ (some 70) _ = _
         simp only [Act.put, List.setIfInBounds_toArray, List.set_cons_zero, List.set_cons_succ, i64_w, i32_w]
         rfl
        refine one_ (i := 5) (N := some 73) #[true, true, true, true, true, true, false, false] rfl rfl (one_of HT_.out (by kernel_rfl)) (by decide) (fun K hK => ?_)
        refine goes_ Tryd.func22 (by kernel_rfl) rfl #[.agg #[.int .i64 a0_0, .int .i64 a0_1, .string a0_2, .int .i64 a0_3, .int .i64 a0_4, .slice A0_5 l0_5.length c0_5], .agg #[.slice A2_0 l2_0.length c2_0, .int .i64 a2_1, .int .i64 a2_2, .int .i64 a2_3]] (by rfl) rfl rfl (by (try simp only [List.map_toArray, List.map_cons, List.map_nil]); first | done | rfl | (simp only [List.length_drop, List.length_take]; rfl)) ?_
        with_reducible refine (sizarlaw12_holds.calls k2 a0_0 a0_1 a0_2 a0_3 a0_4 _ _ l0_5 _ _ l2_0 a2_1 a2_2 a2_3 t479 _ ?side1 ?side2 ?side3 ?side4 A96.out ?sideK).mono ?_
        (case sideK => exact HKT.out.below (by repeat (first | (with_reducible first | exact HB.out | apply below_alloc | apply pw_below_drewN | apply below_drew1 | refine below_set ?_ GE467.out | refine below_set ?_ GE468.out | refine below_set ?_ GE469.out) | exact HB.out)))
        (case side1 => repeat (first | exact (Kd.C_below HR0_5.out HB.out) | (with_reducible refine Kd.C_alloc ?_ _) | (with_reducible refine Kd.C_drewN ?_ _) | (with_reducible refine Kd.C_drew ?_)))
        (case side2 => exact HC0_5.out)
        (case side3 => repeat (first | exact (Kd.C_below HR2_0.out HB.out) | (with_reducible refine Kd.C_alloc ?_ _) | (with_reducible refine Kd.C_drewN ?_ _) | (with_reducible refine Kd.C_drew ?_)))
        (case side4 => exact HC2_0.out)
        rintro e w100 ⟨rfl, hb⟩
        refine ⟨_, rfl, ?_⟩
        have n0_ := Aside0.mk (Kd.R_below (by (with_reducible repeat (first | apply Kd.R_alloc | apply Kd.R_drewN | apply Kd.R_drew)); exact HO_7.out) hb)
        have n1_ := Aside0.mk (blk_below (g := gb467) (o := .cells #[.int .i64 a0_0, .int .i64 a0_1, .string a0_2, .int .i64 a0_3, .int .i64 a0_4, .slice A0_5 l0_5.length c0_5] 24 (0, 0)) (by (with_reducible repeat (first | refine blk_drewN ?_ _ | refine blk_drew ?_ | refine blk_alloc ?_ _)); exact BK467.out) hb)
        have n2_ := Aside0.mk (blk_below (g := gb468) (o := .cells #[.slice A1_0 l1_0.length c1_0, .int .i64 a1_1, .int .i64 a1_2, .int .i64 a1_3] 29 (0, 0)) (by (with_reducible repeat (first | refine blk_drewN ?_ _ | refine blk_drew ?_ | refine blk_alloc ?_ _)); exact BK468.out) hb)
        have n3_ := Aside0.mk (blk_below (g := gb469) (o := .cells #[.slice A2_0 l2_0.length c2_0, .int .i64 a2_1, .int .i64 a2_2, .int .i64 a2_3] 29 (0, 0)) (by (with_reducible repeat (first | refine blk_drewN ?_ _ | refine blk_drew ?_ | refine blk_alloc ?_ _)); exact BK469.out) hb)
        have n4_ := Aside0.mk (below_step (by repeat (first | (with_reducible first | exact HB.out | apply below_alloc | apply pw_below_drewN | apply below_drew1 | refine below_set ?_ GE467.out | refine below_set ?_ GE468.out | refine below_set ?_ GE469.out) | exact HB.out)) hb)
        clear HO_7
        clear BK467
        clear BK468
        clear BK469
        clear HB
        have HO_7 := n0_
        have BK467 := n1_
        have BK468 := n2_
        have BK469 := n3_
        have HB := n4_
        clear n0_ n1_ n2_ n3_ n4_
        (try clear hb)
        (try clear hb2)
        (try clear hk)
        (try clear hi)
        refine hK.out _ _ ⟨(blk_cell BK467.out 0).trans rfl, (blk_cell BK467.out 1).trans rfl, (blk_cell BK467.out 2).trans rfl, (blk_cell BK467.out 3).trans rfl, (blk_cell BK467.out 4).trans rfl, (blk_cell BK467.out 5).trans rfl, (blk_cell BK468.out 0).trans rfl, (blk_cell BK468.out 1).trans rfl, (blk_cell BK468.out 2).trans rfl, (blk_cell BK468.out 3).trans rfl, (blk_cell BK469.out 0).trans rfl, (blk_cell BK469.out 1).trans rfl, (blk_cell BK469.out 2).trans rfl, (blk_cell BK469.out 3).trans rfl⟩ (fun hHeld => ?_)
        clear hK K
        refine norm_ (a' := ?_) ?_ ?_
        rotate_left
        ·show Act.put _ (some 73) _ = _
         simp only [Act.put, List.setIfInBounds_toArray, List.set_cons_zero, List.set_cons_succ, i64_w, i32_w]
         rfl
        refine pure_ (i := 6) (N := some 74) (v := ?_) (a' := ?_) #[true, true, true, true, true, true, true, false] rfl rfl (any_of HT_.out (by kernel_rfl)) (fun _ _ _ h => h) (Or.inl ⟨by rfl, ?_⟩) ?_ ?_
        rotate_left
        ·intro w'
         go_simp
         with_reducible rfl
        rotate_left
        ·simp only [Act.put, List.setIfInBounds_toArray, List.set_cons_zero, List.set_cons_succ, i64_w, i32_w]
         rfl
        refine pure_ (i := 7) (N := some 6) (v := ?_) (a' := ?_) #[true, true, true, true, true, true, true, true] rfl rfl (any_of HT_.out (by kernel_rfl)) (fun _ _ _ h => h) (Or.inl ⟨by rfl, ?_⟩) ?_ ?_
        rotate_left
        ·intro w'
         go_simp
         with_reducible rfl
        rotate_left
        ·simp only [Act.put, List.setIfInBounds_toArray, List.set_cons_zero, List.set_cons_succ, i64_w, i32_w]
         rfl
        refine done_ (done_of HT_.out (by kernel_rfl)) ?_
        try go_wp2
        go_ret
        exact ⟨by first | rfl | (simp [errW_none, errW_some] <;> rfl) | (simp [*, errW_none, errW_some] <;> rfl), by repeat (first | (with_reducible first | exact HB.out | apply below_alloc | apply pw_below_drewN | apply below_drew1 | refine below_set ?_ GE467.out | refine below_set ?_ GE468.out | refine below_set ?_ GE469.out) | exact HB.out)⟩
 ·replace c5 := Bool.eq_false_iff.mpr c5
  subst c5
  have H1 : (some false) = some r := by rw [if_neg (show ¬ (false = true) by decide)] at H; exact H
  clear H
  have H := H1
  clear H1
  obtain rfl := Option.some.inj H
  go_enter Tryd.func7, Tryd.ntmps7
  go_wp2_with (first | ((with_reducible refine gate_dst (N := 3) rfl ?_); (try (refine gate_guard (by rfl) ?_; dsimp only)); refine box_event ?hg (N := 3) ?hd (cs := #[.int .i64 a0_0, .int .i64 a0_1, .string a0_2, .int .i64 a0_3, .int .i64 a0_4, .slice A0_5 l0_5.length c0_5]) (t := 24) ?hr ?_; (case hd => rfl); (case hg => rfl); (case hr => first | (go_simp; done) | (go_simp; rfl)); intro gb467 hg w101 hbox hb; have n0_ := Aside0.mk (below_step (by repeat (first | (with_reducible first | exact HB.out | apply below_alloc | apply pw_below_drewN | apply below_drew1) | exact HB.out)) hb); have n1_ := Aside0.mk (hbox); have n2_ := Aside0.mk ((by rw [hg]; exact (below_size (by repeat (first | (with_reducible first | exact HB.out | apply below_alloc | apply pw_below_drewN | apply below_drew1) | exact HB.out))) : w.heap.size ≤ gb467)); have n3_ := Aside0.mk ((by rw [hg]; exact (below_size (by repeat (first | (with_reducible first | exact HB.out | apply below_alloc | apply pw_below_drewN | apply below_drew1) | exact HB.out))) : w.heap.size ≤ gb467)); clear HB; have HB := n0_; have BK467 := n1_; have GW467 := n2_; have GE467 := n3_; clear n0_ n1_ n2_ n3_; clear hb hbox hg) | ((with_reducible refine gate_dst (N := 4) rfl ?_); (try (refine gate_guard (by rfl) ?_; dsimp only)); refine box_event ?hg (N := 4) ?hd (cs := #[.slice A1_0 l1_0.length c1_0, .int .i64 a1_1, .int .i64 a1_2, .int .i64 a1_3]) (t := 29) ?hr ?_; (case hd => rfl); (case hg => rfl); (case hr => first | (go_simp; done) | (go_simp; rfl)); intro gb468 hg w102 hbox hb; have n0_ := Aside0.mk (blk_below (g := gb467) (o := .cells #[.int .i64 a0_0, .int .i64 a0_1, .string a0_2, .int .i64 a0_3, .int .i64 a0_4, .slice A0_5 l0_5.length c0_5] 24 (0, 0)) (by (with_reducible repeat (first | refine blk_drewN ?_ _ | refine blk_drew ?_ | refine blk_alloc ?_ _)); exact BK467.out) hb); have n1_ := Aside0.mk (below_step (by repeat (first | (with_reducible first | exact HB.out | apply below_alloc | apply pw_below_drewN | apply below_drew1 | refine below_set ?_ GE467.out) | exact HB.out)) hb); have n2_ := Aside0.mk (hbox); have n3_ := Aside0.mk ((by rw [hg]; exact (below_size (by repeat (first | (with_reducible first | exact HB.out | apply below_alloc | apply pw_below_drewN | apply below_drew1 | refine below_set ?_ GE467.out) | exact HB.out))) : w.heap.size ≤ gb468)); have n4_ := Aside0.mk ((by rw [hg]; exact (below_size (by repeat (first | (with_reducible first | exact HB.out | apply below_alloc | apply pw_below_drewN | apply below_drew1 | refine below_set ?_ GE467.out) | exact HB.out))) : w.heap.size ≤ gb468)); have n5_ := Aside0.mk ((by rw [hg]; exact Nat.ne_of_lt (blk_lt (g := gb467) (o := .cells #[.int .i64 a0_0, .int .i64 a0_1, .string a0_2, .int .i64 a0_3, .int .i64 a0_4, .slice A0_5 l0_5.length c0_5] 24 (0, 0)) (by (with_reducible repeat (first | refine blk_drewN ?_ _ | refine blk_drew ?_ | refine blk_alloc ?_ _)); exact BK467.out)) : gb467 ≠ gb468)); have n6_ := Aside0.mk ((by rw [hg]; exact Nat.ne_of_gt (blk_lt (g := gb467) (o := .cells #[.int .i64 a0_0, .int .i64 a0_1, .string a0_2, .int .i64 a0_3, .int .i64 a0_4, .slice A0_5 l0_5.length c0_5] 24 (0, 0)) (by (with_reducible repeat (first | refine blk_drewN ?_ _ | refine blk_drew ?_ | refine blk_alloc ?_ _)); exact BK467.out)) : gb468 ≠ gb467)); clear BK467; clear HB; have BK467 := n0_; have HB := n1_; have BK468 := n2_; have GW468 := n3_; have GE468 := n4_; have NB467_468 := n5_; have NB468_467 := n6_; clear n0_ n1_ n2_ n3_ n4_ n5_ n6_; clear hb hbox hg) | ((with_reducible refine gate_dst (N := 5) rfl ?_); (try (refine gate_guard (by rfl) ?_; dsimp only)); refine box_event ?hg (N := 5) ?hd (cs := #[.slice A2_0 l2_0.length c2_0, .int .i64 a2_1, .int .i64 a2_2, .int .i64 a2_3]) (t := 29) ?hr ?_; (case hd => rfl); (case hg => rfl); (case hr => first | (go_simp; done) | (go_simp; rfl)); intro gb469 hg w103 hbox hb; have n0_ := Aside0.mk (blk_below (g := gb467) (o := .cells #[.int .i64 a0_0, .int .i64 a0_1, .string a0_2, .int .i64 a0_3, .int .i64 a0_4, .slice A0_5 l0_5.length c0_5] 24 (0, 0)) (by (with_reducible repeat (first | refine blk_drewN ?_ _ | refine blk_drew ?_ | refine blk_alloc ?_ _)); exact BK467.out) hb); have n1_ := Aside0.mk (blk_below (g := gb468) (o := .cells #[.slice A1_0 l1_0.length c1_0, .int .i64 a1_1, .int .i64 a1_2, .int .i64 a1_3] 29 (0, 0)) (by (with_reducible repeat (first | refine blk_drewN ?_ _ | refine blk_drew ?_ | refine blk_alloc ?_ _)); exact BK468.out) hb); have n2_ := Aside0.mk (below_step (by repeat (first | (with_reducible first | exact HB.out | apply below_alloc | apply pw_below_drewN | apply below_drew1 | refine below_set ?_ GE467.out | refine below_set ?_ GE468.out) | exact HB.out)) hb); have n3_ := Aside0.mk (hbox); have n4_ := Aside0.mk ((by rw [hg]; exact (below_size (by repeat (first | (with_reducible first | exact HB.out | apply below_alloc | apply pw_below_drewN | apply below_drew1 | refine below_set ?_ GE467.out | refine below_set ?_ GE468.out) | exact HB.out))) : w.heap.size ≤ gb469)); have n5_ := Aside0.mk ((by rw [hg]; exact (below_size (by repeat (first | (with_reducible first | exact HB.out | apply below_alloc | apply pw_below_drewN | apply below_drew1 | refine below_set ?_ GE467.out | refine below_set ?_ GE468.out) | exact HB.out))) : w.heap.size ≤ gb469)); have n6_ := Aside0.mk ((by rw [hg]; exact Nat.ne_of_lt (blk_lt (g := gb467) (o := .cells #[.int .i64 a0_0, .int .i64 a0_1, .string a0_2, .int .i64 a0_3, .int .i64 a0_4, .slice A0_5 l0_5.length c0_5] 24 (0, 0)) (by (with_reducible repeat (first | refine blk_drewN ?_ _ | refine blk_drew ?_ | refine blk_alloc ?_ _)); exact BK467.out)) : gb467 ≠ gb469)); have n7_ := Aside0.mk ((by rw [hg]; exact Nat.ne_of_gt (blk_lt (g := gb467) (o := .cells #[.int .i64 a0_0, .int .i64 a0_1, .string a0_2, .int .i64 a0_3, .int .i64 a0_4, .slice A0_5 l0_5.length c0_5] 24 (0, 0)) (by (with_reducible repeat (first | refine blk_drewN ?_ _ | refine blk_drew ?_ | refine blk_alloc ?_ _)); exact BK467.out)) : gb469 ≠ gb467)); have n8_ := Aside0.mk ((by rw [hg]; exact Nat.ne_of_lt (blk_lt (g := gb468) (o := .cells #[.slice A1_0 l1_0.length c1_0, .int .i64 a1_1, .int .i64 a1_2, .int .i64 a1_3] 29 (0, 0)) (by (with_reducible repeat (first | refine blk_drewN ?_ _ | refine blk_drew ?_ | refine blk_alloc ?_ _)); exact BK468.out)) : gb468 ≠ gb469)); have n9_ := Aside0.mk ((by rw [hg]; exact Nat.ne_of_gt (blk_lt (g := gb468) (o := .cells #[.slice A1_0 l1_0.length c1_0, .int .i64 a1_1, .int .i64 a1_2, .int .i64 a1_3] 29 (0, 0)) (by (with_reducible repeat (first | refine blk_drewN ?_ _ | refine blk_drew ?_ | refine blk_alloc ?_ _)); exact BK468.out)) : gb469 ≠ gb468)); clear BK467; clear BK468; clear HB; have BK467 := n0_; have BK468 := n1_; have HB := n2_; have BK469 := n3_; have GW469 := n4_; have GE469 := n5_; have NB467_469 := n6_; have NB469_467 := n7_; have NB468_469 := n8_; have NB469_468 := n9_; clear n0_ n1_ n2_ n3_ n4_ n5_ n6_ n7_ n8_ n9_; clear hb hbox hg) | ((with_reducible refine gate_callee (f := 10) rfl ?_); refine goesL_ (some 9) rfl rfl Tryd.func10 (by kernel_rfl) rfl #[] rfl (by (try simp only [List.map_toArray, List.map_cons, List.map_nil]); first | done | rfl | (simp only [List.length_drop, List.length_take]; rfl)) ?_; (with_reducible refine (sizarlaw12_sane.calls k  false _ A4.out ?sideK).mono ?_); (case sideK => exact HKT.out.below (by repeat (first | (with_reducible first | exact HB.out | apply below_alloc | apply pw_below_drewN | apply below_drew1 | refine below_set ?_ GE467.out | refine below_set ?_ GE468.out | refine below_set ?_ GE469.out) | exact HB.out))); rintro e w104 ⟨rfl, hb⟩; refine ⟨_, rfl, ?_⟩; have n0_ := Aside0.mk (blk_below (g := gb467) (o := .cells #[.int .i64 a0_0, .int .i64 a0_1, .string a0_2, .int .i64 a0_3, .int .i64 a0_4, .slice A0_5 l0_5.length c0_5] 24 (0, 0)) (by (with_reducible repeat (first | refine blk_drewN ?_ _ | refine blk_drew ?_ | refine blk_alloc ?_ _)); exact BK467.out) hb); have n1_ := Aside0.mk (blk_below (g := gb468) (o := .cells #[.slice A1_0 l1_0.length c1_0, .int .i64 a1_1, .int .i64 a1_2, .int .i64 a1_3] 29 (0, 0)) (by (with_reducible repeat (first | refine blk_drewN ?_ _ | refine blk_drew ?_ | refine blk_alloc ?_ _)); exact BK468.out) hb); have n2_ := Aside0.mk (blk_below (g := gb469) (o := .cells #[.slice A2_0 l2_0.length c2_0, .int .i64 a2_1, .int .i64 a2_2, .int .i64 a2_3] 29 (0, 0)) (by (with_reducible repeat (first | refine blk_drewN ?_ _ | refine blk_drew ?_ | refine blk_alloc ?_ _)); exact BK469.out) hb); have n3_ := Aside0.mk (below_step (by repeat (first | (with_reducible first | exact HB.out | apply below_alloc | apply pw_below_drewN | apply below_drew1 | refine below_set ?_ GE467.out | refine below_set ?_ GE468.out | refine below_set ?_ GE469.out) | exact HB.out)) hb); clear BK467; clear BK468; clear BK469; clear HB; have BK467 := n0_; have BK468 := n1_; have BK469 := n2_; have HB := n3_; clear n0_ n1_ n2_ n3_; (try clear hb); (try clear hb2); (try clear hk); (try clear hi)))
  go_ret
  exact ⟨by first | rfl | (simp [errW_none, errW_some] <;> rfl) | (simp [*, errW_none, errW_some] <;> rfl), by repeat (first | (with_reducible first | exact HB.out | apply below_alloc | apply pw_below_drewN | apply below_drew1 | refine below_set ?_ GE467.out | refine below_set ?_ GE468.out | refine below_set ?_ GE469.out) | exact HB.out)⟩
end Go.Proofs.YtabocfninjankaaDoor.P
namespace Go.Proofs.YtabocfninjankaaDoor.P
open Go.RowKit Go.Maps Go.Proofs.YtabocfninjankaaDoorW.PrintWords Go.Proofs.YtabocfninjankaaDoorW.PrintLast Go.Proofs.YtabocfninjankaaDoorW.PrintMore
set_option linter.unusedVariables false
set_option linter.unusedSimpArgs false
theorem atomsLaw_l0 (xs : List S24) (hx : xs.length ≤ 100000) (hc : ∀ x ∈ xs, chkR x = true) (r : S24) (la : List S49) (ea a1 a2 : Int) (lb : List S49) (eb b1 b2 : Int) (hla : la.length ≤ 9223372036854775807) (hlb : lb.length ≤ 9223372036854775807)
    (H : (∀ x ∈ xs, holdsB x la ea a1 a2 = holdsB x lb eb b1 b2) → holdsB r la ea a1 a2 = holdsB r lb eb b1 b2) : ∀ (m i : Nat), i + m = xs.length → (∀ x ∈ xs.take i, holdsB x la ea a1 a2 = holdsB x lb eb b1 b2) →
    Ev (fun k => sizarlaw12_RulesAtoms.l0 k xs (i : Int) r.f0 r.f1 r.f2 r.f3 r.f4 r.f5 la ea a1 a2 lb eb b1 b2) true
  | 0, i, hm, hi => by
    have he : holdsB r la ea a1 a2 = holdsB r lb eb b1 b2 := H (fun x hx => hi x (by rw [List.take_of_length_le (by omega)]; exact hx))
    refine Ev.next (Ev.bind (c := fun k t => (sizarlaw12_holds.f k r.f0 r.f1 r.f2 r.f3 r.f4 r.f5 lb eb b1 b2).bind fun t2 => some (t == t2)) (lawHolds_ev r la hla ea a1 a2)
      (Ev.bind (c := fun k t2 => some (holdsB r la ea a1 a2 == t2)) (lawHolds_ev r lb hlb eb b1 b2) (Ev.now fun k => by rw [he]; simp))) fun k => ?_
    simp only [sizarlaw12_RulesAtoms.l0]
    rw [if_neg (by omega)]
  | m + 1, i, hm, hi => by
    have hlt : i < xs.length := by omega
    have hchk := hc xs[i] (List.getElem_mem hlt)
    have key : Ev (fun k => if (holdsB xs[i] la ea a1 a2 != holdsB xs[i] lb eb b1 b2) = true then some true else sizarlaw12_RulesAtoms.l0 k xs ((i + 1 : Nat) : Int) r.f0 r.f1 r.f2 r.f3 r.f4 r.f5 la ea a1 a2 lb eb b1 b2) true := by
      by_cases q : holdsB xs[i] la ea a1 a2 = holdsB xs[i] lb eb b1 b2
      · refine (atomsLaw_l0 xs hx hc r la ea a1 a2 lb eb b1 b2 hla hlb H m (i + 1) (by omega) (fun x hx => ?_)).congr fun k => by rw [if_neg (by simp [q])]
        rw [List.take_succ_eq_append_getElem hlt] at hx
        rcases List.mem_append.1 hx with hx | hx
        · exact hi x hx
        · rw [List.mem_singleton.1 hx]; exact q
      · exact Ev.now fun k => by rw [if_pos (by simpa using q)]
    refine Ev.next (Ev.bind (c := fun k t => (sizarlaw12_holds.f k xs[i].f0 xs[i].f1 xs[i].f2 xs[i].f3 xs[i].f4 xs[i].f5 lb eb b1 b2).bind fun t2 => if (t != t2) = true then some true else sizarlaw12_RulesAtoms.l0 k xs ((i + 1 : Nat) : Int) r.f0 r.f1 r.f2 r.f3 r.f4 r.f5 la ea a1 a2 lb eb b1 b2) (lawHolds_ev xs[i] la hla ea a1 a2)
      (Ev.bind (c := fun k t2 => if (holdsB xs[i] la ea a1 a2 != t2) = true then some true else sizarlaw12_RulesAtoms.l0 k xs ((i + 1 : Nat) : Int) r.f0 r.f1 r.f2 r.f3 r.f4 r.f5 la ea a1 a2 lb eb b1 b2) (lawHolds_ev xs[i] lb hlb eb b1 b2) key)) fun k => ?_
    simp only [sizarlaw12_RulesAtoms.l0]
    rw [if_pos (by omega), if_pos (by omega), rd24 xs i hlt, check_f, if_pos hchk, Option.bind_some, if_pos rfl, w64 i (by omega)]
theorem RulesAtoms_pure (r : S24) (la : List S49) (ea a1 a2 : Int) (lb : List S49) (eb b1 b2 : Int) (ho : okR r) (hla : la.length ≤ 9223372036854775807) (hlb : lb.length ≤ 9223372036854775807) :
    ∃ k, sizarlaw12_RulesAtoms.f k r.f0 r.f1 r.f2 r.f3 r.f4 r.f5 la ea a1 a2 lb eb b1 b2 = some true := by
  obtain ⟨Ks, hs⟩ := sane_ev
  obtain ⟨bf, Kf, hf⟩ := few_tot r ho
  obtain ⟨K1, h1⟩ := fits_ev la hla ea a1 a2
  obtain ⟨K2, h2⟩ := fits_ev lb hlb eb b1 b2
  have hl : chkR r = true → fitS la ea a1 a2 = true → fitS lb eb b1 b2 = true → Ev (fun k => sizarlaw12_RulesAtoms.l0 k ((sortA (dd (atomsOf (preR 1 r)))).map ruleOf) 0 r.f0 r.f1 r.f2 r.f3 r.f4 r.f5 la ea a1 a2 lb eb b1 b2) true := fun hr ha hb => by
    have hv := chkR_valid hr
    have hmem : ∀ x, x ∈ (sortA (dd (atomsOf (preR 1 r)))).map ruleOf ↔ ∃ a ∈ atomsOf (preR 1 r), ruleOf a = x := fun x => by
      rw [List.mem_map]
      constructor
      · rintro ⟨a, h, e⟩
        exact ⟨a, (mem_dd _).1 (mem_sortA.1 h), e⟩
      · rintro ⟨a, h, e⟩
        exact ⟨a, mem_sortA.2 ((mem_dd _).2 h), e⟩
    have hlen : ((sortA (dd (atomsOf (preR 1 r)))).map ruleOf).length ≤ 100000 := by
      rw [List.length_map, show (sortA (dd (atomsOf (preR 1 r)))).length = (dd (atomsOf (preR 1 r))).length from (List.mergeSort_perm _ _).length_eq]
      have h1 : ∀ l : List A4, (dd l).length ≤ l.length := by
        intro l
        induction l with
        | nil => exact Nat.le_refl _
        | cons x l ih => unfold dd; split <;> simp <;> omega
      have h2 := h1 (atomsOf (preR 1 r))
      have h3 : (atomsOf (preR 1 r)).length ≤ (preR 1 r).length := by
        unfold atomsOf
        rw [List.length_map]
        exact List.length_filter_le _ _
      have := hv.2
      omega
    refine atomsLaw_l0 _ hlen (fun x hx => ?_) r la ea a1 a2 lb eb b1 b2 hla hlb (fun h => ?_) _ 0 (Nat.zero_add _) (fun x hx => by simp at hx)
    · obtain ⟨a, h, rfl⟩ := (hmem x).1 hx
      exact chkR_ruleOf hv.1 h
    · exact holds_atoms hr ha hb (fun a h2 => h _ ((hmem _).2 ⟨a, h2, rfl⟩))
  by_cases q4 : chkR r = true ∧ fitS la ea a1 a2 = true ∧ fitS lb eb b1 b2 = true
  · obtain ⟨K3, h3⟩ := hl q4.1 q4.2.1 q4.2.2
    obtain ⟨q, hq⟩ : ∃ q, q = Ks + Kf + K1 + K2 + K3 := ⟨_, rfl⟩
    refine ⟨q + 1, ?_⟩
    have s0 : sizarlaw12_sane.f (q + 1) = some true := hs (q + 1) (by omega)
    have s1 : sizarref12_Few.f (q + 1) r.f0 r.f1 r.f2 r.f3 r.f4 r.f5 = some bf := hf (q + 1) (by omega)
    have s2 : rules_Fits.f (q + 1) la ea a1 a2 = some (if fitS la ea a1 a2 = true then 0 else 120) := h1 (q + 1) (by omega)
    have s3 : rules_Fits.f (q + 1) lb eb b1 b2 = some (if fitS lb eb b1 b2 = true then 0 else 120) := h2 (q + 1) (by omega)
    have s4 : sizarlaw12_RulesAtoms.l0 q ((sortA (dd (atomsOf (preR 1 r)))).map ruleOf) 0 r.f0 r.f1 r.f2 r.f3 r.f4 r.f5 la ea a1 a2 lb eb b1 b2 = some true := h3 q (by omega)
    have jt : sizarlaw12_RulesAtoms.j0 (q + 1) true r.f0 r.f1 r.f2 r.f3 r.f4 r.f5 la ea a1 a2 lb eb b1 b2 = some true := by
      simp only [sizarlaw12_RulesAtoms.j0]
      rfl
    have jf : sizarlaw12_RulesAtoms.j0 (q + 1) false r.f0 r.f1 r.f2 r.f3 r.f4 r.f5 la ea a1 a2 lb eb b1 b2 = some true := by
      simp only [sizarlaw12_RulesAtoms.j0]
      rw [if_neg (by decide), atoms_f ho (by have := (chkR_valid q4.1).2; omega), Option.bind_some]
      exact s4
    rw [if_pos q4.2.1] at s2
    rw [if_pos q4.2.2] at s3
    unfold sizarlaw12_RulesAtoms.f
    rw [s0, Option.bind_some, if_pos rfl, s1, Option.bind_some, s2, s3, check_f, jt, if_pos q4.1, Option.bind_some, if_pos rfl, Option.bind_some, if_pos rfl, Option.bind_some]
    have jf' : sizarlaw12_RulesAtoms.j0 (q + 1) ((0 : Int) != 0) r.f0 r.f1 r.f2 r.f3 r.f4 r.f5 la ea a1 a2 lb eb b1 b2 = some true := jf
    rw [jf']
    repeat' split
    all_goals rfl
  · obtain ⟨q, hq⟩ : ∃ q, q = Ks + Kf + K1 + K2 := ⟨_, rfl⟩
    refine ⟨q + 1, ?_⟩
    have s0 : sizarlaw12_sane.f (q + 1) = some true := hs (q + 1) (by omega)
    have s1 : sizarref12_Few.f (q + 1) r.f0 r.f1 r.f2 r.f3 r.f4 r.f5 = some bf := hf (q + 1) (by omega)
    have s2 : rules_Fits.f (q + 1) la ea a1 a2 = some (if fitS la ea a1 a2 = true then 0 else 120) := h1 (q + 1) (by omega)
    have s3 : rules_Fits.f (q + 1) lb eb b1 b2 = some (if fitS lb eb b1 b2 = true then 0 else 120) := h2 (q + 1) (by omega)
    have jt : sizarlaw12_RulesAtoms.j0 (q + 1) true r.f0 r.f1 r.f2 r.f3 r.f4 r.f5 la ea a1 a2 lb eb b1 b2 = some true := by
      simp only [sizarlaw12_RulesAtoms.j0]
      rfl
    unfold sizarlaw12_RulesAtoms.f
    rw [s0, Option.bind_some, if_pos rfl, s1, Option.bind_some, s2, s3, check_f, jt]
    by_cases q1 : bf = true
    · rw [if_pos q1]
      by_cases q2 : (la.length : Int) > 50
      · rw [if_pos q2]
      rw [if_neg q2]
      by_cases q3 : (lb.length : Int) > 50
      · rw [if_pos q3]
      rw [if_neg q3]
      by_cases c1 : chkR r = true
      · rw [if_pos c1, Option.bind_some, if_pos rfl]
        by_cases c2 : fitS la ea a1 a2 = true
        · rw [if_pos c2, Option.bind_some, if_pos rfl, if_neg (fun c3 => q4 ⟨c1, c2, c3⟩), Option.bind_some]
          exact jt
        · rw [if_neg c2, Option.bind_some, if_neg (by decide)]
      · rw [if_neg c1, Option.bind_some, if_neg (by decide)]
    · rw [if_neg q1]
end Go.Proofs.YtabocfninjankaaDoor.P
namespace Go.Proofs.YtabocfninjankaaDoor.rulesAtoms
open Go.ChangeShapes Go.WideShapes Go.ChangeAt Go.RowKit
open Go.Proofs.YtabocfninjankaaDoor.P
set_option linter.unusedVariables false
theorem own : ownKnob Tryd.prog.godebug = none := by kernel_rfl
theorem laidOut : laidOutB Tryd.prog = true := by kernel_rfl
abbrev laid : List (String × DataW Unit) := [("sizar/rules.kinds", Rows.laid_sizar_rules_kinds)]
set_option maxRecDepth 100000 in
theorem door_met (os : Os) (args : Array Value) : laidMetH Tryd.prog laid ((World.doorLaid Tryd.prog 600 os).forCall (fun _ _ => 0) ⟨#[], args, []⟩).memory :=
  laidMetH_of_parts3 (fuel := 8) (laidMet_of_run' 8 (by kernel_rfl) (by kernel_rfl)) (by kernel_rfl) (by kernel_rfl)
set_option maxRecDepth 100000 in
set_option maxHeartbeats 1000000 in
theorem lifted (os : Os) (started : os.Started) (H : Type) (enc : TypeId × Value → H) :
    ReturnsInHanded {} Tryd.checked os 7 .any (fun w args => (Rows.rulesAtomsSpec.pre enc Tryd.prog Tryd.f7 [] false w args ∧ laidMetH Tryd.prog laid w) ∧ sizedMet enc Tryd.prog Tryd.f7 (OpenSpec.ofChange Rows.rulesAtomsSpec) false w args)
      (Rows.rulesAtomsSpec.post enc Tryd.prog Tryd.f7 false true false false) := by
  refine returnsInHanded_of_change_and (C := Tryd.checked) (X := fun w _ => laidMetH Tryd.prog laid w) (fun _ _ _ hh h => h.of_heap hh) own started (by kernel_rfl) Tryd.func7
    (ChangeSpec.witness_shaped (enc := enc) (C := Tryd.checked) (os := os) (X := fun w _ => laidMetH Tryd.prog laid w) false (World.doorLaid Tryd.prog 600 os) #[.agg #[.int .i64 0, .int .i64 0, .string ⟨#[]⟩, .int .i64 0, .int .i64 0, .slice none 0 0], .agg #[.slice none 0 0, .int .i64 0, .int .i64 0, .int .i64 0], .agg #[.slice none 0 0, .int .i64 0, .int .i64 0, .int .i64 0]] 8 rfl (World.shaped_of_RefB (by kernel_rfl) (by kernel_rfl)) (by kernel_rfl) (by kernel_rfl) (by kernel_rfl) (door_met os _)) ?_
  intro W base args ds gs before hval0 hW hcnd hsz0 hL _
  have hsz : (DataW.weightsEach Tryd.prog (Tryd.f7.params.toList ++ Rows.rulesAtomsSpec.plain.varTypes Tryd.prog) (ds ++ gs)).all (· ≤ reachBytes) = true := hsz0
  have hval : ∀ (j : Nat) t v, Tryd.f7.params[j]? = some t → args[j]? = some v → Value.okWide Tryd.prog W .any base t v := hval0
  have hW' := hW
  obtain ⟨p, q, hA0, hV, rfl, hfz, hnd⟩ := hW
  have hA : DataW.TrodAll enc Tryd.prog W 0 (fun _ => true) true Tryd.f7.params.toList args.toList ds p := hA0
  rw [Tryd.params7] at hA hval hsz
  obtain ⟨v0, vs0, d0, ds0, p0, q0, hargs, rfl, rfl, h0, r0⟩ := trodAll_cons hA
  obtain ⟨v1, vs1, d1, ds1, p1, q1, rfl, rfl, rfl, h1, r1⟩ := trodAll_cons r0
  obtain ⟨v2, vs2, d2, ds2, p2, q2, rfl, rfl, rfl, h2, r2⟩ := trodAll_cons r1
  obtain ⟨rfl, rfl, rfl⟩ := trodAll_nil r2
  obtain rfl : args = #[v0, v1, v2] := by cases args; simp_all
  obtain ⟨rfl, rfl⟩ := trodVars_none hV
  have k0 := h0
  have lt0 : ∀ x ∈ p0, x.block < W.heap.size := by obtain ⟨m, hm⟩ := k0; exact DataW.trod_lt m _ _ _ hm
  have lg0 : light Tryd.prog 24 d0 := light_each _ _ hsz 0 _ _ rfl rfl
  obtain ⟨fuel0, hf0⟩ := h0
  obtain ⟨cs0, rfl, hcs0⟩ := okWide_struct Tryd.underlying24 (hval 0 24 v0 rfl rfl)
  obtain ⟨x0, K0, g0⟩ := opn24 H enc W _ _ _ fuel0 _ _ hf0 lg0
  obtain ⟨A0, c0, e0, l0, r0r⟩ := k24_open K0
  replace e0 : cs0.toList = (#[.int .i64 x0.f0, .int .i64 x0.f1, .string x0.f2, .int .i64 x0.f3, .int .i64 x0.f4, .slice A0 x0.f5.length c0] : Array Value).toList := e0
  obtain rfl := Array.toList_inj.1 e0
  have k1 := h1
  have lt1 : ∀ x ∈ p1, x.block < W.heap.size := by obtain ⟨m, hm⟩ := k1; exact DataW.trod_lt m _ _ _ hm
  have lg1 : light Tryd.prog 29 d1 := light_each _ _ hsz 1 _ _ rfl rfl
  obtain ⟨fuel1, hf1⟩ := h1
  obtain ⟨cs1, rfl, hcs1⟩ := okWide_struct Tryd.underlying29 (hval 1 29 v1 rfl rfl)
  obtain ⟨x1, K1, g1⟩ := opn29 H enc W _ _ _ fuel1 _ _ hf1 lg1
  obtain ⟨A1, c1, e1, l1, r1r⟩ := k29_open K1
  replace e1 : cs1.toList = (#[.slice A1 x1.f0.length c1, .int .i64 x1.f1, .int .i64 x1.f2.f0, .int .i64 x1.f2.f1] : Array Value).toList := e1
  obtain rfl := Array.toList_inj.1 e1
  have k2 := h2
  have lt2 : ∀ x ∈ p2, x.block < W.heap.size := by obtain ⟨m, hm⟩ := k2; exact DataW.trod_lt m _ _ _ hm
  have lg2 : light Tryd.prog 29 d2 := light_each _ _ hsz 2 _ _ rfl rfl
  obtain ⟨fuel2, hf2⟩ := h2
  obtain ⟨cs2, rfl, hcs2⟩ := okWide_struct Tryd.underlying29 (hval 2 29 v2 rfl rfl)
  obtain ⟨x2, K2, g2⟩ := opn29 H enc W _ _ _ fuel2 _ _ hf2 lg2
  obtain ⟨A2, c2, e2, l2, r2r⟩ := k29_open K2
  replace e2 : cs2.toList = (#[.slice A2 x2.f0.length c2, .int .i64 x2.f1, .int .i64 x2.f2.f0, .int .i64 x2.f2.f1] : Array Value).toList := e2
  obtain rfl := Array.toList_inj.1 e2
  have hKT := of_laid hL
  clear hA0 hval0 hsz0 hsz
  obtain ⟨k, hk⟩ := RulesAtoms_pure x0 x1.f0 x1.f1 x1.f2.f0 x1.f2.f1 x2.f0 x2.f1 x2.f2.f0 x2.f2.f1 g0 g1 g2
  refine (sizarlaw12_RulesAtoms.calls k x0.f0 x0.f1 x0.f2 x0.f3 x0.f4 A0 c0 x0.f5 A1 c1 x1.f0 x1.f1 x1.f2.f0 x1.f2.f1 A2 c2 x2.f0 x2.f1 x2.f2.f0 x2.f2.f1 true W r0r l0 r1r l1 r2r l2 hk hKT).mono fun e W' ⟨he, bel⟩ => ?_
  subst he
  exact ⟨_, rfl, _, _, _, [], _, [], hW', trodAll_mk1 (shut_bool Tryd.underlying4 _), (trodAll_cons_mk (Below.trod laidOut (by kernel_rfl) (of_decide_eq_true (by kernel_rfl)) k0 bel lt0) (trodAll_cons_mk (Below.trod laidOut (by kernel_rfl) (of_decide_eq_true (by kernel_rfl)) k1 bel lt1) (trodAll_cons_mk (Below.trod laidOut (by kernel_rfl) (of_decide_eq_true (by kernel_rfl)) k2 bel lt2) trodAll_mk0))), rfl, bel.frame _, fun h => by cases h⟩
theorem over : Rows.rulesAtomsRow.holds Tryd.pinned (OpenSpec.ofChange Rows.rulesAtomsSpec) :=
  OpenClaim.holds_of_wide 7 Tryd.f7 rfl rfl rfl rfl rfl rfl rfl ⟨rfl, rfl, rfl, rfl, rfl⟩ rfl rfl rfl rfl rfl (by kernel_rfl) Tryd.func7 (by kernel_rfl)
    (of_decide_eq_true (by kernel_rfl)) (by unfold Func.isWrapper; first | (rw [if_pos (by decide +kernel)]; kernel_rfl) | (rw [if_neg (by decide +kernel)]; exact ⟨rfl, rfl⟩))
    (fun os started H enc _ => lifted os started H enc)
theorem card : Rows.RulesAtomsCardSaid :=
  Claim7.holds_tied_plain_at .later [] [.funcs] true (true, "2fadb4b9a838f57294a20d8f5ec735aff9896364a9ddfdfb30d191a5aaac5261") false
    over (fun _ h => by cases h) (by kernel_rfl) (fun _ h => by cases h) rulesAtoms_row_tie rfl ⟨rfl, rfl⟩ (by kernel_rfl) rfl
    (fun f fn hf hfn => by
      obtain rfl : f = 7 := Option.some.inj ((show Tryd.prog.funcNamed "sizar/sizarlaw12.RulesAtoms" = some 7 by kernel_rfl).symm.trans hf) |>.symm
      obtain rfl : fn = Tryd.f7 := (Option.some.inj (Tryd.func7.symm.trans hfn)).symm
      exact ⟨by kernel_rfl, fun j t ht => by
        rw [Tryd.params7] at ht
        have hm : t ∈ [24, 29, 29] := by simpa using Array.mem_of_getElem? ht
        have hall : ([24, 29, 29].all fun u => !Tryd.prog.wantsStandIn u) = true := by kernel_rfl
        exact (show Tryd.prog.wantsStandIn t = false by simpa using List.all_eq_true.1 hall t hm)⟩)
    (by kernel_rfl)
end Go.Proofs.YtabocfninjankaaDoor.rulesAtoms
namespace Go.Proofs.YtabocfninjankaaDoor
/-- The tied card, under a short name, for the claim. -/
theorem rulesAtoms_holds : Rows.RulesAtomsCardSaid := rulesAtoms.card
end Go.Proofs.YtabocfninjankaaDoor
