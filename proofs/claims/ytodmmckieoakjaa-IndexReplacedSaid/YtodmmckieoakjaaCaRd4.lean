/- Texts of this claim, one behind the other: Px16, PureE, LawIndexReplaced. Merged by wip/mkmerge.py. -/
import Derived.Test.YtodmmckieoakjaaCaRd1
import Derived.Test.YtodmmckieoakjaaCaRd3
import Derived.Test.YtodmmckieoakjaaCaRd2
import Derived.Test.YtodmmckieoakjaaRows
import Derived.WalkKit
import Derived.ProofKit
import Derived.OpenShut
import Derived.ShutString
import Derived.ChangeOld
import Derived.Below
import Derived.SizedLaws
namespace Go.Proofs.Ytodmmckieoakjaa.P
open Go.RowKit Go.Proofs.YtodmmckieoakjaaW.PrintWords Go.Proofs.YtodmmckieoakjaaW.PrintLast Go.Proofs.YtodmmckieoakjaaW.PrintMore
attribute [local go_sem] max2_int min2_int max_two min_two max_three min_three max_four min_four   -- for this text's walks alone
set_option linter.unusedVariables false
set_option linter.unusedSimpArgs false
def sizarlaw35_IndexReplaced.j0 : Nat → List (S35) → Int → Bool → Int → Int → Int → Int → Int → Int → Int → List Int → List (S47) → List Int → Option (Bool)
 | 0, _, _, _, _, _, _, _, _, _, _, _, _, _ => none
 | k + 1, x0, x1, x26, x331000, x331001, x331002, x331003, x331004, x331005, x331006, x331007, x331008, x331009 => if x26 = true then (some true) else (if (IntKind.u64.wrap ((x0.length : Int))) = 0 then (none) else ((some (([] : List (S35)) : List (S35))).bind fun y333 => (if y333.length + x0.length < 1099511627776 then ((some (y333 ++ x0 : List (S35))).bind fun y336 => (if 0 ≤ (wrap64 (Int.tmod x1 (IntKind.u64.wrap ((x0.length : Int))))) then (if (wrap64 (Int.tmod x1 (IntKind.u64.wrap ((x0.length : Int))))) < (y336.length : Int) then ((index_Build.f x0).bind fun t340 => ((index_Replace.f t340 (wrap64 (Int.tmod x1 (IntKind.u64.wrap ((x0.length : Int))))) x331000 x331001 x331002 x331003 x331004 x331005 x331006 x331007 x331008 x331009).bind fun t344 => ((index_Build.f (y336.set ((wrap64 (Int.tmod x1 (IntKind.u64.wrap ((x0.length : Int))))) : Int).toNat (⟨(⟨x331000, x331001, x331002, x331003⟩ : S31), x331004, x331005, x331006, x331007, x331008, x331009⟩ : S35))).bind fun t348 => ((sizarref35_Same.f k t344 t348).bind fun t351 => (if t351 = true then (if (wrap64 (Int.tmod x1 (IntKind.u64.wrap ((x0.length : Int))))) < (x0.length : Int) then ((index_Replace.f t344 (wrap64 (Int.tmod x1 (IntKind.u64.wrap ((x0.length : Int))))) ((rd_T35 x0 (wrap64 (Int.tmod x1 (IntKind.u64.wrap ((x0.length : Int)))))).f0.f0) ((rd_T35 x0 (wrap64 (Int.tmod x1 (IntKind.u64.wrap ((x0.length : Int)))))).f0.f1) ((rd_T35 x0 (wrap64 (Int.tmod x1 (IntKind.u64.wrap ((x0.length : Int)))))).f0.f2) ((rd_T35 x0 (wrap64 (Int.tmod x1 (IntKind.u64.wrap ((x0.length : Int)))))).f0.f3) ((rd_T35 x0 (wrap64 (Int.tmod x1 (IntKind.u64.wrap ((x0.length : Int)))))).f1) ((rd_T35 x0 (wrap64 (Int.tmod x1 (IntKind.u64.wrap ((x0.length : Int)))))).f2) ((rd_T35 x0 (wrap64 (Int.tmod x1 (IntKind.u64.wrap ((x0.length : Int)))))).f3) ((rd_T35 x0 (wrap64 (Int.tmod x1 (IntKind.u64.wrap ((x0.length : Int)))))).f4) ((rd_T35 x0 (wrap64 (Int.tmod x1 (IntKind.u64.wrap ((x0.length : Int)))))).f5) ((rd_T35 x0 (wrap64 (Int.tmod x1 (IntKind.u64.wrap ((x0.length : Int)))))).f6)).bind fun t353 => ((sizarref35_Same.f k t353 t340).bind fun t356 => (if t356 = true then ((index_Replace.f t340 (wrap64 (Int.tmod x1 (IntKind.u64.wrap ((x0.length : Int))))) ((rd_T35 x0 (wrap64 (Int.tmod x1 (IntKind.u64.wrap ((x0.length : Int)))))).f0.f0) ((rd_T35 x0 (wrap64 (Int.tmod x1 (IntKind.u64.wrap ((x0.length : Int)))))).f0.f1) ((rd_T35 x0 (wrap64 (Int.tmod x1 (IntKind.u64.wrap ((x0.length : Int)))))).f0.f2) ((rd_T35 x0 (wrap64 (Int.tmod x1 (IntKind.u64.wrap ((x0.length : Int)))))).f0.f3) ((rd_T35 x0 (wrap64 (Int.tmod x1 (IntKind.u64.wrap ((x0.length : Int)))))).f1) ((rd_T35 x0 (wrap64 (Int.tmod x1 (IntKind.u64.wrap ((x0.length : Int)))))).f2) ((rd_T35 x0 (wrap64 (Int.tmod x1 (IntKind.u64.wrap ((x0.length : Int)))))).f3) ((rd_T35 x0 (wrap64 (Int.tmod x1 (IntKind.u64.wrap ((x0.length : Int)))))).f4) ((rd_T35 x0 (wrap64 (Int.tmod x1 (IntKind.u64.wrap ((x0.length : Int)))))).f5) ((rd_T35 x0 (wrap64 (Int.tmod x1 (IntKind.u64.wrap ((x0.length : Int)))))).f6)).bind fun t358 => ((sizarref35_Same.f k t358 t340).bind fun t361 => (some t361))) else (none)))) else (none)) else (none)))))) else (none)) else (none))) else (none))))
def sizarlaw35_IndexReplaced.f (k : Nat) (l0 : List (S35)) (a1 : Int) (a2_0 : Int) (a2_1 : Int) (a2_2 : Int) (a2_3 : Int) (a2_4 : Int) (a2_5 : Int) (a2_6 : Int) (l2_7 : List Int) (l2_8 : List (S47)) (l2_9 : List Int) : Option (Bool) := (sizarlaw35_sane.f k).bind fun t331 => (if t331 = true then ((sizarref35_Few.f k l0).bind fun t332 => (if t332 = true then (if (l2_8.length : Int) > 30 then (sizarlaw35_IndexReplaced.j0 k l0 a1 true a2_0 a2_1 a2_2 a2_3 a2_4 a2_5 a2_6 l2_7 l2_8 l2_9) else (sizarlaw35_IndexReplaced.j0 k l0 a1 ((l0.length : Int) == 0) a2_0 a2_1 a2_2 a2_3 a2_4 a2_5 a2_6 l2_7 l2_8 l2_9)) else (sizarlaw35_IndexReplaced.j0 k l0 a1 true a2_0 a2_1 a2_2 a2_3 a2_4 a2_5 a2_6 l2_7 l2_8 l2_9))) else (some false))
def sizarlaw35_IndexReplaced.T10 : Bool × List (List Nat × List Nat) := (true, [([], []), ([], []), ([1], [1]), ([0, 2, 2], [0, 2]), ([3, 3], [3]), ([4], [4]), ([4], [4]), ([4], [4]), ([4], [4]), ([7, 8, 4], [4, 7, 8]), ([9, 4], [4, 9]), ([5, 6, 10, 4, 4], [4, 5, 6, 10]), ([4], [4]), ([11, 12, 11, 4], [4, 11, 12]), ([4, 13], [4, 13]), ([14, 13], [14]), ([15], [15]), ([15], [15]), ([15], [15]), ([15], [15]), ([18, 19, 15], [15, 18, 19]), ([20, 15], [15, 20]), ([16, 17, 21, 15, 15], [15, 16, 17, 21]), ([15], [15]), ([22, 23, 22, 15], [15, 22, 23]), ([15, 24], [15, 24]), ([25, 24, 0, 1, 2, 3, 4, 5, 6, 7, 8, 9, 10, 11, 12, 13, 14, 15, 16, 17, 18, 19, 20, 21, 22, 23, 24, 25], [25])])
def sizarlaw35_IndexReplaced.B10 : List Nat := [0, 0, 2, 7, 15, 31, 31, 31, 31, 415, 927, 2047, 31, 8191, 16383, 32767, 65535, 65535, 65535, 65535, 851967, 1900543, 4194303, 65535, 16777215, 33554431, 67108863]
theorem sizarlaw35_IndexReplaced.tab10 : rtab .any (opsOf Try.f7 10) = sizarlaw35_IndexReplaced.T10 := by kernel_rfl
theorem sizarlaw35_IndexReplaced.bits10 : waitsOk sizarlaw35_IndexReplaced.T10.2 sizarlaw35_IndexReplaced.B10 = true := by kernel_rfl
set_option maxHeartbeats 8000000 in
set_option maxRecDepth 100000 in
theorem sizarlaw35_IndexReplaced.calls (k : Nat) (P0_ : Nat → Prop) (A0 : Option Addr) (c0 : Nat) (l0 : List (S35)) (a1 : Int) (a2_0 : Int) (a2_1 : Int) (a2_2 : Int) (a2_3 : Int) (a2_4 : Int) (a2_5 : Int) (a2_6 : Int) (P2_7_ : Nat → Prop) (A2_7 : Option Addr) (c2_7 : Nat) (l2_7 : List Int) (P2_8_ : Nat → Prop) (A2_8 : Option Addr) (c2_8 : Nat) (l2_8 : List (S47)) (P2_9_ : Nat → Prop) (A2_9 : Option Addr) (c2_9 : Nat) (l2_9 : List Int) (r : Bool) (w : World) (hs0 : Kd.V k35 35 w w.heap.size (fun k_ => P0_ k_) (.slice A0 l0.length c0) l0) (hs2_7 : Kd.V (Kd.int .i64) 3 w w.heap.size (fun k_ => P2_7_ k_) (.slice A2_7 l2_7.length c2_7) l2_7) (hs2_8 : Kd.V k47 47 w w.heap.size (fun k_ => P2_8_ k_) (.slice A2_8 l2_8.length c2_8) l2_8) (hs2_9 : Kd.V (Kd.int .i64) 3 w w.heap.size (fun k_ => P2_9_ k_) (.slice A2_9 l2_9.length c2_9) l2_9) (h : sizarlaw35_IndexReplaced.f k l0 a1 a2_0 a2_1 a2_2 a2_3 a2_4 a2_5 a2_6 l2_7 l2_8 l2_9 = some r) :
  Calls Try.prog 7 #[.slice A0 l0.length c0, .int .u64 a1, .agg #[.int .i64 a2_0, .int .i64 a2_1, .int .i64 a2_2, .int .i64 a2_3, .int .i64 a2_4, .int .i64 a2_5, .int .i64 a2_6, .slice A2_7 l2_7.length c2_7, .slice A2_8 l2_8.length c2_8, .slice A2_9 l2_9.length c2_9]] w fun e w' => e = .returned (.bool r) ∧ Below w.heap.size w w' := by
 have hu35 := Try.underlying35
 have hu28 := Try.underlying28
 have HO0 := Aside0.mk (show Kd.V k35 35 w w.heap.size (fun k_ => ((P0_ k_ ∨ P2_7_ k_ ∨ P2_8_ k_ ∨ P2_9_ k_) ∨ w.heap.size ≤ k_)) (.slice A0 l0.length c0) l0 from Kd.V_mono hs0 (fun k_ hk => .inl (.inl hk)))
 have HO2_7 := Aside0.mk (show Kd.V (Kd.int .i64) 3 w w.heap.size (fun k_ => ((P0_ k_ ∨ P2_7_ k_ ∨ P2_8_ k_ ∨ P2_9_ k_) ∨ w.heap.size ≤ k_)) (.slice A2_7 l2_7.length c2_7) l2_7 from Kd.V_mono hs2_7 (fun k_ hk => .inl (.inr (.inl hk))))
 have HO2_8 := Aside0.mk (show Kd.V k47 47 w w.heap.size (fun k_ => ((P0_ k_ ∨ P2_7_ k_ ∨ P2_8_ k_ ∨ P2_9_ k_) ∨ w.heap.size ≤ k_)) (.slice A2_8 l2_8.length c2_8) l2_8 from Kd.V_mono hs2_8 (fun k_ hk => .inl (.inr (.inr (.inl hk)))))
 have HO2_9 := Aside0.mk (show Kd.V (Kd.int .i64) 3 w w.heap.size (fun k_ => ((P0_ k_ ∨ P2_7_ k_ ∨ P2_8_ k_ ∨ P2_9_ k_) ∨ w.heap.size ≤ k_)) (.slice A2_9 l2_9.length c2_9) l2_9 from Kd.V_mono hs2_9 (fun k_ hk => .inl (.inr (.inr (.inr hk)))))
 have HB := Aside0.mk (Below.refl w.heap.size w)
 have H : ((sizarlaw35_sane.f k).bind fun t331 => (if t331 = true then ((sizarref35_Few.f k l0).bind fun t332 => (if t332 = true then (if (l2_8.length : Int) > 30 then (sizarlaw35_IndexReplaced.j0 k l0 a1 true a2_0 a2_1 a2_2 a2_3 a2_4 a2_5 a2_6 l2_7 l2_8 l2_9) else (sizarlaw35_IndexReplaced.j0 k l0 a1 ((l0.length : Int) == 0) a2_0 a2_1 a2_2 a2_3 a2_4 a2_5 a2_6 l2_7 l2_8 l2_9)) else (sizarlaw35_IndexReplaced.j0 k l0 a1 true a2_0 a2_1 a2_2 a2_3 a2_4 a2_5 a2_6 l2_7 l2_8 l2_9))) else (some false))) = some r := h
 clear h
 replace H := Option.bind_eq_some_iff.mp H
 obtain ⟨t331, A40, H⟩ := H
 replace H : (if t331 = true then ((sizarref35_Few.f k l0).bind fun t332 => (if t332 = true then (if (l2_8.length : Int) > 30 then (sizarlaw35_IndexReplaced.j0 k l0 a1 true a2_0 a2_1 a2_2 a2_3 a2_4 a2_5 a2_6 l2_7 l2_8 l2_9) else (sizarlaw35_IndexReplaced.j0 k l0 a1 ((l0.length : Int) == 0) a2_0 a2_1 a2_2 a2_3 a2_4 a2_5 a2_6 l2_7 l2_8 l2_9)) else (sizarlaw35_IndexReplaced.j0 k l0 a1 true a2_0 a2_1 a2_2 a2_3 a2_4 a2_5 a2_6 l2_7 l2_8 l2_9))) else (some false)) = some r := H
 have A4 := Aside0.mk A40
 clear A40
 by_cases c5 : t331 = true
 ·subst c5
  have H1 : ((sizarref35_Few.f k l0).bind fun t332 => (if t332 = true then (if (l2_8.length : Int) > 30 then (sizarlaw35_IndexReplaced.j0 k l0 a1 true a2_0 a2_1 a2_2 a2_3 a2_4 a2_5 a2_6 l2_7 l2_8 l2_9) else (sizarlaw35_IndexReplaced.j0 k l0 a1 ((l0.length : Int) == 0) a2_0 a2_1 a2_2 a2_3 a2_4 a2_5 a2_6 l2_7 l2_8 l2_9)) else (sizarlaw35_IndexReplaced.j0 k l0 a1 true a2_0 a2_1 a2_2 a2_3 a2_4 a2_5 a2_6 l2_7 l2_8 l2_9))) = some r := by rw [if_pos rfl] at H; exact H
  clear H
  have H := H1
  clear H1
  have HC6 := Aside0.mk H
  clear H
  go_enter Try.func7, Try.ntmps7
  go_upto_region 3 with (first | ((with_reducible refine gate_dst (N := 5) rfl ?_); (try (refine gate_guard (by rfl) ?_; dsimp only)); refine box_event ?hg (N := 5) ?hd (cs := #[.int .i64 a2_0, .int .i64 a2_1, .int .i64 a2_2, .int .i64 a2_3, .int .i64 a2_4, .int .i64 a2_5, .int .i64 a2_6, .slice A2_7 l2_7.length c2_7, .slice A2_8 l2_8.length c2_8, .slice A2_9 l2_9.length c2_9]) (t := 35) ?hr ?_; (case hd => rfl); (case hg => rfl); (case hr => first | (go_simp; done) | (go_simp; rfl)); intro gb330 hg w7 hbox hb; have n0_ := Aside0.mk (Kd.V_below (Kd.V_elderB (by (with_reducible repeat (first | apply Kd.V_alloc | apply Kd.V_drewN | apply Kd.V_drew)); exact HO0.out) gb330 (Nat.le_of_eq hg.symm)) hb); have n1_ := Aside0.mk (Kd.V_below (Kd.V_elderB (by (with_reducible repeat (first | apply Kd.V_alloc | apply Kd.V_drewN | apply Kd.V_drew)); exact HO2_7.out) gb330 (Nat.le_of_eq hg.symm)) hb); have n2_ := Aside0.mk (Kd.V_below (Kd.V_elderB (by (with_reducible repeat (first | apply Kd.V_alloc | apply Kd.V_drewN | apply Kd.V_drew)); exact HO2_8.out) gb330 (Nat.le_of_eq hg.symm)) hb); have n3_ := Aside0.mk (Kd.V_below (Kd.V_elderB (by (with_reducible repeat (first | apply Kd.V_alloc | apply Kd.V_drewN | apply Kd.V_drew)); exact HO2_9.out) gb330 (Nat.le_of_eq hg.symm)) hb); have n4_ := Aside0.mk (below_step (by repeat (first | (with_reducible first | exact HB.out | apply below_alloc | apply pw_below_drewN | apply below_drew1) | exact HB.out)) hb); have n5_ := Aside0.mk (hbox); have n6_ := Aside0.mk ((by rw [hg]; exact (below_size (by repeat (first | (with_reducible first | exact HB.out | apply below_alloc | apply pw_below_drewN | apply below_drew1) | exact HB.out))) : w.heap.size ≤ gb330)); have n7_ := Aside0.mk ((by rw [hg]; exact (below_size (by repeat (first | (with_reducible first | exact HB.out | apply below_alloc | apply pw_below_drewN | apply below_drew1) | exact HB.out))) : w.heap.size ≤ gb330)); clear HO0; clear HO2_7; clear HO2_8; clear HO2_9; clear HB; have HO0 := n0_; have HO2_7 := n1_; have HO2_8 := n2_; have HO2_9 := n3_; have HB := n4_; have BK330 := n5_; have GW330 := n6_; have GE330 := n7_; clear n0_ n1_ n2_ n3_ n4_ n5_ n6_ n7_; clear hb hbox hg) | ((with_reducible refine gate_callee (f := 10) rfl ?_); refine goesL_ (some 11) rfl rfl Try.func10 (by kernel_rfl) rfl #[] rfl (by (try simp only [List.map_toArray, List.map_cons, List.map_nil]); first | done | rfl | (simp only [List.length_drop, List.length_take]; rfl)) ?_; (with_reducible refine (sizarlaw35_sane.calls k  true _ A4.out).mono ?_); rintro e w8 ⟨rfl, hb⟩; refine ⟨_, rfl, ?_⟩; have n0_ := Aside0.mk (Kd.V_below (by (with_reducible repeat (first | apply Kd.V_alloc | apply Kd.V_drewN | apply Kd.V_drew)); exact HO0.out) hb); have n1_ := Aside0.mk (Kd.V_below (by (with_reducible repeat (first | apply Kd.V_alloc | apply Kd.V_drewN | apply Kd.V_drew)); exact HO2_7.out) hb); have n2_ := Aside0.mk (Kd.V_below (by (with_reducible repeat (first | apply Kd.V_alloc | apply Kd.V_drewN | apply Kd.V_drew)); exact HO2_8.out) hb); have n3_ := Aside0.mk (Kd.V_below (by (with_reducible repeat (first | apply Kd.V_alloc | apply Kd.V_drewN | apply Kd.V_drew)); exact HO2_9.out) hb); have n4_ := Aside0.mk (blk_below (g := gb330) (o := .cells #[.int .i64 a2_0, .int .i64 a2_1, .int .i64 a2_2, .int .i64 a2_3, .int .i64 a2_4, .int .i64 a2_5, .int .i64 a2_6, .slice A2_7 l2_7.length c2_7, .slice A2_8 l2_8.length c2_8, .slice A2_9 l2_9.length c2_9] 35 (0, 0)) (by (with_reducible repeat (first | refine blk_drewN ?_ _ | refine blk_drew ?_ | refine blk_alloc ?_ _)); exact BK330.out) hb); have n5_ := Aside0.mk (below_step (by repeat (first | (with_reducible first | exact HB.out | apply below_alloc | apply pw_below_drewN | apply below_drew1 | refine below_set ?_ GE330.out) | exact HB.out)) hb); clear HO0; clear HO2_7; clear HO2_8; clear HO2_9; clear BK330; clear HB; have HO0 := n0_; have HO2_7 := n1_; have HO2_8 := n2_; have HO2_9 := n3_; have BK330 := n4_; have HB := n5_; clear n0_ n1_ n2_ n3_ n4_ n5_; (try clear hb); (try clear hb2); (try clear hk); (try clear hi)))
  (try simp only [Act.put, List.setIfInBounds_toArray, List.set_cons_zero, List.set_cons_succ])
  go_cut [26] (fun v26 wc => ∃ (kq : Nat) (x26_5 : Bool), v26 = .bool x26_5 ∧ Aside0 (sizarlaw35_IndexReplaced.j0 kq l0 a1 x26_5 a2_0 a2_1 a2_2 a2_3 a2_4 a2_5 a2_6 l2_7 l2_8 l2_9 = some r) ∧ Aside0 (kq ≤ k) ∧ Aside0 (Kd.V k35 35 wc w.heap.size (fun k_ => ((P0_ k_ ∨ P2_7_ k_ ∨ P2_8_ k_ ∨ P2_9_ k_) ∨ w.heap.size ≤ k_) ∧ k_ ≠ gb330) (.slice A0 l0.length c0) l0) ∧ Aside0 (Kd.V (Kd.int .i64) 3 wc w.heap.size (fun k_ => ((P0_ k_ ∨ P2_7_ k_ ∨ P2_8_ k_ ∨ P2_9_ k_) ∨ w.heap.size ≤ k_) ∧ k_ ≠ gb330) (.slice A2_7 l2_7.length c2_7) l2_7) ∧ Aside0 (Kd.V k47 47 wc w.heap.size (fun k_ => ((P0_ k_ ∨ P2_7_ k_ ∨ P2_8_ k_ ∨ P2_9_ k_) ∨ w.heap.size ≤ k_) ∧ k_ ≠ gb330) (.slice A2_8 l2_8.length c2_8) l2_8) ∧ Aside0 (Kd.V (Kd.int .i64) 3 wc w.heap.size (fun k_ => ((P0_ k_ ∨ P2_7_ k_ ∨ P2_8_ k_ ∨ P2_9_ k_) ∨ w.heap.size ≤ k_) ∧ k_ ≠ gb330) (.slice A2_9 l2_9.length c2_9) l2_9) ∧ Aside0 (wc.heap[gb330]? = some (.cells #[.int .i64 a2_0, .int .i64 a2_1, .int .i64 a2_2, .int .i64 a2_3, .int .i64 a2_4, .int .i64 a2_5, .int .i64 a2_6, (.slice A2_7 l2_7.length c2_7), (.slice A2_8 l2_8.length c2_8), (.slice A2_9 l2_9.length c2_9)] 35 (0, 0))) ∧ Aside0 (Below w.heap.size w wc))
  case first =>
   have H := HC6.out
   clear HC6
   replace H := Option.bind_eq_some_iff.mp H
   obtain ⟨t332, A90, H⟩ := H
   replace H : (if t332 = true then (if (l2_8.length : Int) > 30 then (sizarlaw35_IndexReplaced.j0 k l0 a1 true a2_0 a2_1 a2_2 a2_3 a2_4 a2_5 a2_6 l2_7 l2_8 l2_9) else (sizarlaw35_IndexReplaced.j0 k l0 a1 ((l0.length : Int) == 0) a2_0 a2_1 a2_2 a2_3 a2_4 a2_5 a2_6 l2_7 l2_8 l2_9)) else (sizarlaw35_IndexReplaced.j0 k l0 a1 true a2_0 a2_1 a2_2 a2_3 a2_4 a2_5 a2_6 l2_7 l2_8 l2_9)) = some r := H
   have A9 := Aside0.mk A90
   clear A90
   by_cases c10 : t332 = true
   ·subst c10
    have H1 : (if (l2_8.length : Int) > 30 then (sizarlaw35_IndexReplaced.j0 k l0 a1 true a2_0 a2_1 a2_2 a2_3 a2_4 a2_5 a2_6 l2_7 l2_8 l2_9) else (sizarlaw35_IndexReplaced.j0 k l0 a1 ((l0.length : Int) == 0) a2_0 a2_1 a2_2 a2_3 a2_4 a2_5 a2_6 l2_7 l2_8 l2_9)) = some r := by rw [if_pos rfl] at H; exact H
    clear H
    have H := H1
    clear H1
    by_cases c11 : (l2_8.length : Int) > 30
    ·rw [if_pos c11] at H
     have c11b0 : decide (30 < (l2_8.length : Int)) = true := decide_eq_true c11
     have c11b1 : decide (30 < l2_8.length) = true := decide_eq_true (by omega)
     clear c11
     (first | rw [c11b0] | (simp only [i64_w, i32_w]; rw [c11b0]) | skip)
     have H' := Aside0.mk H
     clear H
     go_wp2_with (first | ((with_reducible refine gate_callee (f := 11) rfl ?_); refine goesL_ (some 14) rfl rfl Try.func11 (by kernel_rfl) rfl #[.slice A0 l0.length c0] rfl (by (try simp only [List.map_toArray, List.map_cons, List.map_nil]); first | done | rfl | (simp only [List.length_drop, List.length_take]; rfl)) ?_; (with_reducible refine (sizarref35_Few.calls k _ _ l0 true _ ?side1 ?side2 A9.out).mono ?_); (case side1 => repeat (first | exact (Kd.V_reads' HO0.out).2.2 | (with_reducible refine Kd.C_alloc ?_ _) | (with_reducible refine Kd.C_drewN ?_ _) | (with_reducible refine Kd.C_drew ?_))); (case side2 => exact (Kd.V_reads' HO0.out).2.1); rintro e w' ⟨rfl, ⟨nd, rfl⟩⟩; refine ⟨_, rfl, ?_⟩; have hcz12_0 : w8.cell? ⟨gb330, 0, none⟩ = some (.int .i64 a2_0) := (blk_cell BK330.out 0).trans rfl; have hcz12_1 : w8.cell? ⟨gb330, 1, none⟩ = some (.int .i64 a2_1) := (blk_cell BK330.out 1).trans rfl; have hcz12_2 : w8.cell? ⟨gb330, 2, none⟩ = some (.int .i64 a2_2) := (blk_cell BK330.out 2).trans rfl; have hcz12_3 : w8.cell? ⟨gb330, 3, none⟩ = some (.int .i64 a2_3) := (blk_cell BK330.out 3).trans rfl; have hcz12_4 : w8.cell? ⟨gb330, 4, none⟩ = some (.int .i64 a2_4) := (blk_cell BK330.out 4).trans rfl; have hcz12_5 : w8.cell? ⟨gb330, 5, none⟩ = some (.int .i64 a2_5) := (blk_cell BK330.out 5).trans rfl; have hcz12_6 : w8.cell? ⟨gb330, 6, none⟩ = some (.int .i64 a2_6) := (blk_cell BK330.out 6).trans rfl; have hcz12_7 : w8.cell? ⟨gb330, 7, none⟩ = some (.slice A2_7 l2_7.length c2_7) := (blk_cell BK330.out 7).trans rfl; have hcz12_8 : w8.cell? ⟨gb330, 8, none⟩ = some (.slice A2_8 l2_8.length c2_8) := (blk_cell BK330.out 8).trans rfl; have hcz12_9 : w8.cell? ⟨gb330, 9, none⟩ = some (.slice A2_9 l2_9.length c2_9) := (blk_cell BK330.out 9).trans rfl; have hfz12_0 := blk_frozen BK330.out 0; have hfz12_1 := blk_frozen BK330.out 1; have hfz12_2 := blk_frozen BK330.out 2; have hfz12_3 := blk_frozen BK330.out 3; have hfz12_4 := blk_frozen BK330.out 4; have hfz12_5 := blk_frozen BK330.out 5; have hfz12_6 := blk_frozen BK330.out 6; have hfz12_7 := blk_frozen BK330.out 7; have hfz12_8 := blk_frozen BK330.out 8; have hfz12_9 := blk_frozen BK330.out 9))
     go_meet
     case rel => exact ⟨_, (true), (by first | rfl | (simp; done) | (simp [*]; done)), H', ⟨by first | omega | exact Nat.le_refl _⟩, ⟨by (with_reducible repeat (first | apply Kd.V_alloc | apply Kd.V_drewN | apply Kd.V_drew)); exact HO0.out⟩, ⟨by (with_reducible repeat (first | apply Kd.V_alloc | apply Kd.V_drewN | apply Kd.V_drew)); exact HO2_7.out⟩, ⟨by (with_reducible repeat (first | apply Kd.V_alloc | apply Kd.V_drewN | apply Kd.V_drew)); exact HO2_8.out⟩, ⟨by (with_reducible repeat (first | apply Kd.V_alloc | apply Kd.V_drewN | apply Kd.V_drew)); exact HO2_9.out⟩, ⟨by (with_reducible repeat (first | refine blk_drewN ?_ _ | refine blk_drew ?_ | refine blk_alloc ?_ _)); exact BK330.out⟩, ⟨by repeat (first | (with_reducible first | exact HB.out | apply below_alloc | apply pw_below_drewN | apply below_drew1 | refine below_set ?_ GE330.out) | exact HB.out)⟩⟩
    ·rw [if_neg c11] at H
     have c11b0 : decide (30 < (l2_8.length : Int)) = false := decide_eq_false c11
     have c11b1 : decide (30 < l2_8.length) = false := decide_eq_false (by omega)
     clear c11
     (first | rw [c11b0] | (simp only [i64_w, i32_w]; rw [c11b0]) | skip)
     have H' := Aside0.mk H
     clear H
     go_wp2_with (first | ((with_reducible refine gate_callee (f := 11) rfl ?_); refine goesL_ (some 14) rfl rfl Try.func11 (by kernel_rfl) rfl #[.slice A0 l0.length c0] rfl (by (try simp only [List.map_toArray, List.map_cons, List.map_nil]); first | done | rfl | (simp only [List.length_drop, List.length_take]; rfl)) ?_; (with_reducible refine (sizarref35_Few.calls k _ _ l0 true _ ?side1 ?side2 A9.out).mono ?_); (case side1 => repeat (first | exact (Kd.V_reads' HO0.out).2.2 | (with_reducible refine Kd.C_alloc ?_ _) | (with_reducible refine Kd.C_drewN ?_ _) | (with_reducible refine Kd.C_drew ?_))); (case side2 => exact (Kd.V_reads' HO0.out).2.1); rintro e w' ⟨rfl, ⟨nd, rfl⟩⟩; refine ⟨_, rfl, ?_⟩; have hcz13_0 : w8.cell? ⟨gb330, 0, none⟩ = some (.int .i64 a2_0) := (blk_cell BK330.out 0).trans rfl; have hcz13_1 : w8.cell? ⟨gb330, 1, none⟩ = some (.int .i64 a2_1) := (blk_cell BK330.out 1).trans rfl; have hcz13_2 : w8.cell? ⟨gb330, 2, none⟩ = some (.int .i64 a2_2) := (blk_cell BK330.out 2).trans rfl; have hcz13_3 : w8.cell? ⟨gb330, 3, none⟩ = some (.int .i64 a2_3) := (blk_cell BK330.out 3).trans rfl; have hcz13_4 : w8.cell? ⟨gb330, 4, none⟩ = some (.int .i64 a2_4) := (blk_cell BK330.out 4).trans rfl; have hcz13_5 : w8.cell? ⟨gb330, 5, none⟩ = some (.int .i64 a2_5) := (blk_cell BK330.out 5).trans rfl; have hcz13_6 : w8.cell? ⟨gb330, 6, none⟩ = some (.int .i64 a2_6) := (blk_cell BK330.out 6).trans rfl; have hcz13_7 : w8.cell? ⟨gb330, 7, none⟩ = some (.slice A2_7 l2_7.length c2_7) := (blk_cell BK330.out 7).trans rfl; have hcz13_8 : w8.cell? ⟨gb330, 8, none⟩ = some (.slice A2_8 l2_8.length c2_8) := (blk_cell BK330.out 8).trans rfl; have hcz13_9 : w8.cell? ⟨gb330, 9, none⟩ = some (.slice A2_9 l2_9.length c2_9) := (blk_cell BK330.out 9).trans rfl; have hfz13_0 := blk_frozen BK330.out 0; have hfz13_1 := blk_frozen BK330.out 1; have hfz13_2 := blk_frozen BK330.out 2; have hfz13_3 := blk_frozen BK330.out 3; have hfz13_4 := blk_frozen BK330.out 4; have hfz13_5 := blk_frozen BK330.out 5; have hfz13_6 := blk_frozen BK330.out 6; have hfz13_7 := blk_frozen BK330.out 7; have hfz13_8 := blk_frozen BK330.out 8; have hfz13_9 := blk_frozen BK330.out 9))
     go_meet
     case rel => exact ⟨_, (((l0.length : Int) == 0)), (by first | rfl | (simp; done) | (simp [*]; done)), H', ⟨by first | omega | exact Nat.le_refl _⟩, ⟨by (with_reducible repeat (first | apply Kd.V_alloc | apply Kd.V_drewN | apply Kd.V_drew)); exact HO0.out⟩, ⟨by (with_reducible repeat (first | apply Kd.V_alloc | apply Kd.V_drewN | apply Kd.V_drew)); exact HO2_7.out⟩, ⟨by (with_reducible repeat (first | apply Kd.V_alloc | apply Kd.V_drewN | apply Kd.V_drew)); exact HO2_8.out⟩, ⟨by (with_reducible repeat (first | apply Kd.V_alloc | apply Kd.V_drewN | apply Kd.V_drew)); exact HO2_9.out⟩, ⟨by (with_reducible repeat (first | refine blk_drewN ?_ _ | refine blk_drew ?_ | refine blk_alloc ?_ _)); exact BK330.out⟩, ⟨by repeat (first | (with_reducible first | exact HB.out | apply below_alloc | apply pw_below_drewN | apply below_drew1 | refine below_set ?_ GE330.out) | exact HB.out)⟩⟩
   ·replace c10 := Bool.eq_false_iff.mpr c10
    subst c10
    have H1 : (sizarlaw35_IndexReplaced.j0 k l0 a1 true a2_0 a2_1 a2_2 a2_3 a2_4 a2_5 a2_6 l2_7 l2_8 l2_9) = some r := by rw [if_neg (show ¬ (false = true) by decide)] at H; exact H
    clear H
    have H := H1
    clear H1
    have H' := Aside0.mk H
    clear H
    go_wp2_with (first | ((with_reducible refine gate_callee (f := 11) rfl ?_); refine goesL_ (some 14) rfl rfl Try.func11 (by kernel_rfl) rfl #[.slice A0 l0.length c0] rfl (by (try simp only [List.map_toArray, List.map_cons, List.map_nil]); first | done | rfl | (simp only [List.length_drop, List.length_take]; rfl)) ?_; (with_reducible refine (sizarref35_Few.calls k _ _ l0 false _ ?side1 ?side2 A9.out).mono ?_); (case side1 => repeat (first | exact (Kd.V_reads' HO0.out).2.2 | (with_reducible refine Kd.C_alloc ?_ _) | (with_reducible refine Kd.C_drewN ?_ _) | (with_reducible refine Kd.C_drew ?_))); (case side2 => exact (Kd.V_reads' HO0.out).2.1); rintro e w' ⟨rfl, ⟨nd, rfl⟩⟩; refine ⟨_, rfl, ?_⟩))
    go_meet
    case rel => exact ⟨_, (true), (by first | rfl | (simp; done) | (simp [*]; done)), H', ⟨by first | omega | exact Nat.le_refl _⟩, ⟨by (with_reducible repeat (first | apply Kd.V_alloc | apply Kd.V_drewN | apply Kd.V_drew)); exact HO0.out⟩, ⟨by (with_reducible repeat (first | apply Kd.V_alloc | apply Kd.V_drewN | apply Kd.V_drew)); exact HO2_7.out⟩, ⟨by (with_reducible repeat (first | apply Kd.V_alloc | apply Kd.V_drewN | apply Kd.V_drew)); exact HO2_8.out⟩, ⟨by (with_reducible repeat (first | apply Kd.V_alloc | apply Kd.V_drewN | apply Kd.V_drew)); exact HO2_9.out⟩, ⟨by (with_reducible repeat (first | refine blk_drewN ?_ _ | refine blk_drew ?_ | refine blk_alloc ?_ _)); exact BK330.out⟩, ⟨by repeat (first | (with_reducible first | exact HB.out | apply below_alloc | apply pw_below_drewN | apply below_drew1 | refine below_set ?_ GE330.out) | exact HB.out)⟩⟩
  case rest =>
   clear HC6
   try clear c1
   try clear c2
   try clear p2
   try clear c5
   try clear c7
   try clear c10
   try clear c11
   try clear c11b0
   try clear c11b1
   try clear hcz12_0
   try clear hcz12_1
   try clear hcz12_2
   try clear hcz12_3
   try clear hcz12_4
   try clear hcz12_5
   try clear hcz12_6
   try clear hcz12_7
   try clear hcz12_8
   try clear hcz12_9
   try clear hcz13_0
   try clear hcz13_1
   try clear hcz13_2
   try clear hcz13_3
   try clear hcz13_4
   try clear hcz13_5
   try clear hcz13_6
   try clear hcz13_7
   try clear hcz13_8
   try clear hcz13_9
   try clear hfz12_0
   try clear hfz12_1
   try clear hfz12_2
   try clear hfz12_3
   try clear hfz12_4
   try clear hfz12_5
   try clear hfz12_6
   try clear hfz12_7
   try clear hfz12_8
   try clear hfz12_9
   try clear hfz13_0
   try clear hfz13_1
   try clear hfz13_2
   try clear hfz13_3
   try clear hfz13_4
   try clear hfz13_5
   try clear hfz13_6
   try clear hfz13_7
   try clear hfz13_8
   try clear hfz13_9
   obtain ⟨kq, x26_5, rfl, HA, HJ5, HO_0, HO_331007, HO_331008, HO_331009, BK330, HB⟩ := hcut
   cases kq with
   | zero => exact absurd HA.out (by simp [sizarlaw35_IndexReplaced.j0])
   | succ kj5 =>
    have H := HA.out
    clear HA
    simp only [sizarlaw35_IndexReplaced.j0] at H
    by_cases c14 : x26_5 = true
    ·subst c14
     have H1 : (some true) = some r := by rw [if_pos rfl] at H; exact H
     clear H
     have H := H1
     clear H1
     obtain rfl := Option.some.inj H
     go_wp2
     go_ret
     exact ⟨by first | rfl | (simp [errW_none, errW_some] <;> rfl) | (simp [*, errW_none, errW_some] <;> rfl), by repeat (first | (with_reducible first | exact HB.out | apply below_alloc | apply pw_below_drewN | apply below_drew1 | refine below_set ?_ GE330.out) | exact HB.out)⟩
    ·replace c14 := Bool.eq_false_iff.mpr c14
     subst c14
     have H1 : (if (IntKind.u64.wrap ((l0.length : Int))) = 0 then (none) else ((some (([] : List (S35)) : List (S35))).bind fun y333 => (if y333.length + l0.length < 1099511627776 then ((some (y333 ++ l0 : List (S35))).bind fun y336 => (if 0 ≤ (wrap64 (Int.tmod a1 (IntKind.u64.wrap ((l0.length : Int))))) then (if (wrap64 (Int.tmod a1 (IntKind.u64.wrap ((l0.length : Int))))) < (y336.length : Int) then ((index_Build.f l0).bind fun t340 => ((index_Replace.f t340 (wrap64 (Int.tmod a1 (IntKind.u64.wrap ((l0.length : Int))))) a2_0 a2_1 a2_2 a2_3 a2_4 a2_5 a2_6 l2_7 l2_8 l2_9).bind fun t344 => ((index_Build.f (y336.set ((wrap64 (Int.tmod a1 (IntKind.u64.wrap ((l0.length : Int))))) : Int).toNat (⟨(⟨a2_0, a2_1, a2_2, a2_3⟩ : S31), a2_4, a2_5, a2_6, l2_7, l2_8, l2_9⟩ : S35))).bind fun t348 => ((sizarref35_Same.f kj5 t344 t348).bind fun t351 => (if t351 = true then (if (wrap64 (Int.tmod a1 (IntKind.u64.wrap ((l0.length : Int))))) < (l0.length : Int) then ((index_Replace.f t344 (wrap64 (Int.tmod a1 (IntKind.u64.wrap ((l0.length : Int))))) ((rd_T35 l0 (wrap64 (Int.tmod a1 (IntKind.u64.wrap ((l0.length : Int)))))).f0.f0) ((rd_T35 l0 (wrap64 (Int.tmod a1 (IntKind.u64.wrap ((l0.length : Int)))))).f0.f1) ((rd_T35 l0 (wrap64 (Int.tmod a1 (IntKind.u64.wrap ((l0.length : Int)))))).f0.f2) ((rd_T35 l0 (wrap64 (Int.tmod a1 (IntKind.u64.wrap ((l0.length : Int)))))).f0.f3) ((rd_T35 l0 (wrap64 (Int.tmod a1 (IntKind.u64.wrap ((l0.length : Int)))))).f1) ((rd_T35 l0 (wrap64 (Int.tmod a1 (IntKind.u64.wrap ((l0.length : Int)))))).f2) ((rd_T35 l0 (wrap64 (Int.tmod a1 (IntKind.u64.wrap ((l0.length : Int)))))).f3) ((rd_T35 l0 (wrap64 (Int.tmod a1 (IntKind.u64.wrap ((l0.length : Int)))))).f4) ((rd_T35 l0 (wrap64 (Int.tmod a1 (IntKind.u64.wrap ((l0.length : Int)))))).f5) ((rd_T35 l0 (wrap64 (Int.tmod a1 (IntKind.u64.wrap ((l0.length : Int)))))).f6)).bind fun t353 => ((sizarref35_Same.f kj5 t353 t340).bind fun t356 => (if t356 = true then ((index_Replace.f t340 (wrap64 (Int.tmod a1 (IntKind.u64.wrap ((l0.length : Int))))) ((rd_T35 l0 (wrap64 (Int.tmod a1 (IntKind.u64.wrap ((l0.length : Int)))))).f0.f0) ((rd_T35 l0 (wrap64 (Int.tmod a1 (IntKind.u64.wrap ((l0.length : Int)))))).f0.f1) ((rd_T35 l0 (wrap64 (Int.tmod a1 (IntKind.u64.wrap ((l0.length : Int)))))).f0.f2) ((rd_T35 l0 (wrap64 (Int.tmod a1 (IntKind.u64.wrap ((l0.length : Int)))))).f0.f3) ((rd_T35 l0 (wrap64 (Int.tmod a1 (IntKind.u64.wrap ((l0.length : Int)))))).f1) ((rd_T35 l0 (wrap64 (Int.tmod a1 (IntKind.u64.wrap ((l0.length : Int)))))).f2) ((rd_T35 l0 (wrap64 (Int.tmod a1 (IntKind.u64.wrap ((l0.length : Int)))))).f3) ((rd_T35 l0 (wrap64 (Int.tmod a1 (IntKind.u64.wrap ((l0.length : Int)))))).f4) ((rd_T35 l0 (wrap64 (Int.tmod a1 (IntKind.u64.wrap ((l0.length : Int)))))).f5) ((rd_T35 l0 (wrap64 (Int.tmod a1 (IntKind.u64.wrap ((l0.length : Int)))))).f6)).bind fun t358 => ((sizarref35_Same.f kj5 t358 t340).bind fun t361 => (some t361))) else (none)))) else (none)) else (none)))))) else (none)) else (none))) else (none)))) = some r := by rw [if_neg (show ¬ (false = true) by decide)] at H; exact H
     clear H
     have H := H1
     clear H1
     by_cases c15 : (IntKind.u64.wrap ((l0.length : Int))) = 0
     ·rw [if_pos c15] at H
      exact absurd H (by simp)
     ·rw [if_neg c15] at H
      have c15b0 : ((IntKind.u64.wrap ((l0.length : Int))) == 0) = false := beq_eq_false_iff_ne.mpr c15
      have c15b1 : ((IntKind.u64.wrap ((l0.length : Int))) != 0) = true := bne_iff_ne.mpr c15
      obtain ⟨y333, hy333⟩ : ∃ y_ : List (S35), y_ = (([] : List (S35))) := ⟨_, rfl⟩
      replace H : (if y333.length + l0.length < 1099511627776 then ((some (y333 ++ l0 : List (S35))).bind fun y336 => (if 0 ≤ (wrap64 (Int.tmod a1 (IntKind.u64.wrap ((l0.length : Int))))) then (if (wrap64 (Int.tmod a1 (IntKind.u64.wrap ((l0.length : Int))))) < (y336.length : Int) then ((index_Build.f l0).bind fun t340 => ((index_Replace.f t340 (wrap64 (Int.tmod a1 (IntKind.u64.wrap ((l0.length : Int))))) a2_0 a2_1 a2_2 a2_3 a2_4 a2_5 a2_6 l2_7 l2_8 l2_9).bind fun t344 => ((index_Build.f (y336.set ((wrap64 (Int.tmod a1 (IntKind.u64.wrap ((l0.length : Int))))) : Int).toNat (⟨(⟨a2_0, a2_1, a2_2, a2_3⟩ : S31), a2_4, a2_5, a2_6, l2_7, l2_8, l2_9⟩ : S35))).bind fun t348 => ((sizarref35_Same.f kj5 t344 t348).bind fun t351 => (if t351 = true then (if (wrap64 (Int.tmod a1 (IntKind.u64.wrap ((l0.length : Int))))) < (l0.length : Int) then ((index_Replace.f t344 (wrap64 (Int.tmod a1 (IntKind.u64.wrap ((l0.length : Int))))) ((rd_T35 l0 (wrap64 (Int.tmod a1 (IntKind.u64.wrap ((l0.length : Int)))))).f0.f0) ((rd_T35 l0 (wrap64 (Int.tmod a1 (IntKind.u64.wrap ((l0.length : Int)))))).f0.f1) ((rd_T35 l0 (wrap64 (Int.tmod a1 (IntKind.u64.wrap ((l0.length : Int)))))).f0.f2) ((rd_T35 l0 (wrap64 (Int.tmod a1 (IntKind.u64.wrap ((l0.length : Int)))))).f0.f3) ((rd_T35 l0 (wrap64 (Int.tmod a1 (IntKind.u64.wrap ((l0.length : Int)))))).f1) ((rd_T35 l0 (wrap64 (Int.tmod a1 (IntKind.u64.wrap ((l0.length : Int)))))).f2) ((rd_T35 l0 (wrap64 (Int.tmod a1 (IntKind.u64.wrap ((l0.length : Int)))))).f3) ((rd_T35 l0 (wrap64 (Int.tmod a1 (IntKind.u64.wrap ((l0.length : Int)))))).f4) ((rd_T35 l0 (wrap64 (Int.tmod a1 (IntKind.u64.wrap ((l0.length : Int)))))).f5) ((rd_T35 l0 (wrap64 (Int.tmod a1 (IntKind.u64.wrap ((l0.length : Int)))))).f6)).bind fun t353 => ((sizarref35_Same.f kj5 t353 t340).bind fun t356 => (if t356 = true then ((index_Replace.f t340 (wrap64 (Int.tmod a1 (IntKind.u64.wrap ((l0.length : Int))))) ((rd_T35 l0 (wrap64 (Int.tmod a1 (IntKind.u64.wrap ((l0.length : Int)))))).f0.f0) ((rd_T35 l0 (wrap64 (Int.tmod a1 (IntKind.u64.wrap ((l0.length : Int)))))).f0.f1) ((rd_T35 l0 (wrap64 (Int.tmod a1 (IntKind.u64.wrap ((l0.length : Int)))))).f0.f2) ((rd_T35 l0 (wrap64 (Int.tmod a1 (IntKind.u64.wrap ((l0.length : Int)))))).f0.f3) ((rd_T35 l0 (wrap64 (Int.tmod a1 (IntKind.u64.wrap ((l0.length : Int)))))).f1) ((rd_T35 l0 (wrap64 (Int.tmod a1 (IntKind.u64.wrap ((l0.length : Int)))))).f2) ((rd_T35 l0 (wrap64 (Int.tmod a1 (IntKind.u64.wrap ((l0.length : Int)))))).f3) ((rd_T35 l0 (wrap64 (Int.tmod a1 (IntKind.u64.wrap ((l0.length : Int)))))).f4) ((rd_T35 l0 (wrap64 (Int.tmod a1 (IntKind.u64.wrap ((l0.length : Int)))))).f5) ((rd_T35 l0 (wrap64 (Int.tmod a1 (IntKind.u64.wrap ((l0.length : Int)))))).f6)).bind fun t358 => ((sizarref35_Same.f kj5 t358 t340).bind fun t361 => (some t361))) else (none)))) else (none)) else (none)))))) else (none)) else (none))) else (none)) = some r := by first | (rw [hy333]; with_reducible exact H) | (have H2_ := (Option.bind_some _ _).symm.trans H; rw [hy333]; with_reducible exact H2_) | (have H2_ := (Option.bind_some _ _).symm.trans H; with_reducible exact H2_) | with_reducible exact H | (rw [hy333]; exact H) | exact H
      have Ny333 := Aside0.mk hy333
      clear hy333
      by_cases c16 : y333.length + l0.length < 1099511627776
      ·rw [if_pos c16] at H
       have LMc16 := Aside0.mk c16
       clear c16
       obtain ⟨y336, hy336⟩ : ∃ y_ : List (S35), y_ = (y333 ++ l0) := ⟨_, rfl⟩
       replace H : (if 0 ≤ (wrap64 (Int.tmod a1 (IntKind.u64.wrap ((l0.length : Int))))) then (if (wrap64 (Int.tmod a1 (IntKind.u64.wrap ((l0.length : Int))))) < (y336.length : Int) then ((index_Build.f l0).bind fun t340 => ((index_Replace.f t340 (wrap64 (Int.tmod a1 (IntKind.u64.wrap ((l0.length : Int))))) a2_0 a2_1 a2_2 a2_3 a2_4 a2_5 a2_6 l2_7 l2_8 l2_9).bind fun t344 => ((index_Build.f (y336.set ((wrap64 (Int.tmod a1 (IntKind.u64.wrap ((l0.length : Int))))) : Int).toNat (⟨(⟨a2_0, a2_1, a2_2, a2_3⟩ : S31), a2_4, a2_5, a2_6, l2_7, l2_8, l2_9⟩ : S35))).bind fun t348 => ((sizarref35_Same.f kj5 t344 t348).bind fun t351 => (if t351 = true then (if (wrap64 (Int.tmod a1 (IntKind.u64.wrap ((l0.length : Int))))) < (l0.length : Int) then ((index_Replace.f t344 (wrap64 (Int.tmod a1 (IntKind.u64.wrap ((l0.length : Int))))) ((rd_T35 l0 (wrap64 (Int.tmod a1 (IntKind.u64.wrap ((l0.length : Int)))))).f0.f0) ((rd_T35 l0 (wrap64 (Int.tmod a1 (IntKind.u64.wrap ((l0.length : Int)))))).f0.f1) ((rd_T35 l0 (wrap64 (Int.tmod a1 (IntKind.u64.wrap ((l0.length : Int)))))).f0.f2) ((rd_T35 l0 (wrap64 (Int.tmod a1 (IntKind.u64.wrap ((l0.length : Int)))))).f0.f3) ((rd_T35 l0 (wrap64 (Int.tmod a1 (IntKind.u64.wrap ((l0.length : Int)))))).f1) ((rd_T35 l0 (wrap64 (Int.tmod a1 (IntKind.u64.wrap ((l0.length : Int)))))).f2) ((rd_T35 l0 (wrap64 (Int.tmod a1 (IntKind.u64.wrap ((l0.length : Int)))))).f3) ((rd_T35 l0 (wrap64 (Int.tmod a1 (IntKind.u64.wrap ((l0.length : Int)))))).f4) ((rd_T35 l0 (wrap64 (Int.tmod a1 (IntKind.u64.wrap ((l0.length : Int)))))).f5) ((rd_T35 l0 (wrap64 (Int.tmod a1 (IntKind.u64.wrap ((l0.length : Int)))))).f6)).bind fun t353 => ((sizarref35_Same.f kj5 t353 t340).bind fun t356 => (if t356 = true then ((index_Replace.f t340 (wrap64 (Int.tmod a1 (IntKind.u64.wrap ((l0.length : Int))))) ((rd_T35 l0 (wrap64 (Int.tmod a1 (IntKind.u64.wrap ((l0.length : Int)))))).f0.f0) ((rd_T35 l0 (wrap64 (Int.tmod a1 (IntKind.u64.wrap ((l0.length : Int)))))).f0.f1) ((rd_T35 l0 (wrap64 (Int.tmod a1 (IntKind.u64.wrap ((l0.length : Int)))))).f0.f2) ((rd_T35 l0 (wrap64 (Int.tmod a1 (IntKind.u64.wrap ((l0.length : Int)))))).f0.f3) ((rd_T35 l0 (wrap64 (Int.tmod a1 (IntKind.u64.wrap ((l0.length : Int)))))).f1) ((rd_T35 l0 (wrap64 (Int.tmod a1 (IntKind.u64.wrap ((l0.length : Int)))))).f2) ((rd_T35 l0 (wrap64 (Int.tmod a1 (IntKind.u64.wrap ((l0.length : Int)))))).f3) ((rd_T35 l0 (wrap64 (Int.tmod a1 (IntKind.u64.wrap ((l0.length : Int)))))).f4) ((rd_T35 l0 (wrap64 (Int.tmod a1 (IntKind.u64.wrap ((l0.length : Int)))))).f5) ((rd_T35 l0 (wrap64 (Int.tmod a1 (IntKind.u64.wrap ((l0.length : Int)))))).f6)).bind fun t358 => ((sizarref35_Same.f kj5 t358 t340).bind fun t361 => (some t361))) else (none)))) else (none)) else (none)))))) else (none)) else (none)) = some r := by first | (rw [hy336]; with_reducible exact H) | (have H2_ := (Option.bind_some _ _).symm.trans H; rw [hy336]; with_reducible exact H2_) | (have H2_ := (Option.bind_some _ _).symm.trans H; with_reducible exact H2_) | with_reducible exact H | (rw [hy336]; exact H) | exact H
       have Ny336 := Aside0.mk hy336
       clear hy336
       obtain ⟨ji17, hji17⟩ : ∃ j_ : Int, (wrap64 (Int.tmod a1 (IntKind.u64.wrap ((l0.length : Int))))) = j_ := ⟨_, rfl⟩
       replace H : (if 0 ≤ (ji17) then (if (ji17) < (y336.length : Int) then ((index_Build.f l0).bind fun t340 => ((index_Replace.f t340 (ji17) a2_0 a2_1 a2_2 a2_3 a2_4 a2_5 a2_6 l2_7 l2_8 l2_9).bind fun t344 => ((index_Build.f (y336.set ((ji17) : Int).toNat (⟨(⟨a2_0, a2_1, a2_2, a2_3⟩ : S31), a2_4, a2_5, a2_6, l2_7, l2_8, l2_9⟩ : S35))).bind fun t348 => ((sizarref35_Same.f kj5 t344 t348).bind fun t351 => (if t351 = true then (if (ji17) < (l0.length : Int) then ((index_Replace.f t344 (ji17) ((rd_T35 l0 (ji17)).f0.f0) ((rd_T35 l0 (ji17)).f0.f1) ((rd_T35 l0 (ji17)).f0.f2) ((rd_T35 l0 (ji17)).f0.f3) ((rd_T35 l0 (ji17)).f1) ((rd_T35 l0 (ji17)).f2) ((rd_T35 l0 (ji17)).f3) ((rd_T35 l0 (ji17)).f4) ((rd_T35 l0 (ji17)).f5) ((rd_T35 l0 (ji17)).f6)).bind fun t353 => ((sizarref35_Same.f kj5 t353 t340).bind fun t356 => (if t356 = true then ((index_Replace.f t340 (ji17) ((rd_T35 l0 (ji17)).f0.f0) ((rd_T35 l0 (ji17)).f0.f1) ((rd_T35 l0 (ji17)).f0.f2) ((rd_T35 l0 (ji17)).f0.f3) ((rd_T35 l0 (ji17)).f1) ((rd_T35 l0 (ji17)).f2) ((rd_T35 l0 (ji17)).f3) ((rd_T35 l0 (ji17)).f4) ((rd_T35 l0 (ji17)).f5) ((rd_T35 l0 (ji17)).f6)).bind fun t358 => ((sizarref35_Same.f kj5 t358 t340).bind fun t361 => (some t361))) else (none)))) else (none)) else (none)))))) else (none)) else (none)) = some r := by first | (rw [hji17] at H; exact H) | (simp only [hji17] at H ⊢; exact H)
       have hji17w : (IntKind.i64.wrap (Int.tmod a1 (IntKind.u64.wrap ((l0.length : Int))))) = ji17 := (i64_w _).trans hji17
       by_cases c18 : 0 ≤ (ji17)
       ·rw [if_pos c18] at H
        have c18b0 : decide (0 ≤ (ji17)) = true := decide_eq_true c18
        clear c18
        by_cases c19 : (ji17) < (y336.length : Int)
        ·rw [if_pos c19] at H
         have c19b0 : decide ((ji17) < (y336.length : Int)) = true := decide_eq_true c19
         clear c19
         obtain ⟨y339, hy339⟩ : ∃ y_ : List (S35), y_ = (y336.set ((ji17) : Int).toNat (⟨(⟨a2_0, a2_1, a2_2, a2_3⟩ : S31), a2_4, a2_5, a2_6, l2_7, l2_8, l2_9⟩ : S35)) := ⟨_, rfl⟩
         replace H : ((index_Build.f l0).bind fun t340 => ((index_Replace.f t340 (ji17) a2_0 a2_1 a2_2 a2_3 a2_4 a2_5 a2_6 l2_7 l2_8 l2_9).bind fun t344 => ((index_Build.f y339).bind fun t348 => ((sizarref35_Same.f kj5 t344 t348).bind fun t351 => (if t351 = true then (if (ji17) < (l0.length : Int) then ((index_Replace.f t344 (ji17) ((rd_T35 l0 (ji17)).f0.f0) ((rd_T35 l0 (ji17)).f0.f1) ((rd_T35 l0 (ji17)).f0.f2) ((rd_T35 l0 (ji17)).f0.f3) ((rd_T35 l0 (ji17)).f1) ((rd_T35 l0 (ji17)).f2) ((rd_T35 l0 (ji17)).f3) ((rd_T35 l0 (ji17)).f4) ((rd_T35 l0 (ji17)).f5) ((rd_T35 l0 (ji17)).f6)).bind fun t353 => ((sizarref35_Same.f kj5 t353 t340).bind fun t356 => (if t356 = true then ((index_Replace.f t340 (ji17) ((rd_T35 l0 (ji17)).f0.f0) ((rd_T35 l0 (ji17)).f0.f1) ((rd_T35 l0 (ji17)).f0.f2) ((rd_T35 l0 (ji17)).f0.f3) ((rd_T35 l0 (ji17)).f1) ((rd_T35 l0 (ji17)).f2) ((rd_T35 l0 (ji17)).f3) ((rd_T35 l0 (ji17)).f4) ((rd_T35 l0 (ji17)).f5) ((rd_T35 l0 (ji17)).f6)).bind fun t358 => ((sizarref35_Same.f kj5 t358 t340).bind fun t361 => (some t361))) else (none)))) else (none)) else (none)))))) = some r := by first | (rw [hy339]; with_reducible exact H) | (have H2_ := (Option.bind_some _ _).symm.trans H; rw [hy339]; with_reducible exact H2_) | (have H2_ := (Option.bind_some _ _).symm.trans H; with_reducible exact H2_) | with_reducible exact H | (rw [hy339]; exact H) | exact H
         have Ny339 := Aside0.mk hy339
         clear hy339
         replace H := Option.bind_eq_some_iff.mp H
         obtain ⟨t340, A210, H⟩ := H
         replace H : ((index_Replace.f t340 (ji17) a2_0 a2_1 a2_2 a2_3 a2_4 a2_5 a2_6 l2_7 l2_8 l2_9).bind fun t344 => ((index_Build.f y339).bind fun t348 => ((sizarref35_Same.f kj5 t344 t348).bind fun t351 => (if t351 = true then (if (ji17) < (l0.length : Int) then ((index_Replace.f t344 (ji17) ((rd_T35 l0 (ji17)).f0.f0) ((rd_T35 l0 (ji17)).f0.f1) ((rd_T35 l0 (ji17)).f0.f2) ((rd_T35 l0 (ji17)).f0.f3) ((rd_T35 l0 (ji17)).f1) ((rd_T35 l0 (ji17)).f2) ((rd_T35 l0 (ji17)).f3) ((rd_T35 l0 (ji17)).f4) ((rd_T35 l0 (ji17)).f5) ((rd_T35 l0 (ji17)).f6)).bind fun t353 => ((sizarref35_Same.f kj5 t353 t340).bind fun t356 => (if t356 = true then ((index_Replace.f t340 (ji17) ((rd_T35 l0 (ji17)).f0.f0) ((rd_T35 l0 (ji17)).f0.f1) ((rd_T35 l0 (ji17)).f0.f2) ((rd_T35 l0 (ji17)).f0.f3) ((rd_T35 l0 (ji17)).f1) ((rd_T35 l0 (ji17)).f2) ((rd_T35 l0 (ji17)).f3) ((rd_T35 l0 (ji17)).f4) ((rd_T35 l0 (ji17)).f5) ((rd_T35 l0 (ji17)).f6)).bind fun t358 => ((sizarref35_Same.f kj5 t358 t340).bind fun t361 => (some t361))) else (none)))) else (none)) else (none))))) = some r := H
         have A21 := Aside0.mk A210
         clear A210
         replace H := Option.bind_eq_some_iff.mp H
         obtain ⟨t344, A220, H⟩ := H
         replace H : ((index_Build.f y339).bind fun t348 => ((sizarref35_Same.f kj5 t344 t348).bind fun t351 => (if t351 = true then (if (ji17) < (l0.length : Int) then ((index_Replace.f t344 (ji17) ((rd_T35 l0 (ji17)).f0.f0) ((rd_T35 l0 (ji17)).f0.f1) ((rd_T35 l0 (ji17)).f0.f2) ((rd_T35 l0 (ji17)).f0.f3) ((rd_T35 l0 (ji17)).f1) ((rd_T35 l0 (ji17)).f2) ((rd_T35 l0 (ji17)).f3) ((rd_T35 l0 (ji17)).f4) ((rd_T35 l0 (ji17)).f5) ((rd_T35 l0 (ji17)).f6)).bind fun t353 => ((sizarref35_Same.f kj5 t353 t340).bind fun t356 => (if t356 = true then ((index_Replace.f t340 (ji17) ((rd_T35 l0 (ji17)).f0.f0) ((rd_T35 l0 (ji17)).f0.f1) ((rd_T35 l0 (ji17)).f0.f2) ((rd_T35 l0 (ji17)).f0.f3) ((rd_T35 l0 (ji17)).f1) ((rd_T35 l0 (ji17)).f2) ((rd_T35 l0 (ji17)).f3) ((rd_T35 l0 (ji17)).f4) ((rd_T35 l0 (ji17)).f5) ((rd_T35 l0 (ji17)).f6)).bind fun t358 => ((sizarref35_Same.f kj5 t358 t340).bind fun t361 => (some t361))) else (none)))) else (none)) else (none)))) = some r := H
         have A22 := Aside0.mk A220
         clear A220
         replace H := Option.bind_eq_some_iff.mp H
         obtain ⟨t348, A230, H⟩ := H
         replace H : ((sizarref35_Same.f kj5 t344 t348).bind fun t351 => (if t351 = true then (if (ji17) < (l0.length : Int) then ((index_Replace.f t344 (ji17) ((rd_T35 l0 (ji17)).f0.f0) ((rd_T35 l0 (ji17)).f0.f1) ((rd_T35 l0 (ji17)).f0.f2) ((rd_T35 l0 (ji17)).f0.f3) ((rd_T35 l0 (ji17)).f1) ((rd_T35 l0 (ji17)).f2) ((rd_T35 l0 (ji17)).f3) ((rd_T35 l0 (ji17)).f4) ((rd_T35 l0 (ji17)).f5) ((rd_T35 l0 (ji17)).f6)).bind fun t353 => ((sizarref35_Same.f kj5 t353 t340).bind fun t356 => (if t356 = true then ((index_Replace.f t340 (ji17) ((rd_T35 l0 (ji17)).f0.f0) ((rd_T35 l0 (ji17)).f0.f1) ((rd_T35 l0 (ji17)).f0.f2) ((rd_T35 l0 (ji17)).f0.f3) ((rd_T35 l0 (ji17)).f1) ((rd_T35 l0 (ji17)).f2) ((rd_T35 l0 (ji17)).f3) ((rd_T35 l0 (ji17)).f4) ((rd_T35 l0 (ji17)).f5) ((rd_T35 l0 (ji17)).f6)).bind fun t358 => ((sizarref35_Same.f kj5 t358 t340).bind fun t361 => (some t361))) else (none)))) else (none)) else (none))) = some r := H
         have A23 := Aside0.mk A230
         clear A230
         replace H := Option.bind_eq_some_iff.mp H
         obtain ⟨t351, A240, H⟩ := H
         replace H : (if t351 = true then (if (ji17) < (l0.length : Int) then ((index_Replace.f t344 (ji17) ((rd_T35 l0 (ji17)).f0.f0) ((rd_T35 l0 (ji17)).f0.f1) ((rd_T35 l0 (ji17)).f0.f2) ((rd_T35 l0 (ji17)).f0.f3) ((rd_T35 l0 (ji17)).f1) ((rd_T35 l0 (ji17)).f2) ((rd_T35 l0 (ji17)).f3) ((rd_T35 l0 (ji17)).f4) ((rd_T35 l0 (ji17)).f5) ((rd_T35 l0 (ji17)).f6)).bind fun t353 => ((sizarref35_Same.f kj5 t353 t340).bind fun t356 => (if t356 = true then ((index_Replace.f t340 (ji17) ((rd_T35 l0 (ji17)).f0.f0) ((rd_T35 l0 (ji17)).f0.f1) ((rd_T35 l0 (ji17)).f0.f2) ((rd_T35 l0 (ji17)).f0.f3) ((rd_T35 l0 (ji17)).f1) ((rd_T35 l0 (ji17)).f2) ((rd_T35 l0 (ji17)).f3) ((rd_T35 l0 (ji17)).f4) ((rd_T35 l0 (ji17)).f5) ((rd_T35 l0 (ji17)).f6)).bind fun t358 => ((sizarref35_Same.f kj5 t358 t340).bind fun t361 => (some t361))) else (none)))) else (none)) else (none)) = some r := H
         have A24 := Aside0.mk A240
         clear A240
         by_cases c25 : t351 = true
         ·subst c25
          have H1 : (if (ji17) < (l0.length : Int) then ((index_Replace.f t344 (ji17) ((rd_T35 l0 (ji17)).f0.f0) ((rd_T35 l0 (ji17)).f0.f1) ((rd_T35 l0 (ji17)).f0.f2) ((rd_T35 l0 (ji17)).f0.f3) ((rd_T35 l0 (ji17)).f1) ((rd_T35 l0 (ji17)).f2) ((rd_T35 l0 (ji17)).f3) ((rd_T35 l0 (ji17)).f4) ((rd_T35 l0 (ji17)).f5) ((rd_T35 l0 (ji17)).f6)).bind fun t353 => ((sizarref35_Same.f kj5 t353 t340).bind fun t356 => (if t356 = true then ((index_Replace.f t340 (ji17) ((rd_T35 l0 (ji17)).f0.f0) ((rd_T35 l0 (ji17)).f0.f1) ((rd_T35 l0 (ji17)).f0.f2) ((rd_T35 l0 (ji17)).f0.f3) ((rd_T35 l0 (ji17)).f1) ((rd_T35 l0 (ji17)).f2) ((rd_T35 l0 (ji17)).f3) ((rd_T35 l0 (ji17)).f4) ((rd_T35 l0 (ji17)).f5) ((rd_T35 l0 (ji17)).f6)).bind fun t358 => ((sizarref35_Same.f kj5 t358 t340).bind fun t361 => (some t361))) else (none)))) else (none)) = some r := by rw [if_pos rfl] at H; exact H
          clear H
          have H := H1
          clear H1
          by_cases c26 : (ji17) < (l0.length : Int)
          ·rw [if_pos c26] at H
           have c26b0 : decide ((ji17) < (l0.length : Int)) = true := decide_eq_true c26
           clear c26
           replace H := Option.bind_eq_some_iff.mp H
           obtain ⟨t353, A270, H⟩ := H
           replace H : ((sizarref35_Same.f kj5 t353 t340).bind fun t356 => (if t356 = true then ((index_Replace.f t340 (ji17) ((rd_T35 l0 (ji17)).f0.f0) ((rd_T35 l0 (ji17)).f0.f1) ((rd_T35 l0 (ji17)).f0.f2) ((rd_T35 l0 (ji17)).f0.f3) ((rd_T35 l0 (ji17)).f1) ((rd_T35 l0 (ji17)).f2) ((rd_T35 l0 (ji17)).f3) ((rd_T35 l0 (ji17)).f4) ((rd_T35 l0 (ji17)).f5) ((rd_T35 l0 (ji17)).f6)).bind fun t358 => ((sizarref35_Same.f kj5 t358 t340).bind fun t361 => (some t361))) else (none))) = some r := H
           have A27 := Aside0.mk A270
           clear A270
           replace H := Option.bind_eq_some_iff.mp H
           obtain ⟨t356, A280, H⟩ := H
           replace H : (if t356 = true then ((index_Replace.f t340 (ji17) ((rd_T35 l0 (ji17)).f0.f0) ((rd_T35 l0 (ji17)).f0.f1) ((rd_T35 l0 (ji17)).f0.f2) ((rd_T35 l0 (ji17)).f0.f3) ((rd_T35 l0 (ji17)).f1) ((rd_T35 l0 (ji17)).f2) ((rd_T35 l0 (ji17)).f3) ((rd_T35 l0 (ji17)).f4) ((rd_T35 l0 (ji17)).f5) ((rd_T35 l0 (ji17)).f6)).bind fun t358 => ((sizarref35_Same.f kj5 t358 t340).bind fun t361 => (some t361))) else (none)) = some r := H
           have A28 := Aside0.mk A280
           clear A280
           by_cases c29 : t356 = true
           ·subst c29
            have H1 : ((index_Replace.f t340 (ji17) ((rd_T35 l0 (ji17)).f0.f0) ((rd_T35 l0 (ji17)).f0.f1) ((rd_T35 l0 (ji17)).f0.f2) ((rd_T35 l0 (ji17)).f0.f3) ((rd_T35 l0 (ji17)).f1) ((rd_T35 l0 (ji17)).f2) ((rd_T35 l0 (ji17)).f3) ((rd_T35 l0 (ji17)).f4) ((rd_T35 l0 (ji17)).f5) ((rd_T35 l0 (ji17)).f6)).bind fun t358 => ((sizarref35_Same.f kj5 t358 t340).bind fun t361 => (some t361))) = some r := by rw [if_pos rfl] at H; exact H
            clear H
            have H := H1
            clear H1
            replace H := Option.bind_eq_some_iff.mp H
            obtain ⟨t358, A300, H⟩ := H
            replace H : ((sizarref35_Same.f kj5 t358 t340).bind fun t361 => (some t361)) = some r := H
            have A30 := Aside0.mk A300
            clear A300
            replace H := Option.bind_eq_some_iff.mp H
            obtain ⟨t361, A310, H⟩ := H
            replace H : (some t361) = some r := H
            have A31 := Aside0.mk A310
            clear A310
            obtain rfl := Option.some.inj H
            try go_wp2_with (first | ((with_reducible refine gate_dst (N := 33) rfl ?_); (try (refine gate_guard (by rfl) ?_; dsimp only)); refine Kd.N_lit k35 _ 35 ?hg (N' := 33) ?hd (xs := ([] : List (S35))) (inner := []) (ok := (fun k_ => ((P0_ k_ ∨ P2_7_ k_ ∨ P2_8_ k_ ∨ P2_9_ k_) ∨ w.heap.size ≤ k_) ∧ k_ ≠ gb330)) (okp := (fun k_ => ((P0_ k_ ∨ P2_7_ k_ ∨ P2_8_ k_ ∨ P2_9_ k_) ∨ w.heap.size ≤ k_) ∧ k_ ≠ gb330)) ?hr ?hp (fun _ hk => hk) ((show ∀ k_, wc.heap.size ≤ k_ → (fun k_ => ((P0_ k_ ∨ P2_7_ k_ ∨ P2_8_ k_ ∨ P2_9_ k_) ∨ w.heap.size ≤ k_) ∧ k_ ≠ gb330) k_ from fun k_ hk => ⟨(.inr (Nat.le_trans (below_size (by repeat (first | (with_reducible first | exact HB.out | apply below_alloc | apply pw_below_drewN | apply below_drew1 | refine below_set ?_ GE330.out) | exact HB.out))) hk)), Kd.freshB (g := gb330) (o := .cells #[.int .i64 a2_0, .int .i64 a2_1, .int .i64 a2_2, .int .i64 a2_3, .int .i64 a2_4, .int .i64 a2_5, .int .i64 a2_6, .slice A2_7 l2_7.length c2_7, .slice A2_8 l2_8.length c2_8, .slice A2_9 l2_9.length c2_9] 35 (0, 0)) (by (with_reducible repeat (first | refine blk_drewN ?_ _ | refine blk_drew ?_ | refine blk_alloc ?_ _)); exact BK330.out) k_ hk⟩) _ (Nat.le_refl _)) (Below.refl _ _) (Nat.le_refl _) (by simp) ?_; (case hd => rfl); (case hg => rfl); (case hr => first | (go_simp; done) | (go_simp; rfl)); (case hp => exact (Reps.none _ _)); intro v334 w32 ho33 hb hg_ hnew_; clear hg_ hnew_; (first | rw [← Ny333.out] at ho33 | (simp only [Int.reduceToNat] at ho33; rw [← Ny333.out] at ho33)); have n0_ := Aside0.mk (Kd.V_elder' (by (with_reducible repeat (first | apply Kd.V_alloc | apply Kd.V_drewN | apply Kd.V_drew)); exact HO_0.out) (Kd.N_base ho33) hb); have n1_ := Aside0.mk (Kd.V_elder' (by (with_reducible repeat (first | apply Kd.V_alloc | apply Kd.V_drewN | apply Kd.V_drew)); exact HO_331007.out) (Kd.N_base ho33) hb); have n2_ := Aside0.mk (Kd.V_elder' (by (with_reducible repeat (first | apply Kd.V_alloc | apply Kd.V_drewN | apply Kd.V_drew)); exact HO_331008.out) (Kd.N_base ho33) hb); have n3_ := Aside0.mk (Kd.V_elder' (by (with_reducible repeat (first | apply Kd.V_alloc | apply Kd.V_drewN | apply Kd.V_drew)); exact HO_331009.out) (Kd.N_base ho33) hb); have n4_ := Aside0.mk (Kd.N_lower ho33 (below_size (by repeat (first | (with_reducible first | exact HB.out | apply below_alloc | apply pw_below_drewN | apply below_drew1 | refine below_set ?_ GE330.out) | exact HB.out)))); have n5_ := Aside0.mk (blk_below (g := gb330) (o := .cells #[.int .i64 a2_0, .int .i64 a2_1, .int .i64 a2_2, .int .i64 a2_3, .int .i64 a2_4, .int .i64 a2_5, .int .i64 a2_6, .slice A2_7 l2_7.length c2_7, .slice A2_8 l2_8.length c2_8, .slice A2_9 l2_9.length c2_9] 35 (0, 0)) (by (with_reducible repeat (first | refine blk_drewN ?_ _ | refine blk_drew ?_ | refine blk_alloc ?_ _)); exact BK330.out) hb); have n6_ := Aside0.mk (below_step (by repeat (first | (with_reducible first | exact HB.out | apply below_alloc | apply pw_below_drewN | apply below_drew1 | refine below_set ?_ GE330.out) | exact HB.out)) hb); clear HO_0; clear HO_331007; clear HO_331008; clear HO_331009; clear BK330; clear HB; have HO_0 := n0_; have HO_331007 := n1_; have HO_331008 := n2_; have HO_331009 := n3_; have HO335 := n4_; have BK330 := n5_; have HB := n6_; clear n0_ n1_ n2_ n3_ n4_ n5_ n6_; clear hb ho33) | ((with_reducible refine gate_builtin (b := .append) (xs := #[.tmp 33, .tmp 34]) rfl ?_); (try (refine gate_guard (by rfl) ?_; dsimp only)); at_builtin; refine Kd.N_append_rows k35 (w0 := w) w.heap.size rfl (.tmp 33) (.tmp 34) 22 35 (.agg #[(.int .i64 0), (.int .i64 0), (.int .i64 0), (.int .i64 0), (.int .i64 0), (.int .i64 0), (.int .i64 0), (.slice none 0 0), (.slice none 0 0), (.slice none 0 0)]) 128 rfl Try.underlying22 info35 rfl (by decide) (by omega) v334 y333 l0 _ _ _ (fun k_ => ((P0_ k_ ∨ P2_7_ k_ ∨ P2_8_ k_ ∨ P2_9_ k_) ∨ w.heap.size ≤ k_) ∧ k_ ≠ gb330) (fun k_ => ((fun k_ => ((P0_ k_ ∨ P2_7_ k_ ∨ P2_8_ k_ ∨ P2_9_ k_) ∨ w.heap.size ≤ k_) ∧ k_ ≠ gb330)) k_ ∧ some k_ ≠ (v334 : Value).ownBlock) rfl rfl ?aO ?aR (fun _ hk => hk) ?aF ?aB ?aS ?aL ?_; (case aR => exact (by skip; exact Kd.V_F (Kd.V_mono (ok' := (fun k_ => ((fun k_ => ((P0_ k_ ∨ P2_7_ k_ ∨ P2_8_ k_ ∨ P2_9_ k_) ∨ w.heap.size ≤ k_) ∧ k_ ≠ gb330)) k_ ∧ some k_ ≠ (v334 : Value).ownBlock)) (HO_0.out) (fun k_ hk => ⟨⟨hk.1.1, hk.1.2⟩, hk.2⟩)))); (case aB => exact (by repeat (first | (with_reducible first | exact HB.out | apply below_alloc | apply pw_below_drewN | apply below_drew1 | refine below_set ?_ GE330.out) | exact HB.out))); (case aF => exact (fun k_ hk => ⟨(.inr (Nat.le_trans (below_size (by repeat (first | (with_reducible first | exact HB.out | apply below_alloc | apply pw_below_drewN | apply below_drew1 | refine below_set ?_ GE330.out) | exact HB.out))) hk)), Kd.freshB (g := gb330) (o := .cells #[.int .i64 a2_0, .int .i64 a2_1, .int .i64 a2_2, .int .i64 a2_3, .int .i64 a2_4, .int .i64 a2_5, .int .i64 a2_6, .slice A2_7 l2_7.length c2_7, .slice A2_8 l2_8.length c2_8, .slice A2_9 l2_9.length c2_9] 35 (0, 0)) (by (with_reducible repeat (first | refine blk_drewN ?_ _ | refine blk_drew ?_ | refine blk_alloc ?_ _)); exact BK330.out) k_ hk⟩)); (case aO => exact (by (with_reducible repeat (first | apply Kd.N_alloc | apply Kd.N_drewN | apply Kd.N_drew)); exact HO335.out)); (case aS => exact (below_size (by repeat (first | (with_reducible first | exact HB.out | apply below_alloc | apply pw_below_drewN | apply below_drew1 | refine below_set ?_ GE330.out) | exact HB.out)))); (case aL => have := LMc16.out; omega); intro v337 w34 ho hb hg hat; rw [← Ny336.out] at ho; have n0_ := Aside0.mk (Kd.V_afterv (ok := (fun k_ => ((P0_ k_ ∨ P2_7_ k_ ∨ P2_8_ k_ ∨ P2_9_ k_) ∨ w.heap.size ≤ k_) ∧ k_ ≠ gb330)) (by (with_reducible repeat (first | apply Kd.V_alloc | apply Kd.V_drewN | apply Kd.V_drew)); exact HO_0.out) hg hat); have n1_ := Aside0.mk (Kd.V_afterv (ok := (fun k_ => ((P0_ k_ ∨ P2_7_ k_ ∨ P2_8_ k_ ∨ P2_9_ k_) ∨ w.heap.size ≤ k_) ∧ k_ ≠ gb330)) (by (with_reducible repeat (first | apply Kd.V_alloc | apply Kd.V_drewN | apply Kd.V_drew)); exact HO_331007.out) hg hat); have n2_ := Aside0.mk (Kd.V_afterv (ok := (fun k_ => ((P0_ k_ ∨ P2_7_ k_ ∨ P2_8_ k_ ∨ P2_9_ k_) ∨ w.heap.size ≤ k_) ∧ k_ ≠ gb330)) (by (with_reducible repeat (first | apply Kd.V_alloc | apply Kd.V_drewN | apply Kd.V_drew)); exact HO_331008.out) hg hat); have n3_ := Aside0.mk (Kd.V_afterv (ok := (fun k_ => ((P0_ k_ ∨ P2_7_ k_ ∨ P2_8_ k_ ∨ P2_9_ k_) ∨ w.heap.size ≤ k_) ∧ k_ ≠ gb330)) (by (with_reducible repeat (first | apply Kd.V_alloc | apply Kd.V_drewN | apply Kd.V_drew)); exact HO_331009.out) hg hat); have n4_ := Aside0.mk (blk_grown (g := gb330) (o := .cells #[.int .i64 a2_0, .int .i64 a2_1, .int .i64 a2_2, .int .i64 a2_3, .int .i64 a2_4, .int .i64 a2_5, .int .i64 a2_6, .slice A2_7 l2_7.length c2_7, .slice A2_8 l2_8.length c2_8, .slice A2_9 l2_9.length c2_9] 35 (0, 0)) (by (with_reducible repeat (first | refine blk_drewN ?_ _ | refine blk_drew ?_ | refine blk_alloc ?_ _)); exact BK330.out) hg (Kd.N_away HO335.out (fun _ hk => hk.2))); have n5_ := Aside0.mk (hb); have n6_ := Aside0.mk (ho); clear HO_0; clear HO_331007; clear HO_331008; clear HO_331009; clear BK330; clear HB; clear HO335; have HO_0 := n0_; have HO_331007 := n1_; have HO_331008 := n2_; have HO_331009 := n3_; have BK330 := n4_; have HB := n5_; have HO338 := n6_; clear n0_ n1_ n2_ n3_ n4_ n5_ n6_; clear ho hb hg hat; have hcz35_0 : w34.cell? ⟨gb330, 0, none⟩ = some (.int .i64 a2_0) := (blk_cell BK330.out 0).trans rfl; have hcz35_1 : w34.cell? ⟨gb330, 1, none⟩ = some (.int .i64 a2_1) := (blk_cell BK330.out 1).trans rfl; have hcz35_2 : w34.cell? ⟨gb330, 2, none⟩ = some (.int .i64 a2_2) := (blk_cell BK330.out 2).trans rfl; have hcz35_3 : w34.cell? ⟨gb330, 3, none⟩ = some (.int .i64 a2_3) := (blk_cell BK330.out 3).trans rfl; have hcz35_4 : w34.cell? ⟨gb330, 4, none⟩ = some (.int .i64 a2_4) := (blk_cell BK330.out 4).trans rfl; have hcz35_5 : w34.cell? ⟨gb330, 5, none⟩ = some (.int .i64 a2_5) := (blk_cell BK330.out 5).trans rfl; have hcz35_6 : w34.cell? ⟨gb330, 6, none⟩ = some (.int .i64 a2_6) := (blk_cell BK330.out 6).trans rfl; have hcz35_7 : w34.cell? ⟨gb330, 7, none⟩ = some (.slice A2_7 l2_7.length c2_7) := (blk_cell BK330.out 7).trans rfl; have hcz35_8 : w34.cell? ⟨gb330, 8, none⟩ = some (.slice A2_8 l2_8.length c2_8) := (blk_cell BK330.out 8).trans rfl; have hcz35_9 : w34.cell? ⟨gb330, 9, none⟩ = some (.slice A2_9 l2_9.length c2_9) := (blk_cell BK330.out 9).trans rfl; have hfz35_0 := blk_frozen BK330.out 0; have hfz35_1 := blk_frozen BK330.out 1; have hfz35_2 := blk_frozen BK330.out 2; have hfz35_3 := blk_frozen BK330.out 3; have hfz35_4 := blk_frozen BK330.out 4; have hfz35_5 := blk_frozen BK330.out 5; have hfz35_6 := blk_frozen BK330.out 6; have hfz35_7 := blk_frozen BK330.out 7; have hfz35_8 := blk_frozen BK330.out 8; have hfz35_9 := blk_frozen BK330.out 9; have p20 : 0 ≤ ((ji17) : Int) := of_decide_eq_true (by first | (with_reducible assumption) | assumption); have q20 : ((ji17) : Int) < ((y336.length : Int) : Int) := of_decide_eq_true (by first | (with_reducible assumption) | assumption); obtain ⟨go20, co20, eo20, gb20, gl20, cl20, HG20⟩ := Kd.N_form HO338.out (by omega); (first | cases eo20 | (injection eo20 with ea_ en_ ec_; (first | subst ea_ | (injection ea_ with ea_; subst ea_)); subst ec_; clear en_)); have GB20 := Aside0.mk gb20; have GG20 := Aside0.mk HG20; clear gb20 gl20 HG20; obtain ⟨ce20, hcl20, hM20, hcc20, hfr20⟩ := Kd.N_elem HO338.out z35 ((ji17) : Int) p20 q20; obtain ⟨ua20_7, uc20_7, ua20_8, uc20_8, ua20_9, uc20_9, rfl, ul20_7, ge20_7, ul20_8, ge20_8, ul20_9, ge20_9⟩ := k35_openF hM20; have hx20_0 : w34.cell? ⟨go20, ((ji17) : Int).toNat * 10, none⟩ = some (.int .i64 ((rd_T35 y336 (ji17)).f0.f0)) := hcc20 0 _ rfl; have hx20_1 : w34.cell? ⟨go20, ((ji17) : Int).toNat * 10 + 1, none⟩ = some (.int .i64 ((rd_T35 y336 (ji17)).f0.f1)) := hcc20 1 _ rfl; have hx20_2 : w34.cell? ⟨go20, ((ji17) : Int).toNat * 10 + 2, none⟩ = some (.int .i64 ((rd_T35 y336 (ji17)).f0.f2)) := hcc20 2 _ rfl; have hx20_3 : w34.cell? ⟨go20, ((ji17) : Int).toNat * 10 + 3, none⟩ = some (.int .i64 ((rd_T35 y336 (ji17)).f0.f3)) := hcc20 3 _ rfl; have hx20_4 : w34.cell? ⟨go20, ((ji17) : Int).toNat * 10 + 4, none⟩ = some (.int .i64 ((rd_T35 y336 (ji17)).f1)) := hcc20 4 _ rfl; have hx20_5 : w34.cell? ⟨go20, ((ji17) : Int).toNat * 10 + 5, none⟩ = some (.int .i64 ((rd_T35 y336 (ji17)).f2)) := hcc20 5 _ rfl; have hx20_6 : w34.cell? ⟨go20, ((ji17) : Int).toNat * 10 + 6, none⟩ = some (.int .i64 ((rd_T35 y336 (ji17)).f3)) := hcc20 6 _ rfl; have hx20_7 : w34.cell? ⟨go20, ((ji17) : Int).toNat * 10 + 7, none⟩ = some (.slice ua20_7 ((rd_T35 y336 (ji17)).f4).length uc20_7) := hcc20 7 _ rfl; have hx20_8 : w34.cell? ⟨go20, ((ji17) : Int).toNat * 10 + 8, none⟩ = some (.slice ua20_8 ((rd_T35 y336 (ji17)).f5).length uc20_8) := hcc20 8 _ rfl; have hx20_9 : w34.cell? ⟨go20, ((ji17) : Int).toNat * 10 + 9, none⟩ = some (.slice ua20_9 ((rd_T35 y336 (ji17)).f6).length uc20_9) := hcc20 9 _ rfl; have hf20_0 : w34.frozen? ⟨go20, ((ji17) : Int).toNat * 10, none⟩ = false := hfr20 0; have hf20_1 : w34.frozen? ⟨go20, ((ji17) : Int).toNat * 10 + 1, none⟩ = false := hfr20 1; have hf20_2 : w34.frozen? ⟨go20, ((ji17) : Int).toNat * 10 + 2, none⟩ = false := hfr20 2; have hf20_3 : w34.frozen? ⟨go20, ((ji17) : Int).toNat * 10 + 3, none⟩ = false := hfr20 3; have hf20_4 : w34.frozen? ⟨go20, ((ji17) : Int).toNat * 10 + 4, none⟩ = false := hfr20 4; have hf20_5 : w34.frozen? ⟨go20, ((ji17) : Int).toNat * 10 + 5, none⟩ = false := hfr20 5; have hf20_6 : w34.frozen? ⟨go20, ((ji17) : Int).toNat * 10 + 6, none⟩ = false := hfr20 6; have hf20_7 : w34.frozen? ⟨go20, ((ji17) : Int).toNat * 10 + 7, none⟩ = false := hfr20 7; have hf20_8 : w34.frozen? ⟨go20, ((ji17) : Int).toNat * 10 + 8, none⟩ = false := hfr20 8; have hf20_9 : w34.frozen? ⟨go20, ((ji17) : Int).toNat * 10 + 9, none⟩ = false := hfr20 9; clear hcl20 hcc20 hfr20 hM20; replace p20 := eq_true p20; replace q20 := eq_true q20; have HX36 := Aside0.mk (show Kd.N k35 35 w34 w.heap.size (fun k_ => ((P0_ k_ ∨ P2_7_ k_ ∨ P2_8_ k_ ∨ P2_9_ k_) ∨ w.heap.size ≤ k_) ∧ k_ ≠ gb330) (.slice (some ⟨go20, 0, none⟩) y336.length co20) y336 from (by (with_reducible repeat (first | apply Kd.N_alloc | apply Kd.N_drewN | apply Kd.N_drew)); exact HO338.out)); obtain ⟨ce36, hcl36, hM36, hcc36, hfr36⟩ := Kd.N_elem HX36.out z35 ((ji17) : Int) (of_decide_eq_true (by first | (with_reducible assumption) | assumption)) (by have h_ : ((ji17) : Int) < ((y336.length : Int) : Int) := of_decide_eq_true (by first | (with_reducible assumption) | assumption); first | exact h_ | (have e_ := (Kd.N_reads' HO338.out).1; omega) | simpa using h_); obtain ⟨ua36_7, uc36_7, ua36_8, uc36_8, ua36_9, uc36_9, rfl, ul36_7, ge36_7, ul36_8, ge36_8, ul36_9, ge36_9⟩ := k35_openF hM36; have HP36 := Kd.N_seg HX36.out ((ji17) : Int) (of_decide_eq_true (by first | (with_reducible assumption) | assumption)) (by have h_ : ((ji17) : Int) < ((y336.length : Int) : Int) := of_decide_eq_true (by first | (with_reducible assumption) | assumption); first | exact h_ | (have e_ := (Kd.N_reads' HO338.out).1; omega) | simpa using h_) (seg := [.int .i64 a2_0, .int .i64 a2_1, .int .i64 a2_2, .int .i64 a2_3, .int .i64 a2_4, .int .i64 a2_5, .int .i64 a2_6, .slice A2_7 l2_7.length c2_7, .slice A2_8 l2_8.length c2_8, .slice A2_9 l2_9.length c2_9]) (j := 0) hcl36 hcc36 (show 10 ≤ 10 from by decide) (x' := (⟨(⟨a2_0, a2_1, a2_2, a2_3⟩ : S31), a2_4, a2_5, a2_6, l2_7, l2_8, l2_9⟩ : S35)) (k35_mkF _ _ (⟨(⟨a2_0, a2_1, a2_2, a2_3⟩ : S31), a2_4, a2_5, a2_6, l2_7, l2_8, l2_9⟩ : S35) (Kd.V_reads' (Kd.V_mono (ok' := (fun k_ => ((fun k_ => ((P0_ k_ ∨ P2_7_ k_ ∨ P2_8_ k_ ∨ P2_9_ k_) ∨ w.heap.size ≤ k_) ∧ k_ ≠ gb330)) k_ ∧ k_ ≠ go20)) (HO_331007.out) (fun k_ hk => ⟨⟨hk.1.1, hk.1.2⟩, fun e_ => (hk.2) (by rw [e_]; rfl)⟩))).2.1 (Kd.V_F (Kd.V_mono (ok' := (fun k_ => ((fun k_ => ((P0_ k_ ∨ P2_7_ k_ ∨ P2_8_ k_ ∨ P2_9_ k_) ∨ w.heap.size ≤ k_) ∧ k_ ≠ gb330)) k_ ∧ k_ ≠ go20)) (HO_331007.out) (fun k_ hk => ⟨⟨hk.1.1, hk.1.2⟩, fun e_ => (hk.2) (by rw [e_]; rfl)⟩))) (Kd.V_reads' (Kd.V_mono (ok' := (fun k_ => ((fun k_ => ((P0_ k_ ∨ P2_7_ k_ ∨ P2_8_ k_ ∨ P2_9_ k_) ∨ w.heap.size ≤ k_) ∧ k_ ≠ gb330)) k_ ∧ k_ ≠ go20)) (HO_331008.out) (fun k_ hk => ⟨⟨hk.1.1, hk.1.2⟩, fun e_ => (hk.2) (by rw [e_]; rfl)⟩))).2.1 (Kd.V_F (Kd.V_mono (ok' := (fun k_ => ((fun k_ => ((P0_ k_ ∨ P2_7_ k_ ∨ P2_8_ k_ ∨ P2_9_ k_) ∨ w.heap.size ≤ k_) ∧ k_ ≠ gb330)) k_ ∧ k_ ≠ go20)) (HO_331008.out) (fun k_ hk => ⟨⟨hk.1.1, hk.1.2⟩, fun e_ => (hk.2) (by rw [e_]; rfl)⟩))) (Kd.V_reads' (Kd.V_mono (ok' := (fun k_ => ((fun k_ => ((P0_ k_ ∨ P2_7_ k_ ∨ P2_8_ k_ ∨ P2_9_ k_) ∨ w.heap.size ≤ k_) ∧ k_ ≠ gb330)) k_ ∧ k_ ≠ go20)) (HO_331009.out) (fun k_ hk => ⟨⟨hk.1.1, hk.1.2⟩, fun e_ => (hk.2) (by rw [e_]; rfl)⟩))).2.1 (Kd.V_F (Kd.V_mono (ok' := (fun k_ => ((fun k_ => ((P0_ k_ ∨ P2_7_ k_ ∨ P2_8_ k_ ∨ P2_9_ k_) ∨ w.heap.size ≤ k_) ∧ k_ ≠ gb330)) k_ ∧ k_ ≠ go20)) (HO_331009.out) (fun k_ hk => ⟨⟨hk.1.1, hk.1.2⟩, fun e_ => (hk.2) (by rw [e_]; rfl)⟩)))) (fun _ hk => hk); have hx36_0 := hcc36 0 _ rfl; (try simp only [show (k35).sz = 10 from rfl, Nat.mul_one, Nat.add_zero] at hx36_0); have hf36_0 := hfr36 0; (try simp only [show (k35).sz = 10 from rfl, Nat.mul_one, Nat.add_zero] at hf36_0); have hx36_1 := hcc36 1 _ rfl; (try simp only [show (k35).sz = 10 from rfl, Nat.mul_one, Nat.add_zero] at hx36_1); have hf36_1 := hfr36 1; (try simp only [show (k35).sz = 10 from rfl, Nat.mul_one, Nat.add_zero] at hf36_1); have hx36_2 := hcc36 2 _ rfl; (try simp only [show (k35).sz = 10 from rfl, Nat.mul_one, Nat.add_zero] at hx36_2); have hf36_2 := hfr36 2; (try simp only [show (k35).sz = 10 from rfl, Nat.mul_one, Nat.add_zero] at hf36_2); have hx36_3 := hcc36 3 _ rfl; (try simp only [show (k35).sz = 10 from rfl, Nat.mul_one, Nat.add_zero] at hx36_3); have hf36_3 := hfr36 3; (try simp only [show (k35).sz = 10 from rfl, Nat.mul_one, Nat.add_zero] at hf36_3); have hx36_4 := hcc36 4 _ rfl; (try simp only [show (k35).sz = 10 from rfl, Nat.mul_one, Nat.add_zero] at hx36_4); have hf36_4 := hfr36 4; (try simp only [show (k35).sz = 10 from rfl, Nat.mul_one, Nat.add_zero] at hf36_4); have hx36_5 := hcc36 5 _ rfl; (try simp only [show (k35).sz = 10 from rfl, Nat.mul_one, Nat.add_zero] at hx36_5); have hf36_5 := hfr36 5; (try simp only [show (k35).sz = 10 from rfl, Nat.mul_one, Nat.add_zero] at hf36_5); have hx36_6 := hcc36 6 _ rfl; (try simp only [show (k35).sz = 10 from rfl, Nat.mul_one, Nat.add_zero] at hx36_6); have hf36_6 := hfr36 6; (try simp only [show (k35).sz = 10 from rfl, Nat.mul_one, Nat.add_zero] at hf36_6); have hx36_7 := hcc36 7 _ rfl; (try simp only [show (k35).sz = 10 from rfl, Nat.mul_one, Nat.add_zero] at hx36_7); have hf36_7 := hfr36 7; (try simp only [show (k35).sz = 10 from rfl, Nat.mul_one, Nat.add_zero] at hf36_7); have hx36_8 := hcc36 8 _ rfl; (try simp only [show (k35).sz = 10 from rfl, Nat.mul_one, Nat.add_zero] at hx36_8); have hf36_8 := hfr36 8; (try simp only [show (k35).sz = 10 from rfl, Nat.mul_one, Nat.add_zero] at hf36_8); have hx36_9 := hcc36 9 _ rfl; (try simp only [show (k35).sz = 10 from rfl, Nat.mul_one, Nat.add_zero] at hx36_9); have hf36_9 := hfr36 9; (try simp only [show (k35).sz = 10 from rfl, Nat.mul_one, Nat.add_zero] at hf36_9); clear hcl36 hcc36 hfr36 hM36) | ((with_reducible refine gate_store (t := 35) (p := 39) rfl ?_); refine store_event (t := 35) (p := 39) (v := ?vo_w37) (w1 := ((((((((((w34.setCell ⟨go20, ((ji17) : Int).toNat * 10, none⟩ (.int .i64 a2_0)).setCell ⟨go20, ((ji17) : Int).toNat * 10 + 1, none⟩ (.int .i64 a2_1)).setCell ⟨go20, ((ji17) : Int).toNat * 10 + 2, none⟩ (.int .i64 a2_2)).setCell ⟨go20, ((ji17) : Int).toNat * 10 + 3, none⟩ (.int .i64 a2_3)).setCell ⟨go20, ((ji17) : Int).toNat * 10 + 4, none⟩ (.int .i64 a2_4)).setCell ⟨go20, ((ji17) : Int).toNat * 10 + 5, none⟩ (.int .i64 a2_5)).setCell ⟨go20, ((ji17) : Int).toNat * 10 + 6, none⟩ (.int .i64 a2_6)).setCell ⟨go20, ((ji17) : Int).toNat * 10 + 7, none⟩ (.slice A2_7 l2_7.length c2_7)).setCell ⟨go20, ((ji17) : Int).toNat * 10 + 8, none⟩ (.slice A2_8 l2_8.length c2_8)).setCell ⟨go20, ((ji17) : Int).toNat * 10 + 9, none⟩ (.slice A2_9 l2_9.length c2_9))) ?hg ?ho ?hn ?hr ?_; (case ho => rfl); (case hg => rfl); (case hn => rfl); (case hr => first | (go_simp; done) | (go_simp; rfl)); intro w37 hw; have hg : w34.grownBy w37 (some go20) := (by rw [hw]; exact HP36.2); have hp_ : Kd.N k35 35 w37 w.heap.size (fun k_ => ((P0_ k_ ∨ P2_7_ k_ ∨ P2_8_ k_ ∨ P2_9_ k_) ∨ w.heap.size ≤ k_) ∧ k_ ≠ gb330) (.slice (some ⟨go20, 0, none⟩) y336.length co20) y339 := (by rw [hw, Ny339.out]; exact HP36.1); clear HP36; have n0_ := Aside0.mk (Kd.V_afterv (v := (.slice (some ⟨go20, 0, none⟩) y336.length co20)) (v1 := (.slice (some ⟨go20, 0, none⟩) y336.length co20)) (ok := (fun k_ => ((P0_ k_ ∨ P2_7_ k_ ∨ P2_8_ k_ ∨ P2_9_ k_) ∨ w.heap.size ≤ k_) ∧ k_ ≠ gb330)) (by (with_reducible repeat (first | apply Kd.V_alloc | apply Kd.V_drewN | apply Kd.V_drew)); exact HO_0.out) hg (.inl rfl)); have n1_ := Aside0.mk (Kd.V_afterv (v := (.slice (some ⟨go20, 0, none⟩) y336.length co20)) (v1 := (.slice (some ⟨go20, 0, none⟩) y336.length co20)) (ok := (fun k_ => ((P0_ k_ ∨ P2_7_ k_ ∨ P2_8_ k_ ∨ P2_9_ k_) ∨ w.heap.size ≤ k_) ∧ k_ ≠ gb330)) (by (with_reducible repeat (first | apply Kd.V_alloc | apply Kd.V_drewN | apply Kd.V_drew)); exact HO_331007.out) hg (.inl rfl)); have n2_ := Aside0.mk (Kd.V_afterv (v := (.slice (some ⟨go20, 0, none⟩) y336.length co20)) (v1 := (.slice (some ⟨go20, 0, none⟩) y336.length co20)) (ok := (fun k_ => ((P0_ k_ ∨ P2_7_ k_ ∨ P2_8_ k_ ∨ P2_9_ k_) ∨ w.heap.size ≤ k_) ∧ k_ ≠ gb330)) (by (with_reducible repeat (first | apply Kd.V_alloc | apply Kd.V_drewN | apply Kd.V_drew)); exact HO_331008.out) hg (.inl rfl)); have n3_ := Aside0.mk (Kd.V_afterv (v := (.slice (some ⟨go20, 0, none⟩) y336.length co20)) (v1 := (.slice (some ⟨go20, 0, none⟩) y336.length co20)) (ok := (fun k_ => ((P0_ k_ ∨ P2_7_ k_ ∨ P2_8_ k_ ∨ P2_9_ k_) ∨ w.heap.size ≤ k_) ∧ k_ ≠ gb330)) (by (with_reducible repeat (first | apply Kd.V_alloc | apply Kd.V_drewN | apply Kd.V_drew)); exact HO_331009.out) hg (.inl rfl)); have n4_ := Aside0.mk (blk_grown (g := gb330) (o := .cells #[.int .i64 a2_0, .int .i64 a2_1, .int .i64 a2_2, .int .i64 a2_3, .int .i64 a2_4, .int .i64 a2_5, .int .i64 a2_6, .slice A2_7 l2_7.length c2_7, .slice A2_8 l2_8.length c2_8, .slice A2_9 l2_9.length c2_9] 35 (0, 0)) (by (with_reducible repeat (first | refine blk_drewN ?_ _ | refine blk_drew ?_ | refine blk_alloc ?_ _)); exact BK330.out) hg (Kd.N_away HO338.out (fun _ hk => hk.2))); have n5_ := Aside0.mk (hp_); have n6_ := Aside0.mk ((by rw [hw]; exact below_set (below_set (below_set (below_set (below_set (below_set (below_set (below_set (below_set (below_set (HB.out) GB20.out) GB20.out) GB20.out) GB20.out) GB20.out) GB20.out) GB20.out) GB20.out) GB20.out) GB20.out : Below w.heap.size w w37)); clear HO_0; clear HO_331007; clear HO_331008; clear HO_331009; clear BK330; clear HO338; clear HB; have HO_0 := n0_; have HO_331007 := n1_; have HO_331008 := n2_; have HO_331009 := n3_; have BK330 := n4_; have HO338 := n5_; have HB := n6_; clear n0_ n1_ n2_ n3_ n4_ n5_ n6_; clear hg hw hp_) | ((with_reducible refine gate_callee (f := 13) rfl ?_); refine goesL_ (some 41) rfl rfl Try.func13 (by kernel_rfl) rfl #[.slice A0 l0.length c0] rfl (by (try simp only [List.map_toArray, List.map_cons, List.map_nil]); first | done | rfl | (simp only [List.length_drop, List.length_take]; rfl)) ?_; (with_reducible refine (index_Build.calls _ _ l0 t340 _ ?side1 ?side2 A21.out).mono ?_); (case side1 => repeat (first | exact (Kd.V_reads' HO_0.out).2.2 | (with_reducible refine Kd.C_alloc ?_ _) | (with_reducible refine Kd.C_drewN ?_ _) | (with_reducible refine Kd.C_drew ?_))); (case side2 => exact (Kd.V_reads' HO_0.out).2.1); rintro e w38 ⟨v341, rfl, ho0, hb⟩; refine ⟨_, rfl, ?_⟩; have n0_ := Aside0.mk (Kd.V_elder' (by (with_reducible repeat (first | apply Kd.V_alloc | apply Kd.V_drewN | apply Kd.V_drew)); exact HO_0.out) (Kd.R_base ho0) hb); have n1_ := Aside0.mk (Kd.V_elder' (by (with_reducible repeat (first | apply Kd.V_alloc | apply Kd.V_drewN | apply Kd.V_drew)); exact HO_331007.out) (Kd.R_base ho0) hb); have n2_ := Aside0.mk (Kd.V_elder' (by (with_reducible repeat (first | apply Kd.V_alloc | apply Kd.V_drewN | apply Kd.V_drew)); exact HO_331008.out) (Kd.R_base ho0) hb); have n3_ := Aside0.mk (Kd.V_elder' (by (with_reducible repeat (first | apply Kd.V_alloc | apply Kd.V_drewN | apply Kd.V_drew)); exact HO_331009.out) (Kd.R_base ho0) hb); have n4_ := Aside0.mk (Kd.N_elder' (by (with_reducible repeat (first | apply Kd.N_alloc | apply Kd.N_drewN | apply Kd.N_drew)); exact HO338.out) (Kd.R_base ho0) hb); have n5_ := Aside0.mk (Kd.R_lower (Kd.R_newM (M := fun k_ => (w.heap.size ≤ k_)) ho0 (below_size (by repeat (first | (with_reducible first | exact HB.out | apply below_alloc | apply pw_below_drewN | apply below_drew1 | refine below_set ?_ GE330.out) | exact HB.out))) (fun k_ h_ => h_)) (below_size (by repeat (first | (with_reducible first | exact HB.out | apply below_alloc | apply pw_below_drewN | apply below_drew1 | refine below_set ?_ GE330.out) | exact HB.out)))); have n6_ := Aside0.mk (blk_below (g := gb330) (o := .cells #[.int .i64 a2_0, .int .i64 a2_1, .int .i64 a2_2, .int .i64 a2_3, .int .i64 a2_4, .int .i64 a2_5, .int .i64 a2_6, .slice A2_7 l2_7.length c2_7, .slice A2_8 l2_8.length c2_8, .slice A2_9 l2_9.length c2_9] 35 (0, 0)) (by (with_reducible repeat (first | refine blk_drewN ?_ _ | refine blk_drew ?_ | refine blk_alloc ?_ _)); exact BK330.out) hb); have n7_ := Aside0.mk (below_step (by repeat (first | (with_reducible first | exact HB.out | apply below_alloc | apply pw_below_drewN | apply below_drew1 | refine below_set ?_ GE330.out) | exact HB.out)) hb); clear HO_0; clear HO_331007; clear HO_331008; clear HO_331009; clear HO338; clear BK330; clear HB; have HO_0 := n0_; have HO_331007 := n1_; have HO_331008 := n2_; have HO_331009 := n3_; have HO338 := n4_; have HO342 := n5_; have BK330 := n6_; have HB := n7_; clear n0_ n1_ n2_ n3_ n4_ n5_ n6_ n7_; (try clear hb); (try clear hb2); (try clear hk); (try clear hi); (try clear ho0)) | ((with_reducible refine gate_dst (N := 9) rfl ?_); (try (refine gate_guard (by rfl) ?_; dsimp only)); refine box_event ?hg (N := 9) ?hd (cs := #[.slice none 0 0]) (t := 28) ?hr ?_; (case hd => rfl); (case hg => rfl); (case hr => first | (go_simp; done) | (go_simp; rfl)); intro gb343 hg w39 hbox hb; have n0_ := Aside0.mk (Kd.V_below (Kd.V_elderB (by (with_reducible repeat (first | apply Kd.V_alloc | apply Kd.V_drewN | apply Kd.V_drew)); exact HO_0.out) gb343 (Nat.le_of_eq hg.symm)) hb); have n1_ := Aside0.mk (Kd.V_below (Kd.V_elderB (by (with_reducible repeat (first | apply Kd.V_alloc | apply Kd.V_drewN | apply Kd.V_drew)); exact HO_331007.out) gb343 (Nat.le_of_eq hg.symm)) hb); have n2_ := Aside0.mk (Kd.V_below (Kd.V_elderB (by (with_reducible repeat (first | apply Kd.V_alloc | apply Kd.V_drewN | apply Kd.V_drew)); exact HO_331008.out) gb343 (Nat.le_of_eq hg.symm)) hb); have n3_ := Aside0.mk (Kd.V_below (Kd.V_elderB (by (with_reducible repeat (first | apply Kd.V_alloc | apply Kd.V_drewN | apply Kd.V_drew)); exact HO_331009.out) gb343 (Nat.le_of_eq hg.symm)) hb); have n4_ := Aside0.mk (Kd.N_below (Kd.N_elderB (by (with_reducible repeat (first | apply Kd.N_alloc | apply Kd.N_drewN | apply Kd.N_drew)); exact HO338.out) gb343 (Nat.le_of_eq hg.symm)) hb); have n5_ := Aside0.mk (Kd.R_below (by (with_reducible repeat (first | apply Kd.R_alloc | apply Kd.R_drewN | apply Kd.R_drew)); exact HO342.out) hb); have n6_ := Aside0.mk (blk_below (g := gb330) (o := .cells #[.int .i64 a2_0, .int .i64 a2_1, .int .i64 a2_2, .int .i64 a2_3, .int .i64 a2_4, .int .i64 a2_5, .int .i64 a2_6, .slice A2_7 l2_7.length c2_7, .slice A2_8 l2_8.length c2_8, .slice A2_9 l2_9.length c2_9] 35 (0, 0)) (by (with_reducible repeat (first | refine blk_drewN ?_ _ | refine blk_drew ?_ | refine blk_alloc ?_ _)); exact BK330.out) hb); have n7_ := Aside0.mk (below_step (by repeat (first | (with_reducible first | exact HB.out | apply below_alloc | apply pw_below_drewN | apply below_drew1 | refine below_set ?_ GE330.out) | exact HB.out)) hb); have n8_ := Aside0.mk (hbox); have n9_ := Aside0.mk ((by rw [hg]; exact (below_size (by repeat (first | (with_reducible first | exact HB.out | apply below_alloc | apply pw_below_drewN | apply below_drew1 | refine below_set ?_ GE330.out) | exact HB.out))) : w.heap.size ≤ gb343)); have n10_ := Aside0.mk ((by rw [hg]; exact (below_size (by repeat (first | (with_reducible first | exact HB.out | apply below_alloc | apply pw_below_drewN | apply below_drew1 | refine below_set ?_ GE330.out) | exact HB.out))) : w.heap.size ≤ gb343)); have n11_ := Aside0.mk ((by rw [hg]; exact Nat.ne_of_lt (blk_lt (g := gb330) (o := .cells #[.int .i64 a2_0, .int .i64 a2_1, .int .i64 a2_2, .int .i64 a2_3, .int .i64 a2_4, .int .i64 a2_5, .int .i64 a2_6, .slice A2_7 l2_7.length c2_7, .slice A2_8 l2_8.length c2_8, .slice A2_9 l2_9.length c2_9] 35 (0, 0)) (by (with_reducible repeat (first | refine blk_drewN ?_ _ | refine blk_drew ?_ | refine blk_alloc ?_ _)); exact BK330.out)) : gb330 ≠ gb343)); have n12_ := Aside0.mk ((by rw [hg]; exact Nat.ne_of_gt (blk_lt (g := gb330) (o := .cells #[.int .i64 a2_0, .int .i64 a2_1, .int .i64 a2_2, .int .i64 a2_3, .int .i64 a2_4, .int .i64 a2_5, .int .i64 a2_6, .slice A2_7 l2_7.length c2_7, .slice A2_8 l2_8.length c2_8, .slice A2_9 l2_9.length c2_9] 35 (0, 0)) (by (with_reducible repeat (first | refine blk_drewN ?_ _ | refine blk_drew ?_ | refine blk_alloc ?_ _)); exact BK330.out)) : gb343 ≠ gb330)); clear HO_0; clear HO_331007; clear HO_331008; clear HO_331009; clear HO338; clear HO342; clear BK330; clear HB; have HO_0 := n0_; have HO_331007 := n1_; have HO_331008 := n2_; have HO_331009 := n3_; have HO338 := n4_; have HO342 := n5_; have BK330 := n6_; have HB := n7_; have BK343 := n8_; have GW343 := n9_; have GE343 := n10_; have NB330_343 := n11_; have NB343_330 := n12_; clear n0_ n1_ n2_ n3_ n4_ n5_ n6_ n7_ n8_ n9_ n10_ n11_ n12_; clear hb hbox hg; obtain ⟨Ao40, co40, eo40⟩ := Kd.R_slice HO342.out; subst eo40; have hnb41 := NB343_330.out; have hnc41 := NB330_343.out; have hcz42_0 : w39.cell? ⟨gb343, 0, none⟩ = some (.slice none 0 0) := (blk_cell BK343.out 0).trans rfl; have hfz42_0 := blk_frozen BK343.out 0; have hcz43_0 : w39.cell? ⟨gb330, 0, none⟩ = some (.int .i64 a2_0) := (blk_cell BK330.out 0).trans rfl; have hcz43_1 : w39.cell? ⟨gb330, 1, none⟩ = some (.int .i64 a2_1) := (blk_cell BK330.out 1).trans rfl; have hcz43_2 : w39.cell? ⟨gb330, 2, none⟩ = some (.int .i64 a2_2) := (blk_cell BK330.out 2).trans rfl; have hcz43_3 : w39.cell? ⟨gb330, 3, none⟩ = some (.int .i64 a2_3) := (blk_cell BK330.out 3).trans rfl; have hcz43_4 : w39.cell? ⟨gb330, 4, none⟩ = some (.int .i64 a2_4) := (blk_cell BK330.out 4).trans rfl; have hcz43_5 : w39.cell? ⟨gb330, 5, none⟩ = some (.int .i64 a2_5) := (blk_cell BK330.out 5).trans rfl; have hcz43_6 : w39.cell? ⟨gb330, 6, none⟩ = some (.int .i64 a2_6) := (blk_cell BK330.out 6).trans rfl; have hcz43_7 : w39.cell? ⟨gb330, 7, none⟩ = some (.slice A2_7 l2_7.length c2_7) := (blk_cell BK330.out 7).trans rfl; have hcz43_8 : w39.cell? ⟨gb330, 8, none⟩ = some (.slice A2_8 l2_8.length c2_8) := (blk_cell BK330.out 8).trans rfl; have hcz43_9 : w39.cell? ⟨gb330, 9, none⟩ = some (.slice A2_9 l2_9.length c2_9) := (blk_cell BK330.out 9).trans rfl; have hfz43_0 := blk_frozen BK330.out 0; have hfz43_1 := blk_frozen BK330.out 1; have hfz43_2 := blk_frozen BK330.out 2; have hfz43_3 := blk_frozen BK330.out 3; have hfz43_4 := blk_frozen BK330.out 4; have hfz43_5 := blk_frozen BK330.out 5; have hfz43_6 := blk_frozen BK330.out 6; have hfz43_7 := blk_frozen BK330.out 7; have hfz43_8 := blk_frozen BK330.out 8; have hfz43_9 := blk_frozen BK330.out 9) | ((with_reducible refine gate_callee (f := 18) rfl ?_); refine goesL_ (some 45) rfl rfl Try.func18 (by kernel_rfl) rfl #[.agg #[.slice Ao40 t340.length co40], .int .i64 ji17, .agg #[.int .i64 a2_0, .int .i64 a2_1, .int .i64 a2_2, .int .i64 a2_3, .int .i64 a2_4, .int .i64 a2_5, .int .i64 a2_6, .slice A2_7 l2_7.length c2_7, .slice A2_8 l2_8.length c2_8, .slice A2_9 l2_9.length c2_9]] rfl (by (try simp only [List.map_toArray, List.map_cons, List.map_nil]); first | done | (simp only [hji17]; rfl) | rfl | (simp only [List.length_drop, List.length_take]; rfl)) ?_; (with_reducible refine (index_Replace.calls _ _ t340 ji17 a2_0 a2_1 a2_2 a2_3 a2_4 a2_5 a2_6 _ _ l2_7 _ _ l2_8 _ _ l2_9 t344 _ ?side1 ?side2 ?side3 ?side4 ?side5 ?side6 ?side7 ?side8 A22.out).mono ?_); (case side1 => refine (Kd.R_reads' (e := 49) (base := w.heap.size) (ok := fun k_ => ((w.heap.size ≤ k_) ∧ True)) (n := t340.length) (c := co40) ?_).2.2; exact (by (with_reducible repeat (first | apply Kd.R_alloc | apply Kd.R_drewN | apply Kd.R_drew)); exact (Kd.R_mono (Kd.R_far (p := ⟨gb343, 0, none⟩) (Kd.R_types HO342.out BK343.out (by decide)) (fun _ hk => hk.2) (.slice Ao40 t340.length co40)) (fun _ h_ => h_.1)))); (case side2 => exact (Kd.R_reads' HO342.out).2.1); (case side3 => refine (Kd.V_reads' (e := 3) (base := w.heap.size) (ok := fun k_ => ((((((P0_ k_ ∨ P2_7_ k_ ∨ P2_8_ k_ ∨ P2_9_ k_) ∨ w.heap.size ≤ k_) ∧ k_ ≠ gb330) ∧ some k_ ≠ (.slice (some ⟨go20, 0, none⟩) y336.length co20 : Value).ownBlock) ∧ some k_ ≠ (.slice Ao40 t340.length co40 : Value).ownBlock) ∧ k_ ≠ gb343)) (n := l2_7.length) (c := c2_7) ?_).2.2; exact (by (with_reducible repeat (first | apply Kd.V_alloc | apply Kd.V_drewN | apply Kd.V_drew)); exact (Kd.V_mono (Kd.V_far (p := ⟨gb343, 0, none⟩) (Kd.V_mono HO_331007.out (fun k_ hk => (⟨hk, hk.2⟩ : _ ∧ k_ ≠ gb343))) (fun _ hk => hk.2) (.slice Ao40 t340.length co40)) (fun _ h_ => h_.1)))); (case side4 => exact (Kd.V_reads' HO_331007.out).2.1); (case side5 => refine (Kd.V_reads' (e := 47) (base := w.heap.size) (ok := fun k_ => ((((((P0_ k_ ∨ P2_7_ k_ ∨ P2_8_ k_ ∨ P2_9_ k_) ∨ w.heap.size ≤ k_) ∧ k_ ≠ gb330) ∧ some k_ ≠ (.slice (some ⟨go20, 0, none⟩) y336.length co20 : Value).ownBlock) ∧ some k_ ≠ (.slice Ao40 t340.length co40 : Value).ownBlock) ∧ k_ ≠ gb343)) (n := l2_8.length) (c := c2_8) ?_).2.2; exact (by (with_reducible repeat (first | apply Kd.V_alloc | apply Kd.V_drewN | apply Kd.V_drew)); exact (Kd.V_mono (Kd.V_far (p := ⟨gb343, 0, none⟩) (Kd.V_mono HO_331008.out (fun k_ hk => (⟨hk, hk.2⟩ : _ ∧ k_ ≠ gb343))) (fun _ hk => hk.2) (.slice Ao40 t340.length co40)) (fun _ h_ => h_.1)))); (case side6 => exact (Kd.V_reads' HO_331008.out).2.1); (case side7 => refine (Kd.V_reads' (e := 3) (base := w.heap.size) (ok := fun k_ => ((((((P0_ k_ ∨ P2_7_ k_ ∨ P2_8_ k_ ∨ P2_9_ k_) ∨ w.heap.size ≤ k_) ∧ k_ ≠ gb330) ∧ some k_ ≠ (.slice (some ⟨go20, 0, none⟩) y336.length co20 : Value).ownBlock) ∧ some k_ ≠ (.slice Ao40 t340.length co40 : Value).ownBlock) ∧ k_ ≠ gb343)) (n := l2_9.length) (c := c2_9) ?_).2.2; exact (by (with_reducible repeat (first | apply Kd.V_alloc | apply Kd.V_drewN | apply Kd.V_drew)); exact (Kd.V_mono (Kd.V_far (p := ⟨gb343, 0, none⟩) (Kd.V_mono HO_331009.out (fun k_ hk => (⟨hk, hk.2⟩ : _ ∧ k_ ≠ gb343))) (fun _ hk => hk.2) (.slice Ao40 t340.length co40)) (fun _ h_ => h_.1)))); (case side8 => exact (Kd.V_reads' HO_331009.out).2.1); rintro e w44 ⟨v345, rfl, ho0, hb⟩; refine ⟨_, rfl, ?_⟩; have n0_ := Aside0.mk (Kd.V_elder' (by (with_reducible repeat (first | apply Kd.V_alloc | apply Kd.V_drewN | apply Kd.V_drew)); exact (Kd.V_mono (Kd.V_far (p := ⟨gb343, 0, none⟩) (Kd.V_mono HO_0.out (fun k_ hk => (⟨hk, hk.2⟩ : _ ∧ k_ ≠ gb343))) (fun _ hk => hk.2) (.slice Ao40 t340.length co40)) (fun _ h_ => h_.1))) (Kd.R_base ho0) hb); have n1_ := Aside0.mk (Kd.V_elder' (by (with_reducible repeat (first | apply Kd.V_alloc | apply Kd.V_drewN | apply Kd.V_drew)); exact (Kd.V_mono (Kd.V_far (p := ⟨gb343, 0, none⟩) (Kd.V_mono HO_331007.out (fun k_ hk => (⟨hk, hk.2⟩ : _ ∧ k_ ≠ gb343))) (fun _ hk => hk.2) (.slice Ao40 t340.length co40)) (fun _ h_ => h_.1))) (Kd.R_base ho0) hb); have n2_ := Aside0.mk (Kd.V_elder' (by (with_reducible repeat (first | apply Kd.V_alloc | apply Kd.V_drewN | apply Kd.V_drew)); exact (Kd.V_mono (Kd.V_far (p := ⟨gb343, 0, none⟩) (Kd.V_mono HO_331008.out (fun k_ hk => (⟨hk, hk.2⟩ : _ ∧ k_ ≠ gb343))) (fun _ hk => hk.2) (.slice Ao40 t340.length co40)) (fun _ h_ => h_.1))) (Kd.R_base ho0) hb); have n3_ := Aside0.mk (Kd.V_elder' (by (with_reducible repeat (first | apply Kd.V_alloc | apply Kd.V_drewN | apply Kd.V_drew)); exact (Kd.V_mono (Kd.V_far (p := ⟨gb343, 0, none⟩) (Kd.V_mono HO_331009.out (fun k_ hk => (⟨hk, hk.2⟩ : _ ∧ k_ ≠ gb343))) (fun _ hk => hk.2) (.slice Ao40 t340.length co40)) (fun _ h_ => h_.1))) (Kd.R_base ho0) hb); have n4_ := Aside0.mk (Kd.N_elder' (by (with_reducible repeat (first | apply Kd.N_alloc | apply Kd.N_drewN | apply Kd.N_drew)); exact (Kd.N_mono (Kd.N_far (p := ⟨gb343, 0, none⟩) (Kd.N_mono HO338.out (fun k_ hk => (⟨hk, hk.2⟩ : _ ∧ k_ ≠ gb343))) (fun _ hk => hk.2) (.slice Ao40 t340.length co40)) (fun _ h_ => h_.1))) (Kd.R_base ho0) hb); have n5_ := Aside0.mk (Kd.R_elder' (by (with_reducible repeat (first | apply Kd.R_alloc | apply Kd.R_drewN | apply Kd.R_drew)); exact (Kd.R_mono (Kd.R_far (p := ⟨gb343, 0, none⟩) (Kd.R_types HO342.out BK343.out (by decide)) (fun _ hk => hk.2) (.slice Ao40 t340.length co40)) (fun _ h_ => h_.1))) (Kd.R_base ho0) hb); have n6_ := Aside0.mk (Kd.R_lower (Kd.R_new' (Kd.R_newM (M := fun k_ => (w.heap.size ≤ k_)) ho0 (below_size (by repeat (first | (with_reducible first | exact HB.out | apply below_alloc | apply pw_below_drewN | apply below_drew1 | refine below_set ?_ GE330.out | refine below_set ?_ GE343.out) | exact HB.out))) (fun k_ h_ => h_)) (Kd.R_lt (by (with_reducible repeat (first | apply Kd.R_alloc | apply Kd.R_drewN | apply Kd.R_drew)); exact (Kd.R_mono (Kd.R_far (p := ⟨gb343, 0, none⟩) (Kd.R_types HO342.out BK343.out (by decide)) (fun _ hk => hk.2) (.slice Ao40 t340.length co40)) (fun _ h_ => h_.1))))) (below_size (by repeat (first | (with_reducible first | exact HB.out | apply below_alloc | apply pw_below_drewN | apply below_drew1 | refine below_set ?_ GE330.out | refine below_set ?_ GE343.out) | exact HB.out)))); have n7_ := Aside0.mk (blk_below (g := gb330) (o := .cells #[.int .i64 a2_0, .int .i64 a2_1, .int .i64 a2_2, .int .i64 a2_3, .int .i64 a2_4, .int .i64 a2_5, .int .i64 a2_6, .slice A2_7 l2_7.length c2_7, .slice A2_8 l2_8.length c2_8, .slice A2_9 l2_9.length c2_9] 35 (0, 0)) (by (with_reducible repeat (first | refine blk_drewN ?_ _ | refine blk_drew ?_ | refine blk_alloc ?_ _)); refine blk_far ?_ NB330_343.out _; (with_reducible repeat (first | refine blk_drewN ?_ _ | refine blk_drew ?_ | refine blk_alloc ?_ _)); exact BK330.out) hb); have n8_ := Aside0.mk (blk_below (g := gb343) (o := .cells #[.slice Ao40 t340.length co40] 28 (0, 0)) (by (with_reducible repeat (first | refine blk_drewN ?_ _ | refine blk_drew ?_ | refine blk_alloc ?_ _)); refine blk_put (cs := #[.slice none 0 0]) ?_ 0 _ rfl; (with_reducible repeat (first | refine blk_drewN ?_ _ | refine blk_drew ?_ | refine blk_alloc ?_ _)); exact BK343.out) hb); have n9_ := Aside0.mk (below_step (by repeat (first | (with_reducible first | exact HB.out | apply below_alloc | apply pw_below_drewN | apply below_drew1 | refine below_set ?_ GE330.out | refine below_set ?_ GE343.out) | exact HB.out)) hb); clear HO_0; clear HO_331007; clear HO_331008; clear HO_331009; clear HO338; clear HO342; clear BK330; clear BK343; clear HB; have HO_0 := n0_; have HO_331007 := n1_; have HO_331008 := n2_; have HO_331009 := n3_; have HO338 := n4_; have HO342 := n5_; have HO346 := n6_; have BK330 := n7_; have BK343 := n8_; have HB := n9_; clear n0_ n1_ n2_ n3_ n4_ n5_ n6_ n7_ n8_ n9_; (try clear hb); (try clear hb2); (try clear hk); (try clear hi); (try clear ho0)) | ((with_reducible refine gate_dst (N := 10) rfl ?_); (try (refine gate_guard (by rfl) ?_; dsimp only)); refine box_event ?hg (N := 10) ?hd (cs := #[.slice none 0 0]) (t := 28) ?hr ?_; (case hd => rfl); (case hg => rfl); (case hr => first | (go_simp; done) | (go_simp; rfl)); intro gb347 hg w45 hbox hb; have n0_ := Aside0.mk (Kd.V_below (Kd.V_elderB (by (with_reducible repeat (first | apply Kd.V_alloc | apply Kd.V_drewN | apply Kd.V_drew)); exact HO_0.out) gb347 (Nat.le_of_eq hg.symm)) hb); have n1_ := Aside0.mk (Kd.V_below (Kd.V_elderB (by (with_reducible repeat (first | apply Kd.V_alloc | apply Kd.V_drewN | apply Kd.V_drew)); exact HO_331007.out) gb347 (Nat.le_of_eq hg.symm)) hb); have n2_ := Aside0.mk (Kd.V_below (Kd.V_elderB (by (with_reducible repeat (first | apply Kd.V_alloc | apply Kd.V_drewN | apply Kd.V_drew)); exact HO_331008.out) gb347 (Nat.le_of_eq hg.symm)) hb); have n3_ := Aside0.mk (Kd.V_below (Kd.V_elderB (by (with_reducible repeat (first | apply Kd.V_alloc | apply Kd.V_drewN | apply Kd.V_drew)); exact HO_331009.out) gb347 (Nat.le_of_eq hg.symm)) hb); have n4_ := Aside0.mk (Kd.N_below (Kd.N_elderB (by (with_reducible repeat (first | apply Kd.N_alloc | apply Kd.N_drewN | apply Kd.N_drew)); exact HO338.out) gb347 (Nat.le_of_eq hg.symm)) hb); have n5_ := Aside0.mk (Kd.R_below (by (with_reducible repeat (first | apply Kd.R_alloc | apply Kd.R_drewN | apply Kd.R_drew)); exact HO342.out) hb); have n6_ := Aside0.mk (Kd.R_below (by (with_reducible repeat (first | apply Kd.R_alloc | apply Kd.R_drewN | apply Kd.R_drew)); exact HO346.out) hb); have n7_ := Aside0.mk (blk_below (g := gb330) (o := .cells #[.int .i64 a2_0, .int .i64 a2_1, .int .i64 a2_2, .int .i64 a2_3, .int .i64 a2_4, .int .i64 a2_5, .int .i64 a2_6, .slice A2_7 l2_7.length c2_7, .slice A2_8 l2_8.length c2_8, .slice A2_9 l2_9.length c2_9] 35 (0, 0)) (by (with_reducible repeat (first | refine blk_drewN ?_ _ | refine blk_drew ?_ | refine blk_alloc ?_ _)); exact BK330.out) hb); have n8_ := Aside0.mk (blk_below (g := gb343) (o := .cells #[.slice Ao40 t340.length co40] 28 (0, 0)) (by (with_reducible repeat (first | refine blk_drewN ?_ _ | refine blk_drew ?_ | refine blk_alloc ?_ _)); exact BK343.out) hb); have n9_ := Aside0.mk (below_step (by repeat (first | (with_reducible first | exact HB.out | apply below_alloc | apply pw_below_drewN | apply below_drew1 | refine below_set ?_ GE330.out | refine below_set ?_ GE343.out) | exact HB.out)) hb); have n10_ := Aside0.mk (hbox); have n11_ := Aside0.mk ((by rw [hg]; exact (below_size (by repeat (first | (with_reducible first | exact HB.out | apply below_alloc | apply pw_below_drewN | apply below_drew1 | refine below_set ?_ GE330.out | refine below_set ?_ GE343.out) | exact HB.out))) : w.heap.size ≤ gb347)); have n12_ := Aside0.mk ((by rw [hg]; exact (below_size (by repeat (first | (with_reducible first | exact HB.out | apply below_alloc | apply pw_below_drewN | apply below_drew1 | refine below_set ?_ GE330.out | refine below_set ?_ GE343.out) | exact HB.out))) : w.heap.size ≤ gb347)); have n13_ := Aside0.mk ((by rw [hg]; exact Nat.ne_of_lt (blk_lt (g := gb330) (o := .cells #[.int .i64 a2_0, .int .i64 a2_1, .int .i64 a2_2, .int .i64 a2_3, .int .i64 a2_4, .int .i64 a2_5, .int .i64 a2_6, .slice A2_7 l2_7.length c2_7, .slice A2_8 l2_8.length c2_8, .slice A2_9 l2_9.length c2_9] 35 (0, 0)) (by (with_reducible repeat (first | refine blk_drewN ?_ _ | refine blk_drew ?_ | refine blk_alloc ?_ _)); exact BK330.out)) : gb330 ≠ gb347)); have n14_ := Aside0.mk ((by rw [hg]; exact Nat.ne_of_gt (blk_lt (g := gb330) (o := .cells #[.int .i64 a2_0, .int .i64 a2_1, .int .i64 a2_2, .int .i64 a2_3, .int .i64 a2_4, .int .i64 a2_5, .int .i64 a2_6, .slice A2_7 l2_7.length c2_7, .slice A2_8 l2_8.length c2_8, .slice A2_9 l2_9.length c2_9] 35 (0, 0)) (by (with_reducible repeat (first | refine blk_drewN ?_ _ | refine blk_drew ?_ | refine blk_alloc ?_ _)); exact BK330.out)) : gb347 ≠ gb330)); have n15_ := Aside0.mk ((by rw [hg]; exact Nat.ne_of_lt (blk_lt (g := gb343) (o := .cells #[.slice Ao40 t340.length co40] 28 (0, 0)) (by (with_reducible repeat (first | refine blk_drewN ?_ _ | refine blk_drew ?_ | refine blk_alloc ?_ _)); exact BK343.out)) : gb343 ≠ gb347)); have n16_ := Aside0.mk ((by rw [hg]; exact Nat.ne_of_gt (blk_lt (g := gb343) (o := .cells #[.slice Ao40 t340.length co40] 28 (0, 0)) (by (with_reducible repeat (first | refine blk_drewN ?_ _ | refine blk_drew ?_ | refine blk_alloc ?_ _)); exact BK343.out)) : gb347 ≠ gb343)); clear HO_0; clear HO_331007; clear HO_331008; clear HO_331009; clear HO338; clear HO342; clear HO346; clear BK330; clear BK343; clear HB; have HO_0 := n0_; have HO_331007 := n1_; have HO_331008 := n2_; have HO_331009 := n3_; have HO338 := n4_; have HO342 := n5_; have HO346 := n6_; have BK330 := n7_; have BK343 := n8_; have HB := n9_; have BK347 := n10_; have GW347 := n11_; have GE347 := n12_; have NB330_347 := n13_; have NB347_330 := n14_; have NB343_347 := n15_; have NB347_343 := n16_; clear n0_ n1_ n2_ n3_ n4_ n5_ n6_ n7_ n8_ n9_ n10_ n11_ n12_ n13_ n14_ n15_ n16_; clear hb hbox hg; obtain ⟨Ao46, co46, eo46⟩ := Kd.R_slice HO346.out; subst eo46; have hnb47 := NB347_330.out; have hnc47 := NB330_347.out; have hnb48 := NB347_343.out; have hnc48 := NB343_347.out; have hcz49_0 : w45.cell? ⟨gb347, 0, none⟩ = some (.slice none 0 0) := (blk_cell BK347.out 0).trans rfl; have hfz49_0 := blk_frozen BK347.out 0))
            have n0_ : Aside0 (Kd.V k35 35 (w45.setCell ⟨gb347, 0, none⟩ (.slice Ao46 t344.length co46)) w.heap.size (fun k_ => ((P0_ k_ ∨ P2_7_ k_ ∨ P2_8_ k_ ∨ P2_9_ k_) ∨ w.heap.size ≤ k_) ∧ some k_ ≠ (.slice (some ⟨go20, 0, none⟩) y336.length co20 : Value).ownBlock ∧ some k_ ≠ (.slice Ao40 t340.length co40 : Value).ownBlock ∧ some k_ ≠ (.slice Ao46 t344.length co46 : Value).ownBlock ∧ k_ ≠ gb330 ∧ k_ ≠ gb343 ∧ k_ ≠ gb347) (.slice A0 l0.length c0) l0) := ⟨by (with_reducible repeat (first | apply Kd.V_alloc | apply Kd.V_drewN | apply Kd.V_drew)); exact Kd.V_mono (Kd.V_far (p := ⟨gb347, 0, none⟩) (Kd.V_mono HO_0.out (fun k_ hk => (⟨hk, hk.2⟩ : _ ∧ k_ ≠ gb347))) (fun _ hk => hk.2) (.slice Ao46 t344.length co46)) (fun _ hk => ⟨hk.1.1.1.1.1.1.1, ⟨hk.1.1.1.1.1.2, ⟨hk.1.1.1.1.2, ⟨hk.1.1.2, ⟨hk.1.1.1.1.1.1.2, ⟨hk.1.1.1.2, hk.1.2⟩⟩⟩⟩⟩⟩)⟩
            have n1_ : Aside0 (Kd.V (Kd.int .i64) 3 (w45.setCell ⟨gb347, 0, none⟩ (.slice Ao46 t344.length co46)) w.heap.size (fun k_ => ((P0_ k_ ∨ P2_7_ k_ ∨ P2_8_ k_ ∨ P2_9_ k_) ∨ w.heap.size ≤ k_) ∧ some k_ ≠ (.slice (some ⟨go20, 0, none⟩) y336.length co20 : Value).ownBlock ∧ some k_ ≠ (.slice Ao40 t340.length co40 : Value).ownBlock ∧ some k_ ≠ (.slice Ao46 t344.length co46 : Value).ownBlock ∧ k_ ≠ gb330 ∧ k_ ≠ gb343 ∧ k_ ≠ gb347) (.slice A2_7 l2_7.length c2_7) l2_7) := ⟨by (with_reducible repeat (first | apply Kd.V_alloc | apply Kd.V_drewN | apply Kd.V_drew)); exact Kd.V_mono (Kd.V_far (p := ⟨gb347, 0, none⟩) (Kd.V_mono HO_331007.out (fun k_ hk => (⟨hk, hk.2⟩ : _ ∧ k_ ≠ gb347))) (fun _ hk => hk.2) (.slice Ao46 t344.length co46)) (fun _ hk => ⟨hk.1.1.1.1.1.1.1, ⟨hk.1.1.1.1.1.2, ⟨hk.1.1.1.1.2, ⟨hk.1.1.2, ⟨hk.1.1.1.1.1.1.2, ⟨hk.1.1.1.2, hk.1.2⟩⟩⟩⟩⟩⟩)⟩
            have n2_ : Aside0 (Kd.V k47 47 (w45.setCell ⟨gb347, 0, none⟩ (.slice Ao46 t344.length co46)) w.heap.size (fun k_ => ((P0_ k_ ∨ P2_7_ k_ ∨ P2_8_ k_ ∨ P2_9_ k_) ∨ w.heap.size ≤ k_) ∧ some k_ ≠ (.slice (some ⟨go20, 0, none⟩) y336.length co20 : Value).ownBlock ∧ some k_ ≠ (.slice Ao40 t340.length co40 : Value).ownBlock ∧ some k_ ≠ (.slice Ao46 t344.length co46 : Value).ownBlock ∧ k_ ≠ gb330 ∧ k_ ≠ gb343 ∧ k_ ≠ gb347) (.slice A2_8 l2_8.length c2_8) l2_8) := ⟨by (with_reducible repeat (first | apply Kd.V_alloc | apply Kd.V_drewN | apply Kd.V_drew)); exact Kd.V_mono (Kd.V_far (p := ⟨gb347, 0, none⟩) (Kd.V_mono HO_331008.out (fun k_ hk => (⟨hk, hk.2⟩ : _ ∧ k_ ≠ gb347))) (fun _ hk => hk.2) (.slice Ao46 t344.length co46)) (fun _ hk => ⟨hk.1.1.1.1.1.1.1, ⟨hk.1.1.1.1.1.2, ⟨hk.1.1.1.1.2, ⟨hk.1.1.2, ⟨hk.1.1.1.1.1.1.2, ⟨hk.1.1.1.2, hk.1.2⟩⟩⟩⟩⟩⟩)⟩
            have n3_ : Aside0 (Kd.V (Kd.int .i64) 3 (w45.setCell ⟨gb347, 0, none⟩ (.slice Ao46 t344.length co46)) w.heap.size (fun k_ => ((P0_ k_ ∨ P2_7_ k_ ∨ P2_8_ k_ ∨ P2_9_ k_) ∨ w.heap.size ≤ k_) ∧ some k_ ≠ (.slice (some ⟨go20, 0, none⟩) y336.length co20 : Value).ownBlock ∧ some k_ ≠ (.slice Ao40 t340.length co40 : Value).ownBlock ∧ some k_ ≠ (.slice Ao46 t344.length co46 : Value).ownBlock ∧ k_ ≠ gb330 ∧ k_ ≠ gb343 ∧ k_ ≠ gb347) (.slice A2_9 l2_9.length c2_9) l2_9) := ⟨by (with_reducible repeat (first | apply Kd.V_alloc | apply Kd.V_drewN | apply Kd.V_drew)); exact Kd.V_mono (Kd.V_far (p := ⟨gb347, 0, none⟩) (Kd.V_mono HO_331009.out (fun k_ hk => (⟨hk, hk.2⟩ : _ ∧ k_ ≠ gb347))) (fun _ hk => hk.2) (.slice Ao46 t344.length co46)) (fun _ hk => ⟨hk.1.1.1.1.1.1.1, ⟨hk.1.1.1.1.1.2, ⟨hk.1.1.1.1.2, ⟨hk.1.1.2, ⟨hk.1.1.1.1.1.1.2, ⟨hk.1.1.1.2, hk.1.2⟩⟩⟩⟩⟩⟩)⟩
            have n4_ : Aside0 (Kd.N k35 35 (w45.setCell ⟨gb347, 0, none⟩ (.slice Ao46 t344.length co46)) w.heap.size (fun k_ => ((P0_ k_ ∨ P2_7_ k_ ∨ P2_8_ k_ ∨ P2_9_ k_) ∨ w.heap.size ≤ k_) ∧ some k_ ≠ (.slice Ao40 t340.length co40 : Value).ownBlock ∧ some k_ ≠ (.slice Ao46 t344.length co46 : Value).ownBlock ∧ k_ ≠ gb330 ∧ k_ ≠ gb343 ∧ k_ ≠ gb347) (.slice (some ⟨go20, 0, none⟩) y336.length co20) y339) := ⟨by (with_reducible repeat (first | apply Kd.N_alloc | apply Kd.N_drewN | apply Kd.N_drew)); exact Kd.N_mono (Kd.N_far (p := ⟨gb347, 0, none⟩) (Kd.N_mono HO338.out (fun k_ hk => (⟨hk, hk.2⟩ : _ ∧ k_ ≠ gb347))) (fun _ hk => hk.2) (.slice Ao46 t344.length co46)) (fun _ hk => ⟨hk.1.1.1.1.1.1, ⟨hk.1.1.1.1.2, ⟨hk.1.1.2, ⟨hk.1.1.1.1.1.2, ⟨hk.1.1.1.2, hk.1.2⟩⟩⟩⟩⟩)⟩
            have n5_ : Aside0 (Kd.R k49 49 (w45.setCell ⟨gb347, 0, none⟩ (.slice Ao46 t344.length co46)) w.heap.size (fun k_ => (w.heap.size ≤ k_) ∧ some k_ ≠ (.slice Ao46 t344.length co46 : Value).ownBlock) (.slice Ao40 t340.length co40) t340) := ⟨by (with_reducible repeat (first | apply Kd.R_alloc | apply Kd.R_drewN | apply Kd.R_drew)); exact Kd.R_mono (Kd.R_far (p := ⟨gb347, 0, none⟩) (Kd.R_types HO342.out BK347.out (by decide)) (fun _ hk => hk.2) (.slice Ao46 t344.length co46)) (fun _ hk => ⟨hk.1.1.1, hk.1.2⟩)⟩
            have n6_ : Aside0 (Kd.R k49 49 (w45.setCell ⟨gb347, 0, none⟩ (.slice Ao46 t344.length co46)) w.heap.size (fun k_ => (w.heap.size ≤ k_) ∧ some k_ ≠ (.slice Ao40 t340.length co40 : Value).ownBlock) (.slice Ao46 t344.length co46) t344) := ⟨by (with_reducible repeat (first | apply Kd.R_alloc | apply Kd.R_drewN | apply Kd.R_drew)); exact Kd.R_mono (Kd.R_far (p := ⟨gb347, 0, none⟩) (Kd.R_types HO346.out BK347.out (by decide)) (fun _ hk => hk.2) (.slice Ao46 t344.length co46)) (fun _ hk => ⟨hk.1.1.1, hk.1.2⟩)⟩
            have n7_ : Aside0 ((w45.setCell ⟨gb347, 0, none⟩ (.slice Ao46 t344.length co46)).heap[gb330]? = some (.cells #[.int .i64 a2_0, .int .i64 a2_1, .int .i64 a2_2, .int .i64 a2_3, .int .i64 a2_4, .int .i64 a2_5, .int .i64 a2_6, .slice A2_7 l2_7.length c2_7, .slice A2_8 l2_8.length c2_8, .slice A2_9 l2_9.length c2_9] 35 (0, 0))) := ⟨by (with_reducible repeat (first | refine blk_drewN ?_ _ | refine blk_drew ?_ | refine blk_alloc ?_ _)); refine blk_far ?_ NB330_347.out _; (with_reducible repeat (first | refine blk_drewN ?_ _ | refine blk_drew ?_ | refine blk_alloc ?_ _)); exact BK330.out⟩
            have n8_ : Aside0 ((w45.setCell ⟨gb347, 0, none⟩ (.slice Ao46 t344.length co46)).heap[gb343]? = some (.cells #[.slice Ao40 t340.length co40] 28 (0, 0))) := ⟨by (with_reducible repeat (first | refine blk_drewN ?_ _ | refine blk_drew ?_ | refine blk_alloc ?_ _)); refine blk_far ?_ NB343_347.out _; (with_reducible repeat (first | refine blk_drewN ?_ _ | refine blk_drew ?_ | refine blk_alloc ?_ _)); exact BK343.out⟩
            have n9_ : Aside0 ((w45.setCell ⟨gb347, 0, none⟩ (.slice Ao46 t344.length co46)).heap[gb347]? = some (.cells #[.slice Ao46 t344.length co46] 28 (0, 0))) := ⟨by (with_reducible repeat (first | refine blk_drewN ?_ _ | refine blk_drew ?_ | refine blk_alloc ?_ _)); refine blk_put (cs := #[.slice none 0 0]) ?_ 0 _ rfl; (with_reducible repeat (first | refine blk_drewN ?_ _ | refine blk_drew ?_ | refine blk_alloc ?_ _)); exact BK347.out⟩
            have n10_ : Aside0 (Below w.heap.size w (w45.setCell ⟨gb347, 0, none⟩ (.slice Ao46 t344.length co46))) := ⟨by repeat (first | (with_reducible first | exact HB.out | apply below_alloc | apply pw_below_drewN | apply below_drew1 | refine below_set ?_ GE330.out | refine below_set ?_ GE343.out | refine below_set ?_ GE347.out) | exact HB.out)⟩
            (try clear HO_0)
            (try clear HO_331007)
            (try clear HO_331008)
            (try clear HO_331009)
            (try clear HO338)
            (try clear HO342)
            (try clear HO346)
            (try clear BK330)
            (try clear BK343)
            (try clear BK347)
            (try clear HB)
            generalize (w45.setCell ⟨gb347, 0, none⟩ (.slice Ao46 t344.length co46)) = w50 at n0_ n1_ n2_ n3_ n4_ n5_ n6_ n7_ n8_ n9_ n10_ ⊢
            have HO_0 := n0_
            have HO_331007 := n1_
            have HO_331008 := n2_
            have HO_331009 := n3_
            have HO338 := n4_
            have HO342 := n5_
            have HO346 := n6_
            have BK330 := n7_
            have BK343 := n8_
            have BK347 := n9_
            have HB := n10_
            clear n0_ n1_ n2_ n3_ n4_ n5_ n6_ n7_ n8_ n9_ n10_
            have n0_ := Aside0.mk (Kd.V_drew HO_0.out)
            have n1_ := Aside0.mk (Kd.V_drew HO_331007.out)
            have n2_ := Aside0.mk (Kd.V_drew HO_331008.out)
            have n3_ := Aside0.mk (Kd.V_drew HO_331009.out)
            have n4_ := Aside0.mk (Kd.N_drew HO338.out)
            have n5_ := Aside0.mk (Kd.R_drew HO342.out)
            have n6_ := Aside0.mk (Kd.R_drew HO346.out)
            have n7_ := Aside0.mk (blk_drew BK330.out)
            have n8_ := Aside0.mk (blk_drew BK343.out)
            have n9_ := Aside0.mk (blk_drew BK347.out)
            have n10_ := Aside0.mk (below_drew1 HB.out)
            clear HO_0
            clear HO_331007
            clear HO_331008
            clear HO_331009
            clear HO338
            clear HO342
            clear HO346
            clear BK330
            clear BK343
            clear BK347
            clear HB
            have HO_0 := n0_
            have HO_331007 := n1_
            have HO_331008 := n2_
            have HO_331009 := n3_
            have HO338 := n4_
            have HO342 := n5_
            have HO346 := n6_
            have BK330 := n7_
            have BK343 := n8_
            have BK347 := n9_
            have HB := n10_
            clear n0_ n1_ n2_ n3_ n4_ n5_ n6_ n7_ n8_ n9_ n10_
            have p352 : 0 ≤ ((ji17) : Int) := of_decide_eq_true (by first | (with_reducible assumption) | assumption)
            have q352 : (ji17) < (l0.length : Int) := of_decide_eq_true (by first | (with_reducible assumption) | assumption)
            obtain ⟨ad352, A352_7, c352_7, A352_8, c352_8, A352_9, c352_9, e352, hx352_0, hx352_1, hx352_2, hx352_3, hx352_4, hx352_5, hx352_6, hx352_7, hx352_8, hx352_9, hl352_7, hi352_7, hl352_8, hi352_8, hl352_9, hi352_9⟩ := at_T35 (Kd.V_reads' HO_0.out).2.2 (ji17) p352 q352
            cases e352
            obtain ⟨ce352, hce352, hMe352, hcc352⟩ := Kd.V_get HO_0.out z35 (ji17) p352 (by first | exact q352 | exact of_decide_eq_true (by first | (with_reducible assumption) | assumption) | (have e_ := (Kd.V_reads' HO_0.out).1; omega))
            obtain ⟨ua352_7, uc352_7, ua352_8, uc352_8, ua352_9, uc352_9, rfl, ul352_7, ge352_7, ul352_8, ge352_8, ul352_9, ge352_9⟩ := k35_openF hMe352
            have hv352_7 := hcc352 7 _ rfl
            rw [add_field _ _ 7 (by omega)] at hv352_7
            replace hv352_7 := Option.some.inj (hv352_7.symm.trans hx352_7)
            injection hv352_7 with hva_ hvn_ hvc_
            rw [hva_] at ge352_7
            rw [hvc_] at ul352_7
            have HL352_7 := Aside0.mk (show Kd.V (Kd.int .i64) 3 _ w.heap.size _ _ ((rd_T35 l0 (ji17)).f4) from Kd.V_mk ul352_7 ge352_7)
            clear hva_ hvn_ hvc_ ge352_7 ul352_7
            have hv352_8 := hcc352 8 _ rfl
            rw [add_field _ _ 8 (by omega)] at hv352_8
            replace hv352_8 := Option.some.inj (hv352_8.symm.trans hx352_8)
            injection hv352_8 with hva_ hvn_ hvc_
            rw [hva_] at ge352_8
            rw [hvc_] at ul352_8
            have HL352_8 := Aside0.mk (show Kd.V k47 47 _ w.heap.size _ _ ((rd_T35 l0 (ji17)).f5) from Kd.V_mk ul352_8 ge352_8)
            clear hva_ hvn_ hvc_ ge352_8 ul352_8
            have hv352_9 := hcc352 9 _ rfl
            rw [add_field _ _ 9 (by omega)] at hv352_9
            replace hv352_9 := Option.some.inj (hv352_9.symm.trans hx352_9)
            injection hv352_9 with hva_ hvn_ hvc_
            rw [hva_] at ge352_9
            rw [hvc_] at ul352_9
            have HL352_9 := Aside0.mk (show Kd.V (Kd.int .i64) 3 _ w.heap.size _ _ ((rd_T35 l0 (ji17)).f6) from Kd.V_mk ul352_9 ge352_9)
            clear hva_ hvn_ hvc_ ge352_9 ul352_9
            clear hcc352 hce352
            have HR352_7 := Aside0.mk hi352_7
            have HC352_7 := Aside0.mk hl352_7
            clear hi352_7 hl352_7
            have HR352_8 := Aside0.mk hi352_8
            have HC352_8 := Aside0.mk hl352_8
            clear hi352_8 hl352_8
            have HR352_9 := Aside0.mk hi352_9
            have HC352_9 := Aside0.mk hl352_9
            clear hi352_9 hl352_9
            replace p352 := eq_true p352
            replace q352 := eq_true q352
            have p357 : 0 ≤ ((ji17) : Int) := of_decide_eq_true (by first | (with_reducible assumption) | assumption)
            have q357 : (ji17) < (l0.length : Int) := of_decide_eq_true (by first | (with_reducible assumption) | assumption)
            obtain ⟨ad357, A357_7, c357_7, A357_8, c357_8, A357_9, c357_9, e357, hx357_0, hx357_1, hx357_2, hx357_3, hx357_4, hx357_5, hx357_6, hx357_7, hx357_8, hx357_9, hl357_7, hi357_7, hl357_8, hi357_8, hl357_9, hi357_9⟩ := at_T35 (Kd.V_reads' HO_0.out).2.2 (ji17) p357 q357
            obtain rfl : ad352 = ad357 := (by injection e357)
            have e_ := Option.some.inj (hx352_7.symm.trans hx357_7); injection e_ with ea_ _ ec_; subst ea_; subst ec_
            have e_ := Option.some.inj (hx352_8.symm.trans hx357_8); injection e_ with ea_ _ ec_; subst ea_; subst ec_
            have e_ := Option.some.inj (hx352_9.symm.trans hx357_9); injection e_ with ea_ _ ec_; subst ea_; subst ec_
            obtain ⟨ce357, hce357, hMe357, hcc357⟩ := Kd.V_get HO_0.out z35 (ji17) p357 (by first | exact q357 | exact of_decide_eq_true (by first | (with_reducible assumption) | assumption) | (have e_ := (Kd.V_reads' HO_0.out).1; omega))
            obtain ⟨ua357_7, uc357_7, ua357_8, uc357_8, ua357_9, uc357_9, rfl, ul357_7, ge357_7, ul357_8, ge357_8, ul357_9, ge357_9⟩ := k35_openF hMe357
            have hv357_7 := hcc357 7 _ rfl
            rw [add_field _ _ 7 (by omega)] at hv357_7
            replace hv357_7 := Option.some.inj (hv357_7.symm.trans hx357_7)
            injection hv357_7 with hva_ hvn_ hvc_
            rw [hva_] at ge357_7
            rw [hvc_] at ul357_7
            have HL357_7 := Aside0.mk (show Kd.V (Kd.int .i64) 3 _ w.heap.size _ _ ((rd_T35 l0 (ji17)).f4) from Kd.V_mk ul357_7 ge357_7)
            clear hva_ hvn_ hvc_ ge357_7 ul357_7
            have hv357_8 := hcc357 8 _ rfl
            rw [add_field _ _ 8 (by omega)] at hv357_8
            replace hv357_8 := Option.some.inj (hv357_8.symm.trans hx357_8)
            injection hv357_8 with hva_ hvn_ hvc_
            rw [hva_] at ge357_8
            rw [hvc_] at ul357_8
            have HL357_8 := Aside0.mk (show Kd.V k47 47 _ w.heap.size _ _ ((rd_T35 l0 (ji17)).f5) from Kd.V_mk ul357_8 ge357_8)
            clear hva_ hvn_ hvc_ ge357_8 ul357_8
            have hv357_9 := hcc357 9 _ rfl
            rw [add_field _ _ 9 (by omega)] at hv357_9
            replace hv357_9 := Option.some.inj (hv357_9.symm.trans hx357_9)
            injection hv357_9 with hva_ hvn_ hvc_
            rw [hva_] at ge357_9
            rw [hvc_] at ul357_9
            have HL357_9 := Aside0.mk (show Kd.V (Kd.int .i64) 3 _ w.heap.size _ _ ((rd_T35 l0 (ji17)).f6) from Kd.V_mk ul357_9 ge357_9)
            clear hva_ hvn_ hvc_ ge357_9 ul357_9
            clear hcc357 hce357
            have HR357_7 := Aside0.mk hi357_7
            have HC357_7 := Aside0.mk hl357_7
            clear hi357_7 hl357_7
            have HR357_8 := Aside0.mk hi357_8
            have HC357_8 := Aside0.mk hl357_8
            clear hi357_8 hl357_8
            have HR357_9 := Aside0.mk hi357_9
            have HC357_9 := Aside0.mk hl357_9
            clear hi357_9 hl357_9
            replace p357 := eq_true p357
            replace q357 := eq_true q357
            refine start_ (n := 27) (S := fun w' => w'.cell? ⟨gb347, 0, none⟩ = some (.slice Ao46 t344.length co46) ∧ w'.cell? ⟨gb343, 0, none⟩ = some (.slice Ao40 t340.length co40) ∧ w'.cell? (ad352.add (((ji17)).toNat * 10)) = some (.int .i64 ((rd_T35 l0 (ji17)).f0.f0)) ∧ w'.cell? ⟨(ad352.add (((ji17)).toNat * 10)).block, (ad352.add (((ji17)).toNat * 10)).off + 1, none⟩ = some (.int .i64 ((rd_T35 l0 (ji17)).f0.f1)) ∧ w'.cell? ⟨(ad352.add (((ji17)).toNat * 10)).block, (ad352.add (((ji17)).toNat * 10)).off + 2, none⟩ = some (.int .i64 ((rd_T35 l0 (ji17)).f0.f2)) ∧ w'.cell? ⟨(ad352.add (((ji17)).toNat * 10)).block, (ad352.add (((ji17)).toNat * 10)).off + 3, none⟩ = some (.int .i64 ((rd_T35 l0 (ji17)).f0.f3)) ∧ w'.cell? ⟨(ad352.add (((ji17)).toNat * 10)).block, (ad352.add (((ji17)).toNat * 10)).off + 4, none⟩ = some (.int .i64 ((rd_T35 l0 (ji17)).f1)) ∧ w'.cell? ⟨(ad352.add (((ji17)).toNat * 10)).block, (ad352.add (((ji17)).toNat * 10)).off + 5, none⟩ = some (.int .i64 ((rd_T35 l0 (ji17)).f2)) ∧ w'.cell? ⟨(ad352.add (((ji17)).toNat * 10)).block, (ad352.add (((ji17)).toNat * 10)).off + 6, none⟩ = some (.int .i64 ((rd_T35 l0 (ji17)).f3)) ∧ w'.cell? ⟨(ad352.add (((ji17)).toNat * 10)).block, (ad352.add (((ji17)).toNat * 10)).off + 7, none⟩ = some (.slice A352_7 ((rd_T35 l0 (ji17)).f4).length c352_7) ∧ w'.cell? ⟨(ad352.add (((ji17)).toNat * 10)).block, (ad352.add (((ji17)).toNat * 10)).off + 8, none⟩ = some (.slice A352_8 ((rd_T35 l0 (ji17)).f5).length c352_8) ∧ w'.cell? ⟨(ad352.add (((ji17)).toNat * 10)).block, (ad352.add (((ji17)).toNat * 10)).off + 9, none⟩ = some (.slice A352_9 ((rd_T35 l0 (ji17)).f6).length c352_9) ∧ w'.cell? (ad352.add (((ji17)).toNat * 10)) = some (.int .i64 ((rd_T35 l0 (ji17)).f0.f0)) ∧ w'.cell? ⟨(ad352.add (((ji17)).toNat * 10)).block, (ad352.add (((ji17)).toNat * 10)).off + 1, none⟩ = some (.int .i64 ((rd_T35 l0 (ji17)).f0.f1)) ∧ w'.cell? ⟨(ad352.add (((ji17)).toNat * 10)).block, (ad352.add (((ji17)).toNat * 10)).off + 2, none⟩ = some (.int .i64 ((rd_T35 l0 (ji17)).f0.f2)) ∧ w'.cell? ⟨(ad352.add (((ji17)).toNat * 10)).block, (ad352.add (((ji17)).toNat * 10)).off + 3, none⟩ = some (.int .i64 ((rd_T35 l0 (ji17)).f0.f3)) ∧ w'.cell? ⟨(ad352.add (((ji17)).toNat * 10)).block, (ad352.add (((ji17)).toNat * 10)).off + 4, none⟩ = some (.int .i64 ((rd_T35 l0 (ji17)).f1)) ∧ w'.cell? ⟨(ad352.add (((ji17)).toNat * 10)).block, (ad352.add (((ji17)).toNat * 10)).off + 5, none⟩ = some (.int .i64 ((rd_T35 l0 (ji17)).f2)) ∧ w'.cell? ⟨(ad352.add (((ji17)).toNat * 10)).block, (ad352.add (((ji17)).toNat * 10)).off + 6, none⟩ = some (.int .i64 ((rd_T35 l0 (ji17)).f3)) ∧ w'.cell? ⟨(ad352.add (((ji17)).toNat * 10)).block, (ad352.add (((ji17)).toNat * 10)).off + 7, none⟩ = some (.slice A352_7 ((rd_T35 l0 (ji17)).f4).length c352_7) ∧ w'.cell? ⟨(ad352.add (((ji17)).toNat * 10)).block, (ad352.add (((ji17)).toNat * 10)).off + 8, none⟩ = some (.slice A352_8 ((rd_T35 l0 (ji17)).f5).length c352_8) ∧ w'.cell? ⟨(ad352.add (((ji17)).toNat * 10)).block, (ad352.add (((ji17)).toNat * 10)).off + 9, none⟩ = some (.slice A352_9 ((rd_T35 l0 (ji17)).f6).length c352_9)) (ds := []) #[false, false, false, false, false, false, false, false, false, false, false, false, false, false, false, false, false, false, false, false, false, false, false, false, false, false, false] (by kernel_rfl) rfl rfl ⟨(blk_cell BK347.out 0).trans rfl, (blk_cell BK343.out 0).trans rfl, hx352_0, hx352_1, hx352_2, hx352_3, hx352_4, hx352_5, hx352_6, hx352_7, hx352_8, hx352_9, hx357_0, hx357_1, hx357_2, hx357_3, hx357_4, hx357_5, hx357_6, hx357_7, hx357_8, hx357_9⟩ (fun hHeld => ?_); refine with_tabW sizarlaw35_IndexReplaced.tab10 sizarlaw35_IndexReplaced.bits10 (fun HT_ HW_ => ?_)
            generalize w50.drew = w51 at HO_0 HO_331007 HO_331008 HO_331009 HO338 HO342 HO346 BK330 BK343 BK347 HB HL352_7 HL352_8 HL352_9 HL357_7 HL357_8 HL357_9 HR352_7 HR352_8 HR352_9 HR357_7 HR357_8 HR357_9 hx352_0 hx352_1 hx352_2 hx352_3 hx352_4 hx352_5 hx352_6 hx352_7 hx352_8 hx352_9 hx357_0 hx357_1 hx357_2 hx357_3 hx357_4 hx357_5 hx357_6 hx357_7 hx357_8 hx357_9 hHeld ⊢
            refine pure_ (i := 1) (N := some 47) (v := ?_) (a' := ?_) #[false, true, false, false, false, false, false, false, false, false, false, false, false, false, false, false, false, false, false, false, false, false, false, false, false, false, false] rfl rfl (any_of HT_.out (by kernel_rfl)) (fun _ _ _ h => h) (Or.inl ⟨by rfl, ?_⟩) ?_ ?_
            rotate_left
            ·intro w'
             go_simp
             with_reducible rfl
            rotate_left
            ·simp only [Act.put, List.setIfInBounds_toArray, List.set_cons_zero, List.set_cons_succ, i64_w, i32_w]
             rfl
            refine take_ (i := 0) (N := some 46) (v := ?_) (a' := ?_) #[true, true, false, false, false, false, false, false, false, false, false, false, false, false, false, false, false, false, false, false, false, false, false, false, false, false, false] rfl rfl (take_ofW HT_.out HW_.out (by kernel_rfl)) (fun _ _ _ h => h) (Or.inl ⟨by rfl, ?_⟩) hHeld ?_ ?_
            rotate_left
            ·rintro w' ⟨s0, s1, s2, s3, s4, s5, s6, s7, s8, s9, s10, s11, s12, s13, s14, s15, s16, s17, s18, s19, s20, s21⟩
             go_simp
             with_reducible rfl
            rotate_left
            ·simp only [Act.put, List.setIfInBounds_toArray, List.set_cons_zero, List.set_cons_succ, i64_w, i32_w]
             rfl
            refine one_ (i := 2) (N := some 48) #[true, true, true, false, false, false, false, false, false, false, false, false, false, false, false, false, false, false, false, false, false, false, false, false, false, false, false] rfl rfl (one_of HT_.out (by kernel_rfl)) (by decide) (fun K hK => ?_)
            refine goes_ Try.func13 (by kernel_rfl) rfl #[.slice (some ⟨go20, 0, none⟩) y339.length co20] (by rfl) rfl rfl (by (try simp only [List.map_toArray, List.map_cons, List.map_nil]); first | done | (rw [show y339.length = y336.length from (Kd.N_reads' HO338.out).1.symm] <;> rfl) | rfl | (simp only [List.length_drop, List.length_take]; rfl)) ?_
            with_reducible refine (index_Build.calls _ _ y339 t348 _ ?side1 ?side2 A23.out).mono ?_
            (case side1 => repeat (first | exact (Kd.N_reads' HO338.out).2.2 | (with_reducible refine Kd.C_alloc ?_ _) | (with_reducible refine Kd.C_drewN ?_ _) | (with_reducible refine Kd.C_drew ?_)))
            (case side2 => rw [show y339.length = y336.length from (Kd.N_reads' HO338.out).1.symm]; exact (Kd.N_reads' HO338.out).2.1)
            rintro e w52 ⟨v349, rfl, ho0, hb⟩
            have HL352_7 := Aside0.mk (Kd.V_below (by (with_reducible repeat (first | apply Kd.V_alloc | apply Kd.V_drewN | apply Kd.V_drew)); exact HL352_7.out) hb)
            have HR352_7 := Aside0.mk (Kd.V_reads' HL352_7.out).2.2
            have HL352_8 := Aside0.mk (Kd.V_below (by (with_reducible repeat (first | apply Kd.V_alloc | apply Kd.V_drewN | apply Kd.V_drew)); exact HL352_8.out) hb)
            have HR352_8 := Aside0.mk (Kd.V_reads' HL352_8.out).2.2
            have HL352_9 := Aside0.mk (Kd.V_below (by (with_reducible repeat (first | apply Kd.V_alloc | apply Kd.V_drewN | apply Kd.V_drew)); exact HL352_9.out) hb)
            have HR352_9 := Aside0.mk (Kd.V_reads' HL352_9.out).2.2
            have HL357_7 := Aside0.mk (Kd.V_below (by (with_reducible repeat (first | apply Kd.V_alloc | apply Kd.V_drewN | apply Kd.V_drew)); exact HL357_7.out) hb)
            have HR357_7 := Aside0.mk (Kd.V_reads' HL357_7.out).2.2
            have HL357_8 := Aside0.mk (Kd.V_below (by (with_reducible repeat (first | apply Kd.V_alloc | apply Kd.V_drewN | apply Kd.V_drew)); exact HL357_8.out) hb)
            have HR357_8 := Aside0.mk (Kd.V_reads' HL357_8.out).2.2
            have HL357_9 := Aside0.mk (Kd.V_below (by (with_reducible repeat (first | apply Kd.V_alloc | apply Kd.V_drewN | apply Kd.V_drew)); exact HL357_9.out) hb)
            have HR357_9 := Aside0.mk (Kd.V_reads' HL357_9.out).2.2
            have HS2_ := (hb.cell (World.block_lt_of_cell? _ _ (hHeld.2.2.1))).trans (hHeld.2.2.1)
            have HS3_ := (hb.cell (World.block_lt_of_cell? _ _ (hHeld.2.2.2.1))).trans (hHeld.2.2.2.1)
            have HS4_ := (hb.cell (World.block_lt_of_cell? _ _ (hHeld.2.2.2.2.1))).trans (hHeld.2.2.2.2.1)
            have HS5_ := (hb.cell (World.block_lt_of_cell? _ _ (hHeld.2.2.2.2.2.1))).trans (hHeld.2.2.2.2.2.1)
            have HS6_ := (hb.cell (World.block_lt_of_cell? _ _ (hHeld.2.2.2.2.2.2.1))).trans (hHeld.2.2.2.2.2.2.1)
            have HS7_ := (hb.cell (World.block_lt_of_cell? _ _ (hHeld.2.2.2.2.2.2.2.1))).trans (hHeld.2.2.2.2.2.2.2.1)
            have HS8_ := (hb.cell (World.block_lt_of_cell? _ _ (hHeld.2.2.2.2.2.2.2.2.1))).trans (hHeld.2.2.2.2.2.2.2.2.1)
            have HS9_ := (hb.cell (World.block_lt_of_cell? _ _ (hHeld.2.2.2.2.2.2.2.2.2.1))).trans (hHeld.2.2.2.2.2.2.2.2.2.1)
            have HS10_ := (hb.cell (World.block_lt_of_cell? _ _ (hHeld.2.2.2.2.2.2.2.2.2.2.1))).trans (hHeld.2.2.2.2.2.2.2.2.2.2.1)
            have HS11_ := (hb.cell (World.block_lt_of_cell? _ _ (hHeld.2.2.2.2.2.2.2.2.2.2.2.1))).trans (hHeld.2.2.2.2.2.2.2.2.2.2.2.1)
            have HS12_ := (hb.cell (World.block_lt_of_cell? _ _ (hHeld.2.2.2.2.2.2.2.2.2.2.2.2.1))).trans (hHeld.2.2.2.2.2.2.2.2.2.2.2.2.1)
            have HS13_ := (hb.cell (World.block_lt_of_cell? _ _ (hHeld.2.2.2.2.2.2.2.2.2.2.2.2.2.1))).trans (hHeld.2.2.2.2.2.2.2.2.2.2.2.2.2.1)
            have HS14_ := (hb.cell (World.block_lt_of_cell? _ _ (hHeld.2.2.2.2.2.2.2.2.2.2.2.2.2.2.1))).trans (hHeld.2.2.2.2.2.2.2.2.2.2.2.2.2.2.1)
            have HS15_ := (hb.cell (World.block_lt_of_cell? _ _ (hHeld.2.2.2.2.2.2.2.2.2.2.2.2.2.2.2.1))).trans (hHeld.2.2.2.2.2.2.2.2.2.2.2.2.2.2.2.1)
            have HS16_ := (hb.cell (World.block_lt_of_cell? _ _ (hHeld.2.2.2.2.2.2.2.2.2.2.2.2.2.2.2.2.1))).trans (hHeld.2.2.2.2.2.2.2.2.2.2.2.2.2.2.2.2.1)
            have HS17_ := (hb.cell (World.block_lt_of_cell? _ _ (hHeld.2.2.2.2.2.2.2.2.2.2.2.2.2.2.2.2.2.1))).trans (hHeld.2.2.2.2.2.2.2.2.2.2.2.2.2.2.2.2.2.1)
            have HS18_ := (hb.cell (World.block_lt_of_cell? _ _ (hHeld.2.2.2.2.2.2.2.2.2.2.2.2.2.2.2.2.2.2.1))).trans (hHeld.2.2.2.2.2.2.2.2.2.2.2.2.2.2.2.2.2.2.1)
            have HS19_ := (hb.cell (World.block_lt_of_cell? _ _ (hHeld.2.2.2.2.2.2.2.2.2.2.2.2.2.2.2.2.2.2.2.1))).trans (hHeld.2.2.2.2.2.2.2.2.2.2.2.2.2.2.2.2.2.2.2.1)
            have HS20_ := (hb.cell (World.block_lt_of_cell? _ _ (hHeld.2.2.2.2.2.2.2.2.2.2.2.2.2.2.2.2.2.2.2.2.1))).trans (hHeld.2.2.2.2.2.2.2.2.2.2.2.2.2.2.2.2.2.2.2.2.1)
            have HS21_ := (hb.cell (World.block_lt_of_cell? _ _ (hHeld.2.2.2.2.2.2.2.2.2.2.2.2.2.2.2.2.2.2.2.2.2))).trans (hHeld.2.2.2.2.2.2.2.2.2.2.2.2.2.2.2.2.2.2.2.2.2)
            refine ⟨_, rfl, ?_⟩
            have n0_ := Aside0.mk (Kd.V_elder' (by (with_reducible repeat (first | apply Kd.V_alloc | apply Kd.V_drewN | apply Kd.V_drew)); exact HO_0.out) (Kd.R_base ho0) hb)
            have n1_ := Aside0.mk (Kd.V_elder' (by (with_reducible repeat (first | apply Kd.V_alloc | apply Kd.V_drewN | apply Kd.V_drew)); exact HO_331007.out) (Kd.R_base ho0) hb)
            have n2_ := Aside0.mk (Kd.V_elder' (by (with_reducible repeat (first | apply Kd.V_alloc | apply Kd.V_drewN | apply Kd.V_drew)); exact HO_331008.out) (Kd.R_base ho0) hb)
            have n3_ := Aside0.mk (Kd.V_elder' (by (with_reducible repeat (first | apply Kd.V_alloc | apply Kd.V_drewN | apply Kd.V_drew)); exact HO_331009.out) (Kd.R_base ho0) hb)
            have n4_ := Aside0.mk (Kd.N_elder' (by (with_reducible repeat (first | apply Kd.N_alloc | apply Kd.N_drewN | apply Kd.N_drew)); exact HO338.out) (Kd.R_base ho0) hb)
            have n5_ := Aside0.mk (Kd.R_elder' (by (with_reducible repeat (first | apply Kd.R_alloc | apply Kd.R_drewN | apply Kd.R_drew)); exact HO342.out) (Kd.R_base ho0) hb)
            have n6_ := Aside0.mk (Kd.R_elder' (by (with_reducible repeat (first | apply Kd.R_alloc | apply Kd.R_drewN | apply Kd.R_drew)); exact HO346.out) (Kd.R_base ho0) hb)
            have n7_ := Aside0.mk (Kd.R_lower (Kd.R_new' (Kd.R_new' (Kd.R_newM (M := fun k_ => (w.heap.size ≤ k_)) ho0 (below_size (by repeat (first | (with_reducible first | exact HB.out | apply below_alloc | apply pw_below_drewN | apply below_drew1 | refine below_set ?_ GE330.out | refine below_set ?_ GE343.out | refine below_set ?_ GE347.out) | exact HB.out))) (fun k_ h_ => h_)) (Kd.R_lt (by (with_reducible repeat (first | apply Kd.R_alloc | apply Kd.R_drewN | apply Kd.R_drew)); exact HO342.out))) (Kd.R_lt (by (with_reducible repeat (first | apply Kd.R_alloc | apply Kd.R_drewN | apply Kd.R_drew)); exact HO346.out))) (below_size (by repeat (first | (with_reducible first | exact HB.out | apply below_alloc | apply pw_below_drewN | apply below_drew1 | refine below_set ?_ GE330.out | refine below_set ?_ GE343.out | refine below_set ?_ GE347.out) | exact HB.out))))
            have n8_ := Aside0.mk (blk_below (g := gb330) (o := .cells #[.int .i64 a2_0, .int .i64 a2_1, .int .i64 a2_2, .int .i64 a2_3, .int .i64 a2_4, .int .i64 a2_5, .int .i64 a2_6, .slice A2_7 l2_7.length c2_7, .slice A2_8 l2_8.length c2_8, .slice A2_9 l2_9.length c2_9] 35 (0, 0)) (by (with_reducible repeat (first | refine blk_drewN ?_ _ | refine blk_drew ?_ | refine blk_alloc ?_ _)); exact BK330.out) hb)
            have n9_ := Aside0.mk (blk_below (g := gb343) (o := .cells #[.slice Ao40 t340.length co40] 28 (0, 0)) (by (with_reducible repeat (first | refine blk_drewN ?_ _ | refine blk_drew ?_ | refine blk_alloc ?_ _)); exact BK343.out) hb)
            have n10_ := Aside0.mk (blk_below (g := gb347) (o := .cells #[.slice Ao46 t344.length co46] 28 (0, 0)) (by (with_reducible repeat (first | refine blk_drewN ?_ _ | refine blk_drew ?_ | refine blk_alloc ?_ _)); exact BK347.out) hb)
            have n11_ := Aside0.mk (below_step (by repeat (first | (with_reducible first | exact HB.out | apply below_alloc | apply pw_below_drewN | apply below_drew1 | refine below_set ?_ GE330.out | refine below_set ?_ GE343.out | refine below_set ?_ GE347.out) | exact HB.out)) hb)
            clear HO_0
            clear HO_331007
            clear HO_331008
            clear HO_331009
            clear HO338
            clear HO342
            clear HO346
            clear BK330
            clear BK343
            clear BK347
            clear HB
            have HO_0 := n0_
            have HO_331007 := n1_
            have HO_331008 := n2_
            have HO_331009 := n3_
            have HO338 := n4_
            have HO342 := n5_
            have HO346 := n6_
            have HO350 := n7_
            have BK330 := n8_
            have BK343 := n9_
            have BK347 := n10_
            have HB := n11_
            clear n0_ n1_ n2_ n3_ n4_ n5_ n6_ n7_ n8_ n9_ n10_ n11_
            (try clear hb)
            (try clear hb2)
            (try clear hk)
            (try clear hi)
            (try clear ho0)
            obtain ⟨Ao53, co53, eo53⟩ := Kd.R_slice HO350.out
            (first | subst eo53 | (injection eo53 with f1_ f2_ f3_; have f4_ := f1_.symm; have f5_ := f3_.symm; clear f1_ f2_ f3_; subst f4_; subst f5_))
            refine hK.out _ _ ⟨(blk_cell BK347.out 0).trans rfl, (blk_cell BK343.out 0).trans rfl, HS2_, HS3_, HS4_, HS5_, HS6_, HS7_, HS8_, HS9_, HS10_, HS11_, HS12_, HS13_, HS14_, HS15_, HS16_, HS17_, HS18_, HS19_, HS20_, HS21_⟩ (fun hHeld => ?_)
            clear hK K
            refine norm_ (a' := ?_) ?_ ?_
            rotate_left
            ·show Act.put _ (some 48) _ = _
             simp only [Act.put, List.setIfInBounds_toArray, List.set_cons_zero, List.set_cons_succ, i64_w, i32_w]
             rfl
            refine one_ (i := 3) (N := some 49) #[true, true, true, true, false, false, false, false, false, false, false, false, false, false, false, false, false, false, false, false, false, false, false, false, false, false, false] rfl rfl (one_of HT_.out (by kernel_rfl)) (by decide) (fun K hK => ?_)
            refine goes_ Try.func12 (by kernel_rfl) rfl #[.agg #[.slice Ao46 t344.length co46], .agg #[.slice Ao53 t348.length co53]] (by rfl) rfl rfl (by (try simp only [List.map_toArray, List.map_cons, List.map_nil]); first | done | rfl | (simp only [List.length_drop, List.length_take]; rfl)) ?_
            with_reducible refine (sizarref35_Same.calls kj5 _ _ t344 _ _ t348 true _ ?side1 ?side2 ?side3 ?side4 A24.out).mono ?_
            (case side1 => repeat (first | exact (Kd.R_reads' HO346.out).2.2 | (with_reducible refine Kd.C_alloc ?_ _) | (with_reducible refine Kd.C_drewN ?_ _) | (with_reducible refine Kd.C_drew ?_)))
            (case side2 => exact (Kd.R_reads' HO346.out).2.1)
            (case side3 => repeat (first | exact (Kd.R_reads' HO350.out).2.2 | (with_reducible refine Kd.C_alloc ?_ _) | (with_reducible refine Kd.C_drewN ?_ _) | (with_reducible refine Kd.C_drew ?_)))
            (case side4 => exact (Kd.R_reads' HO350.out).2.1)
            rintro e w54 ⟨rfl, hb⟩
            have HL352_7 := Aside0.mk (Kd.V_below (by (with_reducible repeat (first | apply Kd.V_alloc | apply Kd.V_drewN | apply Kd.V_drew)); exact HL352_7.out) hb)
            have HR352_7 := Aside0.mk (Kd.V_reads' HL352_7.out).2.2
            have HL352_8 := Aside0.mk (Kd.V_below (by (with_reducible repeat (first | apply Kd.V_alloc | apply Kd.V_drewN | apply Kd.V_drew)); exact HL352_8.out) hb)
            have HR352_8 := Aside0.mk (Kd.V_reads' HL352_8.out).2.2
            have HL352_9 := Aside0.mk (Kd.V_below (by (with_reducible repeat (first | apply Kd.V_alloc | apply Kd.V_drewN | apply Kd.V_drew)); exact HL352_9.out) hb)
            have HR352_9 := Aside0.mk (Kd.V_reads' HL352_9.out).2.2
            have HL357_7 := Aside0.mk (Kd.V_below (by (with_reducible repeat (first | apply Kd.V_alloc | apply Kd.V_drewN | apply Kd.V_drew)); exact HL357_7.out) hb)
            have HR357_7 := Aside0.mk (Kd.V_reads' HL357_7.out).2.2
            have HL357_8 := Aside0.mk (Kd.V_below (by (with_reducible repeat (first | apply Kd.V_alloc | apply Kd.V_drewN | apply Kd.V_drew)); exact HL357_8.out) hb)
            have HR357_8 := Aside0.mk (Kd.V_reads' HL357_8.out).2.2
            have HL357_9 := Aside0.mk (Kd.V_below (by (with_reducible repeat (first | apply Kd.V_alloc | apply Kd.V_drewN | apply Kd.V_drew)); exact HL357_9.out) hb)
            have HR357_9 := Aside0.mk (Kd.V_reads' HL357_9.out).2.2
            have HS2_ := (hb.cell (World.block_lt_of_cell? _ _ (hHeld.2.2.1))).trans (hHeld.2.2.1)
            have HS3_ := (hb.cell (World.block_lt_of_cell? _ _ (hHeld.2.2.2.1))).trans (hHeld.2.2.2.1)
            have HS4_ := (hb.cell (World.block_lt_of_cell? _ _ (hHeld.2.2.2.2.1))).trans (hHeld.2.2.2.2.1)
            have HS5_ := (hb.cell (World.block_lt_of_cell? _ _ (hHeld.2.2.2.2.2.1))).trans (hHeld.2.2.2.2.2.1)
            have HS6_ := (hb.cell (World.block_lt_of_cell? _ _ (hHeld.2.2.2.2.2.2.1))).trans (hHeld.2.2.2.2.2.2.1)
            have HS7_ := (hb.cell (World.block_lt_of_cell? _ _ (hHeld.2.2.2.2.2.2.2.1))).trans (hHeld.2.2.2.2.2.2.2.1)
            have HS8_ := (hb.cell (World.block_lt_of_cell? _ _ (hHeld.2.2.2.2.2.2.2.2.1))).trans (hHeld.2.2.2.2.2.2.2.2.1)
            have HS9_ := (hb.cell (World.block_lt_of_cell? _ _ (hHeld.2.2.2.2.2.2.2.2.2.1))).trans (hHeld.2.2.2.2.2.2.2.2.2.1)
            have HS10_ := (hb.cell (World.block_lt_of_cell? _ _ (hHeld.2.2.2.2.2.2.2.2.2.2.1))).trans (hHeld.2.2.2.2.2.2.2.2.2.2.1)
            have HS11_ := (hb.cell (World.block_lt_of_cell? _ _ (hHeld.2.2.2.2.2.2.2.2.2.2.2.1))).trans (hHeld.2.2.2.2.2.2.2.2.2.2.2.1)
            have HS12_ := (hb.cell (World.block_lt_of_cell? _ _ (hHeld.2.2.2.2.2.2.2.2.2.2.2.2.1))).trans (hHeld.2.2.2.2.2.2.2.2.2.2.2.2.1)
            have HS13_ := (hb.cell (World.block_lt_of_cell? _ _ (hHeld.2.2.2.2.2.2.2.2.2.2.2.2.2.1))).trans (hHeld.2.2.2.2.2.2.2.2.2.2.2.2.2.1)
            have HS14_ := (hb.cell (World.block_lt_of_cell? _ _ (hHeld.2.2.2.2.2.2.2.2.2.2.2.2.2.2.1))).trans (hHeld.2.2.2.2.2.2.2.2.2.2.2.2.2.2.1)
            have HS15_ := (hb.cell (World.block_lt_of_cell? _ _ (hHeld.2.2.2.2.2.2.2.2.2.2.2.2.2.2.2.1))).trans (hHeld.2.2.2.2.2.2.2.2.2.2.2.2.2.2.2.1)
            have HS16_ := (hb.cell (World.block_lt_of_cell? _ _ (hHeld.2.2.2.2.2.2.2.2.2.2.2.2.2.2.2.2.1))).trans (hHeld.2.2.2.2.2.2.2.2.2.2.2.2.2.2.2.2.1)
            have HS17_ := (hb.cell (World.block_lt_of_cell? _ _ (hHeld.2.2.2.2.2.2.2.2.2.2.2.2.2.2.2.2.2.1))).trans (hHeld.2.2.2.2.2.2.2.2.2.2.2.2.2.2.2.2.2.1)
            have HS18_ := (hb.cell (World.block_lt_of_cell? _ _ (hHeld.2.2.2.2.2.2.2.2.2.2.2.2.2.2.2.2.2.2.1))).trans (hHeld.2.2.2.2.2.2.2.2.2.2.2.2.2.2.2.2.2.2.1)
            have HS19_ := (hb.cell (World.block_lt_of_cell? _ _ (hHeld.2.2.2.2.2.2.2.2.2.2.2.2.2.2.2.2.2.2.2.1))).trans (hHeld.2.2.2.2.2.2.2.2.2.2.2.2.2.2.2.2.2.2.2.1)
            have HS20_ := (hb.cell (World.block_lt_of_cell? _ _ (hHeld.2.2.2.2.2.2.2.2.2.2.2.2.2.2.2.2.2.2.2.2.1))).trans (hHeld.2.2.2.2.2.2.2.2.2.2.2.2.2.2.2.2.2.2.2.2.1)
            have HS21_ := (hb.cell (World.block_lt_of_cell? _ _ (hHeld.2.2.2.2.2.2.2.2.2.2.2.2.2.2.2.2.2.2.2.2.2))).trans (hHeld.2.2.2.2.2.2.2.2.2.2.2.2.2.2.2.2.2.2.2.2.2)
            refine ⟨_, rfl, ?_⟩
            have n0_ := Aside0.mk (Kd.V_below (by (with_reducible repeat (first | apply Kd.V_alloc | apply Kd.V_drewN | apply Kd.V_drew)); exact HO_0.out) hb)
            have n1_ := Aside0.mk (Kd.V_below (by (with_reducible repeat (first | apply Kd.V_alloc | apply Kd.V_drewN | apply Kd.V_drew)); exact HO_331007.out) hb)
            have n2_ := Aside0.mk (Kd.V_below (by (with_reducible repeat (first | apply Kd.V_alloc | apply Kd.V_drewN | apply Kd.V_drew)); exact HO_331008.out) hb)
            have n3_ := Aside0.mk (Kd.V_below (by (with_reducible repeat (first | apply Kd.V_alloc | apply Kd.V_drewN | apply Kd.V_drew)); exact HO_331009.out) hb)
            have n4_ := Aside0.mk (Kd.N_below (by (with_reducible repeat (first | apply Kd.N_alloc | apply Kd.N_drewN | apply Kd.N_drew)); exact HO338.out) hb)
            have n5_ := Aside0.mk (Kd.R_below (by (with_reducible repeat (first | apply Kd.R_alloc | apply Kd.R_drewN | apply Kd.R_drew)); exact HO342.out) hb)
            have n6_ := Aside0.mk (Kd.R_below (by (with_reducible repeat (first | apply Kd.R_alloc | apply Kd.R_drewN | apply Kd.R_drew)); exact HO346.out) hb)
            have n7_ := Aside0.mk (Kd.R_below (by (with_reducible repeat (first | apply Kd.R_alloc | apply Kd.R_drewN | apply Kd.R_drew)); exact HO350.out) hb)
            have n8_ := Aside0.mk (blk_below (g := gb330) (o := .cells #[.int .i64 a2_0, .int .i64 a2_1, .int .i64 a2_2, .int .i64 a2_3, .int .i64 a2_4, .int .i64 a2_5, .int .i64 a2_6, .slice A2_7 l2_7.length c2_7, .slice A2_8 l2_8.length c2_8, .slice A2_9 l2_9.length c2_9] 35 (0, 0)) (by (with_reducible repeat (first | refine blk_drewN ?_ _ | refine blk_drew ?_ | refine blk_alloc ?_ _)); exact BK330.out) hb)
            have n9_ := Aside0.mk (blk_below (g := gb343) (o := .cells #[.slice Ao40 t340.length co40] 28 (0, 0)) (by (with_reducible repeat (first | refine blk_drewN ?_ _ | refine blk_drew ?_ | refine blk_alloc ?_ _)); exact BK343.out) hb)
            have n10_ := Aside0.mk (blk_below (g := gb347) (o := .cells #[.slice Ao46 t344.length co46] 28 (0, 0)) (by (with_reducible repeat (first | refine blk_drewN ?_ _ | refine blk_drew ?_ | refine blk_alloc ?_ _)); exact BK347.out) hb)
            have n11_ := Aside0.mk (below_step (by repeat (first | (with_reducible first | exact HB.out | apply below_alloc | apply pw_below_drewN | apply below_drew1 | refine below_set ?_ GE330.out | refine below_set ?_ GE343.out | refine below_set ?_ GE347.out) | exact HB.out)) hb)
            clear HO_0
            clear HO_331007
            clear HO_331008
            clear HO_331009
            clear HO338
            clear HO342
            clear HO346
            clear HO350
            clear BK330
            clear BK343
            clear BK347
            clear HB
            have HO_0 := n0_
            have HO_331007 := n1_
            have HO_331008 := n2_
            have HO_331009 := n3_
            have HO338 := n4_
            have HO342 := n5_
            have HO346 := n6_
            have HO350 := n7_
            have BK330 := n8_
            have BK343 := n9_
            have BK347 := n10_
            have HB := n11_
            clear n0_ n1_ n2_ n3_ n4_ n5_ n6_ n7_ n8_ n9_ n10_ n11_
            (try clear hb)
            (try clear hb2)
            (try clear hk)
            (try clear hi)
            refine hK.out _ _ ⟨(blk_cell BK347.out 0).trans rfl, (blk_cell BK343.out 0).trans rfl, HS2_, HS3_, HS4_, HS5_, HS6_, HS7_, HS8_, HS9_, HS10_, HS11_, HS12_, HS13_, HS14_, HS15_, HS16_, HS17_, HS18_, HS19_, HS20_, HS21_⟩ (fun hHeld => ?_)
            clear hK K
            refine norm_ (a' := ?_) ?_ ?_
            rotate_left
            ·show Act.put _ (some 49) _ = _
             simp only [Act.put, List.setIfInBounds_toArray, List.set_cons_zero, List.set_cons_succ, i64_w, i32_w]
             rfl
            refine pure_ (i := 4) (N := some 50) (v := ?_) (a' := ?_) #[true, true, true, true, true, false, false, false, false, false, false, false, false, false, false, false, false, false, false, false, false, false, false, false, false, false, false] rfl rfl (any_of HT_.out (by kernel_rfl)) (fun _ _ _ h => h) (Or.inl ⟨by rfl, ?_⟩) ?_ ?_
            rotate_left
            ·intro w'
             go_simp
             with_reducible rfl
            rotate_left
            ·simp only [Act.put, List.setIfInBounds_toArray, List.set_cons_zero, List.set_cons_succ, i64_w, i32_w]
             rfl
            refine pure_ (i := 6) (N := some 52) (v := ?_) (a' := ?_) #[true, true, true, true, true, false, true, false, false, false, false, false, false, false, false, false, false, false, false, false, false, false, false, false, false, false, false] rfl rfl (any_of HT_.out (by kernel_rfl)) (fun _ _ _ h => h) (Or.inl ⟨by rfl, ?_⟩) ?_ ?_
            rotate_left
            ·intro w'
             go_simp
             with_reducible rfl
            rotate_left
            ·simp only [Act.put, List.setIfInBounds_toArray, List.set_cons_zero, List.set_cons_succ, i64_w, i32_w]
             rfl
            refine pure_ (i := 7) (N := some 53) (v := ?_) (a' := ?_) #[true, true, true, true, true, false, true, true, false, false, false, false, false, false, false, false, false, false, false, false, false, false, false, false, false, false, false] rfl rfl (any_of HT_.out (by kernel_rfl)) (fun _ _ _ h => h) (Or.inl ⟨by rfl, ?_⟩) ?_ ?_
            rotate_left
            ·intro w'
             go_simp
             with_reducible rfl
            rotate_left
            ·simp only [Act.put, List.setIfInBounds_toArray, List.set_cons_zero, List.set_cons_succ, i64_w, i32_w]
             rfl
            refine pure_ (i := 8) (N := some 54) (v := ?_) (a' := ?_) #[true, true, true, true, true, false, true, true, true, false, false, false, false, false, false, false, false, false, false, false, false, false, false, false, false, false, false] rfl rfl (any_of HT_.out (by kernel_rfl)) (fun _ _ _ h => h) (Or.inl ⟨by rfl, ?_⟩) ?_ ?_
            rotate_left
            ·intro w'
             go_simp
             with_reducible rfl
            rotate_left
            ·simp only [Act.put, List.setIfInBounds_toArray, List.set_cons_zero, List.set_cons_succ, i64_w, i32_w]
             rfl
            refine pure_ (i := 9) (N := some 55) (v := ?_) (a' := ?_) #[true, true, true, true, true, false, true, true, true, true, false, false, false, false, false, false, false, false, false, false, false, false, false, false, false, false, false] rfl rfl (any_of HT_.out (by kernel_rfl)) (fun _ _ _ h => h) (Or.inl ⟨by rfl, ?_⟩) ?_ ?_
            rotate_left
            ·intro w'
             go_simp
             with_reducible rfl
            rotate_left
            ·simp only [Act.put, List.setIfInBounds_toArray, List.set_cons_zero, List.set_cons_succ, i64_w, i32_w]
             rfl
            refine take_ (i := 5) (N := some 51) (v := ?_) (a' := ?_) #[true, true, true, true, true, true, true, true, true, true, false, false, false, false, false, false, false, false, false, false, false, false, false, false, false, false, false] rfl rfl (take_ofW HT_.out HW_.out (by kernel_rfl)) (fun _ _ _ h => h) (Or.inl ⟨by rfl, ?_⟩) hHeld ?_ ?_
            rotate_left
            ·rintro w' ⟨s0, s1, s2, s3, s4, s5, s6, s7, s8, s9, s10, s11, s12, s13, s14, s15, s16, s17, s18, s19, s20, s21⟩
             go_simp
             with_reducible rfl
            rotate_left
            ·simp only [Act.put, List.setIfInBounds_toArray, List.set_cons_zero, List.set_cons_succ, i64_w, i32_w]
             rfl
            refine take_ (i := 10) (N := some 56) (v := ?_) (a' := ?_) #[true, true, true, true, true, true, true, true, true, true, true, false, false, false, false, false, false, false, false, false, false, false, false, false, false, false, false] rfl rfl (take_ofW HT_.out HW_.out (by kernel_rfl)) (fun _ _ _ h => h) (Or.inl ⟨by rfl, ?_⟩) hHeld ?_ ?_
            rotate_left
            ·rintro w' ⟨s0, s1, s2, s3, s4, s5, s6, s7, s8, s9, s10, s11, s12, s13, s14, s15, s16, s17, s18, s19, s20, s21⟩
             go_simp
             with_reducible rfl
            rotate_left
            ·simp only [Act.put, List.setIfInBounds_toArray, List.set_cons_zero, List.set_cons_succ, i64_w, i32_w]
             rfl
            refine take_ (i := 12) (N := some 58) (v := ?_) (a' := ?_) #[true, true, true, true, true, true, true, true, true, true, true, false, true, false, false, false, false, false, false, false, false, false, false, false, false, false, false] rfl rfl (take_ofW HT_.out HW_.out (by kernel_rfl)) (fun _ _ _ h => h) (Or.inl ⟨by rfl, ?_⟩) hHeld ?_ ?_
            rotate_left
            ·rintro w' ⟨s0, s1, s2, s3, s4, s5, s6, s7, s8, s9, s10, s11, s12, s13, s14, s15, s16, s17, s18, s19, s20, s21⟩
             go_simp
             with_reducible rfl
            rotate_left
            ·simp only [Act.put, List.setIfInBounds_toArray, List.set_cons_zero, List.set_cons_succ, i64_w, i32_w]
             rfl
            refine one_ (i := 11) (N := some 57) #[true, true, true, true, true, true, true, true, true, true, true, true, true, false, false, false, false, false, false, false, false, false, false, false, false, false, false] rfl rfl (one_of HT_.out (by kernel_rfl)) (by decide) (fun K hK => ?_)
            refine goes_ Try.func18 (by kernel_rfl) rfl #[.agg #[.slice Ao46 t344.length co46], .int .i64 ji17, .agg #[.int .i64 ((rd_T35 l0 (ji17)).f0.f0), .int .i64 ((rd_T35 l0 (ji17)).f0.f1), .int .i64 ((rd_T35 l0 (ji17)).f0.f2), .int .i64 ((rd_T35 l0 (ji17)).f0.f3), .int .i64 ((rd_T35 l0 (ji17)).f1), .int .i64 ((rd_T35 l0 (ji17)).f2), .int .i64 ((rd_T35 l0 (ji17)).f3), .slice A352_7 ((rd_T35 l0 (ji17)).f4).length c352_7, .slice A352_8 ((rd_T35 l0 (ji17)).f5).length c352_8, .slice A352_9 ((rd_T35 l0 (ji17)).f6).length c352_9]] (by rfl) rfl rfl (by (try simp only [List.map_toArray, List.map_cons, List.map_nil]); first | done | (simp only [hji17]; rfl) | rfl | (simp only [List.length_drop, List.length_take]; rfl)) ?_
            with_reducible refine (index_Replace.calls _ _ t344 ji17 ((rd_T35 l0 (ji17)).f0.f0) ((rd_T35 l0 (ji17)).f0.f1) ((rd_T35 l0 (ji17)).f0.f2) ((rd_T35 l0 (ji17)).f0.f3) ((rd_T35 l0 (ji17)).f1) ((rd_T35 l0 (ji17)).f2) ((rd_T35 l0 (ji17)).f3) _ _ ((rd_T35 l0 (ji17)).f4) _ _ ((rd_T35 l0 (ji17)).f5) _ _ ((rd_T35 l0 (ji17)).f6) t353 _ ?side1 ?side2 ?side3 ?side4 ?side5 ?side6 ?side7 ?side8 A27.out).mono ?_
            (case side1 => repeat (first | exact (Kd.R_reads' HO346.out).2.2 | (with_reducible refine Kd.C_alloc ?_ _) | (with_reducible refine Kd.C_drewN ?_ _) | (with_reducible refine Kd.C_drew ?_)))
            (case side2 => exact (Kd.R_reads' HO346.out).2.1)
            (case side3 => repeat (first | exact (by repeat (first | (with_reducible exact (Kd.V_reads' HL352_7.out).2.2) | (with_reducible refine Kd.C_alloc ?_ _) | (with_reducible refine Kd.C_drewN ?_ _) | (with_reducible refine Kd.C_drew ?_) | exact (Kd.V_reads' HL352_7.out).2.2)) | (with_reducible refine Kd.C_alloc ?_ _) | (with_reducible refine Kd.C_drewN ?_ _) | (with_reducible refine Kd.C_drew ?_)))
            (case side4 => exact HC352_7.out)
            (case side5 => repeat (first | exact (by repeat (first | (with_reducible exact (Kd.V_reads' HL352_8.out).2.2) | (with_reducible refine Kd.C_alloc ?_ _) | (with_reducible refine Kd.C_drewN ?_ _) | (with_reducible refine Kd.C_drew ?_) | exact (Kd.V_reads' HL352_8.out).2.2)) | (with_reducible refine Kd.C_alloc ?_ _) | (with_reducible refine Kd.C_drewN ?_ _) | (with_reducible refine Kd.C_drew ?_)))
            (case side6 => exact HC352_8.out)
            (case side7 => repeat (first | exact (by repeat (first | (with_reducible exact (Kd.V_reads' HL352_9.out).2.2) | (with_reducible refine Kd.C_alloc ?_ _) | (with_reducible refine Kd.C_drewN ?_ _) | (with_reducible refine Kd.C_drew ?_) | exact (Kd.V_reads' HL352_9.out).2.2)) | (with_reducible refine Kd.C_alloc ?_ _) | (with_reducible refine Kd.C_drewN ?_ _) | (with_reducible refine Kd.C_drew ?_)))
            (case side8 => exact HC352_9.out)
            rintro e w55 ⟨v354, rfl, ho0, hb⟩
            have HL357_7 := Aside0.mk (Kd.V_below (by (with_reducible repeat (first | apply Kd.V_alloc | apply Kd.V_drewN | apply Kd.V_drew)); exact HL357_7.out) hb)
            have HR357_7 := Aside0.mk (Kd.V_reads' HL357_7.out).2.2
            have HL357_8 := Aside0.mk (Kd.V_below (by (with_reducible repeat (first | apply Kd.V_alloc | apply Kd.V_drewN | apply Kd.V_drew)); exact HL357_8.out) hb)
            have HR357_8 := Aside0.mk (Kd.V_reads' HL357_8.out).2.2
            have HL357_9 := Aside0.mk (Kd.V_below (by (with_reducible repeat (first | apply Kd.V_alloc | apply Kd.V_drewN | apply Kd.V_drew)); exact HL357_9.out) hb)
            have HR357_9 := Aside0.mk (Kd.V_reads' HL357_9.out).2.2
            have HS2_ := (hb.cell (World.block_lt_of_cell? _ _ (hHeld.2.2.1))).trans (hHeld.2.2.1)
            have HS3_ := (hb.cell (World.block_lt_of_cell? _ _ (hHeld.2.2.2.1))).trans (hHeld.2.2.2.1)
            have HS4_ := (hb.cell (World.block_lt_of_cell? _ _ (hHeld.2.2.2.2.1))).trans (hHeld.2.2.2.2.1)
            have HS5_ := (hb.cell (World.block_lt_of_cell? _ _ (hHeld.2.2.2.2.2.1))).trans (hHeld.2.2.2.2.2.1)
            have HS6_ := (hb.cell (World.block_lt_of_cell? _ _ (hHeld.2.2.2.2.2.2.1))).trans (hHeld.2.2.2.2.2.2.1)
            have HS7_ := (hb.cell (World.block_lt_of_cell? _ _ (hHeld.2.2.2.2.2.2.2.1))).trans (hHeld.2.2.2.2.2.2.2.1)
            have HS8_ := (hb.cell (World.block_lt_of_cell? _ _ (hHeld.2.2.2.2.2.2.2.2.1))).trans (hHeld.2.2.2.2.2.2.2.2.1)
            have HS9_ := (hb.cell (World.block_lt_of_cell? _ _ (hHeld.2.2.2.2.2.2.2.2.2.1))).trans (hHeld.2.2.2.2.2.2.2.2.2.1)
            have HS10_ := (hb.cell (World.block_lt_of_cell? _ _ (hHeld.2.2.2.2.2.2.2.2.2.2.1))).trans (hHeld.2.2.2.2.2.2.2.2.2.2.1)
            have HS11_ := (hb.cell (World.block_lt_of_cell? _ _ (hHeld.2.2.2.2.2.2.2.2.2.2.2.1))).trans (hHeld.2.2.2.2.2.2.2.2.2.2.2.1)
            have HS12_ := (hb.cell (World.block_lt_of_cell? _ _ (hHeld.2.2.2.2.2.2.2.2.2.2.2.2.1))).trans (hHeld.2.2.2.2.2.2.2.2.2.2.2.2.1)
            have HS13_ := (hb.cell (World.block_lt_of_cell? _ _ (hHeld.2.2.2.2.2.2.2.2.2.2.2.2.2.1))).trans (hHeld.2.2.2.2.2.2.2.2.2.2.2.2.2.1)
            have HS14_ := (hb.cell (World.block_lt_of_cell? _ _ (hHeld.2.2.2.2.2.2.2.2.2.2.2.2.2.2.1))).trans (hHeld.2.2.2.2.2.2.2.2.2.2.2.2.2.2.1)
            have HS15_ := (hb.cell (World.block_lt_of_cell? _ _ (hHeld.2.2.2.2.2.2.2.2.2.2.2.2.2.2.2.1))).trans (hHeld.2.2.2.2.2.2.2.2.2.2.2.2.2.2.2.1)
            have HS16_ := (hb.cell (World.block_lt_of_cell? _ _ (hHeld.2.2.2.2.2.2.2.2.2.2.2.2.2.2.2.2.1))).trans (hHeld.2.2.2.2.2.2.2.2.2.2.2.2.2.2.2.2.1)
            have HS17_ := (hb.cell (World.block_lt_of_cell? _ _ (hHeld.2.2.2.2.2.2.2.2.2.2.2.2.2.2.2.2.2.1))).trans (hHeld.2.2.2.2.2.2.2.2.2.2.2.2.2.2.2.2.2.1)
            have HS18_ := (hb.cell (World.block_lt_of_cell? _ _ (hHeld.2.2.2.2.2.2.2.2.2.2.2.2.2.2.2.2.2.2.1))).trans (hHeld.2.2.2.2.2.2.2.2.2.2.2.2.2.2.2.2.2.2.1)
            have HS19_ := (hb.cell (World.block_lt_of_cell? _ _ (hHeld.2.2.2.2.2.2.2.2.2.2.2.2.2.2.2.2.2.2.2.1))).trans (hHeld.2.2.2.2.2.2.2.2.2.2.2.2.2.2.2.2.2.2.2.1)
            have HS20_ := (hb.cell (World.block_lt_of_cell? _ _ (hHeld.2.2.2.2.2.2.2.2.2.2.2.2.2.2.2.2.2.2.2.2.1))).trans (hHeld.2.2.2.2.2.2.2.2.2.2.2.2.2.2.2.2.2.2.2.2.1)
            have HS21_ := (hb.cell (World.block_lt_of_cell? _ _ (hHeld.2.2.2.2.2.2.2.2.2.2.2.2.2.2.2.2.2.2.2.2.2))).trans (hHeld.2.2.2.2.2.2.2.2.2.2.2.2.2.2.2.2.2.2.2.2.2)
            refine ⟨_, rfl, ?_⟩
            have n0_ := Aside0.mk (Kd.V_elder' (by (with_reducible repeat (first | apply Kd.V_alloc | apply Kd.V_drewN | apply Kd.V_drew)); exact HO_0.out) (Kd.R_base ho0) hb)
            have n1_ := Aside0.mk (Kd.V_elder' (by (with_reducible repeat (first | apply Kd.V_alloc | apply Kd.V_drewN | apply Kd.V_drew)); exact HO_331007.out) (Kd.R_base ho0) hb)
            have n2_ := Aside0.mk (Kd.V_elder' (by (with_reducible repeat (first | apply Kd.V_alloc | apply Kd.V_drewN | apply Kd.V_drew)); exact HO_331008.out) (Kd.R_base ho0) hb)
            have n3_ := Aside0.mk (Kd.V_elder' (by (with_reducible repeat (first | apply Kd.V_alloc | apply Kd.V_drewN | apply Kd.V_drew)); exact HO_331009.out) (Kd.R_base ho0) hb)
            have n4_ := Aside0.mk (Kd.N_elder' (by (with_reducible repeat (first | apply Kd.N_alloc | apply Kd.N_drewN | apply Kd.N_drew)); exact HO338.out) (Kd.R_base ho0) hb)
            have n5_ := Aside0.mk (Kd.R_elder' (by (with_reducible repeat (first | apply Kd.R_alloc | apply Kd.R_drewN | apply Kd.R_drew)); exact HO342.out) (Kd.R_base ho0) hb)
            have n6_ := Aside0.mk (Kd.R_elder' (by (with_reducible repeat (first | apply Kd.R_alloc | apply Kd.R_drewN | apply Kd.R_drew)); exact HO346.out) (Kd.R_base ho0) hb)
            have n7_ := Aside0.mk (Kd.R_elder' (by (with_reducible repeat (first | apply Kd.R_alloc | apply Kd.R_drewN | apply Kd.R_drew)); exact HO350.out) (Kd.R_base ho0) hb)
            have n8_ := Aside0.mk (Kd.V_elder' (by (with_reducible repeat (first | apply Kd.V_alloc | apply Kd.V_drewN | apply Kd.V_drew)); exact HL352_7.out) (Kd.R_base ho0) hb)
            have n9_ := Aside0.mk (Kd.V_elder' (by (with_reducible repeat (first | apply Kd.V_alloc | apply Kd.V_drewN | apply Kd.V_drew)); exact HL352_8.out) (Kd.R_base ho0) hb)
            have n10_ := Aside0.mk (Kd.V_elder' (by (with_reducible repeat (first | apply Kd.V_alloc | apply Kd.V_drewN | apply Kd.V_drew)); exact HL352_9.out) (Kd.R_base ho0) hb)
            have n11_ := Aside0.mk (Kd.R_lower (Kd.R_new' (Kd.R_new' (Kd.R_new' (Kd.R_newM (M := fun k_ => (w.heap.size ≤ k_)) ho0 (below_size (by repeat (first | (with_reducible first | exact HB.out | apply below_alloc | apply pw_below_drewN | apply below_drew1 | refine below_set ?_ GE330.out | refine below_set ?_ GE343.out | refine below_set ?_ GE347.out) | exact HB.out))) (fun k_ h_ => h_)) (Kd.R_lt (by (with_reducible repeat (first | apply Kd.R_alloc | apply Kd.R_drewN | apply Kd.R_drew)); exact HO342.out))) (Kd.R_lt (by (with_reducible repeat (first | apply Kd.R_alloc | apply Kd.R_drewN | apply Kd.R_drew)); exact HO346.out))) (Kd.R_lt (by (with_reducible repeat (first | apply Kd.R_alloc | apply Kd.R_drewN | apply Kd.R_drew)); exact HO350.out))) (below_size (by repeat (first | (with_reducible first | exact HB.out | apply below_alloc | apply pw_below_drewN | apply below_drew1 | refine below_set ?_ GE330.out | refine below_set ?_ GE343.out | refine below_set ?_ GE347.out) | exact HB.out))))
            have n12_ := Aside0.mk (blk_below (g := gb330) (o := .cells #[.int .i64 a2_0, .int .i64 a2_1, .int .i64 a2_2, .int .i64 a2_3, .int .i64 a2_4, .int .i64 a2_5, .int .i64 a2_6, .slice A2_7 l2_7.length c2_7, .slice A2_8 l2_8.length c2_8, .slice A2_9 l2_9.length c2_9] 35 (0, 0)) (by (with_reducible repeat (first | refine blk_drewN ?_ _ | refine blk_drew ?_ | refine blk_alloc ?_ _)); exact BK330.out) hb)
            have n13_ := Aside0.mk (blk_below (g := gb343) (o := .cells #[.slice Ao40 t340.length co40] 28 (0, 0)) (by (with_reducible repeat (first | refine blk_drewN ?_ _ | refine blk_drew ?_ | refine blk_alloc ?_ _)); exact BK343.out) hb)
            have n14_ := Aside0.mk (blk_below (g := gb347) (o := .cells #[.slice Ao46 t344.length co46] 28 (0, 0)) (by (with_reducible repeat (first | refine blk_drewN ?_ _ | refine blk_drew ?_ | refine blk_alloc ?_ _)); exact BK347.out) hb)
            have n15_ := Aside0.mk (Kd.C_below (by repeat (first | (with_reducible exact HR352_7.out) | (with_reducible refine Kd.C_alloc ?_ _) | (with_reducible refine Kd.C_drewN ?_ _) | (with_reducible refine Kd.C_drew ?_) | exact HR352_7.out)) hb)
            have n16_ := Aside0.mk (Kd.C_below (by repeat (first | (with_reducible exact HR352_8.out) | (with_reducible refine Kd.C_alloc ?_ _) | (with_reducible refine Kd.C_drewN ?_ _) | (with_reducible refine Kd.C_drew ?_) | exact HR352_8.out)) hb)
            have n17_ := Aside0.mk (Kd.C_below (by repeat (first | (with_reducible exact HR352_9.out) | (with_reducible refine Kd.C_alloc ?_ _) | (with_reducible refine Kd.C_drewN ?_ _) | (with_reducible refine Kd.C_drew ?_) | exact HR352_9.out)) hb)
            have n18_ := Aside0.mk (below_step (by repeat (first | (with_reducible first | exact HB.out | apply below_alloc | apply pw_below_drewN | apply below_drew1 | refine below_set ?_ GE330.out | refine below_set ?_ GE343.out | refine below_set ?_ GE347.out) | exact HB.out)) hb)
            clear HO_0
            clear HO_331007
            clear HO_331008
            clear HO_331009
            clear HO338
            clear HO342
            clear HO346
            clear HO350
            clear HL352_7
            clear HL352_8
            clear HL352_9
            clear BK330
            clear BK343
            clear BK347
            clear HR352_7
            clear HR352_8
            clear HR352_9
            clear HB
            have HO_0 := n0_
            have HO_331007 := n1_
            have HO_331008 := n2_
            have HO_331009 := n3_
            have HO338 := n4_
            have HO342 := n5_
            have HO346 := n6_
            have HO350 := n7_
            have HL352_7 := n8_
            have HL352_8 := n9_
            have HL352_9 := n10_
            have HO355 := n11_
            have BK330 := n12_
            have BK343 := n13_
            have BK347 := n14_
            have HR352_7 := n15_
            have HR352_8 := n16_
            have HR352_9 := n17_
            have HB := n18_
            clear n0_ n1_ n2_ n3_ n4_ n5_ n6_ n7_ n8_ n9_ n10_ n11_ n12_ n13_ n14_ n15_ n16_ n17_ n18_
            (try clear hb)
            (try clear hb2)
            (try clear hk)
            (try clear hi)
            (try clear ho0)
            obtain ⟨Ao56, co56, eo56⟩ := Kd.R_slice HO355.out
            (first | subst eo56 | (injection eo56 with f1_ f2_ f3_; have f4_ := f1_.symm; have f5_ := f3_.symm; clear f1_ f2_ f3_; subst f4_; subst f5_))
            refine hK.out _ _ ⟨(blk_cell BK347.out 0).trans rfl, (blk_cell BK343.out 0).trans rfl, HS2_, HS3_, HS4_, HS5_, HS6_, HS7_, HS8_, HS9_, HS10_, HS11_, HS12_, HS13_, HS14_, HS15_, HS16_, HS17_, HS18_, HS19_, HS20_, HS21_⟩ (fun hHeld => ?_)
            clear hK K
            refine norm_ (a' := ?_) ?_ ?_
            rotate_left
            ·show Act.put _ (some 57) _ = _
             simp only [Act.put, List.setIfInBounds_toArray, List.set_cons_zero, List.set_cons_succ, i64_w, i32_w]
             rfl
            refine one_ (i := 13) (N := some 59) #[true, true, true, true, true, true, true, true, true, true, true, true, true, true, false, false, false, false, false, false, false, false, false, false, false, false, false] rfl rfl (one_of HT_.out (by kernel_rfl)) (by decide) (fun K hK => ?_)
            refine goes_ Try.func12 (by kernel_rfl) rfl #[.agg #[.slice Ao56 t353.length co56], .agg #[.slice Ao40 t340.length co40]] (by rfl) rfl rfl (by (try simp only [List.map_toArray, List.map_cons, List.map_nil]); first | done | rfl | (simp only [List.length_drop, List.length_take]; rfl)) ?_
            with_reducible refine (sizarref35_Same.calls kj5 _ _ t353 _ _ t340 true _ ?side1 ?side2 ?side3 ?side4 A28.out).mono ?_
            (case side1 => repeat (first | exact (Kd.R_reads' HO355.out).2.2 | (with_reducible refine Kd.C_alloc ?_ _) | (with_reducible refine Kd.C_drewN ?_ _) | (with_reducible refine Kd.C_drew ?_)))
            (case side2 => exact (Kd.R_reads' HO355.out).2.1)
            (case side3 => repeat (first | exact (Kd.R_reads' HO342.out).2.2 | (with_reducible refine Kd.C_alloc ?_ _) | (with_reducible refine Kd.C_drewN ?_ _) | (with_reducible refine Kd.C_drew ?_)))
            (case side4 => exact (Kd.R_reads' HO342.out).2.1)
            rintro e w57 ⟨rfl, hb⟩
            have HL357_7 := Aside0.mk (Kd.V_below (by (with_reducible repeat (first | apply Kd.V_alloc | apply Kd.V_drewN | apply Kd.V_drew)); exact HL357_7.out) hb)
            have HR357_7 := Aside0.mk (Kd.V_reads' HL357_7.out).2.2
            have HL357_8 := Aside0.mk (Kd.V_below (by (with_reducible repeat (first | apply Kd.V_alloc | apply Kd.V_drewN | apply Kd.V_drew)); exact HL357_8.out) hb)
            have HR357_8 := Aside0.mk (Kd.V_reads' HL357_8.out).2.2
            have HL357_9 := Aside0.mk (Kd.V_below (by (with_reducible repeat (first | apply Kd.V_alloc | apply Kd.V_drewN | apply Kd.V_drew)); exact HL357_9.out) hb)
            have HR357_9 := Aside0.mk (Kd.V_reads' HL357_9.out).2.2
            have HS2_ := (hb.cell (World.block_lt_of_cell? _ _ (hHeld.2.2.1))).trans (hHeld.2.2.1)
            have HS3_ := (hb.cell (World.block_lt_of_cell? _ _ (hHeld.2.2.2.1))).trans (hHeld.2.2.2.1)
            have HS4_ := (hb.cell (World.block_lt_of_cell? _ _ (hHeld.2.2.2.2.1))).trans (hHeld.2.2.2.2.1)
            have HS5_ := (hb.cell (World.block_lt_of_cell? _ _ (hHeld.2.2.2.2.2.1))).trans (hHeld.2.2.2.2.2.1)
            have HS6_ := (hb.cell (World.block_lt_of_cell? _ _ (hHeld.2.2.2.2.2.2.1))).trans (hHeld.2.2.2.2.2.2.1)
            have HS7_ := (hb.cell (World.block_lt_of_cell? _ _ (hHeld.2.2.2.2.2.2.2.1))).trans (hHeld.2.2.2.2.2.2.2.1)
            have HS8_ := (hb.cell (World.block_lt_of_cell? _ _ (hHeld.2.2.2.2.2.2.2.2.1))).trans (hHeld.2.2.2.2.2.2.2.2.1)
            have HS9_ := (hb.cell (World.block_lt_of_cell? _ _ (hHeld.2.2.2.2.2.2.2.2.2.1))).trans (hHeld.2.2.2.2.2.2.2.2.2.1)
            have HS10_ := (hb.cell (World.block_lt_of_cell? _ _ (hHeld.2.2.2.2.2.2.2.2.2.2.1))).trans (hHeld.2.2.2.2.2.2.2.2.2.2.1)
            have HS11_ := (hb.cell (World.block_lt_of_cell? _ _ (hHeld.2.2.2.2.2.2.2.2.2.2.2.1))).trans (hHeld.2.2.2.2.2.2.2.2.2.2.2.1)
            have HS12_ := (hb.cell (World.block_lt_of_cell? _ _ (hHeld.2.2.2.2.2.2.2.2.2.2.2.2.1))).trans (hHeld.2.2.2.2.2.2.2.2.2.2.2.2.1)
            have HS13_ := (hb.cell (World.block_lt_of_cell? _ _ (hHeld.2.2.2.2.2.2.2.2.2.2.2.2.2.1))).trans (hHeld.2.2.2.2.2.2.2.2.2.2.2.2.2.1)
            have HS14_ := (hb.cell (World.block_lt_of_cell? _ _ (hHeld.2.2.2.2.2.2.2.2.2.2.2.2.2.2.1))).trans (hHeld.2.2.2.2.2.2.2.2.2.2.2.2.2.2.1)
            have HS15_ := (hb.cell (World.block_lt_of_cell? _ _ (hHeld.2.2.2.2.2.2.2.2.2.2.2.2.2.2.2.1))).trans (hHeld.2.2.2.2.2.2.2.2.2.2.2.2.2.2.2.1)
            have HS16_ := (hb.cell (World.block_lt_of_cell? _ _ (hHeld.2.2.2.2.2.2.2.2.2.2.2.2.2.2.2.2.1))).trans (hHeld.2.2.2.2.2.2.2.2.2.2.2.2.2.2.2.2.1)
            have HS17_ := (hb.cell (World.block_lt_of_cell? _ _ (hHeld.2.2.2.2.2.2.2.2.2.2.2.2.2.2.2.2.2.1))).trans (hHeld.2.2.2.2.2.2.2.2.2.2.2.2.2.2.2.2.2.1)
            have HS18_ := (hb.cell (World.block_lt_of_cell? _ _ (hHeld.2.2.2.2.2.2.2.2.2.2.2.2.2.2.2.2.2.2.1))).trans (hHeld.2.2.2.2.2.2.2.2.2.2.2.2.2.2.2.2.2.2.1)
            have HS19_ := (hb.cell (World.block_lt_of_cell? _ _ (hHeld.2.2.2.2.2.2.2.2.2.2.2.2.2.2.2.2.2.2.2.1))).trans (hHeld.2.2.2.2.2.2.2.2.2.2.2.2.2.2.2.2.2.2.2.1)
            have HS20_ := (hb.cell (World.block_lt_of_cell? _ _ (hHeld.2.2.2.2.2.2.2.2.2.2.2.2.2.2.2.2.2.2.2.2.1))).trans (hHeld.2.2.2.2.2.2.2.2.2.2.2.2.2.2.2.2.2.2.2.2.1)
            have HS21_ := (hb.cell (World.block_lt_of_cell? _ _ (hHeld.2.2.2.2.2.2.2.2.2.2.2.2.2.2.2.2.2.2.2.2.2))).trans (hHeld.2.2.2.2.2.2.2.2.2.2.2.2.2.2.2.2.2.2.2.2.2)
            refine ⟨_, rfl, ?_⟩
            have n0_ := Aside0.mk (Kd.V_below (by (with_reducible repeat (first | apply Kd.V_alloc | apply Kd.V_drewN | apply Kd.V_drew)); exact HO_0.out) hb)
            have n1_ := Aside0.mk (Kd.V_below (by (with_reducible repeat (first | apply Kd.V_alloc | apply Kd.V_drewN | apply Kd.V_drew)); exact HO_331007.out) hb)
            have n2_ := Aside0.mk (Kd.V_below (by (with_reducible repeat (first | apply Kd.V_alloc | apply Kd.V_drewN | apply Kd.V_drew)); exact HO_331008.out) hb)
            have n3_ := Aside0.mk (Kd.V_below (by (with_reducible repeat (first | apply Kd.V_alloc | apply Kd.V_drewN | apply Kd.V_drew)); exact HO_331009.out) hb)
            have n4_ := Aside0.mk (Kd.N_below (by (with_reducible repeat (first | apply Kd.N_alloc | apply Kd.N_drewN | apply Kd.N_drew)); exact HO338.out) hb)
            have n5_ := Aside0.mk (Kd.R_below (by (with_reducible repeat (first | apply Kd.R_alloc | apply Kd.R_drewN | apply Kd.R_drew)); exact HO342.out) hb)
            have n6_ := Aside0.mk (Kd.R_below (by (with_reducible repeat (first | apply Kd.R_alloc | apply Kd.R_drewN | apply Kd.R_drew)); exact HO346.out) hb)
            have n7_ := Aside0.mk (Kd.R_below (by (with_reducible repeat (first | apply Kd.R_alloc | apply Kd.R_drewN | apply Kd.R_drew)); exact HO350.out) hb)
            have n8_ := Aside0.mk (Kd.V_below (by (with_reducible repeat (first | apply Kd.V_alloc | apply Kd.V_drewN | apply Kd.V_drew)); exact HL352_7.out) hb)
            have n9_ := Aside0.mk (Kd.V_below (by (with_reducible repeat (first | apply Kd.V_alloc | apply Kd.V_drewN | apply Kd.V_drew)); exact HL352_8.out) hb)
            have n10_ := Aside0.mk (Kd.V_below (by (with_reducible repeat (first | apply Kd.V_alloc | apply Kd.V_drewN | apply Kd.V_drew)); exact HL352_9.out) hb)
            have n11_ := Aside0.mk (Kd.R_below (by (with_reducible repeat (first | apply Kd.R_alloc | apply Kd.R_drewN | apply Kd.R_drew)); exact HO355.out) hb)
            have n12_ := Aside0.mk (blk_below (g := gb330) (o := .cells #[.int .i64 a2_0, .int .i64 a2_1, .int .i64 a2_2, .int .i64 a2_3, .int .i64 a2_4, .int .i64 a2_5, .int .i64 a2_6, .slice A2_7 l2_7.length c2_7, .slice A2_8 l2_8.length c2_8, .slice A2_9 l2_9.length c2_9] 35 (0, 0)) (by (with_reducible repeat (first | refine blk_drewN ?_ _ | refine blk_drew ?_ | refine blk_alloc ?_ _)); exact BK330.out) hb)
            have n13_ := Aside0.mk (blk_below (g := gb343) (o := .cells #[.slice Ao40 t340.length co40] 28 (0, 0)) (by (with_reducible repeat (first | refine blk_drewN ?_ _ | refine blk_drew ?_ | refine blk_alloc ?_ _)); exact BK343.out) hb)
            have n14_ := Aside0.mk (blk_below (g := gb347) (o := .cells #[.slice Ao46 t344.length co46] 28 (0, 0)) (by (with_reducible repeat (first | refine blk_drewN ?_ _ | refine blk_drew ?_ | refine blk_alloc ?_ _)); exact BK347.out) hb)
            have n15_ := Aside0.mk (Kd.C_below (by repeat (first | (with_reducible exact HR352_7.out) | (with_reducible refine Kd.C_alloc ?_ _) | (with_reducible refine Kd.C_drewN ?_ _) | (with_reducible refine Kd.C_drew ?_) | exact HR352_7.out)) hb)
            have n16_ := Aside0.mk (Kd.C_below (by repeat (first | (with_reducible exact HR352_8.out) | (with_reducible refine Kd.C_alloc ?_ _) | (with_reducible refine Kd.C_drewN ?_ _) | (with_reducible refine Kd.C_drew ?_) | exact HR352_8.out)) hb)
            have n17_ := Aside0.mk (Kd.C_below (by repeat (first | (with_reducible exact HR352_9.out) | (with_reducible refine Kd.C_alloc ?_ _) | (with_reducible refine Kd.C_drewN ?_ _) | (with_reducible refine Kd.C_drew ?_) | exact HR352_9.out)) hb)
            have n18_ := Aside0.mk (below_step (by repeat (first | (with_reducible first | exact HB.out | apply below_alloc | apply pw_below_drewN | apply below_drew1 | refine below_set ?_ GE330.out | refine below_set ?_ GE343.out | refine below_set ?_ GE347.out) | exact HB.out)) hb)
            clear HO_0
            clear HO_331007
            clear HO_331008
            clear HO_331009
            clear HO338
            clear HO342
            clear HO346
            clear HO350
            clear HL352_7
            clear HL352_8
            clear HL352_9
            clear HO355
            clear BK330
            clear BK343
            clear BK347
            clear HR352_7
            clear HR352_8
            clear HR352_9
            clear HB
            have HO_0 := n0_
            have HO_331007 := n1_
            have HO_331008 := n2_
            have HO_331009 := n3_
            have HO338 := n4_
            have HO342 := n5_
            have HO346 := n6_
            have HO350 := n7_
            have HL352_7 := n8_
            have HL352_8 := n9_
            have HL352_9 := n10_
            have HO355 := n11_
            have BK330 := n12_
            have BK343 := n13_
            have BK347 := n14_
            have HR352_7 := n15_
            have HR352_8 := n16_
            have HR352_9 := n17_
            have HB := n18_
            clear n0_ n1_ n2_ n3_ n4_ n5_ n6_ n7_ n8_ n9_ n10_ n11_ n12_ n13_ n14_ n15_ n16_ n17_ n18_
            (try clear hb)
            (try clear hb2)
            (try clear hk)
            (try clear hi)
            refine hK.out _ _ ⟨(blk_cell BK347.out 0).trans rfl, (blk_cell BK343.out 0).trans rfl, HS2_, HS3_, HS4_, HS5_, HS6_, HS7_, HS8_, HS9_, HS10_, HS11_, HS12_, HS13_, HS14_, HS15_, HS16_, HS17_, HS18_, HS19_, HS20_, HS21_⟩ (fun hHeld => ?_)
            clear hK K
            refine norm_ (a' := ?_) ?_ ?_
            rotate_left
            ·show Act.put _ (some 59) _ = _
             simp only [Act.put, List.setIfInBounds_toArray, List.set_cons_zero, List.set_cons_succ, i64_w, i32_w]
             rfl
            refine pure_ (i := 14) (N := some 60) (v := ?_) (a' := ?_) #[true, true, true, true, true, true, true, true, true, true, true, true, true, true, true, false, false, false, false, false, false, false, false, false, false, false, false] rfl rfl (any_of HT_.out (by kernel_rfl)) (fun _ _ _ h => h) (Or.inl ⟨by rfl, ?_⟩) ?_ ?_
            rotate_left
            ·intro w'
             go_simp
             with_reducible rfl
            rotate_left
            ·simp only [Act.put, List.setIfInBounds_toArray, List.set_cons_zero, List.set_cons_succ, i64_w, i32_w]
             rfl
            refine pure_ (i := 15) (N := some 61) (v := ?_) (a' := ?_) #[true, true, true, true, true, true, true, true, true, true, true, true, true, true, true, true, false, false, false, false, false, false, false, false, false, false, false] rfl rfl (any_of HT_.out (by kernel_rfl)) (fun _ _ _ h => h) (Or.inl ⟨by rfl, ?_⟩) ?_ ?_
            rotate_left
            ·intro w'
             go_simp
             with_reducible rfl
            rotate_left
            ·simp only [Act.put, List.setIfInBounds_toArray, List.set_cons_zero, List.set_cons_succ, i64_w, i32_w]
             rfl
            refine pure_ (i := 17) (N := some 63) (v := ?_) (a' := ?_) #[true, true, true, true, true, true, true, true, true, true, true, true, true, true, true, true, false, true, false, false, false, false, false, false, false, false, false] rfl rfl (any_of HT_.out (by kernel_rfl)) (fun _ _ _ h => h) (Or.inl ⟨by rfl, ?_⟩) ?_ ?_
            rotate_left
            ·intro w'
             go_simp
             with_reducible rfl
            rotate_left
            ·simp only [Act.put, List.setIfInBounds_toArray, List.set_cons_zero, List.set_cons_succ, i64_w, i32_w]
             rfl
            refine pure_ (i := 18) (N := some 64) (v := ?_) (a' := ?_) #[true, true, true, true, true, true, true, true, true, true, true, true, true, true, true, true, false, true, true, false, false, false, false, false, false, false, false] rfl rfl (any_of HT_.out (by kernel_rfl)) (fun _ _ _ h => h) (Or.inl ⟨by rfl, ?_⟩) ?_ ?_
            rotate_left
            ·intro w'
             go_simp
             with_reducible rfl
            rotate_left
            ·simp only [Act.put, List.setIfInBounds_toArray, List.set_cons_zero, List.set_cons_succ, i64_w, i32_w]
             rfl
            refine pure_ (i := 19) (N := some 65) (v := ?_) (a' := ?_) #[true, true, true, true, true, true, true, true, true, true, true, true, true, true, true, true, false, true, true, true, false, false, false, false, false, false, false] rfl rfl (any_of HT_.out (by kernel_rfl)) (fun _ _ _ h => h) (Or.inl ⟨by rfl, ?_⟩) ?_ ?_
            rotate_left
            ·intro w'
             go_simp
             with_reducible rfl
            rotate_left
            ·simp only [Act.put, List.setIfInBounds_toArray, List.set_cons_zero, List.set_cons_succ, i64_w, i32_w]
             rfl
            refine pure_ (i := 20) (N := some 66) (v := ?_) (a' := ?_) #[true, true, true, true, true, true, true, true, true, true, true, true, true, true, true, true, false, true, true, true, true, false, false, false, false, false, false] rfl rfl (any_of HT_.out (by kernel_rfl)) (fun _ _ _ h => h) (Or.inl ⟨by rfl, ?_⟩) ?_ ?_
            rotate_left
            ·intro w'
             go_simp
             with_reducible rfl
            rotate_left
            ·simp only [Act.put, List.setIfInBounds_toArray, List.set_cons_zero, List.set_cons_succ, i64_w, i32_w]
             rfl
            refine take_ (i := 16) (N := some 62) (v := ?_) (a' := ?_) #[true, true, true, true, true, true, true, true, true, true, true, true, true, true, true, true, true, true, true, true, true, false, false, false, false, false, false] rfl rfl (take_ofW HT_.out HW_.out (by kernel_rfl)) (fun _ _ _ h => h) (Or.inl ⟨by rfl, ?_⟩) hHeld ?_ ?_
            rotate_left
            ·rintro w' ⟨s0, s1, s2, s3, s4, s5, s6, s7, s8, s9, s10, s11, s12, s13, s14, s15, s16, s17, s18, s19, s20, s21⟩
             go_simp
             with_reducible rfl
            rotate_left
            ·simp only [Act.put, List.setIfInBounds_toArray, List.set_cons_zero, List.set_cons_succ, i64_w, i32_w]
             rfl
            refine take_ (i := 21) (N := some 67) (v := ?_) (a' := ?_) #[true, true, true, true, true, true, true, true, true, true, true, true, true, true, true, true, true, true, true, true, true, true, false, false, false, false, false] rfl rfl (take_ofW HT_.out HW_.out (by kernel_rfl)) (fun _ _ _ h => h) (Or.inl ⟨by rfl, ?_⟩) hHeld ?_ ?_
            rotate_left
            ·rintro w' ⟨s0, s1, s2, s3, s4, s5, s6, s7, s8, s9, s10, s11, s12, s13, s14, s15, s16, s17, s18, s19, s20, s21⟩
             go_simp
             with_reducible rfl
            rotate_left
            ·simp only [Act.put, List.setIfInBounds_toArray, List.set_cons_zero, List.set_cons_succ, i64_w, i32_w]
             rfl
            refine take_ (i := 23) (N := some 69) (v := ?_) (a' := ?_) #[true, true, true, true, true, true, true, true, true, true, true, true, true, true, true, true, true, true, true, true, true, true, false, true, false, false, false] rfl rfl (take_ofW HT_.out HW_.out (by kernel_rfl)) (fun _ _ _ h => h) (Or.inl ⟨by rfl, ?_⟩) hHeld ?_ ?_
            rotate_left
            ·rintro w' ⟨s0, s1, s2, s3, s4, s5, s6, s7, s8, s9, s10, s11, s12, s13, s14, s15, s16, s17, s18, s19, s20, s21⟩
             go_simp
             with_reducible rfl
            rotate_left
            ·simp only [Act.put, List.setIfInBounds_toArray, List.set_cons_zero, List.set_cons_succ, i64_w, i32_w]
             rfl
            refine one_ (i := 22) (N := some 68) #[true, true, true, true, true, true, true, true, true, true, true, true, true, true, true, true, true, true, true, true, true, true, true, true, false, false, false] rfl rfl (one_of HT_.out (by kernel_rfl)) (by decide) (fun K hK => ?_)
            refine goes_ Try.func18 (by kernel_rfl) rfl #[.agg #[.slice Ao40 t340.length co40], .int .i64 ji17, .agg #[.int .i64 ((rd_T35 l0 (ji17)).f0.f0), .int .i64 ((rd_T35 l0 (ji17)).f0.f1), .int .i64 ((rd_T35 l0 (ji17)).f0.f2), .int .i64 ((rd_T35 l0 (ji17)).f0.f3), .int .i64 ((rd_T35 l0 (ji17)).f1), .int .i64 ((rd_T35 l0 (ji17)).f2), .int .i64 ((rd_T35 l0 (ji17)).f3), .slice A352_7 ((rd_T35 l0 (ji17)).f4).length c352_7, .slice A352_8 ((rd_T35 l0 (ji17)).f5).length c352_8, .slice A352_9 ((rd_T35 l0 (ji17)).f6).length c352_9]] (by rfl) rfl rfl (by (try simp only [List.map_toArray, List.map_cons, List.map_nil]); first | done | (simp only [hji17]; rfl) | rfl | (simp only [List.length_drop, List.length_take]; rfl)) ?_
            with_reducible refine (index_Replace.calls _ _ t340 ji17 ((rd_T35 l0 (ji17)).f0.f0) ((rd_T35 l0 (ji17)).f0.f1) ((rd_T35 l0 (ji17)).f0.f2) ((rd_T35 l0 (ji17)).f0.f3) ((rd_T35 l0 (ji17)).f1) ((rd_T35 l0 (ji17)).f2) ((rd_T35 l0 (ji17)).f3) _ _ ((rd_T35 l0 (ji17)).f4) _ _ ((rd_T35 l0 (ji17)).f5) _ _ ((rd_T35 l0 (ji17)).f6) t358 _ ?side1 ?side2 ?side3 ?side4 ?side5 ?side6 ?side7 ?side8 A30.out).mono ?_
            (case side1 => repeat (first | exact (Kd.R_reads' HO342.out).2.2 | (with_reducible refine Kd.C_alloc ?_ _) | (with_reducible refine Kd.C_drewN ?_ _) | (with_reducible refine Kd.C_drew ?_)))
            (case side2 => exact (Kd.R_reads' HO342.out).2.1)
            (case side3 => repeat (first | exact (by repeat (first | (with_reducible exact (Kd.V_reads' HL357_7.out).2.2) | (with_reducible refine Kd.C_alloc ?_ _) | (with_reducible refine Kd.C_drewN ?_ _) | (with_reducible refine Kd.C_drew ?_) | exact (Kd.V_reads' HL357_7.out).2.2)) | (with_reducible refine Kd.C_alloc ?_ _) | (with_reducible refine Kd.C_drewN ?_ _) | (with_reducible refine Kd.C_drew ?_)))
            (case side4 => exact HC357_7.out)
            (case side5 => repeat (first | exact (by repeat (first | (with_reducible exact (Kd.V_reads' HL357_8.out).2.2) | (with_reducible refine Kd.C_alloc ?_ _) | (with_reducible refine Kd.C_drewN ?_ _) | (with_reducible refine Kd.C_drew ?_) | exact (Kd.V_reads' HL357_8.out).2.2)) | (with_reducible refine Kd.C_alloc ?_ _) | (with_reducible refine Kd.C_drewN ?_ _) | (with_reducible refine Kd.C_drew ?_)))
            (case side6 => exact HC357_8.out)
            (case side7 => repeat (first | exact (by repeat (first | (with_reducible exact (Kd.V_reads' HL357_9.out).2.2) | (with_reducible refine Kd.C_alloc ?_ _) | (with_reducible refine Kd.C_drewN ?_ _) | (with_reducible refine Kd.C_drew ?_) | exact (Kd.V_reads' HL357_9.out).2.2)) | (with_reducible refine Kd.C_alloc ?_ _) | (with_reducible refine Kd.C_drewN ?_ _) | (with_reducible refine Kd.C_drew ?_)))
            (case side8 => exact HC357_9.out)
            rintro e w58 ⟨v359, rfl, ho0, hb⟩
            have HS2_ := (hb.cell (World.block_lt_of_cell? _ _ (hHeld.2.2.1))).trans (hHeld.2.2.1)
            have HS3_ := (hb.cell (World.block_lt_of_cell? _ _ (hHeld.2.2.2.1))).trans (hHeld.2.2.2.1)
            have HS4_ := (hb.cell (World.block_lt_of_cell? _ _ (hHeld.2.2.2.2.1))).trans (hHeld.2.2.2.2.1)
            have HS5_ := (hb.cell (World.block_lt_of_cell? _ _ (hHeld.2.2.2.2.2.1))).trans (hHeld.2.2.2.2.2.1)
            have HS6_ := (hb.cell (World.block_lt_of_cell? _ _ (hHeld.2.2.2.2.2.2.1))).trans (hHeld.2.2.2.2.2.2.1)
            have HS7_ := (hb.cell (World.block_lt_of_cell? _ _ (hHeld.2.2.2.2.2.2.2.1))).trans (hHeld.2.2.2.2.2.2.2.1)
            have HS8_ := (hb.cell (World.block_lt_of_cell? _ _ (hHeld.2.2.2.2.2.2.2.2.1))).trans (hHeld.2.2.2.2.2.2.2.2.1)
            have HS9_ := (hb.cell (World.block_lt_of_cell? _ _ (hHeld.2.2.2.2.2.2.2.2.2.1))).trans (hHeld.2.2.2.2.2.2.2.2.2.1)
            have HS10_ := (hb.cell (World.block_lt_of_cell? _ _ (hHeld.2.2.2.2.2.2.2.2.2.2.1))).trans (hHeld.2.2.2.2.2.2.2.2.2.2.1)
            have HS11_ := (hb.cell (World.block_lt_of_cell? _ _ (hHeld.2.2.2.2.2.2.2.2.2.2.2.1))).trans (hHeld.2.2.2.2.2.2.2.2.2.2.2.1)
            have HS12_ := (hb.cell (World.block_lt_of_cell? _ _ (hHeld.2.2.2.2.2.2.2.2.2.2.2.2.1))).trans (hHeld.2.2.2.2.2.2.2.2.2.2.2.2.1)
            have HS13_ := (hb.cell (World.block_lt_of_cell? _ _ (hHeld.2.2.2.2.2.2.2.2.2.2.2.2.2.1))).trans (hHeld.2.2.2.2.2.2.2.2.2.2.2.2.2.1)
            have HS14_ := (hb.cell (World.block_lt_of_cell? _ _ (hHeld.2.2.2.2.2.2.2.2.2.2.2.2.2.2.1))).trans (hHeld.2.2.2.2.2.2.2.2.2.2.2.2.2.2.1)
            have HS15_ := (hb.cell (World.block_lt_of_cell? _ _ (hHeld.2.2.2.2.2.2.2.2.2.2.2.2.2.2.2.1))).trans (hHeld.2.2.2.2.2.2.2.2.2.2.2.2.2.2.2.1)
            have HS16_ := (hb.cell (World.block_lt_of_cell? _ _ (hHeld.2.2.2.2.2.2.2.2.2.2.2.2.2.2.2.2.1))).trans (hHeld.2.2.2.2.2.2.2.2.2.2.2.2.2.2.2.2.1)
            have HS17_ := (hb.cell (World.block_lt_of_cell? _ _ (hHeld.2.2.2.2.2.2.2.2.2.2.2.2.2.2.2.2.2.1))).trans (hHeld.2.2.2.2.2.2.2.2.2.2.2.2.2.2.2.2.2.1)
            have HS18_ := (hb.cell (World.block_lt_of_cell? _ _ (hHeld.2.2.2.2.2.2.2.2.2.2.2.2.2.2.2.2.2.2.1))).trans (hHeld.2.2.2.2.2.2.2.2.2.2.2.2.2.2.2.2.2.2.1)
            have HS19_ := (hb.cell (World.block_lt_of_cell? _ _ (hHeld.2.2.2.2.2.2.2.2.2.2.2.2.2.2.2.2.2.2.2.1))).trans (hHeld.2.2.2.2.2.2.2.2.2.2.2.2.2.2.2.2.2.2.2.1)
            have HS20_ := (hb.cell (World.block_lt_of_cell? _ _ (hHeld.2.2.2.2.2.2.2.2.2.2.2.2.2.2.2.2.2.2.2.2.1))).trans (hHeld.2.2.2.2.2.2.2.2.2.2.2.2.2.2.2.2.2.2.2.2.1)
            have HS21_ := (hb.cell (World.block_lt_of_cell? _ _ (hHeld.2.2.2.2.2.2.2.2.2.2.2.2.2.2.2.2.2.2.2.2.2))).trans (hHeld.2.2.2.2.2.2.2.2.2.2.2.2.2.2.2.2.2.2.2.2.2)
            refine ⟨_, rfl, ?_⟩
            have n0_ := Aside0.mk (Kd.V_elder' (by (with_reducible repeat (first | apply Kd.V_alloc | apply Kd.V_drewN | apply Kd.V_drew)); exact HO_0.out) (Kd.R_base ho0) hb)
            have n1_ := Aside0.mk (Kd.V_elder' (by (with_reducible repeat (first | apply Kd.V_alloc | apply Kd.V_drewN | apply Kd.V_drew)); exact HO_331007.out) (Kd.R_base ho0) hb)
            have n2_ := Aside0.mk (Kd.V_elder' (by (with_reducible repeat (first | apply Kd.V_alloc | apply Kd.V_drewN | apply Kd.V_drew)); exact HO_331008.out) (Kd.R_base ho0) hb)
            have n3_ := Aside0.mk (Kd.V_elder' (by (with_reducible repeat (first | apply Kd.V_alloc | apply Kd.V_drewN | apply Kd.V_drew)); exact HO_331009.out) (Kd.R_base ho0) hb)
            have n4_ := Aside0.mk (Kd.N_elder' (by (with_reducible repeat (first | apply Kd.N_alloc | apply Kd.N_drewN | apply Kd.N_drew)); exact HO338.out) (Kd.R_base ho0) hb)
            have n5_ := Aside0.mk (Kd.R_elder' (by (with_reducible repeat (first | apply Kd.R_alloc | apply Kd.R_drewN | apply Kd.R_drew)); exact HO342.out) (Kd.R_base ho0) hb)
            have n6_ := Aside0.mk (Kd.R_elder' (by (with_reducible repeat (first | apply Kd.R_alloc | apply Kd.R_drewN | apply Kd.R_drew)); exact HO346.out) (Kd.R_base ho0) hb)
            have n7_ := Aside0.mk (Kd.R_elder' (by (with_reducible repeat (first | apply Kd.R_alloc | apply Kd.R_drewN | apply Kd.R_drew)); exact HO350.out) (Kd.R_base ho0) hb)
            have n8_ := Aside0.mk (Kd.V_elder' (by (with_reducible repeat (first | apply Kd.V_alloc | apply Kd.V_drewN | apply Kd.V_drew)); exact HL352_7.out) (Kd.R_base ho0) hb)
            have n9_ := Aside0.mk (Kd.V_elder' (by (with_reducible repeat (first | apply Kd.V_alloc | apply Kd.V_drewN | apply Kd.V_drew)); exact HL352_8.out) (Kd.R_base ho0) hb)
            have n10_ := Aside0.mk (Kd.V_elder' (by (with_reducible repeat (first | apply Kd.V_alloc | apply Kd.V_drewN | apply Kd.V_drew)); exact HL352_9.out) (Kd.R_base ho0) hb)
            have n11_ := Aside0.mk (Kd.R_elder' (by (with_reducible repeat (first | apply Kd.R_alloc | apply Kd.R_drewN | apply Kd.R_drew)); exact HO355.out) (Kd.R_base ho0) hb)
            have n12_ := Aside0.mk (Kd.V_elder' (by (with_reducible repeat (first | apply Kd.V_alloc | apply Kd.V_drewN | apply Kd.V_drew)); exact HL357_7.out) (Kd.R_base ho0) hb)
            have n13_ := Aside0.mk (Kd.V_elder' (by (with_reducible repeat (first | apply Kd.V_alloc | apply Kd.V_drewN | apply Kd.V_drew)); exact HL357_8.out) (Kd.R_base ho0) hb)
            have n14_ := Aside0.mk (Kd.V_elder' (by (with_reducible repeat (first | apply Kd.V_alloc | apply Kd.V_drewN | apply Kd.V_drew)); exact HL357_9.out) (Kd.R_base ho0) hb)
            have n15_ := Aside0.mk (Kd.R_lower (Kd.R_new' (Kd.R_new' (Kd.R_new' (Kd.R_new' (Kd.R_newM (M := fun k_ => (w.heap.size ≤ k_)) ho0 (below_size (by repeat (first | (with_reducible first | exact HB.out | apply below_alloc | apply pw_below_drewN | apply below_drew1 | refine below_set ?_ GE330.out | refine below_set ?_ GE343.out | refine below_set ?_ GE347.out) | exact HB.out))) (fun k_ h_ => h_)) (Kd.R_lt (by (with_reducible repeat (first | apply Kd.R_alloc | apply Kd.R_drewN | apply Kd.R_drew)); exact HO342.out))) (Kd.R_lt (by (with_reducible repeat (first | apply Kd.R_alloc | apply Kd.R_drewN | apply Kd.R_drew)); exact HO346.out))) (Kd.R_lt (by (with_reducible repeat (first | apply Kd.R_alloc | apply Kd.R_drewN | apply Kd.R_drew)); exact HO350.out))) (Kd.R_lt (by (with_reducible repeat (first | apply Kd.R_alloc | apply Kd.R_drewN | apply Kd.R_drew)); exact HO355.out))) (below_size (by repeat (first | (with_reducible first | exact HB.out | apply below_alloc | apply pw_below_drewN | apply below_drew1 | refine below_set ?_ GE330.out | refine below_set ?_ GE343.out | refine below_set ?_ GE347.out) | exact HB.out))))
            have n16_ := Aside0.mk (blk_below (g := gb330) (o := .cells #[.int .i64 a2_0, .int .i64 a2_1, .int .i64 a2_2, .int .i64 a2_3, .int .i64 a2_4, .int .i64 a2_5, .int .i64 a2_6, .slice A2_7 l2_7.length c2_7, .slice A2_8 l2_8.length c2_8, .slice A2_9 l2_9.length c2_9] 35 (0, 0)) (by (with_reducible repeat (first | refine blk_drewN ?_ _ | refine blk_drew ?_ | refine blk_alloc ?_ _)); exact BK330.out) hb)
            have n17_ := Aside0.mk (blk_below (g := gb343) (o := .cells #[.slice Ao40 t340.length co40] 28 (0, 0)) (by (with_reducible repeat (first | refine blk_drewN ?_ _ | refine blk_drew ?_ | refine blk_alloc ?_ _)); exact BK343.out) hb)
            have n18_ := Aside0.mk (blk_below (g := gb347) (o := .cells #[.slice Ao46 t344.length co46] 28 (0, 0)) (by (with_reducible repeat (first | refine blk_drewN ?_ _ | refine blk_drew ?_ | refine blk_alloc ?_ _)); exact BK347.out) hb)
            have n19_ := Aside0.mk (Kd.C_below (by repeat (first | (with_reducible exact HR352_7.out) | (with_reducible refine Kd.C_alloc ?_ _) | (with_reducible refine Kd.C_drewN ?_ _) | (with_reducible refine Kd.C_drew ?_) | exact HR352_7.out)) hb)
            have n20_ := Aside0.mk (Kd.C_below (by repeat (first | (with_reducible exact HR352_8.out) | (with_reducible refine Kd.C_alloc ?_ _) | (with_reducible refine Kd.C_drewN ?_ _) | (with_reducible refine Kd.C_drew ?_) | exact HR352_8.out)) hb)
            have n21_ := Aside0.mk (Kd.C_below (by repeat (first | (with_reducible exact HR352_9.out) | (with_reducible refine Kd.C_alloc ?_ _) | (with_reducible refine Kd.C_drewN ?_ _) | (with_reducible refine Kd.C_drew ?_) | exact HR352_9.out)) hb)
            have n22_ := Aside0.mk (Kd.C_below (by repeat (first | (with_reducible exact HR357_7.out) | (with_reducible refine Kd.C_alloc ?_ _) | (with_reducible refine Kd.C_drewN ?_ _) | (with_reducible refine Kd.C_drew ?_) | exact HR357_7.out)) hb)
            have n23_ := Aside0.mk (Kd.C_below (by repeat (first | (with_reducible exact HR357_8.out) | (with_reducible refine Kd.C_alloc ?_ _) | (with_reducible refine Kd.C_drewN ?_ _) | (with_reducible refine Kd.C_drew ?_) | exact HR357_8.out)) hb)
            have n24_ := Aside0.mk (Kd.C_below (by repeat (first | (with_reducible exact HR357_9.out) | (with_reducible refine Kd.C_alloc ?_ _) | (with_reducible refine Kd.C_drewN ?_ _) | (with_reducible refine Kd.C_drew ?_) | exact HR357_9.out)) hb)
            have n25_ := Aside0.mk (below_step (by repeat (first | (with_reducible first | exact HB.out | apply below_alloc | apply pw_below_drewN | apply below_drew1 | refine below_set ?_ GE330.out | refine below_set ?_ GE343.out | refine below_set ?_ GE347.out) | exact HB.out)) hb)
            clear HO_0
            clear HO_331007
            clear HO_331008
            clear HO_331009
            clear HO338
            clear HO342
            clear HO346
            clear HO350
            clear HL352_7
            clear HL352_8
            clear HL352_9
            clear HO355
            clear HL357_7
            clear HL357_8
            clear HL357_9
            clear BK330
            clear BK343
            clear BK347
            clear HR352_7
            clear HR352_8
            clear HR352_9
            clear HR357_7
            clear HR357_8
            clear HR357_9
            clear HB
            have HO_0 := n0_
            have HO_331007 := n1_
            have HO_331008 := n2_
            have HO_331009 := n3_
            have HO338 := n4_
            have HO342 := n5_
            have HO346 := n6_
            have HO350 := n7_
            have HL352_7 := n8_
            have HL352_8 := n9_
            have HL352_9 := n10_
            have HO355 := n11_
            have HL357_7 := n12_
            have HL357_8 := n13_
            have HL357_9 := n14_
            have HO360 := n15_
            have BK330 := n16_
            have BK343 := n17_
            have BK347 := n18_
            have HR352_7 := n19_
            have HR352_8 := n20_
            have HR352_9 := n21_
            have HR357_7 := n22_
            have HR357_8 := n23_
            have HR357_9 := n24_
            have HB := n25_
            clear n0_ n1_ n2_ n3_ n4_ n5_ n6_ n7_ n8_ n9_ n10_ n11_ n12_ n13_ n14_ n15_ n16_ n17_ n18_ n19_ n20_ n21_ n22_ n23_ n24_ n25_
            (try clear hb)
            (try clear hb2)
            (try clear hk)
            (try clear hi)
            (try clear ho0)
            obtain ⟨Ao59, co59, eo59⟩ := Kd.R_slice HO360.out
            (first | subst eo59 | (injection eo59 with f1_ f2_ f3_; have f4_ := f1_.symm; have f5_ := f3_.symm; clear f1_ f2_ f3_; subst f4_; subst f5_))
            refine hK.out _ _ ⟨(blk_cell BK347.out 0).trans rfl, (blk_cell BK343.out 0).trans rfl, HS2_, HS3_, HS4_, HS5_, HS6_, HS7_, HS8_, HS9_, HS10_, HS11_, HS12_, HS13_, HS14_, HS15_, HS16_, HS17_, HS18_, HS19_, HS20_, HS21_⟩ (fun hHeld => ?_)
            clear hK K
            refine norm_ (a' := ?_) ?_ ?_
            rotate_left
            ·show Act.put _ (some 68) _ = _
             simp only [Act.put, List.setIfInBounds_toArray, List.set_cons_zero, List.set_cons_succ, i64_w, i32_w]
             rfl
            refine one_ (i := 24) (N := some 70) #[true, true, true, true, true, true, true, true, true, true, true, true, true, true, true, true, true, true, true, true, true, true, true, true, true, false, false] rfl rfl (one_of HT_.out (by kernel_rfl)) (by decide) (fun K hK => ?_)
            refine goes_ Try.func12 (by kernel_rfl) rfl #[.agg #[.slice Ao59 t358.length co59], .agg #[.slice Ao40 t340.length co40]] (by rfl) rfl rfl (by (try simp only [List.map_toArray, List.map_cons, List.map_nil]); first | done | rfl | (simp only [List.length_drop, List.length_take]; rfl)) ?_
            with_reducible refine (sizarref35_Same.calls kj5 _ _ t358 _ _ t340 t361 _ ?side1 ?side2 ?side3 ?side4 A31.out).mono ?_
            (case side1 => repeat (first | exact (Kd.R_reads' HO360.out).2.2 | (with_reducible refine Kd.C_alloc ?_ _) | (with_reducible refine Kd.C_drewN ?_ _) | (with_reducible refine Kd.C_drew ?_)))
            (case side2 => exact (Kd.R_reads' HO360.out).2.1)
            (case side3 => repeat (first | exact (Kd.R_reads' HO342.out).2.2 | (with_reducible refine Kd.C_alloc ?_ _) | (with_reducible refine Kd.C_drewN ?_ _) | (with_reducible refine Kd.C_drew ?_)))
            (case side4 => exact (Kd.R_reads' HO342.out).2.1)
            rintro e w60 ⟨rfl, hb⟩
            have HS2_ := (hb.cell (World.block_lt_of_cell? _ _ (hHeld.2.2.1))).trans (hHeld.2.2.1)
            have HS3_ := (hb.cell (World.block_lt_of_cell? _ _ (hHeld.2.2.2.1))).trans (hHeld.2.2.2.1)
            have HS4_ := (hb.cell (World.block_lt_of_cell? _ _ (hHeld.2.2.2.2.1))).trans (hHeld.2.2.2.2.1)
            have HS5_ := (hb.cell (World.block_lt_of_cell? _ _ (hHeld.2.2.2.2.2.1))).trans (hHeld.2.2.2.2.2.1)
            have HS6_ := (hb.cell (World.block_lt_of_cell? _ _ (hHeld.2.2.2.2.2.2.1))).trans (hHeld.2.2.2.2.2.2.1)
            have HS7_ := (hb.cell (World.block_lt_of_cell? _ _ (hHeld.2.2.2.2.2.2.2.1))).trans (hHeld.2.2.2.2.2.2.2.1)
            have HS8_ := (hb.cell (World.block_lt_of_cell? _ _ (hHeld.2.2.2.2.2.2.2.2.1))).trans (hHeld.2.2.2.2.2.2.2.2.1)
            have HS9_ := (hb.cell (World.block_lt_of_cell? _ _ (hHeld.2.2.2.2.2.2.2.2.2.1))).trans (hHeld.2.2.2.2.2.2.2.2.2.1)
            have HS10_ := (hb.cell (World.block_lt_of_cell? _ _ (hHeld.2.2.2.2.2.2.2.2.2.2.1))).trans (hHeld.2.2.2.2.2.2.2.2.2.2.1)
            have HS11_ := (hb.cell (World.block_lt_of_cell? _ _ (hHeld.2.2.2.2.2.2.2.2.2.2.2.1))).trans (hHeld.2.2.2.2.2.2.2.2.2.2.2.1)
            have HS12_ := (hb.cell (World.block_lt_of_cell? _ _ (hHeld.2.2.2.2.2.2.2.2.2.2.2.2.1))).trans (hHeld.2.2.2.2.2.2.2.2.2.2.2.2.1)
            have HS13_ := (hb.cell (World.block_lt_of_cell? _ _ (hHeld.2.2.2.2.2.2.2.2.2.2.2.2.2.1))).trans (hHeld.2.2.2.2.2.2.2.2.2.2.2.2.2.1)
            have HS14_ := (hb.cell (World.block_lt_of_cell? _ _ (hHeld.2.2.2.2.2.2.2.2.2.2.2.2.2.2.1))).trans (hHeld.2.2.2.2.2.2.2.2.2.2.2.2.2.2.1)
            have HS15_ := (hb.cell (World.block_lt_of_cell? _ _ (hHeld.2.2.2.2.2.2.2.2.2.2.2.2.2.2.2.1))).trans (hHeld.2.2.2.2.2.2.2.2.2.2.2.2.2.2.2.1)
            have HS16_ := (hb.cell (World.block_lt_of_cell? _ _ (hHeld.2.2.2.2.2.2.2.2.2.2.2.2.2.2.2.2.1))).trans (hHeld.2.2.2.2.2.2.2.2.2.2.2.2.2.2.2.2.1)
            have HS17_ := (hb.cell (World.block_lt_of_cell? _ _ (hHeld.2.2.2.2.2.2.2.2.2.2.2.2.2.2.2.2.2.1))).trans (hHeld.2.2.2.2.2.2.2.2.2.2.2.2.2.2.2.2.2.1)
            have HS18_ := (hb.cell (World.block_lt_of_cell? _ _ (hHeld.2.2.2.2.2.2.2.2.2.2.2.2.2.2.2.2.2.2.1))).trans (hHeld.2.2.2.2.2.2.2.2.2.2.2.2.2.2.2.2.2.2.1)
            have HS19_ := (hb.cell (World.block_lt_of_cell? _ _ (hHeld.2.2.2.2.2.2.2.2.2.2.2.2.2.2.2.2.2.2.2.1))).trans (hHeld.2.2.2.2.2.2.2.2.2.2.2.2.2.2.2.2.2.2.2.1)
            have HS20_ := (hb.cell (World.block_lt_of_cell? _ _ (hHeld.2.2.2.2.2.2.2.2.2.2.2.2.2.2.2.2.2.2.2.2.1))).trans (hHeld.2.2.2.2.2.2.2.2.2.2.2.2.2.2.2.2.2.2.2.2.1)
            have HS21_ := (hb.cell (World.block_lt_of_cell? _ _ (hHeld.2.2.2.2.2.2.2.2.2.2.2.2.2.2.2.2.2.2.2.2.2))).trans (hHeld.2.2.2.2.2.2.2.2.2.2.2.2.2.2.2.2.2.2.2.2.2)
            refine ⟨_, rfl, ?_⟩
            have n0_ := Aside0.mk (Kd.V_below (by (with_reducible repeat (first | apply Kd.V_alloc | apply Kd.V_drewN | apply Kd.V_drew)); exact HO_0.out) hb)
            have n1_ := Aside0.mk (Kd.V_below (by (with_reducible repeat (first | apply Kd.V_alloc | apply Kd.V_drewN | apply Kd.V_drew)); exact HO_331007.out) hb)
            have n2_ := Aside0.mk (Kd.V_below (by (with_reducible repeat (first | apply Kd.V_alloc | apply Kd.V_drewN | apply Kd.V_drew)); exact HO_331008.out) hb)
            have n3_ := Aside0.mk (Kd.V_below (by (with_reducible repeat (first | apply Kd.V_alloc | apply Kd.V_drewN | apply Kd.V_drew)); exact HO_331009.out) hb)
            have n4_ := Aside0.mk (Kd.N_below (by (with_reducible repeat (first | apply Kd.N_alloc | apply Kd.N_drewN | apply Kd.N_drew)); exact HO338.out) hb)
            have n5_ := Aside0.mk (Kd.R_below (by (with_reducible repeat (first | apply Kd.R_alloc | apply Kd.R_drewN | apply Kd.R_drew)); exact HO342.out) hb)
            have n6_ := Aside0.mk (Kd.R_below (by (with_reducible repeat (first | apply Kd.R_alloc | apply Kd.R_drewN | apply Kd.R_drew)); exact HO346.out) hb)
            have n7_ := Aside0.mk (Kd.R_below (by (with_reducible repeat (first | apply Kd.R_alloc | apply Kd.R_drewN | apply Kd.R_drew)); exact HO350.out) hb)
            have n8_ := Aside0.mk (Kd.V_below (by (with_reducible repeat (first | apply Kd.V_alloc | apply Kd.V_drewN | apply Kd.V_drew)); exact HL352_7.out) hb)
            have n9_ := Aside0.mk (Kd.V_below (by (with_reducible repeat (first | apply Kd.V_alloc | apply Kd.V_drewN | apply Kd.V_drew)); exact HL352_8.out) hb)
            have n10_ := Aside0.mk (Kd.V_below (by (with_reducible repeat (first | apply Kd.V_alloc | apply Kd.V_drewN | apply Kd.V_drew)); exact HL352_9.out) hb)
            have n11_ := Aside0.mk (Kd.R_below (by (with_reducible repeat (first | apply Kd.R_alloc | apply Kd.R_drewN | apply Kd.R_drew)); exact HO355.out) hb)
            have n12_ := Aside0.mk (Kd.V_below (by (with_reducible repeat (first | apply Kd.V_alloc | apply Kd.V_drewN | apply Kd.V_drew)); exact HL357_7.out) hb)
            have n13_ := Aside0.mk (Kd.V_below (by (with_reducible repeat (first | apply Kd.V_alloc | apply Kd.V_drewN | apply Kd.V_drew)); exact HL357_8.out) hb)
            have n14_ := Aside0.mk (Kd.V_below (by (with_reducible repeat (first | apply Kd.V_alloc | apply Kd.V_drewN | apply Kd.V_drew)); exact HL357_9.out) hb)
            have n15_ := Aside0.mk (Kd.R_below (by (with_reducible repeat (first | apply Kd.R_alloc | apply Kd.R_drewN | apply Kd.R_drew)); exact HO360.out) hb)
            have n16_ := Aside0.mk (blk_below (g := gb330) (o := .cells #[.int .i64 a2_0, .int .i64 a2_1, .int .i64 a2_2, .int .i64 a2_3, .int .i64 a2_4, .int .i64 a2_5, .int .i64 a2_6, .slice A2_7 l2_7.length c2_7, .slice A2_8 l2_8.length c2_8, .slice A2_9 l2_9.length c2_9] 35 (0, 0)) (by (with_reducible repeat (first | refine blk_drewN ?_ _ | refine blk_drew ?_ | refine blk_alloc ?_ _)); exact BK330.out) hb)
            have n17_ := Aside0.mk (blk_below (g := gb343) (o := .cells #[.slice Ao40 t340.length co40] 28 (0, 0)) (by (with_reducible repeat (first | refine blk_drewN ?_ _ | refine blk_drew ?_ | refine blk_alloc ?_ _)); exact BK343.out) hb)
            have n18_ := Aside0.mk (blk_below (g := gb347) (o := .cells #[.slice Ao46 t344.length co46] 28 (0, 0)) (by (with_reducible repeat (first | refine blk_drewN ?_ _ | refine blk_drew ?_ | refine blk_alloc ?_ _)); exact BK347.out) hb)
            have n19_ := Aside0.mk (Kd.C_below (by repeat (first | (with_reducible exact HR352_7.out) | (with_reducible refine Kd.C_alloc ?_ _) | (with_reducible refine Kd.C_drewN ?_ _) | (with_reducible refine Kd.C_drew ?_) | exact HR352_7.out)) hb)
            have n20_ := Aside0.mk (Kd.C_below (by repeat (first | (with_reducible exact HR352_8.out) | (with_reducible refine Kd.C_alloc ?_ _) | (with_reducible refine Kd.C_drewN ?_ _) | (with_reducible refine Kd.C_drew ?_) | exact HR352_8.out)) hb)
            have n21_ := Aside0.mk (Kd.C_below (by repeat (first | (with_reducible exact HR352_9.out) | (with_reducible refine Kd.C_alloc ?_ _) | (with_reducible refine Kd.C_drewN ?_ _) | (with_reducible refine Kd.C_drew ?_) | exact HR352_9.out)) hb)
            have n22_ := Aside0.mk (Kd.C_below (by repeat (first | (with_reducible exact HR357_7.out) | (with_reducible refine Kd.C_alloc ?_ _) | (with_reducible refine Kd.C_drewN ?_ _) | (with_reducible refine Kd.C_drew ?_) | exact HR357_7.out)) hb)
            have n23_ := Aside0.mk (Kd.C_below (by repeat (first | (with_reducible exact HR357_8.out) | (with_reducible refine Kd.C_alloc ?_ _) | (with_reducible refine Kd.C_drewN ?_ _) | (with_reducible refine Kd.C_drew ?_) | exact HR357_8.out)) hb)
            have n24_ := Aside0.mk (Kd.C_below (by repeat (first | (with_reducible exact HR357_9.out) | (with_reducible refine Kd.C_alloc ?_ _) | (with_reducible refine Kd.C_drewN ?_ _) | (with_reducible refine Kd.C_drew ?_) | exact HR357_9.out)) hb)
            have n25_ := Aside0.mk (below_step (by repeat (first | (with_reducible first | exact HB.out | apply below_alloc | apply pw_below_drewN | apply below_drew1 | refine below_set ?_ GE330.out | refine below_set ?_ GE343.out | refine below_set ?_ GE347.out) | exact HB.out)) hb)
            clear HO_0
            clear HO_331007
            clear HO_331008
            clear HO_331009
            clear HO338
            clear HO342
            clear HO346
            clear HO350
            clear HL352_7
            clear HL352_8
            clear HL352_9
            clear HO355
            clear HL357_7
            clear HL357_8
            clear HL357_9
            clear HO360
            clear BK330
            clear BK343
            clear BK347
            clear HR352_7
            clear HR352_8
            clear HR352_9
            clear HR357_7
            clear HR357_8
            clear HR357_9
            clear HB
            have HO_0 := n0_
            have HO_331007 := n1_
            have HO_331008 := n2_
            have HO_331009 := n3_
            have HO338 := n4_
            have HO342 := n5_
            have HO346 := n6_
            have HO350 := n7_
            have HL352_7 := n8_
            have HL352_8 := n9_
            have HL352_9 := n10_
            have HO355 := n11_
            have HL357_7 := n12_
            have HL357_8 := n13_
            have HL357_9 := n14_
            have HO360 := n15_
            have BK330 := n16_
            have BK343 := n17_
            have BK347 := n18_
            have HR352_7 := n19_
            have HR352_8 := n20_
            have HR352_9 := n21_
            have HR357_7 := n22_
            have HR357_8 := n23_
            have HR357_9 := n24_
            have HB := n25_
            clear n0_ n1_ n2_ n3_ n4_ n5_ n6_ n7_ n8_ n9_ n10_ n11_ n12_ n13_ n14_ n15_ n16_ n17_ n18_ n19_ n20_ n21_ n22_ n23_ n24_ n25_
            (try clear hb)
            (try clear hb2)
            (try clear hk)
            (try clear hi)
            refine hK.out _ _ ⟨(blk_cell BK347.out 0).trans rfl, (blk_cell BK343.out 0).trans rfl, HS2_, HS3_, HS4_, HS5_, HS6_, HS7_, HS8_, HS9_, HS10_, HS11_, HS12_, HS13_, HS14_, HS15_, HS16_, HS17_, HS18_, HS19_, HS20_, HS21_⟩ (fun hHeld => ?_)
            clear hK K
            refine norm_ (a' := ?_) ?_ ?_
            rotate_left
            ·show Act.put _ (some 70) _ = _
             simp only [Act.put, List.setIfInBounds_toArray, List.set_cons_zero, List.set_cons_succ, i64_w, i32_w]
             rfl
            refine pure_ (i := 25) (N := some 71) (v := ?_) (a' := ?_) #[true, true, true, true, true, true, true, true, true, true, true, true, true, true, true, true, true, true, true, true, true, true, true, true, true, true, false] rfl rfl (any_of HT_.out (by kernel_rfl)) (fun _ _ _ h => h) (Or.inl ⟨by rfl, ?_⟩) ?_ ?_
            rotate_left
            ·intro w'
             go_simp
             with_reducible rfl
            rotate_left
            ·simp only [Act.put, List.setIfInBounds_toArray, List.set_cons_zero, List.set_cons_succ, i64_w, i32_w]
             rfl
            refine pure_ (i := 26) (N := some 6) (v := ?_) (a' := ?_) #[true, true, true, true, true, true, true, true, true, true, true, true, true, true, true, true, true, true, true, true, true, true, true, true, true, true, true] rfl rfl (any_of HT_.out (by kernel_rfl)) (fun _ _ _ h => h) (Or.inl ⟨by rfl, ?_⟩) ?_ ?_
            rotate_left
            ·intro w'
             go_simp
             with_reducible rfl
            rotate_left
            ·simp only [Act.put, List.setIfInBounds_toArray, List.set_cons_zero, List.set_cons_succ, i64_w, i32_w]
             rfl
            refine done_ (done_of HT_.out (by kernel_rfl)) ?_
            try go_wp2
            go_ret
            exact ⟨by first | rfl | (simp [errW_none, errW_some] <;> rfl) | (simp only [← hji17]; first | rfl | (simp [errW_none, errW_some] <;> rfl)) | (simp [*, errW_none, errW_some] <;> rfl), by repeat (first | (with_reducible first | exact HB.out | apply below_alloc | apply pw_below_drewN | apply below_drew1 | refine below_set ?_ GE330.out | refine below_set ?_ GE343.out | refine below_set ?_ GE347.out) | exact HB.out)⟩
           ·replace c29 := Bool.eq_false_iff.mpr c29
            subst c29
            have H1 : (none) = some r := by rw [if_neg (show ¬ (false = true) by decide)] at H; exact H
            clear H
            have H := H1
            clear H1
            exact absurd H (by simp)
          ·rw [if_neg c26] at H
           exact absurd H (by simp)
         ·replace c25 := Bool.eq_false_iff.mpr c25
          subst c25
          have H1 : (none) = some r := by rw [if_neg (show ¬ (false = true) by decide)] at H; exact H
          clear H
          have H := H1
          clear H1
          exact absurd H (by simp)
        ·rw [if_neg c19] at H
         exact absurd H (by simp)
       ·rw [if_neg c18] at H
        exact absurd H (by simp)
      ·rw [if_neg c16] at H
       exact absurd H (by simp)
 ·replace c5 := Bool.eq_false_iff.mpr c5
  subst c5
  have H1 : (some false) = some r := by rw [if_neg (show ¬ (false = true) by decide)] at H; exact H
  clear H
  have H := H1
  clear H1
  obtain rfl := Option.some.inj H
  go_enter Try.func7, Try.ntmps7
  go_wp2_with (first | ((with_reducible refine gate_dst (N := 5) rfl ?_); (try (refine gate_guard (by rfl) ?_; dsimp only)); refine box_event ?hg (N := 5) ?hd (cs := #[.int .i64 a2_0, .int .i64 a2_1, .int .i64 a2_2, .int .i64 a2_3, .int .i64 a2_4, .int .i64 a2_5, .int .i64 a2_6, .slice A2_7 l2_7.length c2_7, .slice A2_8 l2_8.length c2_8, .slice A2_9 l2_9.length c2_9]) (t := 35) ?hr ?_; (case hd => rfl); (case hg => rfl); (case hr => first | (go_simp; done) | (go_simp; rfl)); intro gb330 hg w61 hbox hb; have n0_ := Aside0.mk (Kd.V_below (Kd.V_elderB (by (with_reducible repeat (first | apply Kd.V_alloc | apply Kd.V_drewN | apply Kd.V_drew)); exact HO0.out) gb330 (Nat.le_of_eq hg.symm)) hb); have n1_ := Aside0.mk (Kd.V_below (Kd.V_elderB (by (with_reducible repeat (first | apply Kd.V_alloc | apply Kd.V_drewN | apply Kd.V_drew)); exact HO2_7.out) gb330 (Nat.le_of_eq hg.symm)) hb); have n2_ := Aside0.mk (Kd.V_below (Kd.V_elderB (by (with_reducible repeat (first | apply Kd.V_alloc | apply Kd.V_drewN | apply Kd.V_drew)); exact HO2_8.out) gb330 (Nat.le_of_eq hg.symm)) hb); have n3_ := Aside0.mk (Kd.V_below (Kd.V_elderB (by (with_reducible repeat (first | apply Kd.V_alloc | apply Kd.V_drewN | apply Kd.V_drew)); exact HO2_9.out) gb330 (Nat.le_of_eq hg.symm)) hb); have n4_ := Aside0.mk (below_step (by repeat (first | (with_reducible first | exact HB.out | apply below_alloc | apply pw_below_drewN | apply below_drew1) | exact HB.out)) hb); have n5_ := Aside0.mk (hbox); have n6_ := Aside0.mk ((by rw [hg]; exact (below_size (by repeat (first | (with_reducible first | exact HB.out | apply below_alloc | apply pw_below_drewN | apply below_drew1) | exact HB.out))) : w.heap.size ≤ gb330)); have n7_ := Aside0.mk ((by rw [hg]; exact (below_size (by repeat (first | (with_reducible first | exact HB.out | apply below_alloc | apply pw_below_drewN | apply below_drew1) | exact HB.out))) : w.heap.size ≤ gb330)); clear HO0; clear HO2_7; clear HO2_8; clear HO2_9; clear HB; have HO0 := n0_; have HO2_7 := n1_; have HO2_8 := n2_; have HO2_9 := n3_; have HB := n4_; have BK330 := n5_; have GW330 := n6_; have GE330 := n7_; clear n0_ n1_ n2_ n3_ n4_ n5_ n6_ n7_; clear hb hbox hg) | ((with_reducible refine gate_callee (f := 10) rfl ?_); refine goesL_ (some 11) rfl rfl Try.func10 (by kernel_rfl) rfl #[] rfl (by (try simp only [List.map_toArray, List.map_cons, List.map_nil]); first | done | rfl | (simp only [List.length_drop, List.length_take]; rfl)) ?_; (with_reducible refine (sizarlaw35_sane.calls k  false _ A4.out).mono ?_); rintro e w62 ⟨rfl, hb⟩; refine ⟨_, rfl, ?_⟩; have n0_ := Aside0.mk (Kd.V_below (by (with_reducible repeat (first | apply Kd.V_alloc | apply Kd.V_drewN | apply Kd.V_drew)); exact HO0.out) hb); have n1_ := Aside0.mk (Kd.V_below (by (with_reducible repeat (first | apply Kd.V_alloc | apply Kd.V_drewN | apply Kd.V_drew)); exact HO2_7.out) hb); have n2_ := Aside0.mk (Kd.V_below (by (with_reducible repeat (first | apply Kd.V_alloc | apply Kd.V_drewN | apply Kd.V_drew)); exact HO2_8.out) hb); have n3_ := Aside0.mk (Kd.V_below (by (with_reducible repeat (first | apply Kd.V_alloc | apply Kd.V_drewN | apply Kd.V_drew)); exact HO2_9.out) hb); have n4_ := Aside0.mk (blk_below (g := gb330) (o := .cells #[.int .i64 a2_0, .int .i64 a2_1, .int .i64 a2_2, .int .i64 a2_3, .int .i64 a2_4, .int .i64 a2_5, .int .i64 a2_6, .slice A2_7 l2_7.length c2_7, .slice A2_8 l2_8.length c2_8, .slice A2_9 l2_9.length c2_9] 35 (0, 0)) (by (with_reducible repeat (first | refine blk_drewN ?_ _ | refine blk_drew ?_ | refine blk_alloc ?_ _)); exact BK330.out) hb); have n5_ := Aside0.mk (below_step (by repeat (first | (with_reducible first | exact HB.out | apply below_alloc | apply pw_below_drewN | apply below_drew1 | refine below_set ?_ GE330.out) | exact HB.out)) hb); clear HO0; clear HO2_7; clear HO2_8; clear HO2_9; clear BK330; clear HB; have HO0 := n0_; have HO2_7 := n1_; have HO2_8 := n2_; have HO2_9 := n3_; have BK330 := n4_; have HB := n5_; clear n0_ n1_ n2_ n3_ n4_ n5_; (try clear hb); (try clear hb2); (try clear hk); (try clear hi)))
  go_ret
  exact ⟨by first | rfl | (simp [errW_none, errW_some] <;> rfl) | (simp [*, errW_none, errW_some] <;> rfl), by repeat (first | (with_reducible first | exact HB.out | apply below_alloc | apply pw_below_drewN | apply below_drew1 | refine below_set ?_ GE330.out) | exact HB.out)⟩
end Go.Proofs.Ytodmmckieoakjaa.P
namespace Go.Proofs.Ytodmmckieoakjaa.P
open Go.RowKit Go.Proofs.YtodmmckieoakjaaW.PrintWords Go.Proofs.YtodmmckieoakjaaW.PrintLast Go.Proofs.YtodmmckieoakjaaW.PrintMore
set_option linter.unusedVariables false
theorem normL_len (xs : List S49) : (normL xs).length ≤ xs.length := by
  rw [normL_eq]
  have := foldl_len xs []
  simp only [List.length_nil] at this
  omega
theorem mem_built (l : List S35) (z : S49) : z ∈ normL (allLinks l) ↔ ∃ i, ∃ h : i < l.length, ∃ r ∈ l[i].f5, z = ⟨r, (i : Int)⟩ := by
  rw [mem_normL]
  unfold allLinks
  rw [mem_linksUpto l z l.length (Nat.le_refl _)]
  exact ⟨fun ⟨i, _, h⟩ => ⟨i, h⟩, fun ⟨i, h, r⟩ => ⟨i, h, h, r⟩⟩
theorem repl_build (l : List S35) (j : Nat) (hj : j < l.length) (d : S35) : normL (elseL (j : Int) (normL (allLinks l)) ++ linksOf (j : Int) d.f5) = normL (allLinks (l.set j d)) := by
  refine (normL_ss _).ext (normL_ss _) fun z => ?_
  rw [mem_normL, mem_built, List.mem_append]
  unfold elseL delL linksOf
  rw [List.mem_filter, List.mem_map, mem_built]
  constructor
  · rintro (⟨⟨i, hi, r, hr, e⟩, h2⟩ | ⟨r, hr, e⟩)
    · have hij : i ≠ j := by
        intro e2
        subst e2
        rw [e] at h2
        simp at h2
      exact ⟨i, by rw [List.length_set]; exact hi, r, by rw [List.getElem_set_ne (by omega)]; exact hr, e⟩
    · exact ⟨j, by rw [List.length_set]; exact hj, r, by rw [List.getElem_set_self]; exact hr, e.symm⟩
  · rintro ⟨i, hi, r, hr, e⟩
    rw [List.length_set] at hi
    by_cases hij : i = j
    · subst hij
      rw [List.getElem_set_self] at hr
      exact .inr ⟨r, hr, e.symm⟩
    · rw [List.getElem_set_ne (by omega)] at hr
      refine .inl ⟨⟨i, hi, r, hr, e⟩, ?_⟩
      rw [e]
      have : (i : Int) ≠ (j : Int) := by omega
      simpa using this
theorem replaced_j0 (l : List S35) (a1 : Int) (h0 : 0 ≤ a1) (h1 : a1 < 18446744073709551616) (d : S35) (hl : 0 < l.length) (hl2 : l.length ≤ 12) (h60 : ∀ x ∈ l, x.f5.length ≤ 60) (hd : d.f5.length ≤ 30) :
    Ev (fun k => sizarlaw35_IndexReplaced.j0 k l a1 false d.f0.f0 d.f0.f1 d.f0.f2 d.f0.f3 d.f1 d.f2 d.f3 d.f4 d.f5 d.f6) true := by
  obtain ⟨j, hj, hu, hw⟩ := tmod_at a1 h0 h1 l.length hl hl2
  have hset : ∀ x ∈ l.set j d, x.f5.length ≤ 60 := fun x hx => by
    rcases List.mem_or_eq_of_mem_set hx with h | h
    · exact h60 x h
    · subst h; omega
  have n1 : (allLinks l).length ≤ 1000 := by
    have := linksUpto_len l hl2 h60 l.length (Nat.le_refl _)
    unfold allLinks
    omega
  have n2 : (allLinks (l.set j d)).length ≤ 1000 := by
    have := linksUpto_len (l.set j d) (by rw [List.length_set]; exact hl2) hset (l.set j d).length (Nat.le_refl _)
    unfold allLinks
    rw [List.length_set] at *
    omega
  have m1 := normL_len (allLinks l)
  have m2 := normL_len (allLinks (l.set j d))
  have B1 : index_Build.f l = some (normL (allLinks l)) := by
    unfold index_Build.f
    rw [if_pos ⟨by omega, by omega⟩]
  have B2 : index_Build.f (l.set j d) = some (normL (allLinks (l.set j d))) := by
    unfold index_Build.f
    rw [if_pos ⟨by rw [List.length_set]; omega, by omega⟩]
  have R1 : index_Replace.f (normL (allLinks l)) (j : Int) d.f0.f0 d.f0.f1 d.f0.f2 d.f0.f3 d.f1 d.f2 d.f3 d.f4 d.f5 d.f6 = some (normL (allLinks (l.set j d))) := by
    unfold index_Replace.f
    rw [if_pos ⟨by omega, by omega⟩, repl_build l j hj d]
  have hx60 := h60 _ (List.getElem_mem hj)
  have R2 : index_Replace.f (normL (allLinks (l.set j d))) (j : Int) l[j].f0.f0 l[j].f0.f1 l[j].f0.f2 l[j].f0.f3 l[j].f1 l[j].f2 l[j].f3 l[j].f4 l[j].f5 l[j].f6 = some (normL (allLinks l)) := by
    unfold index_Replace.f
    rw [if_pos ⟨by omega, by omega⟩, repl_build (l.set j d) j (by rw [List.length_set]; exact hj) l[j], List.set_set, List.set_getElem_self]
  have R3 : index_Replace.f (normL (allLinks l)) (j : Int) l[j].f0.f0 l[j].f0.f1 l[j].f0.f2 l[j].f0.f3 l[j].f1 l[j].f2 l[j].f3 l[j].f4 l[j].f5 l[j].f6 = some (normL (allLinks l)) := by
    unfold index_Replace.f
    rw [if_pos ⟨by omega, by omega⟩, repl_build l j hj l[j], List.set_getElem_self]
  have s1 := same_ev (normL (allLinks (l.set j d))) (normL (allLinks (l.set j d))) (by omega)
  have s2 := same_ev (normL (allLinks l)) (normL (allLinks l)) (by omega)
  rw [decide_eq_true rfl] at s1 s2
  obtain ⟨K1, s1⟩ := s1
  obtain ⟨K2, s2⟩ := s2
  replace s1 : ∀ k, K1 ≤ k → sizarref35_Same.f k (normL (allLinks (l.set j d))) (normL (allLinks (l.set j d))) = some true := s1
  replace s2 : ∀ k, K2 ≤ k → sizarref35_Same.f k (normL (allLinks l)) (normL (allLinks l)) = some true := s2
  have hr := rd35 l j hj
  refine ⟨K1 + K2 + 1, fun k hk => ?_⟩
  obtain ⟨m, rfl⟩ : ∃ m, k = m + 1 := ⟨k - 1, by omega⟩
  simp only [sizarlaw35_IndexReplaced.j0]
  rw [if_neg (by simp), if_neg (by omega), Option.bind_some, if_pos (by simp; omega), Option.bind_some, hw, if_pos (by omega), if_pos (by simp; omega), List.nil_append, B1, Option.bind_some, R1, Option.bind_some]
  rw [show ((j : Int)).toNat = j from Int.toNat_natCast j]
  have eta : (⟨(⟨d.f0.f0, d.f0.f1, d.f0.f2, d.f0.f3⟩ : S31), d.f1, d.f2, d.f3, d.f4, d.f5, d.f6⟩ : S35) = d := rfl
  rw [eta, B2, Option.bind_some, s1 m (by omega), Option.bind_some, if_pos rfl, if_pos (by omega), hr, R2, Option.bind_some, s2 m (by omega), Option.bind_some, if_pos rfl, R3, Option.bind_some, s2 m (by omega), Option.bind_some]
theorem IndexReplaced_pure (l : List S35) (a1 : Int) (d : S35) (g : (∀ x ∈ l, ok35 x) ∧ l.length * Try.prog.bytesOf 35 ≤ reachBytes) (g1 : (Lit.int .u64 a1).wf = true) (g2 : ok35 d) :
    ∃ k, sizarlaw35_IndexReplaced.f k l a1 d.f0.f0 d.f0.f1 d.f0.f2 d.f0.f3 d.f1 d.f2 d.f3 d.f4 d.f5 d.f6 = some true := by
  obtain ⟨g1', g2'⟩ := g
  rw [bytes35] at g2'
  simp only [reachBytes] at g2'
  have ha : 0 ≤ a1 ∧ a1 < 18446744073709551616 := by
    simp [Lit.wf, IntKind.min, IntKind.max, IntKind.signed, IntKind.bits] at g1
    omega
  obtain ⟨b, hb, hbt⟩ := few_ev l (by omega) (fun d hd => reads_le (g1' d hd))
  have hj : ∀ x : Bool, (x = false → (l.length ≤ 12 ∧ ∀ d ∈ l, d.f5.length ≤ 60) ∧ 0 < l.length ∧ d.f5.length ≤ 30) → Ev (fun k => sizarlaw35_IndexReplaced.j0 k l a1 x d.f0.f0 d.f0.f1 d.f0.f2 d.f0.f3 d.f1 d.f2 d.f3 d.f4 d.f5 d.f6) true := by
    intro x hx
    cases x with
    | true =>
      refine Ev.first fun k => ?_
      simp only [sizarlaw35_IndexReplaced.j0]
      rw [if_pos trivial]
    | false =>
      obtain ⟨⟨h1, h2⟩, h3, h4⟩ := hx rfl
      exact replaced_j0 l a1 ha.1 ha.2 d h3 h1 h2 h4
  have key : Ev (fun k => sizarlaw35_IndexReplaced.f k l a1 d.f0.f0 d.f0.f1 d.f0.f2 d.f0.f3 d.f1 d.f2 d.f3 d.f4 d.f5 d.f6) true := by
    unfold sizarlaw35_IndexReplaced.f
    refine Ev.bind sane_ev ?_
    refine Ev.congr (Ev.bind (c := fun k t332 => if t332 = true then (if (d.f5.length : Int) > 30 then (sizarlaw35_IndexReplaced.j0 k l a1 true d.f0.f0 d.f0.f1 d.f0.f2 d.f0.f3 d.f1 d.f2 d.f3 d.f4 d.f5 d.f6) else (sizarlaw35_IndexReplaced.j0 k l a1 ((l.length : Int) == 0) d.f0.f0 d.f0.f1 d.f0.f2 d.f0.f3 d.f1 d.f2 d.f3 d.f4 d.f5 d.f6)) else (sizarlaw35_IndexReplaced.j0 k l a1 true d.f0.f0 d.f0.f1 d.f0.f2 d.f0.f3 d.f1 d.f2 d.f3 d.f4 d.f5 d.f6)) hb ?_) (fun k => by rw [if_pos rfl])
    cases b with
    | false => exact (hj true (fun h => by cases h)).congr fun k => by rw [if_neg (by simp)]
    | true =>
      by_cases h30 : (d.f5.length : Int) > 30
      · exact (hj true (fun h => by cases h)).congr fun k => by rw [if_pos rfl, if_pos h30]
      · refine (hj ((l.length : Int) == 0) (fun h => ⟨hbt rfl, ?_, by omega⟩)).congr fun k => by rw [if_pos rfl, if_neg h30]
        have : ¬ ((l.length : Int) = 0) := by simpa using h
        omega
  exact key.get
end Go.Proofs.Ytodmmckieoakjaa.P
namespace Go.Proofs.Ytodmmckieoakjaa.indexReplaced
open Go.ChangeShapes Go.WideShapes Go.ChangeAt Go.RowKit
open Go.Proofs.Ytodmmckieoakjaa.P
set_option linter.unusedVariables false
theorem own : ownKnob Try.prog.godebug = none := by kernel_rfl
theorem laidOut : laidOutB Try.prog = true := by kernel_rfl
set_option maxRecDepth 100000 in
set_option maxHeartbeats 1000000 in
theorem lifted (os : Os) (started : os.Started) (H : Type) (enc : TypeId × Value → H) :
    ReturnsInHanded {} Try.checked os 7 .any (Rows.indexReplacedSpec.pre6 enc Try.prog Try.f7 Rows.indexReplacedRow.domain false) (Rows.indexReplacedSpec.post enc Try.prog Try.f7 false true false false) := by
  refine returnsInHanded_of_change_sized (C := Try.checked) own started (by kernel_rfl) Try.func7
    (ChangeSpec.witness6 (enc := enc) (C := Try.checked) false ⟨#[], #[.slice none 0 0, .int .u64 0, .agg #[.int .i64 0, .int .i64 0, .int .i64 0, .int .i64 0, .int .i64 0, .int .i64 0, .int .i64 0, .slice none 0 0, .slice none 0 0, .slice none 0 0]], []⟩ 8 (by kernel_rfl) (by kernel_rfl) (by kernel_rfl) (by kernel_rfl)) ?_
  intro W base args ds gs before hval0 hW hcnd hsz0 _
  have hsz : (DataW.weightsEach Try.prog (Try.f7.params.toList ++ Rows.indexReplacedSpec.plain.varTypes Try.prog) (ds ++ gs)).all (· ≤ reachBytes) = true := hsz0
  have hval : ∀ (j : Nat) t v, Try.f7.params[j]? = some t → args[j]? = some v → Value.okWide Try.prog W .any base t v := hval0
  have hW' := hW
  obtain ⟨p, q, hA0, hV, rfl, hfz, hnd⟩ := hW
  have hA : DataW.TrodAll enc Try.prog W 0 (fun _ => true) true Try.f7.params.toList args.toList ds p := hA0
  rw [Try.params7] at hA hval hsz
  obtain ⟨v0, vs0, d0, ds0, p0, q0, hargs, rfl, rfl, h0, r0⟩ := trodAll_cons hA
  obtain ⟨v1, vs1, d1, ds1, p1, q1, rfl, rfl, rfl, h1, r1⟩ := trodAll_cons r0
  obtain ⟨v2, vs2, d2, ds2, p2, q2, rfl, rfl, rfl, h2, r2⟩ := trodAll_cons r1
  obtain ⟨rfl, rfl, rfl⟩ := trodAll_nil r2
  obtain rfl : args = #[v0, v1, v2] := by cases args; simp_all
  obtain ⟨rfl, rfl⟩ := trodVars_none hV
  have k0 := h0
  have lt0 : ∀ x ∈ p0, x.block < W.heap.size := by obtain ⟨m, hm⟩ := k0; exact DataW.trod_lt m _ _ _ hm
  have lg0 : light Try.prog 22 d0 := light_each _ _ hsz 0 _ _ rfl rfl
  obtain ⟨fuel0, hf0⟩ := h0
  obtain ⟨b0, n0, m0, rfl⟩ := okWide_slice Try.underlying22 (hval 0 22 v0 rfl rfl)
  obtain ⟨x0, ⟨A0, c0, e0, l0, r0r⟩, g0⟩ := opn_slice Try.underlying22 opn35 (by kernel_rfl) (by decide) H enc W _ _ _ fuel0 _ _ hf0 lg0
  replace e0 : [Value.slice b0 n0 m0] = [.slice A0 x0.length c0] := e0
  injection e0 with e0 _
  injection e0 with e0a e0b e0c
  subst e0a e0b e0c
  obtain ⟨a1, rfl, rfl, rfl, w1⟩ := open_int Try.underlying50 (hval 1 50 v1 rfl rfl) h1
  have k2 := h2
  have lt2 : ∀ x ∈ p2, x.block < W.heap.size := by obtain ⟨m, hm⟩ := k2; exact DataW.trod_lt m _ _ _ hm
  have lg2 : light Try.prog 35 d2 := light_each _ _ hsz 2 _ _ rfl rfl
  obtain ⟨fuel2, hf2⟩ := h2
  obtain ⟨cs2, rfl, hcs2⟩ := okWide_struct Try.underlying35 (hval 2 35 v2 rfl rfl)
  obtain ⟨x2, K2, g2⟩ := opn35 H enc W _ _ _ fuel2 _ _ hf2 lg2
  obtain ⟨A2_7, A2_7c, A2_8, A2_8c, A2_9, A2_9c, e2, A2_7l, A2_7r, A2_8l, A2_8r, A2_9l, A2_9r⟩ := k35_open K2
  replace e2 : cs2.toList = (#[.int .i64 x2.f0.f0, .int .i64 x2.f0.f1, .int .i64 x2.f0.f2, .int .i64 x2.f0.f3, .int .i64 x2.f1, .int .i64 x2.f2, .int .i64 x2.f3, .slice A2_7 x2.f4.length A2_7c, .slice A2_8 x2.f5.length A2_8c, .slice A2_9 x2.f6.length A2_9c] : Array Value).toList := e2
  obtain rfl := Array.toList_inj.1 e2
  clear hA0 hval0 hsz0 hsz
  obtain ⟨k, hk⟩ := IndexReplaced_pure x0 a1 x2 g0 w1 g2
  refine (sizarlaw35_IndexReplaced.calls k (fun k_ => k_ < W.heap.size) b0 m0 x0 a1 x2.f0.f0 x2.f0.f1 x2.f0.f2 x2.f0.f3 x2.f1 x2.f2 x2.f3 (fun k_ => k_ < W.heap.size) A2_7 A2_7c x2.f4 (fun k_ => k_ < W.heap.size) A2_8 A2_8c x2.f5 (fun k_ => k_ < W.heap.size) A2_9 A2_9c x2.f6 true W (V_of_C k35_heap' l0 r0r) (V_of_C int_heap' A2_7l A2_7r) (V_of_C k47_heap' A2_8l A2_8r) (V_of_C int_heap' A2_9l A2_9r) hk).mono fun e W' ⟨he, bel⟩ => ?_
  subst he
  exact ⟨_, rfl, _, _, _, [], _, [], hW', trodAll_mk1 (shut_bool Try.underlying4 _), (trodAll_cons_mk (Below.trod laidOut (by kernel_rfl) (of_decide_eq_true (by kernel_rfl)) k0 bel lt0) (trodAll_cons_mk (shut_int Try.underlying50 w1) (trodAll_cons_mk (Below.trod laidOut (by kernel_rfl) (of_decide_eq_true (by kernel_rfl)) k2 bel lt2) trodAll_mk0))), rfl, bel.frame _, fun h => by cases h⟩
theorem over : Rows.indexReplacedRow.holds Try.pinned (OpenSpec.ofChange Rows.indexReplacedSpec) :=
  OpenClaim.holds_of_wide 7 Try.f7 rfl rfl rfl rfl rfl rfl rfl ⟨rfl, rfl, rfl, rfl, rfl⟩ rfl rfl rfl rfl rfl (by kernel_rfl) Try.func7 (by kernel_rfl)
    (of_decide_eq_true (by kernel_rfl)) (by unfold Func.isWrapper; first | (rw [if_pos (by decide +kernel)]; kernel_rfl) | (rw [if_neg (by decide +kernel)]; exact ⟨rfl, rfl⟩))
    (fun os started H enc _ => lifted os started H enc)
theorem proved : Rows.IndexReplacedSaid := over
end Go.Proofs.Ytodmmckieoakjaa.indexReplaced
namespace Go.Proofs.Ytodmmckieoakjaa
/-- The row, under a short name, for the claim. -/
theorem indexReplaced_holds : Rows.IndexReplacedSaid := indexReplaced.proved
end Go.Proofs.Ytodmmckieoakjaa
