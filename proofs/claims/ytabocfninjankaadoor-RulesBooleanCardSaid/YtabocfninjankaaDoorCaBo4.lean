/- Texts of this claim, one behind the other: Px15. Merged by wip/mkmerge.py. -/
import Derived.Test.YtabocfninjankaaDoorCaBo1
import Derived.Test.YtabocfninjankaaDoorCaBo2
import Derived.Test.YtabocfninjankaaDoorCaBo3
namespace Go.Proofs.YtabocfninjankaaDoor.P
open Go.RowKit Go.Proofs.YtabocfninjankaaDoorW.PrintWords Go.Proofs.YtabocfninjankaaDoorW.PrintLast Go.Proofs.YtabocfninjankaaDoorW.PrintMore
attribute [local go_sem] max2_int min2_int max_two min_two max_three min_three max_four min_four   -- for this text's walks alone
set_option linter.unusedVariables false
set_option linter.unusedSimpArgs false
mutual
def sizarlaw12_RulesBoolean.l0 : Nat → List (S24) → Int → Int → Int → List (S49) → Int → Int → Int → Option (Bool)
 | 0, _, _, _, _, _, _, _, _ => none
 | k + 1, x0, x2, x7, x8, x430000, x430001, x430002, x430003 => if x8 < (x0.length : Int) then (if 0 ≤ x8 then ((sizarref12_Few.f k ((rd_T24 x0 x8).f0) ((rd_T24 x0 x8).f1) ((rd_T24 x0 x8).f2) ((rd_T24 x0 x8).f3) ((rd_T24 x0 x8).f4) ((rd_T24 x0 x8).f5)).bind fun t432 => (if t432 = true then (if (x0.length : Int) > 8 then (sizarlaw12_RulesBoolean.j1 k x0 x2 x7 x8 true x430000 x430001 x430002 x430003) else (if (x430000.length : Int) > 50 then (sizarlaw12_RulesBoolean.j1 k x0 x2 x7 x8 true x430000 x430001 x430002 x430003) else ((rules_Check.f ((rd_T24 x0 x8).f0) ((rd_T24 x0 x8).f1) ((rd_T24 x0 x8).f2) ((rd_T24 x0 x8).f3) ((rd_T24 x0 x8).f4) ((rd_T24 x0 x8).f5)).bind fun t434 => (if t434 = 0 then ((rules_Fits.f k x430000 x430001 x430002 x430003).bind fun t435 => (sizarlaw12_RulesBoolean.j1 k x0 x2 x7 x8 (t435 != 0) x430000 x430001 x430002 x430003)) else (sizarlaw12_RulesBoolean.j1 k x0 x2 x7 x8 true x430000 x430001 x430002 x430003))))) else (sizarlaw12_RulesBoolean.j1 k x0 x2 x7 x8 true x430000 x430001 x430002 x430003))) else (none)) else ((rules_Fits.f k x430000 x430001 x430002 x430003).bind fun t447 => (if t447 = 0 then ((some (([(⟨(⟨1, 0, (⟨#[]⟩ : ByteArray), 0, 0, x0⟩ : S24), (x7 == (x0.length : Int))⟩ : S43), (⟨(⟨2, 0, (⟨#[]⟩ : ByteArray), 0, 0, x0⟩ : S24), decide (x7 > 0)⟩ : S43), (⟨(⟨3, 0, (⟨#[]⟩ : ByteArray), Int.tmod (wrap64 (x2)) 201, 0, x0⟩ : S24), decide (x7 ≥ (Int.tmod (wrap64 (x2)) 201))⟩ : S43)] : List (S43)) : List (S43))).bind fun y448 => (sizarlaw12_RulesBoolean.l1 k y448 (y448.length : Int) 0 x430000 x430001 x430002 x430003)) else (some true)))
def sizarlaw12_RulesBoolean.j1 : Nat → List (S24) → Int → Int → Int → Bool → List (S49) → Int → Int → Int → Option (Bool)
 | 0, _, _, _, _, _, _, _, _, _ => none
 | k + 1, x0, x2, x7, x8, x50, x430000, x430001, x430002, x430003 => if x50 = true then (some true) else (if 0 ≤ x8 then (if x8 < (x0.length : Int) then ((some (([(⟨(rd_T24 x0 x8).f0, (rd_T24 x0 x8).f1, (rd_T24 x0 x8).f2, (rd_T24 x0 x8).f3, (rd_T24 x0 x8).f4, (rd_T24 x0 x8).f5⟩ : S24)] : List (S24)) : List (S24))).bind fun y437 => ((rules_Check.f 4 0 (⟨#[]⟩ : ByteArray) 0 0 y437).bind fun t441 => (if t441 = 0 then ((sizarlaw12_holds.f k 4 0 (⟨#[]⟩ : ByteArray) 0 0 y437 x430000 x430001 x430002 x430003).bind fun t442 => ((sizarlaw12_holds.f k ((rd_T24 x0 x8).f0) ((rd_T24 x0 x8).f1) ((rd_T24 x0 x8).f2) ((rd_T24 x0 x8).f3) ((rd_T24 x0 x8).f4) ((rd_T24 x0 x8).f5) x430000 x430001 x430002 x430003).bind fun t444 => (sizarlaw12_RulesBoolean.j2 k x0 x2 x7 x8 (t442 == t444) x430000 x430001 x430002 x430003))) else (sizarlaw12_RulesBoolean.j2 k x0 x2 x7 x8 false x430000 x430001 x430002 x430003)))) else (none)) else (none))
def sizarlaw12_RulesBoolean.j2 : Nat → List (S24) → Int → Int → Int → Bool → List (S49) → Int → Int → Int → Option (Bool)
 | 0, _, _, _, _, _, _, _, _, _ => none
 | k + 1, x0, x2, x7, x8, x71, x430000, x430001, x430002, x430003 => if x71 = true then (some false) else (if 0 ≤ x8 then (if x8 < (x0.length : Int) then ((sizarlaw12_holds.f k ((rd_T24 x0 x8).f0) ((rd_T24 x0 x8).f1) ((rd_T24 x0 x8).f2) ((rd_T24 x0 x8).f3) ((rd_T24 x0 x8).f4) ((rd_T24 x0 x8).f5) x430000 x430001 x430002 x430003).bind fun t446 => (if t446 = true then (sizarlaw12_RulesBoolean.l0 k x0 x2 (wrap64 (x7 + 1)) (wrap64 (x8 + 1)) x430000 x430001 x430002 x430003) else (sizarlaw12_RulesBoolean.l0 k x0 x2 x7 (wrap64 (x8 + 1)) x430000 x430001 x430002 x430003))) else (none)) else (none))
def sizarlaw12_RulesBoolean.l1 : Nat → List (S43) → Int → Int → List (S49) → Int → Int → Int → Option (Bool)
 | 0, _, _, _, _, _, _, _ => none
 | k + 1, x105, x106, x107, x430000, x430001, x430002, x430003 => if x107 < x106 then (if 0 ≤ x107 then (if x107 < (x105.length : Int) then ((rules_Check.f ((rd_T43 x105 x107).f0.f0) ((rd_T43 x105 x107).f0.f1) ((rd_T43 x105 x107).f0.f2) ((rd_T43 x105 x107).f0.f3) ((rd_T43 x105 x107).f0.f4) ((rd_T43 x105 x107).f0.f5)).bind fun t453 => (if t453 = 0 then ((sizarlaw12_holds.f k ((rd_T43 x105 x107).f0.f0) ((rd_T43 x105 x107).f0.f1) ((rd_T43 x105 x107).f0.f2) ((rd_T43 x105 x107).f0.f3) ((rd_T43 x105 x107).f0.f4) ((rd_T43 x105 x107).f0.f5) x430000 x430001 x430002 x430003).bind fun t454 => (if (t454 != ((rd_T43 x105 x107).f1)) = true then (some false) else (sizarlaw12_RulesBoolean.l1 k x105 x106 (wrap64 (x107 + 1)) x430000 x430001 x430002 x430003))) else (sizarlaw12_RulesBoolean.l1 k x105 x106 (wrap64 (x107 + 1)) x430000 x430001 x430002 x430003))) else (none)) else (none)) else (some true)
end
def sizarlaw12_RulesBoolean.f (k : Nat) (l0 : List (S24)) (l1_0 : List (S49)) (a1_1 : Int) (a1_2 : Int) (a1_3 : Int) (a2 : Int) : Option (Bool) := (sizarlaw12_sane.f k).bind fun t430 => (if t430 = true then (sizarlaw12_RulesBoolean.l0 k l0 a2 0 0 l1_0 a1_1 a1_2 a1_3) else (some false))
def sizarlaw12_RulesBoolean.T10 : Bool × List (List Nat × List Nat) := (true, [([], []), ([0], [0]), ([1], [1]), ([2, 1], [2]), ([3], [3]), ([3], [3]), ([4, 5, 3, 3], [3, 4, 5]), ([3], [3]), ([3], [3]), ([7, 8, 3], [3, 7, 8]), ([9, 3], [3, 9]), ([3], [3]), ([10, 11, 6, 3], [3, 10, 11]), ([6, 12, 3], [3, 6, 12]), ([3, 13], [3, 13])])
def sizarlaw12_RulesBoolean.B10 : List Nat := [0, 1, 3, 7, 15, 15, 63, 15, 15, 399, 911, 15, 4095, 8191, 16383]
theorem sizarlaw12_RulesBoolean.tab10 : rtab .any (opsOf Tryd.f5 10) = sizarlaw12_RulesBoolean.T10 := by kernel_rfl
theorem sizarlaw12_RulesBoolean.bits10 : waitsOk sizarlaw12_RulesBoolean.T10.2 sizarlaw12_RulesBoolean.B10 = true := by kernel_rfl
def sizarlaw12_RulesBoolean.T20 : Bool × List (List Nat × List Nat) := (true, [([], []), ([0], [0]), ([1], [1]), ([2], [2]), ([3, 2], [3]), ([4], [4]), ([5, 4], [4, 5]), ([4], [4]), ([6, 7, 4, 4], [4, 6, 7]), ([4], [4]), ([9, 4], [4, 9]), ([8, 10, 4], [4, 8, 10]), ([4, 11], [4, 11])])
def sizarlaw12_RulesBoolean.B20 : List Nat := [0, 1, 3, 7, 15, 31, 63, 31, 255, 31, 543, 2047, 4095]
theorem sizarlaw12_RulesBoolean.tab20 : rtab .any (opsOf Tryd.f5 20) = sizarlaw12_RulesBoolean.T20 := by kernel_rfl
theorem sizarlaw12_RulesBoolean.bits20 : waitsOk sizarlaw12_RulesBoolean.T20.2 sizarlaw12_RulesBoolean.B20 = true := by kernel_rfl
set_option maxHeartbeats 8000000 in
set_option maxRecDepth 100000 in
theorem sizarlaw12_RulesBoolean.calls (k : Nat) (P0_ : Nat → Prop) (A0 : Option Addr) (c0 : Nat) (l0 : List (S24)) (A1_0 : Option Addr) (c1_0 : Nat) (l1_0 : List (S49)) (a1_1 : Int) (a1_2 : Int) (a1_3 : Int) (a2 : Int) (r : Bool) (w : World) (hs0 : Kd.V k24 24 w w.heap.size (fun k_ => P0_ k_) (.slice A0 l0.length c0) l0) (hr1_0 : Kd.C k49 w A1_0 l1_0.length l1_0) (hc1_0 : l1_0.length ≤ c1_0) (h : sizarlaw12_RulesBoolean.f k l0 l1_0 a1_1 a1_2 a1_3 a2 = some r) (hKT : KindsAt w) :
  Calls Tryd.prog 5 #[.slice A0 l0.length c0, .agg #[.slice A1_0 l1_0.length c1_0, .int .i64 a1_1, .int .i64 a1_2, .int .i64 a1_3], .int .u8 a2] w fun e w' => e = .returned (.bool r) ∧ Below w.heap.size w w' := by
 have HKT := Aside0.mk hKT
 clear hKT
 have hu29 := Tryd.underlying29
 have hu24 := Tryd.underlying24
 have hu43 := Tryd.underlying43
 have HO0 := Aside0.mk (show Kd.V k24 24 w w.heap.size (fun k_ => (P0_ k_ ∨ w.heap.size ≤ k_)) (.slice A0 l0.length c0) l0 from Kd.V_mono hs0 (fun k_ hk => .inl hk))
 have HR1_0 := Aside0.mk hr1_0
 have HC1_0 := Aside0.mk hc1_0
 clear hr1_0 hc1_0
 have HB := Aside0.mk (Below.refl w.heap.size w)
 have H : ((sizarlaw12_sane.f k).bind fun t430 => (if t430 = true then (sizarlaw12_RulesBoolean.l0 k l0 a2 0 0 l1_0 a1_1 a1_2 a1_3) else (some false))) = some r := h
 clear h
 replace H := Option.bind_eq_some_iff.mp H
 obtain ⟨t430, A40, H⟩ := H
 replace H : (if t430 = true then (sizarlaw12_RulesBoolean.l0 k l0 a2 0 0 l1_0 a1_1 a1_2 a1_3) else (some false)) = some r := H
 have A4 := Aside0.mk A40
 clear A40
 by_cases c5 : t430 = true
 ·subst c5
  have H1 : (sizarlaw12_RulesBoolean.l0 k l0 a2 0 0 l1_0 a1_1 a1_2 a1_3) = some r := by rw [if_pos rfl] at H; exact H
  clear H
  have H := H1
  clear H1
  have H' := Aside0.mk H
  clear H
  go_enter Tryd.func5, Tryd.ntmps5
  go_wp2_with (first | ((with_reducible refine gate_dst (N := 4) rfl ?_); (try (refine gate_guard (by rfl) ?_; dsimp only)); refine box_event ?hg (N := 4) ?hd (cs := #[.slice A1_0 l1_0.length c1_0, .int .i64 a1_1, .int .i64 a1_2, .int .i64 a1_3]) (t := 29) ?hr ?_; (case hd => rfl); (case hg => rfl); (case hr => first | (go_simp; done) | (go_simp; rfl)); intro gb429 hg w6 hbox hb; have n0_ := Aside0.mk (Kd.V_below (Kd.V_elderB (by (with_reducible repeat (first | apply Kd.V_alloc | apply Kd.V_drewN | apply Kd.V_drew)); exact HO0.out) gb429 (Nat.le_of_eq hg.symm)) hb); have n1_ := Aside0.mk (below_step (by repeat (first | (with_reducible first | exact HB.out | apply below_alloc | apply pw_below_drewN | apply below_drew1) | exact HB.out)) hb); have n2_ := Aside0.mk (hbox); have n3_ := Aside0.mk ((by rw [hg]; exact (below_size (by repeat (first | (with_reducible first | exact HB.out | apply below_alloc | apply pw_below_drewN | apply below_drew1) | exact HB.out))) : w.heap.size ≤ gb429)); have n4_ := Aside0.mk ((by rw [hg]; exact (below_size (by repeat (first | (with_reducible first | exact HB.out | apply below_alloc | apply pw_below_drewN | apply below_drew1) | exact HB.out))) : w.heap.size ≤ gb429)); clear HO0; clear HB; have HO0 := n0_; have HB := n1_; have BK429 := n2_; have GW429 := n3_; have GE429 := n4_; clear n0_ n1_ n2_ n3_ n4_; clear hb hbox hg) | ((with_reducible refine gate_callee (f := 10) rfl ?_); refine goesL_ (some 13) rfl rfl Tryd.func10 (by kernel_rfl) rfl #[] rfl (by (try simp only [List.map_toArray, List.map_cons, List.map_nil]); first | done | rfl | (simp only [List.length_drop, List.length_take]; rfl)) ?_; (with_reducible refine (sizarlaw12_sane.calls k  true _ A4.out ?sideK).mono ?_); (case sideK => exact HKT.out.below (by repeat (first | (with_reducible first | exact HB.out | apply below_alloc | apply pw_below_drewN | apply below_drew1 | refine below_set ?_ GE429.out) | exact HB.out))); rintro e w7 ⟨rfl, hb⟩; refine ⟨_, rfl, ?_⟩; have n0_ := Aside0.mk (Kd.V_below (by (with_reducible repeat (first | apply Kd.V_alloc | apply Kd.V_drewN | apply Kd.V_drew)); exact HO0.out) hb); have n1_ := Aside0.mk (blk_below (g := gb429) (o := .cells #[.slice A1_0 l1_0.length c1_0, .int .i64 a1_1, .int .i64 a1_2, .int .i64 a1_3] 29 (0, 0)) (by (with_reducible repeat (first | refine blk_drewN ?_ _ | refine blk_drew ?_ | refine blk_alloc ?_ _)); exact BK429.out) hb); have n2_ := Aside0.mk (below_step (by repeat (first | (with_reducible first | exact HB.out | apply below_alloc | apply pw_below_drewN | apply below_drew1 | refine below_set ?_ GE429.out) | exact HB.out)) hb); clear HO0; clear BK429; clear HB; have HO0 := n0_; have BK429 := n1_; have HB := n2_; clear n0_ n1_ n2_; (try clear hb); (try clear hb2); (try clear hk); (try clear hi)))
  go_loopg [7, 8] k (fun kq v7 v8 w' => ∃ (x7_1 : Int) (x8_1 : Int), v7 = .int .i64 x7_1 ∧ v8 = .int .i64 x8_1 ∧ Aside0 (sizarlaw12_RulesBoolean.l0 kq l0 a2 x7_1 x8_1 l1_0 a1_1 a1_2 a1_3 = some r) ∧ Aside0 (kq ≤ k) ∧ Aside0 (Kd.V k24 24 w' w.heap.size (fun k_ => (P0_ k_ ∨ w.heap.size ≤ k_) ∧ k_ ≠ gb429) (.slice A0 l0.length c0) l0) ∧ Aside0 (w'.heap[gb429]? = some (.cells #[(.slice A1_0 l1_0.length c1_0), .int .i64 a1_1, .int .i64 a1_2, .int .i64 a1_3] 29 (0, 0))) ∧ Aside0 (Below w.heap.size w w'))
  case atStart => exact ⟨(0), (0), (by first | rfl | (simp; done) | (simp [*]; done)), (by first | rfl | (simp; done) | (simp [*]; done)), H', ⟨Nat.le_refl _⟩, ⟨by (with_reducible repeat (first | apply Kd.V_alloc | apply Kd.V_drewN | apply Kd.V_drew)); exact HO0.out⟩, ⟨by (with_reducible repeat (first | refine blk_drewN ?_ _ | refine blk_drew ?_ | refine blk_alloc ?_ _)); exact BK429.out⟩, ⟨by repeat (first | (with_reducible first | exact HB.out | apply below_alloc | apply pw_below_drewN | apply below_drew1 | refine below_set ?_ GE429.out) | exact HB.out)⟩⟩
  case round =>
   clear H'
   try clear c1
   try clear p2
   try clear c5
   obtain ⟨x7_1, x8_1, rfl, rfl, HA, HK1, HO_0, BK429, HB⟩ := hrel
   cases gk with
   | zero => exact absurd HA.out (by simp [sizarlaw12_RulesBoolean.l0])
   | succ k1 =>
    have H := HA.out
    clear HA
    simp only [sizarlaw12_RulesBoolean.l0] at H
    by_cases c8 : x8_1 < (l0.length : Int)
    ·rw [if_pos c8] at H
     have c8b0 : decide (x8_1 < (l0.length : Int)) = true := decide_eq_true c8
     clear c8
     have HC9 := Aside0.mk H
     clear H
     go_upto_region 7 with (fail)
     go_cut [50] (fun v50 wc => ∃ (kq : Nat) (x50_8 : Bool), v50 = .bool x50_8 ∧ Aside0 (sizarlaw12_RulesBoolean.j1 kq l0 a2 x7_1 x8_1 x50_8 l1_0 a1_1 a1_2 a1_3 = some r) ∧ Aside0 (kq ≤ k1) ∧ Aside0 (Kd.V k24 24 wc w.heap.size (fun k_ => (P0_ k_ ∨ w.heap.size ≤ k_) ∧ k_ ≠ gb429) (.slice A0 l0.length c0) l0) ∧ Aside0 (wc.heap[gb429]? = some (.cells #[(.slice A1_0 l1_0.length c1_0), .int .i64 a1_1, .int .i64 a1_2, .int .i64 a1_3] 29 (0, 0))) ∧ Aside0 (Below w.heap.size w wc))
     case first =>
      have H := HC9.out
      clear HC9
      by_cases c10 : 0 ≤ x8_1
      ·rw [if_pos c10] at H
       have c10b0 : decide (0 ≤ x8_1) = true := decide_eq_true c10
       clear c10
       (first | rw [c10b0] | (simp only [i64_w, i32_w]; rw [c10b0]) | skip)
       replace H := Option.bind_eq_some_iff.mp H
       obtain ⟨t432, A110, H⟩ := H
       replace H : (if t432 = true then (if (l0.length : Int) > 8 then (sizarlaw12_RulesBoolean.j1 k1 l0 a2 x7_1 x8_1 true l1_0 a1_1 a1_2 a1_3) else (if (l1_0.length : Int) > 50 then (sizarlaw12_RulesBoolean.j1 k1 l0 a2 x7_1 x8_1 true l1_0 a1_1 a1_2 a1_3) else ((rules_Check.f ((rd_T24 l0 x8_1).f0) ((rd_T24 l0 x8_1).f1) ((rd_T24 l0 x8_1).f2) ((rd_T24 l0 x8_1).f3) ((rd_T24 l0 x8_1).f4) ((rd_T24 l0 x8_1).f5)).bind fun t434 => (if t434 = 0 then ((rules_Fits.f k1 l1_0 a1_1 a1_2 a1_3).bind fun t435 => (sizarlaw12_RulesBoolean.j1 k1 l0 a2 x7_1 x8_1 (t435 != 0) l1_0 a1_1 a1_2 a1_3)) else (sizarlaw12_RulesBoolean.j1 k1 l0 a2 x7_1 x8_1 true l1_0 a1_1 a1_2 a1_3))))) else (sizarlaw12_RulesBoolean.j1 k1 l0 a2 x7_1 x8_1 true l1_0 a1_1 a1_2 a1_3)) = some r := H
       have A11 := Aside0.mk A110
       clear A110
       by_cases c12 : t432 = true
       ·subst c12
        have H1 : (if (l0.length : Int) > 8 then (sizarlaw12_RulesBoolean.j1 k1 l0 a2 x7_1 x8_1 true l1_0 a1_1 a1_2 a1_3) else (if (l1_0.length : Int) > 50 then (sizarlaw12_RulesBoolean.j1 k1 l0 a2 x7_1 x8_1 true l1_0 a1_1 a1_2 a1_3) else ((rules_Check.f ((rd_T24 l0 x8_1).f0) ((rd_T24 l0 x8_1).f1) ((rd_T24 l0 x8_1).f2) ((rd_T24 l0 x8_1).f3) ((rd_T24 l0 x8_1).f4) ((rd_T24 l0 x8_1).f5)).bind fun t434 => (if t434 = 0 then ((rules_Fits.f k1 l1_0 a1_1 a1_2 a1_3).bind fun t435 => (sizarlaw12_RulesBoolean.j1 k1 l0 a2 x7_1 x8_1 (t435 != 0) l1_0 a1_1 a1_2 a1_3)) else (sizarlaw12_RulesBoolean.j1 k1 l0 a2 x7_1 x8_1 true l1_0 a1_1 a1_2 a1_3))))) = some r := by rw [if_pos rfl] at H; exact H
        clear H
        have H := H1
        clear H1
        by_cases c13 : (l0.length : Int) > 8
        ·rw [if_pos c13] at H
         have c13b0 : decide (8 < (l0.length : Int)) = true := decide_eq_true c13
         have c13b1 : decide (8 < l0.length) = true := decide_eq_true (by omega)
         clear c13
         have H' := Aside0.mk H
         clear H
         have p431 : 0 ≤ (x8_1 : Int) := of_decide_eq_true (by first | (with_reducible assumption) | assumption)
         have q431 : x8_1 < (l0.length : Int) := of_decide_eq_true (by first | (with_reducible assumption) | assumption)
         obtain ⟨ad431, A431_5, c431_5, e431, hx431_0, hx431_1, hx431_2, hx431_3, hx431_4, hx431_5, hl431_5, hi431_5⟩ := at_T24 (Kd.V_reads' HO_0.out).2.2 x8_1 p431 q431
         cases e431
         obtain ⟨ce431, hce431, hMe431, hcc431⟩ := Kd.V_get HO_0.out z24 x8_1 p431 (by first | exact q431 | exact of_decide_eq_true (by first | (with_reducible assumption) | assumption) | (have e_ := (Kd.V_reads' HO_0.out).1; omega))
         obtain ⟨ua431_5, uc431_5, rfl, ul431_5, ge431_5⟩ := k24_openF hMe431
         have hv431_5 := hcc431 5 _ rfl
         rw [add_field _ _ 5 (by omega)] at hv431_5
         replace hv431_5 := Option.some.inj (hv431_5.symm.trans hx431_5)
         injection hv431_5 with hva_ hvn_ hvc_
         rw [hva_] at ge431_5
         rw [hvc_] at ul431_5
         have HL431_5 := Aside0.mk (show Kd.V k24 24 _ w.heap.size _ _ ((rd_T24 l0 x8_1).f5) from Kd.V_mk ul431_5 ge431_5)
         clear hva_ hvn_ hvc_ ge431_5 ul431_5
         clear hcc431 hce431
         have HR431_5 := Aside0.mk hi431_5
         have HC431_5 := Aside0.mk hl431_5
         clear hi431_5 hl431_5
         replace p431 := eq_true p431
         replace q431 := eq_true q431
         go_wp2_with (first | ((with_reducible refine gate_callee (f := 11) rfl ?_); refine goesL_ (some 25) rfl rfl Tryd.func11 (by kernel_rfl) rfl #[.agg #[.int .i64 ((rd_T24 l0 x8_1).f0), .int .i64 ((rd_T24 l0 x8_1).f1), .string ((rd_T24 l0 x8_1).f2), .int .i64 ((rd_T24 l0 x8_1).f3), .int .i64 ((rd_T24 l0 x8_1).f4), .slice A431_5 ((rd_T24 l0 x8_1).f5).length c431_5]] rfl (by (try simp only [List.map_toArray, List.map_cons, List.map_nil]); first | done | rfl | (simp only [List.length_drop, List.length_take]; rfl)) ?_; (with_reducible refine (sizarref12_Few.calls k1 ((rd_T24 l0 x8_1).f0) ((rd_T24 l0 x8_1).f1) ((rd_T24 l0 x8_1).f2) ((rd_T24 l0 x8_1).f3) ((rd_T24 l0 x8_1).f4) _ _ ((rd_T24 l0 x8_1).f5) true _ ?side1 ?side2 A11.out).mono ?_); (case side1 => repeat (first | exact (by repeat (first | (with_reducible exact HR431_5.out) | (with_reducible refine Kd.C_alloc ?_ _) | (with_reducible refine Kd.C_drewN ?_ _) | (with_reducible refine Kd.C_drew ?_) | exact HR431_5.out)) | (with_reducible refine Kd.C_alloc ?_ _) | (with_reducible refine Kd.C_drewN ?_ _) | (with_reducible refine Kd.C_drew ?_))); (case side2 => exact HC431_5.out); rintro e w14 ⟨rfl, hb⟩; refine ⟨_, rfl, ?_⟩; have n0_ := Aside0.mk (Kd.V_below (by (with_reducible repeat (first | apply Kd.V_alloc | apply Kd.V_drewN | apply Kd.V_drew)); exact HO_0.out) hb); have n1_ := Aside0.mk (Kd.V_below (by (with_reducible repeat (first | apply Kd.V_alloc | apply Kd.V_drewN | apply Kd.V_drew)); exact HL431_5.out) hb); have n2_ := Aside0.mk (blk_below (g := gb429) (o := .cells #[.slice A1_0 l1_0.length c1_0, .int .i64 a1_1, .int .i64 a1_2, .int .i64 a1_3] 29 (0, 0)) (by (with_reducible repeat (first | refine blk_drewN ?_ _ | refine blk_drew ?_ | refine blk_alloc ?_ _)); exact BK429.out) hb); have n3_ := Aside0.mk (Kd.C_below (by repeat (first | (with_reducible exact HR431_5.out) | (with_reducible refine Kd.C_alloc ?_ _) | (with_reducible refine Kd.C_drewN ?_ _) | (with_reducible refine Kd.C_drew ?_) | exact HR431_5.out)) hb); have n4_ := Aside0.mk (below_step (by repeat (first | (with_reducible first | exact HB.out | apply below_alloc | apply pw_below_drewN | apply below_drew1 | refine below_set ?_ GE429.out) | exact HB.out)) hb); clear HO_0; clear HL431_5; clear BK429; clear HR431_5; clear HB; have HO_0 := n0_; have HL431_5 := n1_; have BK429 := n2_; have HR431_5 := n3_; have HB := n4_; clear n0_ n1_ n2_ n3_ n4_; (try clear hb); (try clear hb2); (try clear hk); (try clear hi)))
         go_meet
         case rel => exact ⟨_, (true), (by first | rfl | (simp; done) | (simp [*]; done)), H', ⟨by have := HK1.out; first | omega | exact Nat.le_refl _⟩, ⟨by (with_reducible repeat (first | apply Kd.V_alloc | apply Kd.V_drewN | apply Kd.V_drew)); exact HO_0.out⟩, ⟨by (with_reducible repeat (first | refine blk_drewN ?_ _ | refine blk_drew ?_ | refine blk_alloc ?_ _)); exact BK429.out⟩, ⟨by repeat (first | (with_reducible first | exact HB.out | apply below_alloc | apply pw_below_drewN | apply below_drew1 | refine below_set ?_ GE429.out) | exact HB.out)⟩⟩
        ·rw [if_neg c13] at H
         have c13b0 : decide (8 < (l0.length : Int)) = false := decide_eq_false c13
         have c13b1 : decide (8 < l0.length) = false := decide_eq_false (by omega)
         clear c13
         by_cases c15 : (l1_0.length : Int) > 50
         ·rw [if_pos c15] at H
          have c15b0 : decide (50 < (l1_0.length : Int)) = true := decide_eq_true c15
          have c15b1 : decide (50 < l1_0.length) = true := decide_eq_true (by omega)
          clear c15
          have H' := Aside0.mk H
          clear H
          have p431 : 0 ≤ (x8_1 : Int) := of_decide_eq_true (by first | (with_reducible assumption) | assumption)
          have q431 : x8_1 < (l0.length : Int) := of_decide_eq_true (by first | (with_reducible assumption) | assumption)
          obtain ⟨ad431, A431_5, c431_5, e431, hx431_0, hx431_1, hx431_2, hx431_3, hx431_4, hx431_5, hl431_5, hi431_5⟩ := at_T24 (Kd.V_reads' HO_0.out).2.2 x8_1 p431 q431
          cases e431
          obtain ⟨ce431, hce431, hMe431, hcc431⟩ := Kd.V_get HO_0.out z24 x8_1 p431 (by first | exact q431 | exact of_decide_eq_true (by first | (with_reducible assumption) | assumption) | (have e_ := (Kd.V_reads' HO_0.out).1; omega))
          obtain ⟨ua431_5, uc431_5, rfl, ul431_5, ge431_5⟩ := k24_openF hMe431
          have hv431_5 := hcc431 5 _ rfl
          rw [add_field _ _ 5 (by omega)] at hv431_5
          replace hv431_5 := Option.some.inj (hv431_5.symm.trans hx431_5)
          injection hv431_5 with hva_ hvn_ hvc_
          rw [hva_] at ge431_5
          rw [hvc_] at ul431_5
          have HL431_5 := Aside0.mk (show Kd.V k24 24 _ w.heap.size _ _ ((rd_T24 l0 x8_1).f5) from Kd.V_mk ul431_5 ge431_5)
          clear hva_ hvn_ hvc_ ge431_5 ul431_5
          clear hcc431 hce431
          have HR431_5 := Aside0.mk hi431_5
          have HC431_5 := Aside0.mk hl431_5
          clear hi431_5 hl431_5
          replace p431 := eq_true p431
          replace q431 := eq_true q431
          go_wp2_with (first | ((with_reducible refine gate_callee (f := 11) rfl ?_); refine goesL_ (some 25) rfl rfl Tryd.func11 (by kernel_rfl) rfl #[.agg #[.int .i64 ((rd_T24 l0 x8_1).f0), .int .i64 ((rd_T24 l0 x8_1).f1), .string ((rd_T24 l0 x8_1).f2), .int .i64 ((rd_T24 l0 x8_1).f3), .int .i64 ((rd_T24 l0 x8_1).f4), .slice A431_5 ((rd_T24 l0 x8_1).f5).length c431_5]] rfl (by (try simp only [List.map_toArray, List.map_cons, List.map_nil]); first | done | rfl | (simp only [List.length_drop, List.length_take]; rfl)) ?_; (with_reducible refine (sizarref12_Few.calls k1 ((rd_T24 l0 x8_1).f0) ((rd_T24 l0 x8_1).f1) ((rd_T24 l0 x8_1).f2) ((rd_T24 l0 x8_1).f3) ((rd_T24 l0 x8_1).f4) _ _ ((rd_T24 l0 x8_1).f5) true _ ?side1 ?side2 A11.out).mono ?_); (case side1 => repeat (first | exact (by repeat (first | (with_reducible exact HR431_5.out) | (with_reducible refine Kd.C_alloc ?_ _) | (with_reducible refine Kd.C_drewN ?_ _) | (with_reducible refine Kd.C_drew ?_) | exact HR431_5.out)) | (with_reducible refine Kd.C_alloc ?_ _) | (with_reducible refine Kd.C_drewN ?_ _) | (with_reducible refine Kd.C_drew ?_))); (case side2 => exact HC431_5.out); rintro e w16 ⟨rfl, hb⟩; refine ⟨_, rfl, ?_⟩; have n0_ := Aside0.mk (Kd.V_below (by (with_reducible repeat (first | apply Kd.V_alloc | apply Kd.V_drewN | apply Kd.V_drew)); exact HO_0.out) hb); have n1_ := Aside0.mk (Kd.V_below (by (with_reducible repeat (first | apply Kd.V_alloc | apply Kd.V_drewN | apply Kd.V_drew)); exact HL431_5.out) hb); have n2_ := Aside0.mk (blk_below (g := gb429) (o := .cells #[.slice A1_0 l1_0.length c1_0, .int .i64 a1_1, .int .i64 a1_2, .int .i64 a1_3] 29 (0, 0)) (by (with_reducible repeat (first | refine blk_drewN ?_ _ | refine blk_drew ?_ | refine blk_alloc ?_ _)); exact BK429.out) hb); have n3_ := Aside0.mk (Kd.C_below (by repeat (first | (with_reducible exact HR431_5.out) | (with_reducible refine Kd.C_alloc ?_ _) | (with_reducible refine Kd.C_drewN ?_ _) | (with_reducible refine Kd.C_drew ?_) | exact HR431_5.out)) hb); have n4_ := Aside0.mk (below_step (by repeat (first | (with_reducible first | exact HB.out | apply below_alloc | apply pw_below_drewN | apply below_drew1 | refine below_set ?_ GE429.out) | exact HB.out)) hb); clear HO_0; clear HL431_5; clear BK429; clear HR431_5; clear HB; have HO_0 := n0_; have HL431_5 := n1_; have BK429 := n2_; have HR431_5 := n3_; have HB := n4_; clear n0_ n1_ n2_ n3_ n4_; (try clear hb); (try clear hb2); (try clear hk); (try clear hi); have hcz17_0 : w16.cell? ⟨gb429, 0, none⟩ = some (.slice A1_0 l1_0.length c1_0) := (blk_cell BK429.out 0).trans rfl; have hcz17_1 : w16.cell? ⟨gb429, 1, none⟩ = some (.int .i64 a1_1) := (blk_cell BK429.out 1).trans rfl; have hcz17_2 : w16.cell? ⟨gb429, 2, none⟩ = some (.int .i64 a1_2) := (blk_cell BK429.out 2).trans rfl; have hcz17_3 : w16.cell? ⟨gb429, 3, none⟩ = some (.int .i64 a1_3) := (blk_cell BK429.out 3).trans rfl; have hfz17_0 := blk_frozen BK429.out 0; have hfz17_1 := blk_frozen BK429.out 1; have hfz17_2 := blk_frozen BK429.out 2; have hfz17_3 := blk_frozen BK429.out 3))
          go_meet
          case rel => exact ⟨_, (true), (by first | rfl | (simp; done) | (simp [*]; done)), H', ⟨by have := HK1.out; first | omega | exact Nat.le_refl _⟩, ⟨by (with_reducible repeat (first | apply Kd.V_alloc | apply Kd.V_drewN | apply Kd.V_drew)); exact HO_0.out⟩, ⟨by (with_reducible repeat (first | refine blk_drewN ?_ _ | refine blk_drew ?_ | refine blk_alloc ?_ _)); exact BK429.out⟩, ⟨by repeat (first | (with_reducible first | exact HB.out | apply below_alloc | apply pw_below_drewN | apply below_drew1 | refine below_set ?_ GE429.out) | exact HB.out)⟩⟩
         ·rw [if_neg c15] at H
          have c15b0 : decide (50 < (l1_0.length : Int)) = false := decide_eq_false c15
          have c15b1 : decide (50 < l1_0.length) = false := decide_eq_false (by omega)
          clear c15
          replace H := Option.bind_eq_some_iff.mp H
          obtain ⟨t434, A180, H⟩ := H
          replace H : (if t434 = 0 then ((rules_Fits.f k1 l1_0 a1_1 a1_2 a1_3).bind fun t435 => (sizarlaw12_RulesBoolean.j1 k1 l0 a2 x7_1 x8_1 (t435 != 0) l1_0 a1_1 a1_2 a1_3)) else (sizarlaw12_RulesBoolean.j1 k1 l0 a2 x7_1 x8_1 true l1_0 a1_1 a1_2 a1_3)) = some r := H
          have A18 := Aside0.mk A180
          clear A180
          by_cases c19 : t434 = 0
          ·rw [if_pos c19] at H
           have c19b0 : (t434 == 0) = true := beq_iff_eq.mpr c19
           have c19b1 : (t434 != 0) = false := bne_eq_false_iff_eq.mpr c19
           clear c19
           replace H := Option.bind_eq_some_iff.mp H
           obtain ⟨t435, A200, H⟩ := H
           replace H : (sizarlaw12_RulesBoolean.j1 k1 l0 a2 x7_1 x8_1 (t435 != 0) l1_0 a1_1 a1_2 a1_3) = some r := H
           have A20 := Aside0.mk A200
           clear A200
           have H' := Aside0.mk H
           clear H
           have p431 : 0 ≤ (x8_1 : Int) := of_decide_eq_true (by first | (with_reducible assumption) | assumption)
           have q431 : x8_1 < (l0.length : Int) := of_decide_eq_true (by first | (with_reducible assumption) | assumption)
           obtain ⟨ad431, A431_5, c431_5, e431, hx431_0, hx431_1, hx431_2, hx431_3, hx431_4, hx431_5, hl431_5, hi431_5⟩ := at_T24 (Kd.V_reads' HO_0.out).2.2 x8_1 p431 q431
           cases e431
           obtain ⟨ce431, hce431, hMe431, hcc431⟩ := Kd.V_get HO_0.out z24 x8_1 p431 (by first | exact q431 | exact of_decide_eq_true (by first | (with_reducible assumption) | assumption) | (have e_ := (Kd.V_reads' HO_0.out).1; omega))
           obtain ⟨ua431_5, uc431_5, rfl, ul431_5, ge431_5⟩ := k24_openF hMe431
           have hv431_5 := hcc431 5 _ rfl
           rw [add_field _ _ 5 (by omega)] at hv431_5
           replace hv431_5 := Option.some.inj (hv431_5.symm.trans hx431_5)
           injection hv431_5 with hva_ hvn_ hvc_
           rw [hva_] at ge431_5
           rw [hvc_] at ul431_5
           have HL431_5 := Aside0.mk (show Kd.V k24 24 _ w.heap.size _ _ ((rd_T24 l0 x8_1).f5) from Kd.V_mk ul431_5 ge431_5)
           clear hva_ hvn_ hvc_ ge431_5 ul431_5
           clear hcc431 hce431
           have HR431_5 := Aside0.mk hi431_5
           have HC431_5 := Aside0.mk hl431_5
           clear hi431_5 hl431_5
           replace p431 := eq_true p431
           replace q431 := eq_true q431
           go_wp2_with (first | ((with_reducible refine gate_callee (f := 11) rfl ?_); refine goesL_ (some 25) rfl rfl Tryd.func11 (by kernel_rfl) rfl #[.agg #[.int .i64 ((rd_T24 l0 x8_1).f0), .int .i64 ((rd_T24 l0 x8_1).f1), .string ((rd_T24 l0 x8_1).f2), .int .i64 ((rd_T24 l0 x8_1).f3), .int .i64 ((rd_T24 l0 x8_1).f4), .slice A431_5 ((rd_T24 l0 x8_1).f5).length c431_5]] rfl (by (try simp only [List.map_toArray, List.map_cons, List.map_nil]); first | done | rfl | (simp only [List.length_drop, List.length_take]; rfl)) ?_; (with_reducible refine (sizarref12_Few.calls k1 ((rd_T24 l0 x8_1).f0) ((rd_T24 l0 x8_1).f1) ((rd_T24 l0 x8_1).f2) ((rd_T24 l0 x8_1).f3) ((rd_T24 l0 x8_1).f4) _ _ ((rd_T24 l0 x8_1).f5) true _ ?side1 ?side2 A11.out).mono ?_); (case side1 => repeat (first | exact (by repeat (first | (with_reducible exact HR431_5.out) | (with_reducible refine Kd.C_alloc ?_ _) | (with_reducible refine Kd.C_drewN ?_ _) | (with_reducible refine Kd.C_drew ?_) | exact HR431_5.out)) | (with_reducible refine Kd.C_alloc ?_ _) | (with_reducible refine Kd.C_drewN ?_ _) | (with_reducible refine Kd.C_drew ?_))); (case side2 => exact HC431_5.out); rintro e w21 ⟨rfl, hb⟩; refine ⟨_, rfl, ?_⟩; have n0_ := Aside0.mk (Kd.V_below (by (with_reducible repeat (first | apply Kd.V_alloc | apply Kd.V_drewN | apply Kd.V_drew)); exact HO_0.out) hb); have n1_ := Aside0.mk (Kd.V_below (by (with_reducible repeat (first | apply Kd.V_alloc | apply Kd.V_drewN | apply Kd.V_drew)); exact HL431_5.out) hb); have n2_ := Aside0.mk (blk_below (g := gb429) (o := .cells #[.slice A1_0 l1_0.length c1_0, .int .i64 a1_1, .int .i64 a1_2, .int .i64 a1_3] 29 (0, 0)) (by (with_reducible repeat (first | refine blk_drewN ?_ _ | refine blk_drew ?_ | refine blk_alloc ?_ _)); exact BK429.out) hb); have n3_ := Aside0.mk (Kd.C_below (by repeat (first | (with_reducible exact HR431_5.out) | (with_reducible refine Kd.C_alloc ?_ _) | (with_reducible refine Kd.C_drewN ?_ _) | (with_reducible refine Kd.C_drew ?_) | exact HR431_5.out)) hb); have n4_ := Aside0.mk (below_step (by repeat (first | (with_reducible first | exact HB.out | apply below_alloc | apply pw_below_drewN | apply below_drew1 | refine below_set ?_ GE429.out) | exact HB.out)) hb); clear HO_0; clear HL431_5; clear BK429; clear HR431_5; clear HB; have HO_0 := n0_; have HL431_5 := n1_; have BK429 := n2_; have HR431_5 := n3_; have HB := n4_; clear n0_ n1_ n2_ n3_ n4_; (try clear hb); (try clear hb2); (try clear hk); (try clear hi); have hcz22_0 : w21.cell? ⟨gb429, 0, none⟩ = some (.slice A1_0 l1_0.length c1_0) := (blk_cell BK429.out 0).trans rfl; have hcz22_1 : w21.cell? ⟨gb429, 1, none⟩ = some (.int .i64 a1_1) := (blk_cell BK429.out 1).trans rfl; have hcz22_2 : w21.cell? ⟨gb429, 2, none⟩ = some (.int .i64 a1_2) := (blk_cell BK429.out 2).trans rfl; have hcz22_3 : w21.cell? ⟨gb429, 3, none⟩ = some (.int .i64 a1_3) := (blk_cell BK429.out 3).trans rfl; have hfz22_0 := blk_frozen BK429.out 0; have hfz22_1 := blk_frozen BK429.out 1; have hfz22_2 := blk_frozen BK429.out 2; have hfz22_3 := blk_frozen BK429.out 3; have p433 : 0 ≤ (x8_1 : Int) := of_decide_eq_true (by first | (with_reducible assumption) | assumption); have q433 : x8_1 < (l0.length : Int) := of_decide_eq_true (by first | (with_reducible assumption) | assumption); obtain ⟨ad433, A433_5, c433_5, e433, hx433_0, hx433_1, hx433_2, hx433_3, hx433_4, hx433_5, hl433_5, hi433_5⟩ := at_T24 (Kd.V_reads' HO_0.out).2.2 x8_1 p433 q433; obtain rfl : ad431 = ad433 := (by injection e433); obtain ⟨ce433, hce433, hMe433, hcc433⟩ := Kd.V_get HO_0.out z24 x8_1 p433 (by first | exact q433 | exact of_decide_eq_true (by first | (with_reducible assumption) | assumption) | (have e_ := (Kd.V_reads' HO_0.out).1; omega)); obtain ⟨ua433_5, uc433_5, rfl, ul433_5, ge433_5⟩ := k24_openF hMe433; have hv433_5 := hcc433 5 _ rfl; rw [add_field _ _ 5 (by omega)] at hv433_5; replace hv433_5 := Option.some.inj (hv433_5.symm.trans hx433_5); injection hv433_5 with hva_ hvn_ hvc_; rw [hva_] at ge433_5; rw [hvc_] at ul433_5; have HL433_5 := Aside0.mk (show Kd.V k24 24 _ w.heap.size _ _ ((rd_T24 l0 x8_1).f5) from Kd.V_mk ul433_5 ge433_5); clear hva_ hvn_ hvc_ ge433_5 ul433_5; clear hcc433 hce433; have HR433_5 := Aside0.mk hi433_5; have HC433_5 := Aside0.mk hl433_5; clear hi433_5 hl433_5; replace p433 := eq_true p433; replace q433 := eq_true q433) | (go_at_call 20; (with_reducible refine (rules_Check.calls ((rd_T24 l0 x8_1).f0) ((rd_T24 l0 x8_1).f1) ((rd_T24 l0 x8_1).f2) ((rd_T24 l0 x8_1).f3) ((rd_T24 l0 x8_1).f4) _ _ ((rd_T24 l0 x8_1).f5) t434 _ ?side1 ?side2 A18.out ?sideK).mono ?_); (case sideK => exact HKT.out.below (by repeat (first | (with_reducible first | exact HB.out | apply below_alloc | apply pw_below_drewN | apply below_drew1 | refine below_set ?_ GE429.out) | exact HB.out))); (case side1 => repeat (first | exact (by repeat (first | (with_reducible exact HR433_5.out) | (with_reducible refine Kd.C_alloc ?_ _) | (with_reducible refine Kd.C_drewN ?_ _) | (with_reducible refine Kd.C_drew ?_) | exact HR433_5.out)) | (with_reducible refine Kd.C_alloc ?_ _) | (with_reducible refine Kd.C_drewN ?_ _) | (with_reducible refine Kd.C_drew ?_))); (case side2 => exact HC433_5.out); rintro e w23 ⟨rfl, hb⟩; have n0_ := Aside0.mk (Kd.V_below (by (with_reducible repeat (first | apply Kd.V_alloc | apply Kd.V_drewN | apply Kd.V_drew)); exact HO_0.out) hb); have n1_ := Aside0.mk (Kd.V_below (by (with_reducible repeat (first | apply Kd.V_alloc | apply Kd.V_drewN | apply Kd.V_drew)); exact HL431_5.out) hb); have n2_ := Aside0.mk (Kd.V_below (by (with_reducible repeat (first | apply Kd.V_alloc | apply Kd.V_drewN | apply Kd.V_drew)); exact HL433_5.out) hb); have n3_ := Aside0.mk (blk_below (g := gb429) (o := .cells #[.slice A1_0 l1_0.length c1_0, .int .i64 a1_1, .int .i64 a1_2, .int .i64 a1_3] 29 (0, 0)) (by (with_reducible repeat (first | refine blk_drewN ?_ _ | refine blk_drew ?_ | refine blk_alloc ?_ _)); exact BK429.out) hb); have n4_ := Aside0.mk (Kd.C_below (by repeat (first | (with_reducible exact HR431_5.out) | (with_reducible refine Kd.C_alloc ?_ _) | (with_reducible refine Kd.C_drewN ?_ _) | (with_reducible refine Kd.C_drew ?_) | exact HR431_5.out)) hb); have n5_ := Aside0.mk (Kd.C_below (by repeat (first | (with_reducible exact HR433_5.out) | (with_reducible refine Kd.C_alloc ?_ _) | (with_reducible refine Kd.C_drewN ?_ _) | (with_reducible refine Kd.C_drew ?_) | exact HR433_5.out)) hb); have n6_ := Aside0.mk (below_step (by repeat (first | (with_reducible first | exact HB.out | apply below_alloc | apply pw_below_drewN | apply below_drew1 | refine below_set ?_ GE429.out) | exact HB.out)) hb); clear HO_0; clear HL431_5; clear HL433_5; clear BK429; clear HR431_5; clear HR433_5; clear HB; have HO_0 := n0_; have HL431_5 := n1_; have HL433_5 := n2_; have BK429 := n3_; have HR431_5 := n4_; have HR433_5 := n5_; have HB := n6_; clear n0_ n1_ n2_ n3_ n4_ n5_ n6_; (try clear hb); (try clear hb2); (try clear hk); (try clear hi); have hcz24_0 : w23.cell? ⟨gb429, 0, none⟩ = some (.slice A1_0 l1_0.length c1_0) := (blk_cell BK429.out 0).trans rfl; have hcz24_1 : w23.cell? ⟨gb429, 1, none⟩ = some (.int .i64 a1_1) := (blk_cell BK429.out 1).trans rfl; have hcz24_2 : w23.cell? ⟨gb429, 2, none⟩ = some (.int .i64 a1_2) := (blk_cell BK429.out 2).trans rfl; have hcz24_3 : w23.cell? ⟨gb429, 3, none⟩ = some (.int .i64 a1_3) := (blk_cell BK429.out 3).trans rfl; have hfz24_0 := blk_frozen BK429.out 0; have hfz24_1 := blk_frozen BK429.out 1; have hfz24_2 := blk_frozen BK429.out 2; have hfz24_3 := blk_frozen BK429.out 3) | (go_at_call 21; (with_reducible refine (rules_Fits.calls k1 _ _ l1_0 a1_1 a1_2 a1_3 t435 _ ?side1 ?side2 A20.out).mono ?_); (case side1 => repeat (first | exact (Kd.C_below HR1_0.out HB.out) | (with_reducible refine Kd.C_alloc ?_ _) | (with_reducible refine Kd.C_drewN ?_ _) | (with_reducible refine Kd.C_drew ?_))); (case side2 => exact HC1_0.out); rintro e w25 ⟨rfl, hb⟩; have n0_ := Aside0.mk (Kd.V_below (by (with_reducible repeat (first | apply Kd.V_alloc | apply Kd.V_drewN | apply Kd.V_drew)); exact HO_0.out) hb); have n1_ := Aside0.mk (Kd.V_below (by (with_reducible repeat (first | apply Kd.V_alloc | apply Kd.V_drewN | apply Kd.V_drew)); exact HL431_5.out) hb); have n2_ := Aside0.mk (Kd.V_below (by (with_reducible repeat (first | apply Kd.V_alloc | apply Kd.V_drewN | apply Kd.V_drew)); exact HL433_5.out) hb); have n3_ := Aside0.mk (blk_below (g := gb429) (o := .cells #[.slice A1_0 l1_0.length c1_0, .int .i64 a1_1, .int .i64 a1_2, .int .i64 a1_3] 29 (0, 0)) (by (with_reducible repeat (first | refine blk_drewN ?_ _ | refine blk_drew ?_ | refine blk_alloc ?_ _)); exact BK429.out) hb); have n4_ := Aside0.mk (Kd.C_below (by repeat (first | (with_reducible exact HR431_5.out) | (with_reducible refine Kd.C_alloc ?_ _) | (with_reducible refine Kd.C_drewN ?_ _) | (with_reducible refine Kd.C_drew ?_) | exact HR431_5.out)) hb); have n5_ := Aside0.mk (Kd.C_below (by repeat (first | (with_reducible exact HR433_5.out) | (with_reducible refine Kd.C_alloc ?_ _) | (with_reducible refine Kd.C_drewN ?_ _) | (with_reducible refine Kd.C_drew ?_) | exact HR433_5.out)) hb); have n6_ := Aside0.mk (below_step (by repeat (first | (with_reducible first | exact HB.out | apply below_alloc | apply pw_below_drewN | apply below_drew1 | refine below_set ?_ GE429.out) | exact HB.out)) hb); clear HO_0; clear HL431_5; clear HL433_5; clear BK429; clear HR431_5; clear HR433_5; clear HB; have HO_0 := n0_; have HL431_5 := n1_; have HL433_5 := n2_; have BK429 := n3_; have HR431_5 := n4_; have HR433_5 := n5_; have HB := n6_; clear n0_ n1_ n2_ n3_ n4_ n5_ n6_; (try clear hb); (try clear hb2); (try clear hk); (try clear hi)))
           go_meet
           case rel => exact ⟨_, ((t435 != 0)), (by first | rfl | (simp; done) | (simp [*]; done)), H', ⟨by have := HK1.out; first | omega | exact Nat.le_refl _⟩, ⟨by (with_reducible repeat (first | apply Kd.V_alloc | apply Kd.V_drewN | apply Kd.V_drew)); exact HO_0.out⟩, ⟨by (with_reducible repeat (first | refine blk_drewN ?_ _ | refine blk_drew ?_ | refine blk_alloc ?_ _)); exact BK429.out⟩, ⟨by repeat (first | (with_reducible first | exact HB.out | apply below_alloc | apply pw_below_drewN | apply below_drew1 | refine below_set ?_ GE429.out) | exact HB.out)⟩⟩
          ·rw [if_neg c19] at H
           have c19b0 : (t434 == 0) = false := beq_eq_false_iff_ne.mpr c19
           have c19b1 : (t434 != 0) = true := bne_iff_ne.mpr c19
           have H' := Aside0.mk H
           clear H
           have p431 : 0 ≤ (x8_1 : Int) := of_decide_eq_true (by first | (with_reducible assumption) | assumption)
           have q431 : x8_1 < (l0.length : Int) := of_decide_eq_true (by first | (with_reducible assumption) | assumption)
           obtain ⟨ad431, A431_5, c431_5, e431, hx431_0, hx431_1, hx431_2, hx431_3, hx431_4, hx431_5, hl431_5, hi431_5⟩ := at_T24 (Kd.V_reads' HO_0.out).2.2 x8_1 p431 q431
           cases e431
           obtain ⟨ce431, hce431, hMe431, hcc431⟩ := Kd.V_get HO_0.out z24 x8_1 p431 (by first | exact q431 | exact of_decide_eq_true (by first | (with_reducible assumption) | assumption) | (have e_ := (Kd.V_reads' HO_0.out).1; omega))
           obtain ⟨ua431_5, uc431_5, rfl, ul431_5, ge431_5⟩ := k24_openF hMe431
           have hv431_5 := hcc431 5 _ rfl
           rw [add_field _ _ 5 (by omega)] at hv431_5
           replace hv431_5 := Option.some.inj (hv431_5.symm.trans hx431_5)
           injection hv431_5 with hva_ hvn_ hvc_
           rw [hva_] at ge431_5
           rw [hvc_] at ul431_5
           have HL431_5 := Aside0.mk (show Kd.V k24 24 _ w.heap.size _ _ ((rd_T24 l0 x8_1).f5) from Kd.V_mk ul431_5 ge431_5)
           clear hva_ hvn_ hvc_ ge431_5 ul431_5
           clear hcc431 hce431
           have HR431_5 := Aside0.mk hi431_5
           have HC431_5 := Aside0.mk hl431_5
           clear hi431_5 hl431_5
           replace p431 := eq_true p431
           replace q431 := eq_true q431
           go_wp2_with (first | ((with_reducible refine gate_callee (f := 11) rfl ?_); refine goesL_ (some 25) rfl rfl Tryd.func11 (by kernel_rfl) rfl #[.agg #[.int .i64 ((rd_T24 l0 x8_1).f0), .int .i64 ((rd_T24 l0 x8_1).f1), .string ((rd_T24 l0 x8_1).f2), .int .i64 ((rd_T24 l0 x8_1).f3), .int .i64 ((rd_T24 l0 x8_1).f4), .slice A431_5 ((rd_T24 l0 x8_1).f5).length c431_5]] rfl (by (try simp only [List.map_toArray, List.map_cons, List.map_nil]); first | done | rfl | (simp only [List.length_drop, List.length_take]; rfl)) ?_; (with_reducible refine (sizarref12_Few.calls k1 ((rd_T24 l0 x8_1).f0) ((rd_T24 l0 x8_1).f1) ((rd_T24 l0 x8_1).f2) ((rd_T24 l0 x8_1).f3) ((rd_T24 l0 x8_1).f4) _ _ ((rd_T24 l0 x8_1).f5) true _ ?side1 ?side2 A11.out).mono ?_); (case side1 => repeat (first | exact (by repeat (first | (with_reducible exact HR431_5.out) | (with_reducible refine Kd.C_alloc ?_ _) | (with_reducible refine Kd.C_drewN ?_ _) | (with_reducible refine Kd.C_drew ?_) | exact HR431_5.out)) | (with_reducible refine Kd.C_alloc ?_ _) | (with_reducible refine Kd.C_drewN ?_ _) | (with_reducible refine Kd.C_drew ?_))); (case side2 => exact HC431_5.out); rintro e w26 ⟨rfl, hb⟩; refine ⟨_, rfl, ?_⟩; have n0_ := Aside0.mk (Kd.V_below (by (with_reducible repeat (first | apply Kd.V_alloc | apply Kd.V_drewN | apply Kd.V_drew)); exact HO_0.out) hb); have n1_ := Aside0.mk (Kd.V_below (by (with_reducible repeat (first | apply Kd.V_alloc | apply Kd.V_drewN | apply Kd.V_drew)); exact HL431_5.out) hb); have n2_ := Aside0.mk (blk_below (g := gb429) (o := .cells #[.slice A1_0 l1_0.length c1_0, .int .i64 a1_1, .int .i64 a1_2, .int .i64 a1_3] 29 (0, 0)) (by (with_reducible repeat (first | refine blk_drewN ?_ _ | refine blk_drew ?_ | refine blk_alloc ?_ _)); exact BK429.out) hb); have n3_ := Aside0.mk (Kd.C_below (by repeat (first | (with_reducible exact HR431_5.out) | (with_reducible refine Kd.C_alloc ?_ _) | (with_reducible refine Kd.C_drewN ?_ _) | (with_reducible refine Kd.C_drew ?_) | exact HR431_5.out)) hb); have n4_ := Aside0.mk (below_step (by repeat (first | (with_reducible first | exact HB.out | apply below_alloc | apply pw_below_drewN | apply below_drew1 | refine below_set ?_ GE429.out) | exact HB.out)) hb); clear HO_0; clear HL431_5; clear BK429; clear HR431_5; clear HB; have HO_0 := n0_; have HL431_5 := n1_; have BK429 := n2_; have HR431_5 := n3_; have HB := n4_; clear n0_ n1_ n2_ n3_ n4_; (try clear hb); (try clear hb2); (try clear hk); (try clear hi); have hcz27_0 : w26.cell? ⟨gb429, 0, none⟩ = some (.slice A1_0 l1_0.length c1_0) := (blk_cell BK429.out 0).trans rfl; have hcz27_1 : w26.cell? ⟨gb429, 1, none⟩ = some (.int .i64 a1_1) := (blk_cell BK429.out 1).trans rfl; have hcz27_2 : w26.cell? ⟨gb429, 2, none⟩ = some (.int .i64 a1_2) := (blk_cell BK429.out 2).trans rfl; have hcz27_3 : w26.cell? ⟨gb429, 3, none⟩ = some (.int .i64 a1_3) := (blk_cell BK429.out 3).trans rfl; have hfz27_0 := blk_frozen BK429.out 0; have hfz27_1 := blk_frozen BK429.out 1; have hfz27_2 := blk_frozen BK429.out 2; have hfz27_3 := blk_frozen BK429.out 3; have p433 : 0 ≤ (x8_1 : Int) := of_decide_eq_true (by first | (with_reducible assumption) | assumption); have q433 : x8_1 < (l0.length : Int) := of_decide_eq_true (by first | (with_reducible assumption) | assumption); obtain ⟨ad433, A433_5, c433_5, e433, hx433_0, hx433_1, hx433_2, hx433_3, hx433_4, hx433_5, hl433_5, hi433_5⟩ := at_T24 (Kd.V_reads' HO_0.out).2.2 x8_1 p433 q433; obtain rfl : ad431 = ad433 := (by injection e433); obtain ⟨ce433, hce433, hMe433, hcc433⟩ := Kd.V_get HO_0.out z24 x8_1 p433 (by first | exact q433 | exact of_decide_eq_true (by first | (with_reducible assumption) | assumption) | (have e_ := (Kd.V_reads' HO_0.out).1; omega)); obtain ⟨ua433_5, uc433_5, rfl, ul433_5, ge433_5⟩ := k24_openF hMe433; have hv433_5 := hcc433 5 _ rfl; rw [add_field _ _ 5 (by omega)] at hv433_5; replace hv433_5 := Option.some.inj (hv433_5.symm.trans hx433_5); injection hv433_5 with hva_ hvn_ hvc_; rw [hva_] at ge433_5; rw [hvc_] at ul433_5; have HL433_5 := Aside0.mk (show Kd.V k24 24 _ w.heap.size _ _ ((rd_T24 l0 x8_1).f5) from Kd.V_mk ul433_5 ge433_5); clear hva_ hvn_ hvc_ ge433_5 ul433_5; clear hcc433 hce433; have HR433_5 := Aside0.mk hi433_5; have HC433_5 := Aside0.mk hl433_5; clear hi433_5 hl433_5; replace p433 := eq_true p433; replace q433 := eq_true q433) | (go_at_call 20; (with_reducible refine (rules_Check.calls ((rd_T24 l0 x8_1).f0) ((rd_T24 l0 x8_1).f1) ((rd_T24 l0 x8_1).f2) ((rd_T24 l0 x8_1).f3) ((rd_T24 l0 x8_1).f4) _ _ ((rd_T24 l0 x8_1).f5) t434 _ ?side1 ?side2 A18.out ?sideK).mono ?_); (case sideK => exact HKT.out.below (by repeat (first | (with_reducible first | exact HB.out | apply below_alloc | apply pw_below_drewN | apply below_drew1 | refine below_set ?_ GE429.out) | exact HB.out))); (case side1 => repeat (first | exact (by repeat (first | (with_reducible exact HR433_5.out) | (with_reducible refine Kd.C_alloc ?_ _) | (with_reducible refine Kd.C_drewN ?_ _) | (with_reducible refine Kd.C_drew ?_) | exact HR433_5.out)) | (with_reducible refine Kd.C_alloc ?_ _) | (with_reducible refine Kd.C_drewN ?_ _) | (with_reducible refine Kd.C_drew ?_))); (case side2 => exact HC433_5.out); rintro e w28 ⟨rfl, hb⟩; have n0_ := Aside0.mk (Kd.V_below (by (with_reducible repeat (first | apply Kd.V_alloc | apply Kd.V_drewN | apply Kd.V_drew)); exact HO_0.out) hb); have n1_ := Aside0.mk (Kd.V_below (by (with_reducible repeat (first | apply Kd.V_alloc | apply Kd.V_drewN | apply Kd.V_drew)); exact HL431_5.out) hb); have n2_ := Aside0.mk (Kd.V_below (by (with_reducible repeat (first | apply Kd.V_alloc | apply Kd.V_drewN | apply Kd.V_drew)); exact HL433_5.out) hb); have n3_ := Aside0.mk (blk_below (g := gb429) (o := .cells #[.slice A1_0 l1_0.length c1_0, .int .i64 a1_1, .int .i64 a1_2, .int .i64 a1_3] 29 (0, 0)) (by (with_reducible repeat (first | refine blk_drewN ?_ _ | refine blk_drew ?_ | refine blk_alloc ?_ _)); exact BK429.out) hb); have n4_ := Aside0.mk (Kd.C_below (by repeat (first | (with_reducible exact HR431_5.out) | (with_reducible refine Kd.C_alloc ?_ _) | (with_reducible refine Kd.C_drewN ?_ _) | (with_reducible refine Kd.C_drew ?_) | exact HR431_5.out)) hb); have n5_ := Aside0.mk (Kd.C_below (by repeat (first | (with_reducible exact HR433_5.out) | (with_reducible refine Kd.C_alloc ?_ _) | (with_reducible refine Kd.C_drewN ?_ _) | (with_reducible refine Kd.C_drew ?_) | exact HR433_5.out)) hb); have n6_ := Aside0.mk (below_step (by repeat (first | (with_reducible first | exact HB.out | apply below_alloc | apply pw_below_drewN | apply below_drew1 | refine below_set ?_ GE429.out) | exact HB.out)) hb); clear HO_0; clear HL431_5; clear HL433_5; clear BK429; clear HR431_5; clear HR433_5; clear HB; have HO_0 := n0_; have HL431_5 := n1_; have HL433_5 := n2_; have BK429 := n3_; have HR431_5 := n4_; have HR433_5 := n5_; have HB := n6_; clear n0_ n1_ n2_ n3_ n4_ n5_ n6_; (try clear hb); (try clear hb2); (try clear hk); (try clear hi)))
           go_meet
           case rel => exact ⟨_, (true), (by first | rfl | (simp; done) | (simp [*]; done)), H', ⟨by have := HK1.out; first | omega | exact Nat.le_refl _⟩, ⟨by (with_reducible repeat (first | apply Kd.V_alloc | apply Kd.V_drewN | apply Kd.V_drew)); exact HO_0.out⟩, ⟨by (with_reducible repeat (first | refine blk_drewN ?_ _ | refine blk_drew ?_ | refine blk_alloc ?_ _)); exact BK429.out⟩, ⟨by repeat (first | (with_reducible first | exact HB.out | apply below_alloc | apply pw_below_drewN | apply below_drew1 | refine below_set ?_ GE429.out) | exact HB.out)⟩⟩
       ·replace c12 := Bool.eq_false_iff.mpr c12
        subst c12
        have H1 : (sizarlaw12_RulesBoolean.j1 k1 l0 a2 x7_1 x8_1 true l1_0 a1_1 a1_2 a1_3) = some r := by rw [if_neg (show ¬ (false = true) by decide)] at H; exact H
        clear H
        have H := H1
        clear H1
        have H' := Aside0.mk H
        clear H
        have p431 : 0 ≤ (x8_1 : Int) := of_decide_eq_true (by first | (with_reducible assumption) | assumption)
        have q431 : x8_1 < (l0.length : Int) := of_decide_eq_true (by first | (with_reducible assumption) | assumption)
        obtain ⟨ad431, A431_5, c431_5, e431, hx431_0, hx431_1, hx431_2, hx431_3, hx431_4, hx431_5, hl431_5, hi431_5⟩ := at_T24 (Kd.V_reads' HO_0.out).2.2 x8_1 p431 q431
        cases e431
        obtain ⟨ce431, hce431, hMe431, hcc431⟩ := Kd.V_get HO_0.out z24 x8_1 p431 (by first | exact q431 | exact of_decide_eq_true (by first | (with_reducible assumption) | assumption) | (have e_ := (Kd.V_reads' HO_0.out).1; omega))
        obtain ⟨ua431_5, uc431_5, rfl, ul431_5, ge431_5⟩ := k24_openF hMe431
        have hv431_5 := hcc431 5 _ rfl
        rw [add_field _ _ 5 (by omega)] at hv431_5
        replace hv431_5 := Option.some.inj (hv431_5.symm.trans hx431_5)
        injection hv431_5 with hva_ hvn_ hvc_
        rw [hva_] at ge431_5
        rw [hvc_] at ul431_5
        have HL431_5 := Aside0.mk (show Kd.V k24 24 _ w.heap.size _ _ ((rd_T24 l0 x8_1).f5) from Kd.V_mk ul431_5 ge431_5)
        clear hva_ hvn_ hvc_ ge431_5 ul431_5
        clear hcc431 hce431
        have HR431_5 := Aside0.mk hi431_5
        have HC431_5 := Aside0.mk hl431_5
        clear hi431_5 hl431_5
        replace p431 := eq_true p431
        replace q431 := eq_true q431
        go_wp2_with (first | ((with_reducible refine gate_callee (f := 11) rfl ?_); refine goesL_ (some 25) rfl rfl Tryd.func11 (by kernel_rfl) rfl #[.agg #[.int .i64 ((rd_T24 l0 x8_1).f0), .int .i64 ((rd_T24 l0 x8_1).f1), .string ((rd_T24 l0 x8_1).f2), .int .i64 ((rd_T24 l0 x8_1).f3), .int .i64 ((rd_T24 l0 x8_1).f4), .slice A431_5 ((rd_T24 l0 x8_1).f5).length c431_5]] rfl (by (try simp only [List.map_toArray, List.map_cons, List.map_nil]); first | done | rfl | (simp only [List.length_drop, List.length_take]; rfl)) ?_; (with_reducible refine (sizarref12_Few.calls k1 ((rd_T24 l0 x8_1).f0) ((rd_T24 l0 x8_1).f1) ((rd_T24 l0 x8_1).f2) ((rd_T24 l0 x8_1).f3) ((rd_T24 l0 x8_1).f4) _ _ ((rd_T24 l0 x8_1).f5) false _ ?side1 ?side2 A11.out).mono ?_); (case side1 => repeat (first | exact (by repeat (first | (with_reducible exact HR431_5.out) | (with_reducible refine Kd.C_alloc ?_ _) | (with_reducible refine Kd.C_drewN ?_ _) | (with_reducible refine Kd.C_drew ?_) | exact HR431_5.out)) | (with_reducible refine Kd.C_alloc ?_ _) | (with_reducible refine Kd.C_drewN ?_ _) | (with_reducible refine Kd.C_drew ?_))); (case side2 => exact HC431_5.out); rintro e w29 ⟨rfl, hb⟩; refine ⟨_, rfl, ?_⟩; have n0_ := Aside0.mk (Kd.V_below (by (with_reducible repeat (first | apply Kd.V_alloc | apply Kd.V_drewN | apply Kd.V_drew)); exact HO_0.out) hb); have n1_ := Aside0.mk (Kd.V_below (by (with_reducible repeat (first | apply Kd.V_alloc | apply Kd.V_drewN | apply Kd.V_drew)); exact HL431_5.out) hb); have n2_ := Aside0.mk (blk_below (g := gb429) (o := .cells #[.slice A1_0 l1_0.length c1_0, .int .i64 a1_1, .int .i64 a1_2, .int .i64 a1_3] 29 (0, 0)) (by (with_reducible repeat (first | refine blk_drewN ?_ _ | refine blk_drew ?_ | refine blk_alloc ?_ _)); exact BK429.out) hb); have n3_ := Aside0.mk (Kd.C_below (by repeat (first | (with_reducible exact HR431_5.out) | (with_reducible refine Kd.C_alloc ?_ _) | (with_reducible refine Kd.C_drewN ?_ _) | (with_reducible refine Kd.C_drew ?_) | exact HR431_5.out)) hb); have n4_ := Aside0.mk (below_step (by repeat (first | (with_reducible first | exact HB.out | apply below_alloc | apply pw_below_drewN | apply below_drew1 | refine below_set ?_ GE429.out) | exact HB.out)) hb); clear HO_0; clear HL431_5; clear BK429; clear HR431_5; clear HB; have HO_0 := n0_; have HL431_5 := n1_; have BK429 := n2_; have HR431_5 := n3_; have HB := n4_; clear n0_ n1_ n2_ n3_ n4_; (try clear hb); (try clear hb2); (try clear hk); (try clear hi)))
        go_meet
        case rel => exact ⟨_, (true), (by first | rfl | (simp; done) | (simp [*]; done)), H', ⟨by have := HK1.out; first | omega | exact Nat.le_refl _⟩, ⟨by (with_reducible repeat (first | apply Kd.V_alloc | apply Kd.V_drewN | apply Kd.V_drew)); exact HO_0.out⟩, ⟨by (with_reducible repeat (first | refine blk_drewN ?_ _ | refine blk_drew ?_ | refine blk_alloc ?_ _)); exact BK429.out⟩, ⟨by repeat (first | (with_reducible first | exact HB.out | apply below_alloc | apply pw_below_drewN | apply below_drew1 | refine below_set ?_ GE429.out) | exact HB.out)⟩⟩
      ·rw [if_neg c10] at H
       exact absurd H (by simp)
     case rest =>
      clear HC9
      try clear c1
      try clear p2
      try clear c4
      try clear p4
      try clear q4
      try clear hx4
      try clear c5
      try clear c8
      try clear c8b0
      try clear c10
      try clear c10b0
      try clear c11
      try clear c12
      try clear c13
      try clear c13b0
      try clear c13b1
      try clear c15
      try clear c15b0
      try clear c15b1
      try clear c19
      try clear c19b0
      try clear c19b1
      try clear hcz17_0
      try clear hcz17_1
      try clear hcz17_2
      try clear hcz17_3
      try clear hcz22_0
      try clear hcz22_1
      try clear hcz22_2
      try clear hcz22_3
      try clear hcz24_0
      try clear hcz24_1
      try clear hcz24_2
      try clear hcz24_3
      try clear hcz27_0
      try clear hcz27_1
      try clear hcz27_2
      try clear hcz27_3
      try clear hfz17_0
      try clear hfz17_1
      try clear hfz17_2
      try clear hfz17_3
      try clear hfz22_0
      try clear hfz22_1
      try clear hfz22_2
      try clear hfz22_3
      try clear hfz24_0
      try clear hfz24_1
      try clear hfz24_2
      try clear hfz24_3
      try clear hfz27_0
      try clear hfz27_1
      try clear hfz27_2
      try clear hfz27_3
      try clear hx431_0
      try clear hx431_1
      try clear hx431_2
      try clear hx431_3
      try clear hx431_4
      try clear hx431_5
      try clear hx433_0
      try clear hx433_1
      try clear hx433_2
      try clear hx433_3
      try clear hx433_4
      try clear hx433_5
      try clear p2
      try clear p431
      try clear p433
      try clear q431
      try clear q433
      obtain ⟨kq, x50_8, rfl, HA, HJ8, HO_0, BK429, HB⟩ := hcut
      cases kq with
      | zero => exact absurd HA.out (by simp [sizarlaw12_RulesBoolean.j1])
      | succ kj8 =>
       have H := HA.out
       clear HA
       simp only [sizarlaw12_RulesBoolean.j1] at H
       by_cases c30 : x50_8 = true
       ·subst c30
        have H1 : (some true) = some r := by rw [if_pos rfl] at H; exact H
        clear H
        have H := H1
        clear H1
        obtain rfl := Option.some.inj H
        go_wp2
        go_ret
        exact ⟨by first | rfl | (simp [errW_none, errW_some] <;> rfl) | (simp [*, errW_none, errW_some] <;> rfl), by repeat (first | (with_reducible first | exact HB.out | apply below_alloc | apply pw_below_drewN | apply below_drew1 | refine below_set ?_ GE429.out) | exact HB.out)⟩
       ·replace c30 := Bool.eq_false_iff.mpr c30
        subst c30
        have H1 : (if 0 ≤ x8_1 then (if x8_1 < (l0.length : Int) then ((some (([(⟨(rd_T24 l0 x8_1).f0, (rd_T24 l0 x8_1).f1, (rd_T24 l0 x8_1).f2, (rd_T24 l0 x8_1).f3, (rd_T24 l0 x8_1).f4, (rd_T24 l0 x8_1).f5⟩ : S24)] : List (S24)) : List (S24))).bind fun y437 => ((rules_Check.f 4 0 (⟨#[]⟩ : ByteArray) 0 0 y437).bind fun t441 => (if t441 = 0 then ((sizarlaw12_holds.f kj8 4 0 (⟨#[]⟩ : ByteArray) 0 0 y437 l1_0 a1_1 a1_2 a1_3).bind fun t442 => ((sizarlaw12_holds.f kj8 ((rd_T24 l0 x8_1).f0) ((rd_T24 l0 x8_1).f1) ((rd_T24 l0 x8_1).f2) ((rd_T24 l0 x8_1).f3) ((rd_T24 l0 x8_1).f4) ((rd_T24 l0 x8_1).f5) l1_0 a1_1 a1_2 a1_3).bind fun t444 => (sizarlaw12_RulesBoolean.j2 kj8 l0 a2 x7_1 x8_1 (t442 == t444) l1_0 a1_1 a1_2 a1_3))) else (sizarlaw12_RulesBoolean.j2 kj8 l0 a2 x7_1 x8_1 false l1_0 a1_1 a1_2 a1_3)))) else (none)) else (none)) = some r := by rw [if_neg (show ¬ (false = true) by decide)] at H; exact H
        clear H
        have H := H1
        clear H1
        by_cases c31 : 0 ≤ x8_1
        ·rw [if_pos c31] at H
         have c31b0 : decide (0 ≤ x8_1) = true := decide_eq_true c31
         clear c31
         by_cases c32 : x8_1 < (l0.length : Int)
         ·rw [if_pos c32] at H
          have c32b0 : decide (x8_1 < (l0.length : Int)) = true := decide_eq_true c32
          clear c32
          obtain ⟨y437, hy437⟩ : ∃ y_ : List (S24), y_ = (([(⟨(rd_T24 l0 x8_1).f0, (rd_T24 l0 x8_1).f1, (rd_T24 l0 x8_1).f2, (rd_T24 l0 x8_1).f3, (rd_T24 l0 x8_1).f4, (rd_T24 l0 x8_1).f5⟩ : S24)] : List (S24))) := ⟨_, rfl⟩
          replace H : ((rules_Check.f 4 0 (⟨#[]⟩ : ByteArray) 0 0 y437).bind fun t441 => (if t441 = 0 then ((sizarlaw12_holds.f kj8 4 0 (⟨#[]⟩ : ByteArray) 0 0 y437 l1_0 a1_1 a1_2 a1_3).bind fun t442 => ((sizarlaw12_holds.f kj8 ((rd_T24 l0 x8_1).f0) ((rd_T24 l0 x8_1).f1) ((rd_T24 l0 x8_1).f2) ((rd_T24 l0 x8_1).f3) ((rd_T24 l0 x8_1).f4) ((rd_T24 l0 x8_1).f5) l1_0 a1_1 a1_2 a1_3).bind fun t444 => (sizarlaw12_RulesBoolean.j2 kj8 l0 a2 x7_1 x8_1 (t442 == t444) l1_0 a1_1 a1_2 a1_3))) else (sizarlaw12_RulesBoolean.j2 kj8 l0 a2 x7_1 x8_1 false l1_0 a1_1 a1_2 a1_3))) = some r := by first | (rw [hy437]; with_reducible exact H) | (have H2_ := (Option.bind_some _ _).symm.trans H; rw [hy437]; with_reducible exact H2_) | (have H2_ := (Option.bind_some _ _).symm.trans H; with_reducible exact H2_) | with_reducible exact H | (rw [hy437]; exact H) | exact H
          have Ny437 := Aside0.mk hy437
          clear hy437
          have HC33 := Aside0.mk H
          clear H
          have p436 : 0 ≤ (x8_1 : Int) := of_decide_eq_true (by first | (with_reducible assumption) | assumption)
          have q436 : x8_1 < (l0.length : Int) := of_decide_eq_true (by first | (with_reducible assumption) | assumption)
          obtain ⟨ad436, A436_5, c436_5, e436, hx436_0, hx436_1, hx436_2, hx436_3, hx436_4, hx436_5, hl436_5, hi436_5⟩ := at_T24 (Kd.V_reads' HO_0.out).2.2 x8_1 p436 q436
          cases e436
          obtain ⟨ce436, hce436, hMe436, hcc436⟩ := Kd.V_get HO_0.out z24 x8_1 p436 (by first | exact q436 | exact of_decide_eq_true (by first | (with_reducible assumption) | assumption) | (have e_ := (Kd.V_reads' HO_0.out).1; omega))
          obtain ⟨ua436_5, uc436_5, rfl, ul436_5, ge436_5⟩ := k24_openF hMe436
          have hv436_5 := hcc436 5 _ rfl
          rw [add_field _ _ 5 (by omega)] at hv436_5
          replace hv436_5 := Option.some.inj (hv436_5.symm.trans hx436_5)
          injection hv436_5 with hva_ hvn_ hvc_
          rw [hva_] at ge436_5
          rw [hvc_] at ul436_5
          have HL436_5 := Aside0.mk (show Kd.V k24 24 _ w.heap.size _ _ ((rd_T24 l0 x8_1).f5) from Kd.V_mk ul436_5 ge436_5)
          clear hva_ hvn_ hvc_ ge436_5 ul436_5
          clear hcc436 hce436
          have HR436_5 := Aside0.mk hi436_5
          have HC436_5 := Aside0.mk hl436_5
          clear hi436_5 hl436_5
          replace p436 := eq_true p436
          replace q436 := eq_true q436
          go_upto_region 10 with (first | ((with_reducible refine gate_dst (N := 55) rfl ?_); (try (refine gate_guard (by rfl) ?_; dsimp only)); refine Kd.N_lit k24 _ 24 ?hg (N' := 55) ?hd (xs := ([(⟨(rd_T24 l0 x8_1).f0, (rd_T24 l0 x8_1).f1, (rd_T24 l0 x8_1).f2, (rd_T24 l0 x8_1).f3, (rd_T24 l0 x8_1).f4, (rd_T24 l0 x8_1).f5⟩ : S24)] : List (S24))) (inner := [.int .i64 ((rd_T24 l0 x8_1).f0), .int .i64 ((rd_T24 l0 x8_1).f1), .string ((rd_T24 l0 x8_1).f2), .int .i64 ((rd_T24 l0 x8_1).f3), .int .i64 ((rd_T24 l0 x8_1).f4), .slice A436_5 ((rd_T24 l0 x8_1).f5).length c436_5]) (ok := (fun k_ => (P0_ k_ ∨ w.heap.size ≤ k_) ∧ k_ ≠ gb429)) (okp := (fun k_ => (P0_ k_ ∨ w.heap.size ≤ k_) ∧ k_ ≠ gb429)) ?hr ?hp (fun _ hk => hk) ((show ∀ k_, wc.heap.size ≤ k_ → (fun k_ => (P0_ k_ ∨ w.heap.size ≤ k_) ∧ k_ ≠ gb429) k_ from fun k_ hk => ⟨(.inr (Nat.le_trans (below_size (by repeat (first | (with_reducible first | exact HB.out | apply below_alloc | apply pw_below_drewN | apply below_drew1 | refine below_set ?_ GE429.out) | exact HB.out))) hk)), Kd.freshB (g := gb429) (o := .cells #[.slice A1_0 l1_0.length c1_0, .int .i64 a1_1, .int .i64 a1_2, .int .i64 a1_3] 29 (0, 0)) (by (with_reducible repeat (first | refine blk_drewN ?_ _ | refine blk_drew ?_ | refine blk_alloc ?_ _)); exact BK429.out) k_ hk⟩) _ (Nat.le_refl _)) (Below.refl _ _) (Nat.le_refl _) (by simp) ?_; (case hd => rfl); (case hg => rfl); (case hr => first | (go_simp; done) | (go_simp; rfl)); (case hp => exact (Reps.c6 (show Kd.FK k24 _ _ (⟨(rd_T24 l0 x8_1).f0, (rd_T24 l0 x8_1).f1, (rd_T24 l0 x8_1).f2, (rd_T24 l0 x8_1).f3, (rd_T24 l0 x8_1).f4, (rd_T24 l0 x8_1).f5⟩ : S24) [.int .i64 ((rd_T24 l0 x8_1).f0), .int .i64 ((rd_T24 l0 x8_1).f1), .string ((rd_T24 l0 x8_1).f2), .int .i64 ((rd_T24 l0 x8_1).f3), .int .i64 ((rd_T24 l0 x8_1).f4), .slice A436_5 ((rd_T24 l0 x8_1).f5).length c436_5] from (k24_mkF _ _ (⟨(rd_T24 l0 x8_1).f0, (rd_T24 l0 x8_1).f1, (rd_T24 l0 x8_1).f2, (rd_T24 l0 x8_1).f3, (rd_T24 l0 x8_1).f4, (rd_T24 l0 x8_1).f5⟩ : S24) (Kd.V_reads' (Kd.V_mono (ok' := (fun k_ => (P0_ k_ ∨ w.heap.size ≤ k_) ∧ k_ ≠ gb429)) (HL436_5.out) (fun k_ hk => ⟨hk.1, hk.2⟩))).2.1 (Kd.V_F (Kd.V_mono (ok' := (fun k_ => (P0_ k_ ∨ w.heap.size ≤ k_) ∧ k_ ≠ gb429)) (HL436_5.out) (fun k_ hk => ⟨hk.1, hk.2⟩))))) (Reps.none _ _))); intro v438 w34 ho35 hb hg_ hnew_; clear hg_ hnew_; (first | rw [← Ny437.out] at ho35 | (simp only [Int.reduceToNat] at ho35; rw [← Ny437.out] at ho35)); have n0_ := Aside0.mk (Kd.V_elder' (by (with_reducible repeat (first | apply Kd.V_alloc | apply Kd.V_drewN | apply Kd.V_drew)); exact HO_0.out) (Kd.N_base ho35) hb); have n1_ := Aside0.mk (Kd.V_elder' (by (with_reducible repeat (first | apply Kd.V_alloc | apply Kd.V_drewN | apply Kd.V_drew)); exact HL436_5.out) (Kd.N_base ho35) hb); have n2_ := Aside0.mk (Kd.N_lower ho35 (below_size (by repeat (first | (with_reducible first | exact HB.out | apply below_alloc | apply pw_below_drewN | apply below_drew1 | refine below_set ?_ GE429.out) | exact HB.out)))); have n3_ := Aside0.mk (blk_below (g := gb429) (o := .cells #[.slice A1_0 l1_0.length c1_0, .int .i64 a1_1, .int .i64 a1_2, .int .i64 a1_3] 29 (0, 0)) (by (with_reducible repeat (first | refine blk_drewN ?_ _ | refine blk_drew ?_ | refine blk_alloc ?_ _)); exact BK429.out) hb); have n4_ := Aside0.mk (Kd.C_below (by repeat (first | (with_reducible exact HR436_5.out) | (with_reducible refine Kd.C_alloc ?_ _) | (with_reducible refine Kd.C_drewN ?_ _) | (with_reducible refine Kd.C_drew ?_) | exact HR436_5.out)) hb); have n5_ := Aside0.mk (below_step (by repeat (first | (with_reducible first | exact HB.out | apply below_alloc | apply pw_below_drewN | apply below_drew1 | refine below_set ?_ GE429.out) | exact HB.out)) hb); clear HO_0; clear HL436_5; clear BK429; clear HR436_5; clear HB; have HO_0 := n0_; have HL436_5 := n1_; have HO439 := n2_; have BK429 := n3_; have HR436_5 := n4_; have HB := n5_; clear n0_ n1_ n2_ n3_ n4_ n5_; clear hb ho35; obtain ⟨Ao36, co36, eo36⟩ := Kd.N_slice HO439.out; subst eo36) | ((with_reducible refine gate_dst (N := 9) rfl ?_); (try (refine gate_guard (by rfl) ?_; dsimp only)); refine box_event ?hg (N := 9) ?hd (cs := #[.int .i64 0, .int .i64 0, .string (⟨#[]⟩ : ByteArray), .int .i64 0, .int .i64 0, .slice none 0 0]) (t := 24) ?hr ?_; (case hd => rfl); (case hg => rfl); (case hr => first | (go_simp; done) | (go_simp; rfl)); intro gb440 hg w37 hbox hb; have n0_ := Aside0.mk (Kd.V_below (Kd.V_elderB (by (with_reducible repeat (first | apply Kd.V_alloc | apply Kd.V_drewN | apply Kd.V_drew)); exact HO_0.out) gb440 (Nat.le_of_eq hg.symm)) hb); have n1_ := Aside0.mk (Kd.V_below (Kd.V_elderB (by (with_reducible repeat (first | apply Kd.V_alloc | apply Kd.V_drewN | apply Kd.V_drew)); exact HL436_5.out) gb440 (Nat.le_of_eq hg.symm)) hb); have n2_ := Aside0.mk (Kd.N_below (Kd.N_elderB (by (with_reducible repeat (first | apply Kd.N_alloc | apply Kd.N_drewN | apply Kd.N_drew)); exact HO439.out) gb440 (Nat.le_of_eq hg.symm)) hb); have n3_ := Aside0.mk (blk_below (g := gb429) (o := .cells #[.slice A1_0 l1_0.length c1_0, .int .i64 a1_1, .int .i64 a1_2, .int .i64 a1_3] 29 (0, 0)) (by (with_reducible repeat (first | refine blk_drewN ?_ _ | refine blk_drew ?_ | refine blk_alloc ?_ _)); exact BK429.out) hb); have n4_ := Aside0.mk (Kd.C_below (by repeat (first | (with_reducible exact HR436_5.out) | (with_reducible refine Kd.C_alloc ?_ _) | (with_reducible refine Kd.C_drewN ?_ _) | (with_reducible refine Kd.C_drew ?_) | exact HR436_5.out)) hb); have n5_ := Aside0.mk (below_step (by repeat (first | (with_reducible first | exact HB.out | apply below_alloc | apply pw_below_drewN | apply below_drew1 | refine below_set ?_ GE429.out) | exact HB.out)) hb); have n6_ := Aside0.mk (hbox); have n7_ := Aside0.mk ((by rw [hg]; exact (below_size (by repeat (first | (with_reducible first | exact HB.out | apply below_alloc | apply pw_below_drewN | apply below_drew1 | refine below_set ?_ GE429.out) | exact HB.out))) : w.heap.size ≤ gb440)); have n8_ := Aside0.mk ((by rw [hg]; exact (below_size (by repeat (first | (with_reducible first | exact HB.out | apply below_alloc | apply pw_below_drewN | apply below_drew1 | refine below_set ?_ GE429.out) | exact HB.out))) : w.heap.size ≤ gb440)); have n9_ := Aside0.mk ((by rw [hg]; exact Nat.ne_of_lt (blk_lt (g := gb429) (o := .cells #[.slice A1_0 l1_0.length c1_0, .int .i64 a1_1, .int .i64 a1_2, .int .i64 a1_3] 29 (0, 0)) (by (with_reducible repeat (first | refine blk_drewN ?_ _ | refine blk_drew ?_ | refine blk_alloc ?_ _)); exact BK429.out)) : gb429 ≠ gb440)); have n10_ := Aside0.mk ((by rw [hg]; exact Nat.ne_of_gt (blk_lt (g := gb429) (o := .cells #[.slice A1_0 l1_0.length c1_0, .int .i64 a1_1, .int .i64 a1_2, .int .i64 a1_3] 29 (0, 0)) (by (with_reducible repeat (first | refine blk_drewN ?_ _ | refine blk_drew ?_ | refine blk_alloc ?_ _)); exact BK429.out)) : gb440 ≠ gb429)); clear HO_0; clear HL436_5; clear HO439; clear BK429; clear HR436_5; clear HB; have HO_0 := n0_; have HL436_5 := n1_; have HO439 := n2_; have BK429 := n3_; have HR436_5 := n4_; have HB := n5_; have BK440 := n6_; have GW440 := n7_; have GE440 := n8_; have NB429_440 := n9_; have NB440_429 := n10_; clear n0_ n1_ n2_ n3_ n4_ n5_ n6_ n7_ n8_ n9_ n10_; clear hb hbox hg; have hnb38 := NB440_429.out; have hnc38 := NB429_440.out; have hcz39_0 : w37.cell? ⟨gb440, 0, none⟩ = some (.int .i64 0) := (blk_cell BK440.out 0).trans rfl; have hcz39_1 : w37.cell? ⟨gb440, 1, none⟩ = some (.int .i64 0) := (blk_cell BK440.out 1).trans rfl; have hcz39_2 : w37.cell? ⟨gb440, 2, none⟩ = some (.string (⟨#[]⟩ : ByteArray)) := (blk_cell BK440.out 2).trans rfl; have hcz39_3 : w37.cell? ⟨gb440, 3, none⟩ = some (.int .i64 0) := (blk_cell BK440.out 3).trans rfl; have hcz39_4 : w37.cell? ⟨gb440, 4, none⟩ = some (.int .i64 0) := (blk_cell BK440.out 4).trans rfl; have hcz39_5 : w37.cell? ⟨gb440, 5, none⟩ = some (.slice none 0 0) := (blk_cell BK440.out 5).trans rfl; have hfz39_0 := blk_frozen BK440.out 0; have hfz39_1 := blk_frozen BK440.out 1; have hfz39_2 := blk_frozen BK440.out 2; have hfz39_3 := blk_frozen BK440.out 3; have hfz39_4 := blk_frozen BK440.out 4; have hfz39_5 := blk_frozen BK440.out 5))
          (try simp only [Act.put, List.setIfInBounds_toArray, List.set_cons_zero, List.set_cons_succ])
          go_cut [71] (fun v71 wc => ∃ (kq : Nat) (x71_32 : Bool), v71 = .bool x71_32 ∧ Aside0 (sizarlaw12_RulesBoolean.j2 kq l0 a2 x7_1 x8_1 x71_32 l1_0 a1_1 a1_2 a1_3 = some r) ∧ Aside0 (kq ≤ kj8) ∧ Aside0 (Kd.V k24 24 wc w.heap.size (fun k_ => (P0_ k_ ∨ w.heap.size ≤ k_) ∧ some k_ ≠ ((.slice Ao36 y437.length co36) : Value).ownBlock ∧ k_ ≠ gb429 ∧ k_ ≠ gb440) (.slice (some ad436) l0.length c0) l0) ∧ Aside0 (Kd.N k24 24 wc w.heap.size (fun k_ => (P0_ k_ ∨ w.heap.size ≤ k_) ∧ k_ ≠ gb429 ∧ k_ ≠ gb440) (.slice Ao36 y437.length co36) y437) ∧ Aside0 (wc.heap[gb429]? = some (.cells #[(.slice A1_0 l1_0.length c1_0), .int .i64 a1_1, .int .i64 a1_2, .int .i64 a1_3] 29 (0, 0))) ∧ Aside0 (wc.heap[gb440]? = some (.cells #[.int .i64 4, .int .i64 0, .string (⟨#[]⟩ : ByteArray), .int .i64 0, .int .i64 0, (.slice Ao36 y437.length co36)] 24 (0, 0))) ∧ Aside0 (Below w.heap.size w wc))
          case first =>
           have H := HC33.out
           clear HC33
           replace H := Option.bind_eq_some_iff.mp H
           obtain ⟨t441, A400, H⟩ := H
           replace H : (if t441 = 0 then ((sizarlaw12_holds.f kj8 4 0 (⟨#[]⟩ : ByteArray) 0 0 y437 l1_0 a1_1 a1_2 a1_3).bind fun t442 => ((sizarlaw12_holds.f kj8 ((rd_T24 l0 x8_1).f0) ((rd_T24 l0 x8_1).f1) ((rd_T24 l0 x8_1).f2) ((rd_T24 l0 x8_1).f3) ((rd_T24 l0 x8_1).f4) ((rd_T24 l0 x8_1).f5) l1_0 a1_1 a1_2 a1_3).bind fun t444 => (sizarlaw12_RulesBoolean.j2 kj8 l0 a2 x7_1 x8_1 (t442 == t444) l1_0 a1_1 a1_2 a1_3))) else (sizarlaw12_RulesBoolean.j2 kj8 l0 a2 x7_1 x8_1 false l1_0 a1_1 a1_2 a1_3)) = some r := H
           have A40 := Aside0.mk A400
           clear A400
           by_cases c41 : t441 = 0
           ·rw [if_pos c41] at H
            have c41b0 : (t441 == 0) = true := beq_iff_eq.mpr c41
            have c41b1 : (t441 != 0) = false := bne_eq_false_iff_eq.mpr c41
            clear c41
            (first | rw [c41b0] | (simp only [i64_w, i32_w]; rw [c41b0]) | skip)
            replace H := Option.bind_eq_some_iff.mp H
            obtain ⟨t442, A420, H⟩ := H
            replace H : ((sizarlaw12_holds.f kj8 ((rd_T24 l0 x8_1).f0) ((rd_T24 l0 x8_1).f1) ((rd_T24 l0 x8_1).f2) ((rd_T24 l0 x8_1).f3) ((rd_T24 l0 x8_1).f4) ((rd_T24 l0 x8_1).f5) l1_0 a1_1 a1_2 a1_3).bind fun t444 => (sizarlaw12_RulesBoolean.j2 kj8 l0 a2 x7_1 x8_1 (t442 == t444) l1_0 a1_1 a1_2 a1_3)) = some r := H
            have A42 := Aside0.mk A420
            clear A420
            replace H := Option.bind_eq_some_iff.mp H
            obtain ⟨t444, A430, H⟩ := H
            replace H : (sizarlaw12_RulesBoolean.j2 kj8 l0 a2 x7_1 x8_1 (t442 == t444) l1_0 a1_1 a1_2 a1_3) = some r := H
            have A43 := Aside0.mk A430
            clear A430
            have H' := Aside0.mk H
            clear H
            try go_wp2
            have n0_ : Aside0 (Kd.V k24 24 ((((((w37.setCell ⟨gb440, 0, none⟩ (.int .i64 4)).setCell ⟨gb440, 1, none⟩ (.int .i64 0)).setCell ⟨gb440, 2, none⟩ (.string (⟨#[]⟩ : ByteArray))).setCell ⟨gb440, 3, none⟩ (.int .i64 0)).setCell ⟨gb440, 4, none⟩ (.int .i64 0)).setCell ⟨gb440, 5, none⟩ (.slice Ao36 y437.length co36)) w.heap.size (fun k_ => (P0_ k_ ∨ w.heap.size ≤ k_) ∧ some k_ ≠ (.slice Ao36 y437.length co36 : Value).ownBlock ∧ k_ ≠ gb429 ∧ k_ ≠ gb440) (.slice (some ad436) l0.length c0) l0) := ⟨by (with_reducible repeat (first | apply Kd.V_alloc | apply Kd.V_drewN | apply Kd.V_drew)); exact Kd.V_mono (Kd.V_far (p := ⟨gb440, 5, none⟩) (Kd.V_far (p := ⟨gb440, 4, none⟩) (Kd.V_far (p := ⟨gb440, 3, none⟩) (Kd.V_far (p := ⟨gb440, 2, none⟩) (Kd.V_far (p := ⟨gb440, 1, none⟩) (Kd.V_far (p := ⟨gb440, 0, none⟩) (Kd.V_mono HO_0.out (fun k_ hk => (⟨hk, hk.2⟩ : _ ∧ k_ ≠ gb440))) (fun _ hk => hk.2) (.int .i64 4)) (fun _ hk => hk.2) (.int .i64 0)) (fun _ hk => hk.2) (.string (⟨#[]⟩ : ByteArray))) (fun _ hk => hk.2) (.int .i64 0)) (fun _ hk => hk.2) (.int .i64 0)) (fun _ hk => hk.2) (.slice Ao36 y437.length co36)) (fun _ hk => ⟨hk.1.1.1.1, ⟨hk.1.1.2, ⟨hk.1.1.1.2, hk.1.2⟩⟩⟩)⟩
            have n1_ : Aside0 (Kd.V k24 24 ((((((w37.setCell ⟨gb440, 0, none⟩ (.int .i64 4)).setCell ⟨gb440, 1, none⟩ (.int .i64 0)).setCell ⟨gb440, 2, none⟩ (.string (⟨#[]⟩ : ByteArray))).setCell ⟨gb440, 3, none⟩ (.int .i64 0)).setCell ⟨gb440, 4, none⟩ (.int .i64 0)).setCell ⟨gb440, 5, none⟩ (.slice Ao36 y437.length co36)) w.heap.size (fun k_ => (P0_ k_ ∨ w.heap.size ≤ k_) ∧ some k_ ≠ (.slice Ao36 y437.length co36 : Value).ownBlock ∧ k_ ≠ gb429 ∧ k_ ≠ gb440) (.slice A436_5 ((rd_T24 l0 x8_1).f5).length c436_5) ((rd_T24 l0 x8_1).f5)) := ⟨by (with_reducible repeat (first | apply Kd.V_alloc | apply Kd.V_drewN | apply Kd.V_drew)); exact Kd.V_mono (Kd.V_far (p := ⟨gb440, 5, none⟩) (Kd.V_far (p := ⟨gb440, 4, none⟩) (Kd.V_far (p := ⟨gb440, 3, none⟩) (Kd.V_far (p := ⟨gb440, 2, none⟩) (Kd.V_far (p := ⟨gb440, 1, none⟩) (Kd.V_far (p := ⟨gb440, 0, none⟩) (Kd.V_mono HL436_5.out (fun k_ hk => (⟨hk, hk.2⟩ : _ ∧ k_ ≠ gb440))) (fun _ hk => hk.2) (.int .i64 4)) (fun _ hk => hk.2) (.int .i64 0)) (fun _ hk => hk.2) (.string (⟨#[]⟩ : ByteArray))) (fun _ hk => hk.2) (.int .i64 0)) (fun _ hk => hk.2) (.int .i64 0)) (fun _ hk => hk.2) (.slice Ao36 y437.length co36)) (fun _ hk => ⟨hk.1.1.1.1, ⟨hk.1.1.2, ⟨hk.1.1.1.2, hk.1.2⟩⟩⟩)⟩
            have n2_ : Aside0 (Kd.N k24 24 ((((((w37.setCell ⟨gb440, 0, none⟩ (.int .i64 4)).setCell ⟨gb440, 1, none⟩ (.int .i64 0)).setCell ⟨gb440, 2, none⟩ (.string (⟨#[]⟩ : ByteArray))).setCell ⟨gb440, 3, none⟩ (.int .i64 0)).setCell ⟨gb440, 4, none⟩ (.int .i64 0)).setCell ⟨gb440, 5, none⟩ (.slice Ao36 y437.length co36)) w.heap.size (fun k_ => (P0_ k_ ∨ w.heap.size ≤ k_) ∧ k_ ≠ gb429 ∧ k_ ≠ gb440) (.slice Ao36 y437.length co36) y437) := ⟨by (with_reducible repeat (first | apply Kd.N_alloc | apply Kd.N_drewN | apply Kd.N_drew)); exact Kd.N_mono (Kd.N_far (p := ⟨gb440, 5, none⟩) (Kd.N_far (p := ⟨gb440, 4, none⟩) (Kd.N_far (p := ⟨gb440, 3, none⟩) (Kd.N_far (p := ⟨gb440, 2, none⟩) (Kd.N_far (p := ⟨gb440, 1, none⟩) (Kd.N_far (p := ⟨gb440, 0, none⟩) (Kd.N_mono HO439.out (fun k_ hk => (⟨hk, hk.2⟩ : _ ∧ k_ ≠ gb440))) (fun _ hk => hk.2) (.int .i64 4)) (fun _ hk => hk.2) (.int .i64 0)) (fun _ hk => hk.2) (.string (⟨#[]⟩ : ByteArray))) (fun _ hk => hk.2) (.int .i64 0)) (fun _ hk => hk.2) (.int .i64 0)) (fun _ hk => hk.2) (.slice Ao36 y437.length co36)) (fun _ hk => ⟨hk.1.1.1, ⟨hk.1.1.2, hk.1.2⟩⟩)⟩
            have n3_ : Aside0 (((((((w37.setCell ⟨gb440, 0, none⟩ (.int .i64 4)).setCell ⟨gb440, 1, none⟩ (.int .i64 0)).setCell ⟨gb440, 2, none⟩ (.string (⟨#[]⟩ : ByteArray))).setCell ⟨gb440, 3, none⟩ (.int .i64 0)).setCell ⟨gb440, 4, none⟩ (.int .i64 0)).setCell ⟨gb440, 5, none⟩ (.slice Ao36 y437.length co36)).heap[gb429]? = some (.cells #[.slice A1_0 l1_0.length c1_0, .int .i64 a1_1, .int .i64 a1_2, .int .i64 a1_3] 29 (0, 0))) := ⟨by (with_reducible repeat (first | refine blk_drewN ?_ _ | refine blk_drew ?_ | refine blk_alloc ?_ _)); refine blk_far ?_ NB429_440.out _; (with_reducible repeat (first | refine blk_drewN ?_ _ | refine blk_drew ?_ | refine blk_alloc ?_ _)); refine blk_far ?_ NB429_440.out _; (with_reducible repeat (first | refine blk_drewN ?_ _ | refine blk_drew ?_ | refine blk_alloc ?_ _)); refine blk_far ?_ NB429_440.out _; (with_reducible repeat (first | refine blk_drewN ?_ _ | refine blk_drew ?_ | refine blk_alloc ?_ _)); refine blk_far ?_ NB429_440.out _; (with_reducible repeat (first | refine blk_drewN ?_ _ | refine blk_drew ?_ | refine blk_alloc ?_ _)); refine blk_far ?_ NB429_440.out _; (with_reducible repeat (first | refine blk_drewN ?_ _ | refine blk_drew ?_ | refine blk_alloc ?_ _)); refine blk_far ?_ NB429_440.out _; (with_reducible repeat (first | refine blk_drewN ?_ _ | refine blk_drew ?_ | refine blk_alloc ?_ _)); exact BK429.out⟩
            have n4_ : Aside0 (((((((w37.setCell ⟨gb440, 0, none⟩ (.int .i64 4)).setCell ⟨gb440, 1, none⟩ (.int .i64 0)).setCell ⟨gb440, 2, none⟩ (.string (⟨#[]⟩ : ByteArray))).setCell ⟨gb440, 3, none⟩ (.int .i64 0)).setCell ⟨gb440, 4, none⟩ (.int .i64 0)).setCell ⟨gb440, 5, none⟩ (.slice Ao36 y437.length co36)).heap[gb440]? = some (.cells #[.int .i64 4, .int .i64 0, .string (⟨#[]⟩ : ByteArray), .int .i64 0, .int .i64 0, .slice Ao36 y437.length co36] 24 (0, 0))) := ⟨by (with_reducible repeat (first | refine blk_drewN ?_ _ | refine blk_drew ?_ | refine blk_alloc ?_ _)); refine blk_put (cs := #[.int .i64 4, .int .i64 0, .string (⟨#[]⟩ : ByteArray), .int .i64 0, .int .i64 0, .slice none 0 0]) ?_ 5 _ rfl; (with_reducible repeat (first | refine blk_drewN ?_ _ | refine blk_drew ?_ | refine blk_alloc ?_ _)); refine blk_put (cs := #[.int .i64 4, .int .i64 0, .string (⟨#[]⟩ : ByteArray), .int .i64 0, .int .i64 0, .slice none 0 0]) ?_ 4 _ rfl; (with_reducible repeat (first | refine blk_drewN ?_ _ | refine blk_drew ?_ | refine blk_alloc ?_ _)); refine blk_put (cs := #[.int .i64 4, .int .i64 0, .string (⟨#[]⟩ : ByteArray), .int .i64 0, .int .i64 0, .slice none 0 0]) ?_ 3 _ rfl; (with_reducible repeat (first | refine blk_drewN ?_ _ | refine blk_drew ?_ | refine blk_alloc ?_ _)); refine blk_put (cs := #[.int .i64 4, .int .i64 0, .string (⟨#[]⟩ : ByteArray), .int .i64 0, .int .i64 0, .slice none 0 0]) ?_ 2 _ rfl; (with_reducible repeat (first | refine blk_drewN ?_ _ | refine blk_drew ?_ | refine blk_alloc ?_ _)); refine blk_put (cs := #[.int .i64 4, .int .i64 0, .string (⟨#[]⟩ : ByteArray), .int .i64 0, .int .i64 0, .slice none 0 0]) ?_ 1 _ rfl; (with_reducible repeat (first | refine blk_drewN ?_ _ | refine blk_drew ?_ | refine blk_alloc ?_ _)); refine blk_put (cs := #[.int .i64 0, .int .i64 0, .string (⟨#[]⟩ : ByteArray), .int .i64 0, .int .i64 0, .slice none 0 0]) ?_ 0 _ rfl; (with_reducible repeat (first | refine blk_drewN ?_ _ | refine blk_drew ?_ | refine blk_alloc ?_ _)); exact BK440.out⟩
            have n5_ : Aside0 (Below w.heap.size w ((((((w37.setCell ⟨gb440, 0, none⟩ (.int .i64 4)).setCell ⟨gb440, 1, none⟩ (.int .i64 0)).setCell ⟨gb440, 2, none⟩ (.string (⟨#[]⟩ : ByteArray))).setCell ⟨gb440, 3, none⟩ (.int .i64 0)).setCell ⟨gb440, 4, none⟩ (.int .i64 0)).setCell ⟨gb440, 5, none⟩ (.slice Ao36 y437.length co36))) := ⟨by repeat (first | (with_reducible first | exact HB.out | apply below_alloc | apply pw_below_drewN | apply below_drew1 | refine below_set ?_ GE429.out | refine below_set ?_ GE440.out) | exact HB.out)⟩
            (try clear HO_0)
            (try clear HL436_5)
            (try clear HO439)
            (try clear BK429)
            (try clear BK440)
            (try clear HB)
            generalize ((((((w37.setCell ⟨gb440, 0, none⟩ (.int .i64 4)).setCell ⟨gb440, 1, none⟩ (.int .i64 0)).setCell ⟨gb440, 2, none⟩ (.string (⟨#[]⟩ : ByteArray))).setCell ⟨gb440, 3, none⟩ (.int .i64 0)).setCell ⟨gb440, 4, none⟩ (.int .i64 0)).setCell ⟨gb440, 5, none⟩ (.slice Ao36 y437.length co36)) = w44 at n0_ n1_ n2_ n3_ n4_ n5_ ⊢
            have HO_0 := n0_
            have HL436_5 := n1_
            have HO439 := n2_
            have BK429 := n3_
            have BK440 := n4_
            have HB := n5_
            clear n0_ n1_ n2_ n3_ n4_ n5_
            have n0_ := Aside0.mk (Kd.V_drew HO_0.out)
            have n1_ := Aside0.mk (Kd.V_drew HL436_5.out)
            have n2_ := Aside0.mk (Kd.N_drew HO439.out)
            have n3_ := Aside0.mk (blk_drew BK429.out)
            have n4_ := Aside0.mk (blk_drew BK440.out)
            have n5_ := Aside0.mk (below_drew1 HB.out)
            clear HO_0
            clear HL436_5
            clear HO439
            clear BK429
            clear BK440
            clear HB
            have HO_0 := n0_
            have HL436_5 := n1_
            have HO439 := n2_
            have BK429 := n3_
            have BK440 := n4_
            have HB := n5_
            clear n0_ n1_ n2_ n3_ n4_ n5_
            have p443 : 0 ≤ (x8_1 : Int) := of_decide_eq_true (by first | (with_reducible assumption) | assumption)
            have q443 : x8_1 < (l0.length : Int) := of_decide_eq_true (by first | (with_reducible assumption) | assumption)
            obtain ⟨ad443, A443_5, c443_5, e443, hx443_0, hx443_1, hx443_2, hx443_3, hx443_4, hx443_5, hl443_5, hi443_5⟩ := at_T24 (Kd.V_reads' HO_0.out).2.2 x8_1 p443 q443
            obtain rfl : ad436 = ad443 := (by injection e443)
            obtain ⟨ce443, hce443, hMe443, hcc443⟩ := Kd.V_get HO_0.out z24 x8_1 p443 (by first | exact q443 | exact of_decide_eq_true (by first | (with_reducible assumption) | assumption) | (have e_ := (Kd.V_reads' HO_0.out).1; omega))
            obtain ⟨ua443_5, uc443_5, rfl, ul443_5, ge443_5⟩ := k24_openF hMe443
            have hv443_5 := hcc443 5 _ rfl
            rw [add_field _ _ 5 (by omega)] at hv443_5
            replace hv443_5 := Option.some.inj (hv443_5.symm.trans hx443_5)
            injection hv443_5 with hva_ hvn_ hvc_
            rw [hva_] at ge443_5
            rw [hvc_] at ul443_5
            have HL443_5 := Aside0.mk (show Kd.V k24 24 _ w.heap.size _ _ ((rd_T24 l0 x8_1).f5) from Kd.V_mk ul443_5 ge443_5)
            clear hva_ hvn_ hvc_ ge443_5 ul443_5
            clear hcc443 hce443
            have HR443_5 := Aside0.mk hi443_5
            have HC443_5 := Aside0.mk hl443_5
            clear hi443_5 hl443_5
            replace p443 := eq_true p443
            replace q443 := eq_true q443
            refine start_ (n := 15) (S := fun w' => w'.cell? ⟨gb440, 0, none⟩ = some (.int .i64 4) ∧ w'.cell? ⟨gb440, 1, none⟩ = some (.int .i64 0) ∧ w'.cell? ⟨gb440, 2, none⟩ = some (.string (⟨#[]⟩ : ByteArray)) ∧ w'.cell? ⟨gb440, 3, none⟩ = some (.int .i64 0) ∧ w'.cell? ⟨gb440, 4, none⟩ = some (.int .i64 0) ∧ w'.cell? ⟨gb440, 5, none⟩ = some (.slice Ao36 y437.length co36) ∧ w'.cell? ⟨gb429, 0, none⟩ = some (.slice A1_0 l1_0.length c1_0) ∧ w'.cell? ⟨gb429, 1, none⟩ = some (.int .i64 a1_1) ∧ w'.cell? ⟨gb429, 2, none⟩ = some (.int .i64 a1_2) ∧ w'.cell? ⟨gb429, 3, none⟩ = some (.int .i64 a1_3) ∧ w'.cell? (ad436.add ((x8_1).toNat * 6)) = some (.int .i64 ((rd_T24 l0 x8_1).f0)) ∧ w'.cell? ⟨(ad436.add ((x8_1).toNat * 6)).block, (ad436.add ((x8_1).toNat * 6)).off + 1, none⟩ = some (.int .i64 ((rd_T24 l0 x8_1).f1)) ∧ w'.cell? ⟨(ad436.add ((x8_1).toNat * 6)).block, (ad436.add ((x8_1).toNat * 6)).off + 2, none⟩ = some (.string ((rd_T24 l0 x8_1).f2)) ∧ w'.cell? ⟨(ad436.add ((x8_1).toNat * 6)).block, (ad436.add ((x8_1).toNat * 6)).off + 3, none⟩ = some (.int .i64 ((rd_T24 l0 x8_1).f3)) ∧ w'.cell? ⟨(ad436.add ((x8_1).toNat * 6)).block, (ad436.add ((x8_1).toNat * 6)).off + 4, none⟩ = some (.int .i64 ((rd_T24 l0 x8_1).f4)) ∧ w'.cell? ⟨(ad436.add ((x8_1).toNat * 6)).block, (ad436.add ((x8_1).toNat * 6)).off + 5, none⟩ = some (.slice A443_5 ((rd_T24 l0 x8_1).f5).length c443_5)) (ds := []) #[false, false, false, false, false, false, false, false, false, false, false, false, false, false, false] (by kernel_rfl) rfl rfl ⟨(blk_cell BK440.out 0).trans rfl, (blk_cell BK440.out 1).trans rfl, (blk_cell BK440.out 2).trans rfl, (blk_cell BK440.out 3).trans rfl, (blk_cell BK440.out 4).trans rfl, (blk_cell BK440.out 5).trans rfl, (blk_cell BK429.out 0).trans rfl, (blk_cell BK429.out 1).trans rfl, (blk_cell BK429.out 2).trans rfl, (blk_cell BK429.out 3).trans rfl, hx443_0, hx443_1, hx443_2, hx443_3, hx443_4, hx443_5⟩ (fun hHeld => ?_); refine with_tabW sizarlaw12_RulesBoolean.tab10 sizarlaw12_RulesBoolean.bits10 (fun HT_ HW_ => ?_)
            generalize w44.drew = w45 at HO_0 HL436_5 HO439 BK429 BK440 HB HL443_5 HR443_5 hx443_0 hx443_1 hx443_2 hx443_3 hx443_4 hx443_5 hHeld ⊢
            refine take_ (i := 0) (N := some 57) (v := ?_) (a' := ?_) #[true, false, false, false, false, false, false, false, false, false, false, false, false, false, false] rfl rfl (take_ofW HT_.out HW_.out (by kernel_rfl)) (fun _ _ _ h => h) (Or.inl ⟨by rfl, ?_⟩) hHeld ?_ ?_
            rotate_left
            ·rintro w' ⟨s0, s1, s2, s3, s4, s5, s6, s7, s8, s9, s10, s11, s12, s13, s14, s15⟩
             go_simp
             with_reducible rfl
            rotate_left
            ·simp only [Act.put, List.setIfInBounds_toArray, List.set_cons_zero, List.set_cons_succ, i64_w, i32_w]
             rfl
            refine one_ (i := 1) (N := some 58) #[true, true, false, false, false, false, false, false, false, false, false, false, false, false, false] rfl rfl (one_of HT_.out (by kernel_rfl)) (by decide) (fun K hK => ?_)
            refine goes_ Tryd.func20 (by kernel_rfl) rfl #[.agg #[.int .i64 4, .int .i64 0, .string (⟨#[]⟩ : ByteArray), .int .i64 0, .int .i64 0, .slice Ao36 y437.length co36]] (by rfl) rfl rfl (by (try simp only [List.map_toArray, List.map_cons, List.map_nil]); first | done | rfl | (simp only [List.length_drop, List.length_take]; rfl)) ?_
            with_reducible refine (rules_Check.calls 4 0 (⟨#[]⟩ : ByteArray) 0 0 _ _ y437 t441 _ ?side1 ?side2 A40.out ?sideK).mono ?_
            (case sideK => exact HKT.out.below (by repeat (first | (with_reducible first | exact HB.out | apply below_alloc | apply pw_below_drewN | apply below_drew1 | refine below_set ?_ GE429.out | refine below_set ?_ GE440.out) | exact HB.out)))
            (case side1 => repeat (first | exact (Kd.N_reads' HO439.out).2.2 | (with_reducible refine Kd.C_alloc ?_ _) | (with_reducible refine Kd.C_drewN ?_ _) | (with_reducible refine Kd.C_drew ?_)))
            (case side2 => exact (Kd.N_reads' HO439.out).2.1)
            rintro e w46 ⟨rfl, hb⟩
            have HL443_5 := Aside0.mk (Kd.V_below (by (with_reducible repeat (first | apply Kd.V_alloc | apply Kd.V_drewN | apply Kd.V_drew)); exact HL443_5.out) hb)
            have HR443_5 := Aside0.mk (Kd.V_reads' HL443_5.out).2.2
            have HS10_ := (hb.cell (World.block_lt_of_cell? _ _ (hHeld.2.2.2.2.2.2.2.2.2.2.1))).trans (hHeld.2.2.2.2.2.2.2.2.2.2.1)
            have HS11_ := (hb.cell (World.block_lt_of_cell? _ _ (hHeld.2.2.2.2.2.2.2.2.2.2.2.1))).trans (hHeld.2.2.2.2.2.2.2.2.2.2.2.1)
            have HS12_ := (hb.cell (World.block_lt_of_cell? _ _ (hHeld.2.2.2.2.2.2.2.2.2.2.2.2.1))).trans (hHeld.2.2.2.2.2.2.2.2.2.2.2.2.1)
            have HS13_ := (hb.cell (World.block_lt_of_cell? _ _ (hHeld.2.2.2.2.2.2.2.2.2.2.2.2.2.1))).trans (hHeld.2.2.2.2.2.2.2.2.2.2.2.2.2.1)
            have HS14_ := (hb.cell (World.block_lt_of_cell? _ _ (hHeld.2.2.2.2.2.2.2.2.2.2.2.2.2.2.1))).trans (hHeld.2.2.2.2.2.2.2.2.2.2.2.2.2.2.1)
            have HS15_ := (hb.cell (World.block_lt_of_cell? _ _ (hHeld.2.2.2.2.2.2.2.2.2.2.2.2.2.2.2))).trans (hHeld.2.2.2.2.2.2.2.2.2.2.2.2.2.2.2)
            refine ⟨_, rfl, ?_⟩
            have n0_ := Aside0.mk (Kd.V_below (by (with_reducible repeat (first | apply Kd.V_alloc | apply Kd.V_drewN | apply Kd.V_drew)); exact HO_0.out) hb)
            have n1_ := Aside0.mk (Kd.V_below (by (with_reducible repeat (first | apply Kd.V_alloc | apply Kd.V_drewN | apply Kd.V_drew)); exact HL436_5.out) hb)
            have n2_ := Aside0.mk (Kd.N_below (by (with_reducible repeat (first | apply Kd.N_alloc | apply Kd.N_drewN | apply Kd.N_drew)); exact HO439.out) hb)
            have n3_ := Aside0.mk (blk_below (g := gb429) (o := .cells #[.slice A1_0 l1_0.length c1_0, .int .i64 a1_1, .int .i64 a1_2, .int .i64 a1_3] 29 (0, 0)) (by (with_reducible repeat (first | refine blk_drewN ?_ _ | refine blk_drew ?_ | refine blk_alloc ?_ _)); exact BK429.out) hb)
            have n4_ := Aside0.mk (blk_below (g := gb440) (o := .cells #[.int .i64 4, .int .i64 0, .string (⟨#[]⟩ : ByteArray), .int .i64 0, .int .i64 0, .slice Ao36 y437.length co36] 24 (0, 0)) (by (with_reducible repeat (first | refine blk_drewN ?_ _ | refine blk_drew ?_ | refine blk_alloc ?_ _)); exact BK440.out) hb)
            have n5_ := Aside0.mk (below_step (by repeat (first | (with_reducible first | exact HB.out | apply below_alloc | apply pw_below_drewN | apply below_drew1 | refine below_set ?_ GE429.out | refine below_set ?_ GE440.out) | exact HB.out)) hb)
            clear HO_0
            clear HL436_5
            clear HO439
            clear BK429
            clear BK440
            clear HB
            have HO_0 := n0_
            have HL436_5 := n1_
            have HO439 := n2_
            have BK429 := n3_
            have BK440 := n4_
            have HB := n5_
            clear n0_ n1_ n2_ n3_ n4_ n5_
            (try clear hb)
            (try clear hb2)
            (try clear hk)
            (try clear hi)
            refine hK.out _ _ ⟨(blk_cell BK440.out 0).trans rfl, (blk_cell BK440.out 1).trans rfl, (blk_cell BK440.out 2).trans rfl, (blk_cell BK440.out 3).trans rfl, (blk_cell BK440.out 4).trans rfl, (blk_cell BK440.out 5).trans rfl, (blk_cell BK429.out 0).trans rfl, (blk_cell BK429.out 1).trans rfl, (blk_cell BK429.out 2).trans rfl, (blk_cell BK429.out 3).trans rfl, HS10_, HS11_, HS12_, HS13_, HS14_, HS15_⟩ (fun hHeld => ?_)
            clear hK K
            refine norm_ (a' := ?_) ?_ ?_
            rotate_left
            ·show Act.put _ (some 58) _ = _
             simp only [Act.put, List.setIfInBounds_toArray, List.set_cons_zero, List.set_cons_succ, i64_w, i32_w]
             rfl
            refine pure_ (i := 2) (N := some 59) (v := ?_) (a' := ?_) #[true, true, true, false, false, false, false, false, false, false, false, false, false, false, false] rfl rfl (any_of HT_.out (by kernel_rfl)) (fun _ _ _ h => h) (Or.inl ⟨by rfl, ?_⟩) ?_ ?_
            rotate_left
            ·intro w'
             go_simp
             with_reducible rfl
            rotate_left
            ·simp only [Act.put, List.setIfInBounds_toArray, List.set_cons_zero, List.set_cons_succ, i64_w, i32_w]
             rfl
            refine pure_ (i := 3) (N := some 60) (v := ?_) (a' := ?_) #[true, true, true, true, false, false, false, false, false, false, false, false, false, false, false] rfl rfl (any_of HT_.out (by kernel_rfl)) (fun _ _ _ h => h) (Or.inl ⟨by rfl, ?_⟩) ?_ ?_
            rotate_left
            ·intro w'
             go_simp
             with_reducible rfl
            rotate_left
            ·simp only [Act.put, List.setIfInBounds_toArray, List.set_cons_zero, List.set_cons_succ, i64_w, i32_w]
             rfl
            refine pure_ (i := 7) (N := some 64) (v := ?_) (a' := ?_) #[true, true, true, true, false, false, false, true, false, false, false, false, false, false, false] rfl rfl (any_of HT_.out (by kernel_rfl)) (fun _ _ _ h => h) (Or.inl ⟨by rfl, ?_⟩) ?_ ?_
            rotate_left
            ·intro w'
             go_simp
             with_reducible rfl
            rotate_left
            ·simp only [Act.put, List.setIfInBounds_toArray, List.set_cons_zero, List.set_cons_succ, i64_w, i32_w]
             rfl
            refine pure_ (i := 8) (N := some 65) (v := ?_) (a' := ?_) #[true, true, true, true, false, false, false, true, true, false, false, false, false, false, false] rfl rfl (any_of HT_.out (by kernel_rfl)) (fun _ _ _ h => h) (Or.inl ⟨by rfl, ?_⟩) ?_ ?_
            rotate_left
            ·intro w'
             go_simp
             with_reducible rfl
            rotate_left
            ·simp only [Act.put, List.setIfInBounds_toArray, List.set_cons_zero, List.set_cons_succ, i64_w, i32_w]
             rfl
            refine pure_ (i := 9) (N := some 66) (v := ?_) (a' := ?_) #[true, true, true, true, false, false, false, true, true, true, false, false, false, false, false] rfl rfl (any_of HT_.out (by kernel_rfl)) (fun _ _ _ h => h) (Or.inl ⟨by rfl, ?_⟩) ?_ ?_
            rotate_left
            ·intro w'
             go_simp
             with_reducible rfl
            rotate_left
            ·simp only [Act.put, List.setIfInBounds_toArray, List.set_cons_zero, List.set_cons_succ, i64_w, i32_w]
             rfl
            refine take_ (i := 4) (N := some 61) (v := ?_) (a' := ?_) #[true, true, true, true, true, false, false, true, true, true, false, false, false, false, false] rfl rfl (take_ofW HT_.out HW_.out (by kernel_rfl)) (fun _ _ _ h => h) (Or.inl ⟨by rfl, ?_⟩) hHeld ?_ ?_
            rotate_left
            ·rintro w' ⟨s0, s1, s2, s3, s4, s5, s6, s7, s8, s9, s10, s11, s12, s13, s14, s15⟩
             go_simp
             with_reducible rfl
            rotate_left
            ·simp only [Act.put, List.setIfInBounds_toArray, List.set_cons_zero, List.set_cons_succ, i64_w, i32_w]
             rfl
            refine take_ (i := 5) (N := some 62) (v := ?_) (a' := ?_) #[true, true, true, true, true, true, false, true, true, true, false, false, false, false, false] rfl rfl (take_ofW HT_.out HW_.out (by kernel_rfl)) (fun _ _ _ h => h) (Or.inl ⟨by rfl, ?_⟩) hHeld ?_ ?_
            rotate_left
            ·rintro w' ⟨s0, s1, s2, s3, s4, s5, s6, s7, s8, s9, s10, s11, s12, s13, s14, s15⟩
             go_simp
             with_reducible rfl
            rotate_left
            ·simp only [Act.put, List.setIfInBounds_toArray, List.set_cons_zero, List.set_cons_succ, i64_w, i32_w]
             rfl
            refine take_ (i := 10) (N := some 67) (v := ?_) (a' := ?_) #[true, true, true, true, true, true, false, true, true, true, true, false, false, false, false] rfl rfl (take_ofW HT_.out HW_.out (by kernel_rfl)) (fun _ _ _ h => h) (Or.inl ⟨by rfl, ?_⟩) hHeld ?_ ?_
            rotate_left
            ·rintro w' ⟨s0, s1, s2, s3, s4, s5, s6, s7, s8, s9, s10, s11, s12, s13, s14, s15⟩
             go_simp
             with_reducible rfl
            rotate_left
            ·simp only [Act.put, List.setIfInBounds_toArray, List.set_cons_zero, List.set_cons_succ, i64_w, i32_w]
             rfl
            refine take_ (i := 11) (N := some 68) (v := ?_) (a' := ?_) #[true, true, true, true, true, true, false, true, true, true, true, true, false, false, false] rfl rfl (take_ofW HT_.out HW_.out (by kernel_rfl)) (fun _ _ _ h => h) (Or.inl ⟨by rfl, ?_⟩) hHeld ?_ ?_
            rotate_left
            ·rintro w' ⟨s0, s1, s2, s3, s4, s5, s6, s7, s8, s9, s10, s11, s12, s13, s14, s15⟩
             go_simp
             with_reducible rfl
            rotate_left
            ·simp only [Act.put, List.setIfInBounds_toArray, List.set_cons_zero, List.set_cons_succ, i64_w, i32_w]
             rfl
            refine one_ (i := 6) (N := some 63) #[true, true, true, true, true, true, true, true, true, true, true, true, false, false, false] rfl rfl (one_of HT_.out (by kernel_rfl)) (by decide) (fun K hK => ?_)
            refine goes_ Tryd.func22 (by kernel_rfl) rfl #[.agg #[.int .i64 4, .int .i64 0, .string (⟨#[]⟩ : ByteArray), .int .i64 0, .int .i64 0, .slice Ao36 y437.length co36], .agg #[.slice A1_0 l1_0.length c1_0, .int .i64 a1_1, .int .i64 a1_2, .int .i64 a1_3]] (by rfl) rfl rfl (by (try simp only [List.map_toArray, List.map_cons, List.map_nil]); first | done | rfl | (simp only [List.length_drop, List.length_take]; rfl)) ?_
            with_reducible refine (sizarlaw12_holds.calls kj8 4 0 (⟨#[]⟩ : ByteArray) 0 0 _ _ y437 _ _ l1_0 a1_1 a1_2 a1_3 t442 _ ?side1 ?side2 ?side3 ?side4 A42.out ?sideK).mono ?_
            (case sideK => exact HKT.out.below (by repeat (first | (with_reducible first | exact HB.out | apply below_alloc | apply pw_below_drewN | apply below_drew1 | refine below_set ?_ GE429.out | refine below_set ?_ GE440.out) | exact HB.out)))
            (case side1 => repeat (first | exact (Kd.N_reads' HO439.out).2.2 | (with_reducible refine Kd.C_alloc ?_ _) | (with_reducible refine Kd.C_drewN ?_ _) | (with_reducible refine Kd.C_drew ?_)))
            (case side2 => exact (Kd.N_reads' HO439.out).2.1)
            (case side3 => repeat (first | exact (Kd.C_below HR1_0.out HB.out) | (with_reducible refine Kd.C_alloc ?_ _) | (with_reducible refine Kd.C_drewN ?_ _) | (with_reducible refine Kd.C_drew ?_)))
            (case side4 => exact HC1_0.out)
            rintro e w47 ⟨rfl, hb⟩
            have HL443_5 := Aside0.mk (Kd.V_below (by (with_reducible repeat (first | apply Kd.V_alloc | apply Kd.V_drewN | apply Kd.V_drew)); exact HL443_5.out) hb)
            have HR443_5 := Aside0.mk (Kd.V_reads' HL443_5.out).2.2
            have HS10_ := (hb.cell (World.block_lt_of_cell? _ _ (hHeld.2.2.2.2.2.2.2.2.2.2.1))).trans (hHeld.2.2.2.2.2.2.2.2.2.2.1)
            have HS11_ := (hb.cell (World.block_lt_of_cell? _ _ (hHeld.2.2.2.2.2.2.2.2.2.2.2.1))).trans (hHeld.2.2.2.2.2.2.2.2.2.2.2.1)
            have HS12_ := (hb.cell (World.block_lt_of_cell? _ _ (hHeld.2.2.2.2.2.2.2.2.2.2.2.2.1))).trans (hHeld.2.2.2.2.2.2.2.2.2.2.2.2.1)
            have HS13_ := (hb.cell (World.block_lt_of_cell? _ _ (hHeld.2.2.2.2.2.2.2.2.2.2.2.2.2.1))).trans (hHeld.2.2.2.2.2.2.2.2.2.2.2.2.2.1)
            have HS14_ := (hb.cell (World.block_lt_of_cell? _ _ (hHeld.2.2.2.2.2.2.2.2.2.2.2.2.2.2.1))).trans (hHeld.2.2.2.2.2.2.2.2.2.2.2.2.2.2.1)
            have HS15_ := (hb.cell (World.block_lt_of_cell? _ _ (hHeld.2.2.2.2.2.2.2.2.2.2.2.2.2.2.2))).trans (hHeld.2.2.2.2.2.2.2.2.2.2.2.2.2.2.2)
            refine ⟨_, rfl, ?_⟩
            have n0_ := Aside0.mk (Kd.V_below (by (with_reducible repeat (first | apply Kd.V_alloc | apply Kd.V_drewN | apply Kd.V_drew)); exact HO_0.out) hb)
            have n1_ := Aside0.mk (Kd.V_below (by (with_reducible repeat (first | apply Kd.V_alloc | apply Kd.V_drewN | apply Kd.V_drew)); exact HL436_5.out) hb)
            have n2_ := Aside0.mk (Kd.N_below (by (with_reducible repeat (first | apply Kd.N_alloc | apply Kd.N_drewN | apply Kd.N_drew)); exact HO439.out) hb)
            have n3_ := Aside0.mk (blk_below (g := gb429) (o := .cells #[.slice A1_0 l1_0.length c1_0, .int .i64 a1_1, .int .i64 a1_2, .int .i64 a1_3] 29 (0, 0)) (by (with_reducible repeat (first | refine blk_drewN ?_ _ | refine blk_drew ?_ | refine blk_alloc ?_ _)); exact BK429.out) hb)
            have n4_ := Aside0.mk (blk_below (g := gb440) (o := .cells #[.int .i64 4, .int .i64 0, .string (⟨#[]⟩ : ByteArray), .int .i64 0, .int .i64 0, .slice Ao36 y437.length co36] 24 (0, 0)) (by (with_reducible repeat (first | refine blk_drewN ?_ _ | refine blk_drew ?_ | refine blk_alloc ?_ _)); exact BK440.out) hb)
            have n5_ := Aside0.mk (below_step (by repeat (first | (with_reducible first | exact HB.out | apply below_alloc | apply pw_below_drewN | apply below_drew1 | refine below_set ?_ GE429.out | refine below_set ?_ GE440.out) | exact HB.out)) hb)
            clear HO_0
            clear HL436_5
            clear HO439
            clear BK429
            clear BK440
            clear HB
            have HO_0 := n0_
            have HL436_5 := n1_
            have HO439 := n2_
            have BK429 := n3_
            have BK440 := n4_
            have HB := n5_
            clear n0_ n1_ n2_ n3_ n4_ n5_
            (try clear hb)
            (try clear hb2)
            (try clear hk)
            (try clear hi)
            refine hK.out _ _ ⟨(blk_cell BK440.out 0).trans rfl, (blk_cell BK440.out 1).trans rfl, (blk_cell BK440.out 2).trans rfl, (blk_cell BK440.out 3).trans rfl, (blk_cell BK440.out 4).trans rfl, (blk_cell BK440.out 5).trans rfl, (blk_cell BK429.out 0).trans rfl, (blk_cell BK429.out 1).trans rfl, (blk_cell BK429.out 2).trans rfl, (blk_cell BK429.out 3).trans rfl, HS10_, HS11_, HS12_, HS13_, HS14_, HS15_⟩ (fun hHeld => ?_)
            clear hK K
            refine norm_ (a' := ?_) ?_ ?_
            rotate_left
            ·show Act.put _ (some 63) _ = _
             simp only [Act.put, List.setIfInBounds_toArray, List.set_cons_zero, List.set_cons_succ, i64_w, i32_w]
             rfl
            refine one_ (i := 12) (N := some 69) #[true, true, true, true, true, true, true, true, true, true, true, true, true, false, false] rfl rfl (one_of HT_.out (by kernel_rfl)) (by decide) (fun K hK => ?_)
            refine goes_ Tryd.func22 (by kernel_rfl) rfl #[.agg #[.int .i64 ((rd_T24 l0 x8_1).f0), .int .i64 ((rd_T24 l0 x8_1).f1), .string ((rd_T24 l0 x8_1).f2), .int .i64 ((rd_T24 l0 x8_1).f3), .int .i64 ((rd_T24 l0 x8_1).f4), .slice A443_5 ((rd_T24 l0 x8_1).f5).length c443_5], .agg #[.slice A1_0 l1_0.length c1_0, .int .i64 a1_1, .int .i64 a1_2, .int .i64 a1_3]] (by rfl) rfl rfl (by (try simp only [List.map_toArray, List.map_cons, List.map_nil]); first | done | rfl | (simp only [List.length_drop, List.length_take]; rfl)) ?_
            with_reducible refine (sizarlaw12_holds.calls kj8 ((rd_T24 l0 x8_1).f0) ((rd_T24 l0 x8_1).f1) ((rd_T24 l0 x8_1).f2) ((rd_T24 l0 x8_1).f3) ((rd_T24 l0 x8_1).f4) _ _ ((rd_T24 l0 x8_1).f5) _ _ l1_0 a1_1 a1_2 a1_3 t444 _ ?side1 ?side2 ?side3 ?side4 A43.out ?sideK).mono ?_
            (case sideK => exact HKT.out.below (by repeat (first | (with_reducible first | exact HB.out | apply below_alloc | apply pw_below_drewN | apply below_drew1 | refine below_set ?_ GE429.out | refine below_set ?_ GE440.out) | exact HB.out)))
            (case side1 => repeat (first | exact (by repeat (first | (with_reducible exact HR443_5.out) | (with_reducible refine Kd.C_alloc ?_ _) | (with_reducible refine Kd.C_drewN ?_ _) | (with_reducible refine Kd.C_drew ?_) | exact HR443_5.out)) | (with_reducible refine Kd.C_alloc ?_ _) | (with_reducible refine Kd.C_drewN ?_ _) | (with_reducible refine Kd.C_drew ?_)))
            (case side2 => exact HC443_5.out)
            (case side3 => repeat (first | exact (Kd.C_below HR1_0.out HB.out) | (with_reducible refine Kd.C_alloc ?_ _) | (with_reducible refine Kd.C_drewN ?_ _) | (with_reducible refine Kd.C_drew ?_)))
            (case side4 => exact HC1_0.out)
            rintro e w48 ⟨rfl, hb⟩
            have HS10_ := (hb.cell (World.block_lt_of_cell? _ _ (hHeld.2.2.2.2.2.2.2.2.2.2.1))).trans (hHeld.2.2.2.2.2.2.2.2.2.2.1)
            have HS11_ := (hb.cell (World.block_lt_of_cell? _ _ (hHeld.2.2.2.2.2.2.2.2.2.2.2.1))).trans (hHeld.2.2.2.2.2.2.2.2.2.2.2.1)
            have HS12_ := (hb.cell (World.block_lt_of_cell? _ _ (hHeld.2.2.2.2.2.2.2.2.2.2.2.2.1))).trans (hHeld.2.2.2.2.2.2.2.2.2.2.2.2.1)
            have HS13_ := (hb.cell (World.block_lt_of_cell? _ _ (hHeld.2.2.2.2.2.2.2.2.2.2.2.2.2.1))).trans (hHeld.2.2.2.2.2.2.2.2.2.2.2.2.2.1)
            have HS14_ := (hb.cell (World.block_lt_of_cell? _ _ (hHeld.2.2.2.2.2.2.2.2.2.2.2.2.2.2.1))).trans (hHeld.2.2.2.2.2.2.2.2.2.2.2.2.2.2.1)
            have HS15_ := (hb.cell (World.block_lt_of_cell? _ _ (hHeld.2.2.2.2.2.2.2.2.2.2.2.2.2.2.2))).trans (hHeld.2.2.2.2.2.2.2.2.2.2.2.2.2.2.2)
            refine ⟨_, rfl, ?_⟩
            have n0_ := Aside0.mk (Kd.V_below (by (with_reducible repeat (first | apply Kd.V_alloc | apply Kd.V_drewN | apply Kd.V_drew)); exact HO_0.out) hb)
            have n1_ := Aside0.mk (Kd.V_below (by (with_reducible repeat (first | apply Kd.V_alloc | apply Kd.V_drewN | apply Kd.V_drew)); exact HL436_5.out) hb)
            have n2_ := Aside0.mk (Kd.N_below (by (with_reducible repeat (first | apply Kd.N_alloc | apply Kd.N_drewN | apply Kd.N_drew)); exact HO439.out) hb)
            have n3_ := Aside0.mk (Kd.V_below (by (with_reducible repeat (first | apply Kd.V_alloc | apply Kd.V_drewN | apply Kd.V_drew)); exact HL443_5.out) hb)
            have n4_ := Aside0.mk (blk_below (g := gb429) (o := .cells #[.slice A1_0 l1_0.length c1_0, .int .i64 a1_1, .int .i64 a1_2, .int .i64 a1_3] 29 (0, 0)) (by (with_reducible repeat (first | refine blk_drewN ?_ _ | refine blk_drew ?_ | refine blk_alloc ?_ _)); exact BK429.out) hb)
            have n5_ := Aside0.mk (blk_below (g := gb440) (o := .cells #[.int .i64 4, .int .i64 0, .string (⟨#[]⟩ : ByteArray), .int .i64 0, .int .i64 0, .slice Ao36 y437.length co36] 24 (0, 0)) (by (with_reducible repeat (first | refine blk_drewN ?_ _ | refine blk_drew ?_ | refine blk_alloc ?_ _)); exact BK440.out) hb)
            have n6_ := Aside0.mk (Kd.C_below (by repeat (first | (with_reducible exact HR443_5.out) | (with_reducible refine Kd.C_alloc ?_ _) | (with_reducible refine Kd.C_drewN ?_ _) | (with_reducible refine Kd.C_drew ?_) | exact HR443_5.out)) hb)
            have n7_ := Aside0.mk (below_step (by repeat (first | (with_reducible first | exact HB.out | apply below_alloc | apply pw_below_drewN | apply below_drew1 | refine below_set ?_ GE429.out | refine below_set ?_ GE440.out) | exact HB.out)) hb)
            clear HO_0
            clear HL436_5
            clear HO439
            clear HL443_5
            clear BK429
            clear BK440
            clear HR443_5
            clear HB
            have HO_0 := n0_
            have HL436_5 := n1_
            have HO439 := n2_
            have HL443_5 := n3_
            have BK429 := n4_
            have BK440 := n5_
            have HR443_5 := n6_
            have HB := n7_
            clear n0_ n1_ n2_ n3_ n4_ n5_ n6_ n7_
            (try clear hb)
            (try clear hb2)
            (try clear hk)
            (try clear hi)
            refine hK.out _ _ ⟨(blk_cell BK440.out 0).trans rfl, (blk_cell BK440.out 1).trans rfl, (blk_cell BK440.out 2).trans rfl, (blk_cell BK440.out 3).trans rfl, (blk_cell BK440.out 4).trans rfl, (blk_cell BK440.out 5).trans rfl, (blk_cell BK429.out 0).trans rfl, (blk_cell BK429.out 1).trans rfl, (blk_cell BK429.out 2).trans rfl, (blk_cell BK429.out 3).trans rfl, HS10_, HS11_, HS12_, HS13_, HS14_, HS15_⟩ (fun hHeld => ?_)
            clear hK K
            refine norm_ (a' := ?_) ?_ ?_
            rotate_left
            ·show Act.put _ (some 69) _ = _
             simp only [Act.put, List.setIfInBounds_toArray, List.set_cons_zero, List.set_cons_succ, i64_w, i32_w]
             rfl
            refine pure_ (i := 13) (N := some 70) (v := ?_) (a' := ?_) #[true, true, true, true, true, true, true, true, true, true, true, true, true, true, false] rfl rfl (any_of HT_.out (by kernel_rfl)) (fun _ _ _ h => h) (Or.inl ⟨by rfl, ?_⟩) ?_ ?_
            rotate_left
            ·intro w'
             go_simp
             with_reducible rfl
            rotate_left
            ·simp only [Act.put, List.setIfInBounds_toArray, List.set_cons_zero, List.set_cons_succ, i64_w, i32_w]
             rfl
            refine pure_ (i := 14) (N := some 71) (v := ?_) (a' := ?_) #[true, true, true, true, true, true, true, true, true, true, true, true, true, true, true] rfl rfl (any_of HT_.out (by kernel_rfl)) (fun _ _ _ h => h) (Or.inl ⟨by rfl, ?_⟩) ?_ ?_
            rotate_left
            ·intro w'
             go_simp
             with_reducible rfl
            rotate_left
            ·simp only [Act.put, List.setIfInBounds_toArray, List.set_cons_zero, List.set_cons_succ, i64_w, i32_w]
             rfl
            refine done_ (done_of HT_.out (by kernel_rfl)) ?_
            try go_wp2
            go_meet
            case rel => exact ⟨_, ((t442 == t444)), (by first | rfl | (simp; done) | (simp [*]; done)), H', ⟨by have := HK1.out; have := HJ8.out; first | omega | exact Nat.le_refl _⟩, ⟨by (with_reducible repeat (first | apply Kd.V_alloc | apply Kd.V_drewN | apply Kd.V_drew)); exact HO_0.out⟩, ⟨by (with_reducible repeat (first | apply Kd.N_alloc | apply Kd.N_drewN | apply Kd.N_drew)); exact HO439.out⟩, ⟨by (with_reducible repeat (first | refine blk_drewN ?_ _ | refine blk_drew ?_ | refine blk_alloc ?_ _)); exact BK429.out⟩, ⟨by (with_reducible repeat (first | refine blk_drewN ?_ _ | refine blk_drew ?_ | refine blk_alloc ?_ _)); exact BK440.out⟩, ⟨by repeat (first | (with_reducible first | exact HB.out | apply below_alloc | apply pw_below_drewN | apply below_drew1 | refine below_set ?_ GE429.out | refine below_set ?_ GE440.out) | exact HB.out)⟩⟩
           ·rw [if_neg c41] at H
            have c41b0 : (t441 == 0) = false := beq_eq_false_iff_ne.mpr c41
            have c41b1 : (t441 != 0) = true := bne_iff_ne.mpr c41
            (first | rw [c41b0] | (simp only [i64_w, i32_w]; rw [c41b0]) | skip)
            have H' := Aside0.mk H
            clear H
            try go_wp2
            have n0_ : Aside0 (Kd.V k24 24 ((((((w37.setCell ⟨gb440, 0, none⟩ (.int .i64 4)).setCell ⟨gb440, 1, none⟩ (.int .i64 0)).setCell ⟨gb440, 2, none⟩ (.string (⟨#[]⟩ : ByteArray))).setCell ⟨gb440, 3, none⟩ (.int .i64 0)).setCell ⟨gb440, 4, none⟩ (.int .i64 0)).setCell ⟨gb440, 5, none⟩ (.slice Ao36 y437.length co36)) w.heap.size (fun k_ => (P0_ k_ ∨ w.heap.size ≤ k_) ∧ some k_ ≠ (.slice Ao36 y437.length co36 : Value).ownBlock ∧ k_ ≠ gb429 ∧ k_ ≠ gb440) (.slice (some ad436) l0.length c0) l0) := ⟨by (with_reducible repeat (first | apply Kd.V_alloc | apply Kd.V_drewN | apply Kd.V_drew)); exact Kd.V_mono (Kd.V_far (p := ⟨gb440, 5, none⟩) (Kd.V_far (p := ⟨gb440, 4, none⟩) (Kd.V_far (p := ⟨gb440, 3, none⟩) (Kd.V_far (p := ⟨gb440, 2, none⟩) (Kd.V_far (p := ⟨gb440, 1, none⟩) (Kd.V_far (p := ⟨gb440, 0, none⟩) (Kd.V_mono HO_0.out (fun k_ hk => (⟨hk, hk.2⟩ : _ ∧ k_ ≠ gb440))) (fun _ hk => hk.2) (.int .i64 4)) (fun _ hk => hk.2) (.int .i64 0)) (fun _ hk => hk.2) (.string (⟨#[]⟩ : ByteArray))) (fun _ hk => hk.2) (.int .i64 0)) (fun _ hk => hk.2) (.int .i64 0)) (fun _ hk => hk.2) (.slice Ao36 y437.length co36)) (fun _ hk => ⟨hk.1.1.1.1, ⟨hk.1.1.2, ⟨hk.1.1.1.2, hk.1.2⟩⟩⟩)⟩
            have n1_ : Aside0 (Kd.V k24 24 ((((((w37.setCell ⟨gb440, 0, none⟩ (.int .i64 4)).setCell ⟨gb440, 1, none⟩ (.int .i64 0)).setCell ⟨gb440, 2, none⟩ (.string (⟨#[]⟩ : ByteArray))).setCell ⟨gb440, 3, none⟩ (.int .i64 0)).setCell ⟨gb440, 4, none⟩ (.int .i64 0)).setCell ⟨gb440, 5, none⟩ (.slice Ao36 y437.length co36)) w.heap.size (fun k_ => (P0_ k_ ∨ w.heap.size ≤ k_) ∧ some k_ ≠ (.slice Ao36 y437.length co36 : Value).ownBlock ∧ k_ ≠ gb429 ∧ k_ ≠ gb440) (.slice A436_5 ((rd_T24 l0 x8_1).f5).length c436_5) ((rd_T24 l0 x8_1).f5)) := ⟨by (with_reducible repeat (first | apply Kd.V_alloc | apply Kd.V_drewN | apply Kd.V_drew)); exact Kd.V_mono (Kd.V_far (p := ⟨gb440, 5, none⟩) (Kd.V_far (p := ⟨gb440, 4, none⟩) (Kd.V_far (p := ⟨gb440, 3, none⟩) (Kd.V_far (p := ⟨gb440, 2, none⟩) (Kd.V_far (p := ⟨gb440, 1, none⟩) (Kd.V_far (p := ⟨gb440, 0, none⟩) (Kd.V_mono HL436_5.out (fun k_ hk => (⟨hk, hk.2⟩ : _ ∧ k_ ≠ gb440))) (fun _ hk => hk.2) (.int .i64 4)) (fun _ hk => hk.2) (.int .i64 0)) (fun _ hk => hk.2) (.string (⟨#[]⟩ : ByteArray))) (fun _ hk => hk.2) (.int .i64 0)) (fun _ hk => hk.2) (.int .i64 0)) (fun _ hk => hk.2) (.slice Ao36 y437.length co36)) (fun _ hk => ⟨hk.1.1.1.1, ⟨hk.1.1.2, ⟨hk.1.1.1.2, hk.1.2⟩⟩⟩)⟩
            have n2_ : Aside0 (Kd.N k24 24 ((((((w37.setCell ⟨gb440, 0, none⟩ (.int .i64 4)).setCell ⟨gb440, 1, none⟩ (.int .i64 0)).setCell ⟨gb440, 2, none⟩ (.string (⟨#[]⟩ : ByteArray))).setCell ⟨gb440, 3, none⟩ (.int .i64 0)).setCell ⟨gb440, 4, none⟩ (.int .i64 0)).setCell ⟨gb440, 5, none⟩ (.slice Ao36 y437.length co36)) w.heap.size (fun k_ => (P0_ k_ ∨ w.heap.size ≤ k_) ∧ k_ ≠ gb429 ∧ k_ ≠ gb440) (.slice Ao36 y437.length co36) y437) := ⟨by (with_reducible repeat (first | apply Kd.N_alloc | apply Kd.N_drewN | apply Kd.N_drew)); exact Kd.N_mono (Kd.N_far (p := ⟨gb440, 5, none⟩) (Kd.N_far (p := ⟨gb440, 4, none⟩) (Kd.N_far (p := ⟨gb440, 3, none⟩) (Kd.N_far (p := ⟨gb440, 2, none⟩) (Kd.N_far (p := ⟨gb440, 1, none⟩) (Kd.N_far (p := ⟨gb440, 0, none⟩) (Kd.N_mono HO439.out (fun k_ hk => (⟨hk, hk.2⟩ : _ ∧ k_ ≠ gb440))) (fun _ hk => hk.2) (.int .i64 4)) (fun _ hk => hk.2) (.int .i64 0)) (fun _ hk => hk.2) (.string (⟨#[]⟩ : ByteArray))) (fun _ hk => hk.2) (.int .i64 0)) (fun _ hk => hk.2) (.int .i64 0)) (fun _ hk => hk.2) (.slice Ao36 y437.length co36)) (fun _ hk => ⟨hk.1.1.1, ⟨hk.1.1.2, hk.1.2⟩⟩)⟩
            have n3_ : Aside0 (((((((w37.setCell ⟨gb440, 0, none⟩ (.int .i64 4)).setCell ⟨gb440, 1, none⟩ (.int .i64 0)).setCell ⟨gb440, 2, none⟩ (.string (⟨#[]⟩ : ByteArray))).setCell ⟨gb440, 3, none⟩ (.int .i64 0)).setCell ⟨gb440, 4, none⟩ (.int .i64 0)).setCell ⟨gb440, 5, none⟩ (.slice Ao36 y437.length co36)).heap[gb429]? = some (.cells #[.slice A1_0 l1_0.length c1_0, .int .i64 a1_1, .int .i64 a1_2, .int .i64 a1_3] 29 (0, 0))) := ⟨by (with_reducible repeat (first | refine blk_drewN ?_ _ | refine blk_drew ?_ | refine blk_alloc ?_ _)); refine blk_far ?_ NB429_440.out _; (with_reducible repeat (first | refine blk_drewN ?_ _ | refine blk_drew ?_ | refine blk_alloc ?_ _)); refine blk_far ?_ NB429_440.out _; (with_reducible repeat (first | refine blk_drewN ?_ _ | refine blk_drew ?_ | refine blk_alloc ?_ _)); refine blk_far ?_ NB429_440.out _; (with_reducible repeat (first | refine blk_drewN ?_ _ | refine blk_drew ?_ | refine blk_alloc ?_ _)); refine blk_far ?_ NB429_440.out _; (with_reducible repeat (first | refine blk_drewN ?_ _ | refine blk_drew ?_ | refine blk_alloc ?_ _)); refine blk_far ?_ NB429_440.out _; (with_reducible repeat (first | refine blk_drewN ?_ _ | refine blk_drew ?_ | refine blk_alloc ?_ _)); refine blk_far ?_ NB429_440.out _; (with_reducible repeat (first | refine blk_drewN ?_ _ | refine blk_drew ?_ | refine blk_alloc ?_ _)); exact BK429.out⟩
            have n4_ : Aside0 (((((((w37.setCell ⟨gb440, 0, none⟩ (.int .i64 4)).setCell ⟨gb440, 1, none⟩ (.int .i64 0)).setCell ⟨gb440, 2, none⟩ (.string (⟨#[]⟩ : ByteArray))).setCell ⟨gb440, 3, none⟩ (.int .i64 0)).setCell ⟨gb440, 4, none⟩ (.int .i64 0)).setCell ⟨gb440, 5, none⟩ (.slice Ao36 y437.length co36)).heap[gb440]? = some (.cells #[.int .i64 4, .int .i64 0, .string (⟨#[]⟩ : ByteArray), .int .i64 0, .int .i64 0, .slice Ao36 y437.length co36] 24 (0, 0))) := ⟨by (with_reducible repeat (first | refine blk_drewN ?_ _ | refine blk_drew ?_ | refine blk_alloc ?_ _)); refine blk_put (cs := #[.int .i64 4, .int .i64 0, .string (⟨#[]⟩ : ByteArray), .int .i64 0, .int .i64 0, .slice none 0 0]) ?_ 5 _ rfl; (with_reducible repeat (first | refine blk_drewN ?_ _ | refine blk_drew ?_ | refine blk_alloc ?_ _)); refine blk_put (cs := #[.int .i64 4, .int .i64 0, .string (⟨#[]⟩ : ByteArray), .int .i64 0, .int .i64 0, .slice none 0 0]) ?_ 4 _ rfl; (with_reducible repeat (first | refine blk_drewN ?_ _ | refine blk_drew ?_ | refine blk_alloc ?_ _)); refine blk_put (cs := #[.int .i64 4, .int .i64 0, .string (⟨#[]⟩ : ByteArray), .int .i64 0, .int .i64 0, .slice none 0 0]) ?_ 3 _ rfl; (with_reducible repeat (first | refine blk_drewN ?_ _ | refine blk_drew ?_ | refine blk_alloc ?_ _)); refine blk_put (cs := #[.int .i64 4, .int .i64 0, .string (⟨#[]⟩ : ByteArray), .int .i64 0, .int .i64 0, .slice none 0 0]) ?_ 2 _ rfl; (with_reducible repeat (first | refine blk_drewN ?_ _ | refine blk_drew ?_ | refine blk_alloc ?_ _)); refine blk_put (cs := #[.int .i64 4, .int .i64 0, .string (⟨#[]⟩ : ByteArray), .int .i64 0, .int .i64 0, .slice none 0 0]) ?_ 1 _ rfl; (with_reducible repeat (first | refine blk_drewN ?_ _ | refine blk_drew ?_ | refine blk_alloc ?_ _)); refine blk_put (cs := #[.int .i64 0, .int .i64 0, .string (⟨#[]⟩ : ByteArray), .int .i64 0, .int .i64 0, .slice none 0 0]) ?_ 0 _ rfl; (with_reducible repeat (first | refine blk_drewN ?_ _ | refine blk_drew ?_ | refine blk_alloc ?_ _)); exact BK440.out⟩
            have n5_ : Aside0 (Below w.heap.size w ((((((w37.setCell ⟨gb440, 0, none⟩ (.int .i64 4)).setCell ⟨gb440, 1, none⟩ (.int .i64 0)).setCell ⟨gb440, 2, none⟩ (.string (⟨#[]⟩ : ByteArray))).setCell ⟨gb440, 3, none⟩ (.int .i64 0)).setCell ⟨gb440, 4, none⟩ (.int .i64 0)).setCell ⟨gb440, 5, none⟩ (.slice Ao36 y437.length co36))) := ⟨by repeat (first | (with_reducible first | exact HB.out | apply below_alloc | apply pw_below_drewN | apply below_drew1 | refine below_set ?_ GE429.out | refine below_set ?_ GE440.out) | exact HB.out)⟩
            (try clear HO_0)
            (try clear HL436_5)
            (try clear HO439)
            (try clear BK429)
            (try clear BK440)
            (try clear HB)
            generalize ((((((w37.setCell ⟨gb440, 0, none⟩ (.int .i64 4)).setCell ⟨gb440, 1, none⟩ (.int .i64 0)).setCell ⟨gb440, 2, none⟩ (.string (⟨#[]⟩ : ByteArray))).setCell ⟨gb440, 3, none⟩ (.int .i64 0)).setCell ⟨gb440, 4, none⟩ (.int .i64 0)).setCell ⟨gb440, 5, none⟩ (.slice Ao36 y437.length co36)) = w49 at n0_ n1_ n2_ n3_ n4_ n5_ ⊢
            have HO_0 := n0_
            have HL436_5 := n1_
            have HO439 := n2_
            have BK429 := n3_
            have BK440 := n4_
            have HB := n5_
            clear n0_ n1_ n2_ n3_ n4_ n5_
            have n0_ := Aside0.mk (Kd.V_drew HO_0.out)
            have n1_ := Aside0.mk (Kd.V_drew HL436_5.out)
            have n2_ := Aside0.mk (Kd.N_drew HO439.out)
            have n3_ := Aside0.mk (blk_drew BK429.out)
            have n4_ := Aside0.mk (blk_drew BK440.out)
            have n5_ := Aside0.mk (below_drew1 HB.out)
            clear HO_0
            clear HL436_5
            clear HO439
            clear BK429
            clear BK440
            clear HB
            have HO_0 := n0_
            have HL436_5 := n1_
            have HO439 := n2_
            have BK429 := n3_
            have BK440 := n4_
            have HB := n5_
            clear n0_ n1_ n2_ n3_ n4_ n5_
            refine start_ (n := 15) (S := fun w' => w'.cell? ⟨gb440, 0, none⟩ = some (.int .i64 4) ∧ w'.cell? ⟨gb440, 1, none⟩ = some (.int .i64 0) ∧ w'.cell? ⟨gb440, 2, none⟩ = some (.string (⟨#[]⟩ : ByteArray)) ∧ w'.cell? ⟨gb440, 3, none⟩ = some (.int .i64 0) ∧ w'.cell? ⟨gb440, 4, none⟩ = some (.int .i64 0) ∧ w'.cell? ⟨gb440, 5, none⟩ = some (.slice Ao36 y437.length co36)) (ds := []) #[false, false, false, false, false, false, false, false, false, false, false, false, false, false, false] (by kernel_rfl) rfl rfl ⟨(blk_cell BK440.out 0).trans rfl, (blk_cell BK440.out 1).trans rfl, (blk_cell BK440.out 2).trans rfl, (blk_cell BK440.out 3).trans rfl, (blk_cell BK440.out 4).trans rfl, (blk_cell BK440.out 5).trans rfl⟩ (fun hHeld => ?_); refine with_tabW sizarlaw12_RulesBoolean.tab10 sizarlaw12_RulesBoolean.bits10 (fun HT_ HW_ => ?_)
            generalize w49.drew = w50 at HO_0 HL436_5 HO439 BK429 BK440 HB hHeld ⊢
            refine take_ (i := 0) (N := some 57) (v := ?_) (a' := ?_) #[true, false, false, false, false, false, false, false, false, false, false, false, false, false, false] rfl rfl (take_ofW HT_.out HW_.out (by kernel_rfl)) (fun _ _ _ h => h) (Or.inl ⟨by rfl, ?_⟩) hHeld ?_ ?_
            rotate_left
            ·rintro w' ⟨s0, s1, s2, s3, s4, s5⟩
             go_simp
             with_reducible rfl
            rotate_left
            ·simp only [Act.put, List.setIfInBounds_toArray, List.set_cons_zero, List.set_cons_succ, i64_w, i32_w]
             rfl
            refine one_ (i := 1) (N := some 58) #[true, true, false, false, false, false, false, false, false, false, false, false, false, false, false] rfl rfl (one_of HT_.out (by kernel_rfl)) (by decide) (fun K hK => ?_)
            refine goes_ Tryd.func20 (by kernel_rfl) rfl #[.agg #[.int .i64 4, .int .i64 0, .string (⟨#[]⟩ : ByteArray), .int .i64 0, .int .i64 0, .slice Ao36 y437.length co36]] (by rfl) rfl rfl (by (try simp only [List.map_toArray, List.map_cons, List.map_nil]); first | done | rfl | (simp only [List.length_drop, List.length_take]; rfl)) ?_
            with_reducible refine (rules_Check.calls 4 0 (⟨#[]⟩ : ByteArray) 0 0 _ _ y437 t441 _ ?side1 ?side2 A40.out ?sideK).mono ?_
            (case sideK => exact HKT.out.below (by repeat (first | (with_reducible first | exact HB.out | apply below_alloc | apply pw_below_drewN | apply below_drew1 | refine below_set ?_ GE429.out | refine below_set ?_ GE440.out) | exact HB.out)))
            (case side1 => repeat (first | exact (Kd.N_reads' HO439.out).2.2 | (with_reducible refine Kd.C_alloc ?_ _) | (with_reducible refine Kd.C_drewN ?_ _) | (with_reducible refine Kd.C_drew ?_)))
            (case side2 => exact (Kd.N_reads' HO439.out).2.1)
            rintro e w51 ⟨rfl, hb⟩
            refine ⟨_, rfl, ?_⟩
            have n0_ := Aside0.mk (Kd.V_below (by (with_reducible repeat (first | apply Kd.V_alloc | apply Kd.V_drewN | apply Kd.V_drew)); exact HO_0.out) hb)
            have n1_ := Aside0.mk (Kd.V_below (by (with_reducible repeat (first | apply Kd.V_alloc | apply Kd.V_drewN | apply Kd.V_drew)); exact HL436_5.out) hb)
            have n2_ := Aside0.mk (Kd.N_below (by (with_reducible repeat (first | apply Kd.N_alloc | apply Kd.N_drewN | apply Kd.N_drew)); exact HO439.out) hb)
            have n3_ := Aside0.mk (blk_below (g := gb429) (o := .cells #[.slice A1_0 l1_0.length c1_0, .int .i64 a1_1, .int .i64 a1_2, .int .i64 a1_3] 29 (0, 0)) (by (with_reducible repeat (first | refine blk_drewN ?_ _ | refine blk_drew ?_ | refine blk_alloc ?_ _)); exact BK429.out) hb)
            have n4_ := Aside0.mk (blk_below (g := gb440) (o := .cells #[.int .i64 4, .int .i64 0, .string (⟨#[]⟩ : ByteArray), .int .i64 0, .int .i64 0, .slice Ao36 y437.length co36] 24 (0, 0)) (by (with_reducible repeat (first | refine blk_drewN ?_ _ | refine blk_drew ?_ | refine blk_alloc ?_ _)); exact BK440.out) hb)
            have n5_ := Aside0.mk (below_step (by repeat (first | (with_reducible first | exact HB.out | apply below_alloc | apply pw_below_drewN | apply below_drew1 | refine below_set ?_ GE429.out | refine below_set ?_ GE440.out) | exact HB.out)) hb)
            clear HO_0
            clear HL436_5
            clear HO439
            clear BK429
            clear BK440
            clear HB
            have HO_0 := n0_
            have HL436_5 := n1_
            have HO439 := n2_
            have BK429 := n3_
            have BK440 := n4_
            have HB := n5_
            clear n0_ n1_ n2_ n3_ n4_ n5_
            (try clear hb)
            (try clear hb2)
            (try clear hk)
            (try clear hi)
            refine hK.out _ _ ⟨(blk_cell BK440.out 0).trans rfl, (blk_cell BK440.out 1).trans rfl, (blk_cell BK440.out 2).trans rfl, (blk_cell BK440.out 3).trans rfl, (blk_cell BK440.out 4).trans rfl, (blk_cell BK440.out 5).trans rfl⟩ (fun hHeld => ?_)
            clear hK K
            refine norm_ (a' := ?_) ?_ ?_
            rotate_left
            ·show Act.put _ (some 58) _ = _
             simp only [Act.put, List.setIfInBounds_toArray, List.set_cons_zero, List.set_cons_succ, i64_w, i32_w]
             rfl
            refine pure_ (i := 2) (N := some 59) (v := ?_) (a' := ?_) #[true, true, true, false, false, false, false, false, false, false, false, false, false, false, false] rfl rfl (any_of HT_.out (by kernel_rfl)) (fun _ _ _ h => h) (Or.inl ⟨by rfl, ?_⟩) ?_ ?_
            rotate_left
            ·intro w'
             go_simp
             with_reducible rfl
            rotate_left
            ·simp only [Act.put, List.setIfInBounds_toArray, List.set_cons_zero, List.set_cons_succ, i64_w, i32_w]
             rfl
            refine pure_ (i := 3) (N := some 60) (v := ?_) (a' := ?_) #[true, true, true, true, false, false, false, false, false, false, false, false, false, false, false] rfl rfl (any_of HT_.out (by kernel_rfl)) (fun _ _ _ h => h) (Or.inl ⟨by rfl, ?_⟩) ?_ ?_
            rotate_left
            ·intro w'
             go_simp
             with_reducible rfl
            rotate_left
            ·simp only [Act.put, List.setIfInBounds_toArray, List.set_cons_zero, List.set_cons_succ, i64_w, i32_w]
             rfl
            refine pure_ (i := 4) (N := some 61) (v := undef) (a' := ?_) #[true, true, true, true, true, false, false, false, false, false, false, false, false, false, false] rfl rfl (any_of HT_.out (by kernel_rfl)) (fun _ _ _ h => h) (Or.inr ⟨by rfl, rfl⟩) ?_ ?_
            rotate_left
            ·simp only [Act.put, List.setIfInBounds_toArray, List.set_cons_zero, List.set_cons_succ, i64_w, i32_w]
             rfl
            refine pure_ (i := 5) (N := some 62) (v := undef) (a' := ?_) #[true, true, true, true, true, true, false, false, false, false, false, false, false, false, false] rfl rfl (any_of HT_.out (by kernel_rfl)) (fun _ _ _ h => h) (Or.inr ⟨by rfl, rfl⟩) ?_ ?_
            rotate_left
            ·simp only [Act.put, List.setIfInBounds_toArray, List.set_cons_zero, List.set_cons_succ, i64_w, i32_w]
             rfl
            refine pure_ (i := 6) (N := some 63) (v := undef) (a' := ?_) #[true, true, true, true, true, true, true, false, false, false, false, false, false, false, false] rfl rfl (any_of HT_.out (by kernel_rfl)) (fun _ _ _ h => h) (Or.inr ⟨by rfl, rfl⟩) ?_ ?_
            rotate_left
            ·simp only [Act.put, List.setIfInBounds_toArray, List.set_cons_zero, List.set_cons_succ, i64_w, i32_w]
             rfl
            refine pure_ (i := 7) (N := some 64) (v := undef) (a' := ?_) #[true, true, true, true, true, true, true, true, false, false, false, false, false, false, false] rfl rfl (any_of HT_.out (by kernel_rfl)) (fun _ _ _ h => h) (Or.inr ⟨by rfl, rfl⟩) ?_ ?_
            rotate_left
            ·simp only [Act.put, List.setIfInBounds_toArray, List.set_cons_zero, List.set_cons_succ, i64_w, i32_w]
             rfl
            refine pure_ (i := 8) (N := some 65) (v := undef) (a' := ?_) #[true, true, true, true, true, true, true, true, true, false, false, false, false, false, false] rfl rfl (any_of HT_.out (by kernel_rfl)) (fun _ _ _ h => h) (Or.inr ⟨by rfl, rfl⟩) ?_ ?_
            rotate_left
            ·simp only [Act.put, List.setIfInBounds_toArray, List.set_cons_zero, List.set_cons_succ, i64_w, i32_w]
             rfl
            refine pure_ (i := 9) (N := some 66) (v := undef) (a' := ?_) #[true, true, true, true, true, true, true, true, true, true, false, false, false, false, false] rfl rfl (any_of HT_.out (by kernel_rfl)) (fun _ _ _ h => h) (Or.inr ⟨by rfl, rfl⟩) ?_ ?_
            rotate_left
            ·simp only [Act.put, List.setIfInBounds_toArray, List.set_cons_zero, List.set_cons_succ, i64_w, i32_w]
             rfl
            refine pure_ (i := 10) (N := some 67) (v := undef) (a' := ?_) #[true, true, true, true, true, true, true, true, true, true, true, false, false, false, false] rfl rfl (any_of HT_.out (by kernel_rfl)) (fun _ _ _ h => h) (Or.inr ⟨by rfl, rfl⟩) ?_ ?_
            rotate_left
            ·simp only [Act.put, List.setIfInBounds_toArray, List.set_cons_zero, List.set_cons_succ, i64_w, i32_w]
             rfl
            refine pure_ (i := 11) (N := some 68) (v := undef) (a' := ?_) #[true, true, true, true, true, true, true, true, true, true, true, true, false, false, false] rfl rfl (any_of HT_.out (by kernel_rfl)) (fun _ _ _ h => h) (Or.inr ⟨by rfl, rfl⟩) ?_ ?_
            rotate_left
            ·simp only [Act.put, List.setIfInBounds_toArray, List.set_cons_zero, List.set_cons_succ, i64_w, i32_w]
             rfl
            refine pure_ (i := 12) (N := some 69) (v := undef) (a' := ?_) #[true, true, true, true, true, true, true, true, true, true, true, true, true, false, false] rfl rfl (any_of HT_.out (by kernel_rfl)) (fun _ _ _ h => h) (Or.inr ⟨by rfl, rfl⟩) ?_ ?_
            rotate_left
            ·simp only [Act.put, List.setIfInBounds_toArray, List.set_cons_zero, List.set_cons_succ, i64_w, i32_w]
             rfl
            refine pure_ (i := 13) (N := some 70) (v := undef) (a' := ?_) #[true, true, true, true, true, true, true, true, true, true, true, true, true, true, false] rfl rfl (any_of HT_.out (by kernel_rfl)) (fun _ _ _ h => h) (Or.inr ⟨by rfl, rfl⟩) ?_ ?_
            rotate_left
            ·simp only [Act.put, List.setIfInBounds_toArray, List.set_cons_zero, List.set_cons_succ, i64_w, i32_w]
             rfl
            refine pure_ (i := 14) (N := some 71) (v := ?_) (a' := ?_) #[true, true, true, true, true, true, true, true, true, true, true, true, true, true, true] rfl rfl (any_of HT_.out (by kernel_rfl)) (fun _ _ _ h => h) (Or.inl ⟨by rfl, ?_⟩) ?_ ?_
            rotate_left
            ·intro w'
             go_simp
             with_reducible rfl
            rotate_left
            ·simp only [Act.put, List.setIfInBounds_toArray, List.set_cons_zero, List.set_cons_succ, i64_w, i32_w]
             rfl
            refine done_ (done_of HT_.out (by kernel_rfl)) ?_
            try go_wp2
            go_meet
            case rel => exact ⟨_, (false), (by first | rfl | (simp; done) | (simp [*]; done)), H', ⟨by have := HK1.out; have := HJ8.out; first | omega | exact Nat.le_refl _⟩, ⟨by (with_reducible repeat (first | apply Kd.V_alloc | apply Kd.V_drewN | apply Kd.V_drew)); exact HO_0.out⟩, ⟨by (with_reducible repeat (first | apply Kd.N_alloc | apply Kd.N_drewN | apply Kd.N_drew)); exact HO439.out⟩, ⟨by (with_reducible repeat (first | refine blk_drewN ?_ _ | refine blk_drew ?_ | refine blk_alloc ?_ _)); exact BK429.out⟩, ⟨by (with_reducible repeat (first | refine blk_drewN ?_ _ | refine blk_drew ?_ | refine blk_alloc ?_ _)); exact BK440.out⟩, ⟨by repeat (first | (with_reducible first | exact HB.out | apply below_alloc | apply pw_below_drewN | apply below_drew1 | refine below_set ?_ GE429.out | refine below_set ?_ GE440.out) | exact HB.out)⟩⟩
          case rest =>
           clear HC33
           try clear c1
           try clear c2
           try clear p2
           try clear c3
           try clear c4
           try clear p4
           try clear q4
           try clear hx4
           try clear c6
           try clear c19
           try clear c19b1
           try clear c20
           try clear c22
           try clear c30
           try clear c31
           try clear c31b0
           try clear c32
           try clear c32b0
           try clear c38
           try clear c41
           try clear c41b0
           try clear c41b1
           try clear c43
           try clear p43
           try clear q43
           try clear hx43
           try clear c44
           try clear p44
           try clear q44
           try clear hx44
           try clear hcz17_0
           try clear hcz17_1
           try clear hcz17_2
           try clear hcz17_3
           try clear hcz22_0
           try clear hcz22_1
           try clear hcz22_2
           try clear hcz22_3
           try clear hcz24_0
           try clear hcz24_1
           try clear hcz24_2
           try clear hcz24_3
           try clear hcz27_0
           try clear hcz27_1
           try clear hcz27_2
           try clear hcz27_3
           try clear hcz39_0
           try clear hcz39_1
           try clear hcz39_2
           try clear hcz39_3
           try clear hcz39_4
           try clear hcz39_5
           try clear hfz17_0
           try clear hfz17_1
           try clear hfz17_2
           try clear hfz17_3
           try clear hfz22_0
           try clear hfz22_1
           try clear hfz22_2
           try clear hfz22_3
           try clear hfz24_0
           try clear hfz24_1
           try clear hfz24_2
           try clear hfz24_3
           try clear hfz27_0
           try clear hfz27_1
           try clear hfz27_2
           try clear hfz27_3
           try clear hfz39_0
           try clear hfz39_1
           try clear hfz39_2
           try clear hfz39_3
           try clear hfz39_4
           try clear hfz39_5
           try clear hx431_0
           try clear hx431_1
           try clear hx431_2
           try clear hx431_3
           try clear hx431_4
           try clear hx431_5
           try clear hx433_0
           try clear hx433_1
           try clear hx433_2
           try clear hx433_3
           try clear hx433_4
           try clear hx433_5
           try clear hx436_0
           try clear hx436_1
           try clear hx436_2
           try clear hx436_3
           try clear hx436_4
           try clear hx436_5
           try clear hx443_0
           try clear hx443_1
           try clear hx443_2
           try clear hx443_3
           try clear hx443_4
           try clear hx443_5
           try clear p2
           try clear p431
           try clear p433
           try clear p436
           try clear p443
           try clear q431
           try clear q433
           try clear q436
           try clear q443
           obtain ⟨kq, x71_32, rfl, HA, HJ32, HO_0, HO_441005, BK429, BK440, HB⟩ := hcut
           cases kq with
           | zero => exact absurd HA.out (by simp [sizarlaw12_RulesBoolean.j2])
           | succ kj32 =>
            have H := HA.out
            clear HA
            simp only [sizarlaw12_RulesBoolean.j2] at H
            by_cases c52 : x71_32 = true
            ·subst c52
             have H1 : (some false) = some r := by rw [if_pos rfl] at H; exact H
             clear H
             have H := H1
             clear H1
             obtain rfl := Option.some.inj H
             go_wp2
             go_ret
             exact ⟨by first | rfl | (simp [errW_none, errW_some] <;> rfl) | (simp [*, errW_none, errW_some] <;> rfl), by repeat (first | (with_reducible first | exact HB.out | apply below_alloc | apply pw_below_drewN | apply below_drew1 | refine below_set ?_ GE429.out | refine below_set ?_ GE440.out) | exact HB.out)⟩
            ·replace c52 := Bool.eq_false_iff.mpr c52
             subst c52
             have H1 : (if 0 ≤ x8_1 then (if x8_1 < (l0.length : Int) then ((sizarlaw12_holds.f kj32 ((rd_T24 l0 x8_1).f0) ((rd_T24 l0 x8_1).f1) ((rd_T24 l0 x8_1).f2) ((rd_T24 l0 x8_1).f3) ((rd_T24 l0 x8_1).f4) ((rd_T24 l0 x8_1).f5) l1_0 a1_1 a1_2 a1_3).bind fun t446 => (if t446 = true then (sizarlaw12_RulesBoolean.l0 kj32 l0 a2 (wrap64 (x7_1 + 1)) (wrap64 (x8_1 + 1)) l1_0 a1_1 a1_2 a1_3) else (sizarlaw12_RulesBoolean.l0 kj32 l0 a2 x7_1 (wrap64 (x8_1 + 1)) l1_0 a1_1 a1_2 a1_3))) else (none)) else (none)) = some r := by rw [if_neg (show ¬ (false = true) by decide)] at H; exact H
             clear H
             have H := H1
             clear H1
             by_cases c53 : 0 ≤ x8_1
             ·rw [if_pos c53] at H
              have c53b0 : decide (0 ≤ x8_1) = true := decide_eq_true c53
              clear c53
              by_cases c54 : x8_1 < (l0.length : Int)
              ·rw [if_pos c54] at H
               have c54b0 : decide (x8_1 < (l0.length : Int)) = true := decide_eq_true c54
               clear c54
               replace H := Option.bind_eq_some_iff.mp H
               obtain ⟨t446, A550, H⟩ := H
               replace H : (if t446 = true then (sizarlaw12_RulesBoolean.l0 kj32 l0 a2 (wrap64 (x7_1 + 1)) (wrap64 (x8_1 + 1)) l1_0 a1_1 a1_2 a1_3) else (sizarlaw12_RulesBoolean.l0 kj32 l0 a2 x7_1 (wrap64 (x8_1 + 1)) l1_0 a1_1 a1_2 a1_3)) = some r := H
               have A55 := Aside0.mk A550
               clear A550
               by_cases c56 : t446 = true
               ·subst c56
                have H1 : (sizarlaw12_RulesBoolean.l0 kj32 l0 a2 (wrap64 (x7_1 + 1)) (wrap64 (x8_1 + 1)) l1_0 a1_1 a1_2 a1_3) = some r := by rw [if_pos rfl] at H; exact H
                clear H
                have H := H1
                clear H1
                have H' := Aside0.mk H
                clear H
                try go_wp2
                have n0_ := Aside0.mk (Kd.V_drew HO_0.out)
                have n1_ := Aside0.mk (Kd.N_drew HO_441005.out)
                have n2_ := Aside0.mk (blk_drew BK429.out)
                have n3_ := Aside0.mk (blk_drew BK440.out)
                have n4_ := Aside0.mk (below_drew1 HB.out)
                clear HO_0
                clear HO_441005
                clear BK429
                clear BK440
                clear HB
                have HO_0 := n0_
                have HO_441005 := n1_
                have BK429 := n2_
                have BK440 := n3_
                have HB := n4_
                clear n0_ n1_ n2_ n3_ n4_
                have p445 : 0 ≤ (x8_1 : Int) := of_decide_eq_true (by first | (with_reducible assumption) | assumption)
                have q445 : x8_1 < (l0.length : Int) := of_decide_eq_true (by first | (with_reducible assumption) | assumption)
                obtain ⟨ad445, A445_5, c445_5, e445, hx445_0, hx445_1, hx445_2, hx445_3, hx445_4, hx445_5, hl445_5, hi445_5⟩ := at_T24 (Kd.V_reads' HO_0.out).2.2 x8_1 p445 q445
                obtain rfl : ad436 = ad445 := (by injection e445)
                obtain ⟨ce445, hce445, hMe445, hcc445⟩ := Kd.V_get HO_0.out z24 x8_1 p445 (by first | exact q445 | exact of_decide_eq_true (by first | (with_reducible assumption) | assumption) | (have e_ := (Kd.V_reads' HO_0.out).1; omega))
                obtain ⟨ua445_5, uc445_5, rfl, ul445_5, ge445_5⟩ := k24_openF hMe445
                have hv445_5 := hcc445 5 _ rfl
                rw [add_field _ _ 5 (by omega)] at hv445_5
                replace hv445_5 := Option.some.inj (hv445_5.symm.trans hx445_5)
                injection hv445_5 with hva_ hvn_ hvc_
                rw [hva_] at ge445_5
                rw [hvc_] at ul445_5
                have HL445_5 := Aside0.mk (show Kd.V k24 24 _ w.heap.size _ _ ((rd_T24 l0 x8_1).f5) from Kd.V_mk ul445_5 ge445_5)
                clear hva_ hvn_ hvc_ ge445_5 ul445_5
                clear hcc445 hce445
                have HR445_5 := Aside0.mk hi445_5
                have HC445_5 := Aside0.mk hl445_5
                clear hi445_5 hl445_5
                replace p445 := eq_true p445
                replace q445 := eq_true q445
                refine start_ (n := 6) (S := fun w' => w'.cell? ⟨gb429, 0, none⟩ = some (.slice A1_0 l1_0.length c1_0) ∧ w'.cell? ⟨gb429, 1, none⟩ = some (.int .i64 a1_1) ∧ w'.cell? ⟨gb429, 2, none⟩ = some (.int .i64 a1_2) ∧ w'.cell? ⟨gb429, 3, none⟩ = some (.int .i64 a1_3) ∧ w'.cell? (ad436.add ((x8_1).toNat * 6)) = some (.int .i64 ((rd_T24 l0 x8_1).f0)) ∧ w'.cell? ⟨(ad436.add ((x8_1).toNat * 6)).block, (ad436.add ((x8_1).toNat * 6)).off + 1, none⟩ = some (.int .i64 ((rd_T24 l0 x8_1).f1)) ∧ w'.cell? ⟨(ad436.add ((x8_1).toNat * 6)).block, (ad436.add ((x8_1).toNat * 6)).off + 2, none⟩ = some (.string ((rd_T24 l0 x8_1).f2)) ∧ w'.cell? ⟨(ad436.add ((x8_1).toNat * 6)).block, (ad436.add ((x8_1).toNat * 6)).off + 3, none⟩ = some (.int .i64 ((rd_T24 l0 x8_1).f3)) ∧ w'.cell? ⟨(ad436.add ((x8_1).toNat * 6)).block, (ad436.add ((x8_1).toNat * 6)).off + 4, none⟩ = some (.int .i64 ((rd_T24 l0 x8_1).f4)) ∧ w'.cell? ⟨(ad436.add ((x8_1).toNat * 6)).block, (ad436.add ((x8_1).toNat * 6)).off + 5, none⟩ = some (.slice A445_5 ((rd_T24 l0 x8_1).f5).length c445_5)) (ds := []) #[false, false, false, false, false, false] (by kernel_rfl) rfl rfl ⟨(blk_cell BK429.out 0).trans rfl, (blk_cell BK429.out 1).trans rfl, (blk_cell BK429.out 2).trans rfl, (blk_cell BK429.out 3).trans rfl, hx445_0, hx445_1, hx445_2, hx445_3, hx445_4, hx445_5⟩ (fun hHeld => ?_)
                generalize wc.drew = w57 at HO_0 HO_441005 BK429 BK440 HB HL445_5 HR445_5 hx445_0 hx445_1 hx445_2 hx445_3 hx445_4 hx445_5 hHeld ⊢
                refine pure_ (i := 0) (N := some 72) (v := ?_) (a' := ?_) #[true, false, false, false, false, false] rfl rfl (by kernel_rfl) (fun _ _ _ h => h) (Or.inl ⟨by rfl, ?_⟩) ?_ ?_
                rotate_left
                ·intro w'
                 go_simp
                 with_reducible rfl
                rotate_left
                ·simp only [Act.put, List.setIfInBounds_toArray, List.set_cons_zero, List.set_cons_succ, i64_w, i32_w]
                 rfl
                refine pure_ (i := 1) (N := some 73) (v := ?_) (a' := ?_) #[true, true, false, false, false, false] rfl rfl (by kernel_rfl) (fun _ _ _ h => h) (Or.inl ⟨by rfl, ?_⟩) ?_ ?_
                rotate_left
                ·intro w'
                 go_simp
                 with_reducible rfl
                rotate_left
                ·simp only [Act.put, List.setIfInBounds_toArray, List.set_cons_zero, List.set_cons_succ, i64_w, i32_w]
                 rfl
                refine pure_ (i := 2) (N := some 74) (v := ?_) (a' := ?_) #[true, true, true, false, false, false] rfl rfl (by kernel_rfl) (fun _ _ _ h => h) (Or.inl ⟨by rfl, ?_⟩) ?_ ?_
                rotate_left
                ·intro w'
                 go_simp
                 with_reducible rfl
                rotate_left
                ·simp only [Act.put, List.setIfInBounds_toArray, List.set_cons_zero, List.set_cons_succ, i64_w, i32_w]
                 rfl
                refine take_ (i := 3) (N := some 75) (v := ?_) (a' := ?_) #[true, true, true, true, false, false] rfl rfl (by kernel_rfl) (fun _ _ _ h => h) (Or.inl ⟨by rfl, ?_⟩) hHeld ?_ ?_
                rotate_left
                ·rintro w' ⟨s0, s1, s2, s3, s4, s5, s6, s7, s8, s9⟩
                 go_simp
                 with_reducible rfl
                rotate_left
                ·simp only [Act.put, List.setIfInBounds_toArray, List.set_cons_zero, List.set_cons_succ, i64_w, i32_w]
                 rfl
                refine take_ (i := 4) (N := some 76) (v := ?_) (a' := ?_) #[true, true, true, true, true, false] rfl rfl (by kernel_rfl) (fun _ _ _ h => h) (Or.inl ⟨by rfl, ?_⟩) hHeld ?_ ?_
                rotate_left
                ·rintro w' ⟨s0, s1, s2, s3, s4, s5, s6, s7, s8, s9⟩
                 go_simp
                 with_reducible rfl
                rotate_left
                ·simp only [Act.put, List.setIfInBounds_toArray, List.set_cons_zero, List.set_cons_succ, i64_w, i32_w]
                 rfl
                refine one_ (i := 5) (N := some 77) #[true, true, true, true, true, true] rfl rfl (by kernel_rfl) (by decide) (fun K hK => ?_)
                refine goes_ Tryd.func22 (by kernel_rfl) rfl #[.agg #[.int .i64 ((rd_T24 l0 x8_1).f0), .int .i64 ((rd_T24 l0 x8_1).f1), .string ((rd_T24 l0 x8_1).f2), .int .i64 ((rd_T24 l0 x8_1).f3), .int .i64 ((rd_T24 l0 x8_1).f4), .slice A445_5 ((rd_T24 l0 x8_1).f5).length c445_5], .agg #[.slice A1_0 l1_0.length c1_0, .int .i64 a1_1, .int .i64 a1_2, .int .i64 a1_3]] (by rfl) rfl rfl (by (try simp only [List.map_toArray, List.map_cons, List.map_nil]); first | done | rfl | (simp only [List.length_drop, List.length_take]; rfl)) ?_
                with_reducible refine (sizarlaw12_holds.calls kj32 ((rd_T24 l0 x8_1).f0) ((rd_T24 l0 x8_1).f1) ((rd_T24 l0 x8_1).f2) ((rd_T24 l0 x8_1).f3) ((rd_T24 l0 x8_1).f4) _ _ ((rd_T24 l0 x8_1).f5) _ _ l1_0 a1_1 a1_2 a1_3 true _ ?side1 ?side2 ?side3 ?side4 A55.out ?sideK).mono ?_
                (case sideK => exact HKT.out.below (by repeat (first | (with_reducible first | exact HB.out | apply below_alloc | apply pw_below_drewN | apply below_drew1 | refine below_set ?_ GE429.out | refine below_set ?_ GE440.out) | exact HB.out)))
                (case side1 => repeat (first | exact (by repeat (first | (with_reducible exact HR445_5.out) | (with_reducible refine Kd.C_alloc ?_ _) | (with_reducible refine Kd.C_drewN ?_ _) | (with_reducible refine Kd.C_drew ?_) | exact HR445_5.out)) | (with_reducible refine Kd.C_alloc ?_ _) | (with_reducible refine Kd.C_drewN ?_ _) | (with_reducible refine Kd.C_drew ?_)))
                (case side2 => exact HC445_5.out)
                (case side3 => repeat (first | exact (Kd.C_below HR1_0.out HB.out) | (with_reducible refine Kd.C_alloc ?_ _) | (with_reducible refine Kd.C_drewN ?_ _) | (with_reducible refine Kd.C_drew ?_)))
                (case side4 => exact HC1_0.out)
                rintro e w58 ⟨rfl, hb⟩
                have HS4_ := (hb.cell (World.block_lt_of_cell? _ _ (hHeld.2.2.2.2.1))).trans (hHeld.2.2.2.2.1)
                have HS5_ := (hb.cell (World.block_lt_of_cell? _ _ (hHeld.2.2.2.2.2.1))).trans (hHeld.2.2.2.2.2.1)
                have HS6_ := (hb.cell (World.block_lt_of_cell? _ _ (hHeld.2.2.2.2.2.2.1))).trans (hHeld.2.2.2.2.2.2.1)
                have HS7_ := (hb.cell (World.block_lt_of_cell? _ _ (hHeld.2.2.2.2.2.2.2.1))).trans (hHeld.2.2.2.2.2.2.2.1)
                have HS8_ := (hb.cell (World.block_lt_of_cell? _ _ (hHeld.2.2.2.2.2.2.2.2.1))).trans (hHeld.2.2.2.2.2.2.2.2.1)
                have HS9_ := (hb.cell (World.block_lt_of_cell? _ _ (hHeld.2.2.2.2.2.2.2.2.2))).trans (hHeld.2.2.2.2.2.2.2.2.2)
                refine ⟨_, rfl, ?_⟩
                have n0_ := Aside0.mk (Kd.V_below (by (with_reducible repeat (first | apply Kd.V_alloc | apply Kd.V_drewN | apply Kd.V_drew)); exact HO_0.out) hb)
                have n1_ := Aside0.mk (Kd.N_below (by (with_reducible repeat (first | apply Kd.N_alloc | apply Kd.N_drewN | apply Kd.N_drew)); exact HO_441005.out) hb)
                have n2_ := Aside0.mk (Kd.V_below (by (with_reducible repeat (first | apply Kd.V_alloc | apply Kd.V_drewN | apply Kd.V_drew)); exact HL445_5.out) hb)
                have n3_ := Aside0.mk (blk_below (g := gb429) (o := .cells #[.slice A1_0 l1_0.length c1_0, .int .i64 a1_1, .int .i64 a1_2, .int .i64 a1_3] 29 (0, 0)) (by (with_reducible repeat (first | refine blk_drewN ?_ _ | refine blk_drew ?_ | refine blk_alloc ?_ _)); exact BK429.out) hb)
                have n4_ := Aside0.mk (blk_below (g := gb440) (o := .cells #[.int .i64 4, .int .i64 0, .string (⟨#[]⟩ : ByteArray), .int .i64 0, .int .i64 0, .slice Ao36 y437.length co36] 24 (0, 0)) (by (with_reducible repeat (first | refine blk_drewN ?_ _ | refine blk_drew ?_ | refine blk_alloc ?_ _)); exact BK440.out) hb)
                have n5_ := Aside0.mk (Kd.C_below (by repeat (first | (with_reducible exact HR445_5.out) | (with_reducible refine Kd.C_alloc ?_ _) | (with_reducible refine Kd.C_drewN ?_ _) | (with_reducible refine Kd.C_drew ?_) | exact HR445_5.out)) hb)
                have n6_ := Aside0.mk (below_step (by repeat (first | (with_reducible first | exact HB.out | apply below_alloc | apply pw_below_drewN | apply below_drew1 | refine below_set ?_ GE429.out | refine below_set ?_ GE440.out) | exact HB.out)) hb)
                clear HO_0
                clear HO_441005
                clear HL445_5
                clear BK429
                clear BK440
                clear HR445_5
                clear HB
                have HO_0 := n0_
                have HO_441005 := n1_
                have HL445_5 := n2_
                have BK429 := n3_
                have BK440 := n4_
                have HR445_5 := n5_
                have HB := n6_
                clear n0_ n1_ n2_ n3_ n4_ n5_ n6_
                (try clear hb)
                (try clear hb2)
                (try clear hk)
                (try clear hi)
                refine hK.out _ _ ⟨(blk_cell BK429.out 0).trans rfl, (blk_cell BK429.out 1).trans rfl, (blk_cell BK429.out 2).trans rfl, (blk_cell BK429.out 3).trans rfl, HS4_, HS5_, HS6_, HS7_, HS8_, HS9_⟩ (fun hHeld => ?_)
                clear hK K
                refine norm_ (a' := ?_) ?_ ?_
                rotate_left
                ·show Act.put _ (some 77) _ = _
                 simp only [Act.put, List.setIfInBounds_toArray, List.set_cons_zero, List.set_cons_succ, i64_w, i32_w]
                 rfl
                refine done_ (by kernel_rfl) ?_
                try go_wp2
                go_roundg kj32
                case measure => have := HK1.out; have := HJ8.out; have := HJ32.out; omega
                case rel => exact ⟨(wrap64 (x7_1 + 1)), (wrap64 (x8_1 + 1)), (by first | rfl | (simp; done) | (simp [*]; done)), (by first | rfl | (simp; done) | (simp [*]; done)), H', ⟨by have := HK1.out; have := HJ8.out; have := HJ32.out; omega⟩, ⟨by (with_reducible repeat (first | apply Kd.V_alloc | apply Kd.V_drewN | apply Kd.V_drew)); exact Kd.V_mono HO_0.out (fun _ hk => ⟨hk.1, hk.2.2.1⟩)⟩, ⟨by (with_reducible repeat (first | refine blk_drewN ?_ _ | refine blk_drew ?_ | refine blk_alloc ?_ _)); exact BK429.out⟩, ⟨by repeat (first | (with_reducible first | exact HB.out | apply below_alloc | apply pw_below_drewN | apply below_drew1 | refine below_set ?_ GE429.out | refine below_set ?_ GE440.out) | exact HB.out)⟩⟩
               ·replace c56 := Bool.eq_false_iff.mpr c56
                subst c56
                have H1 : (sizarlaw12_RulesBoolean.l0 kj32 l0 a2 x7_1 (wrap64 (x8_1 + 1)) l1_0 a1_1 a1_2 a1_3) = some r := by rw [if_neg (show ¬ (false = true) by decide)] at H; exact H
                clear H
                have H := H1
                clear H1
                have H' := Aside0.mk H
                clear H
                try go_wp2
                have n0_ := Aside0.mk (Kd.V_drew HO_0.out)
                have n1_ := Aside0.mk (Kd.N_drew HO_441005.out)
                have n2_ := Aside0.mk (blk_drew BK429.out)
                have n3_ := Aside0.mk (blk_drew BK440.out)
                have n4_ := Aside0.mk (below_drew1 HB.out)
                clear HO_0
                clear HO_441005
                clear BK429
                clear BK440
                clear HB
                have HO_0 := n0_
                have HO_441005 := n1_
                have BK429 := n2_
                have BK440 := n3_
                have HB := n4_
                clear n0_ n1_ n2_ n3_ n4_
                have p445 : 0 ≤ (x8_1 : Int) := of_decide_eq_true (by first | (with_reducible assumption) | assumption)
                have q445 : x8_1 < (l0.length : Int) := of_decide_eq_true (by first | (with_reducible assumption) | assumption)
                obtain ⟨ad445, A445_5, c445_5, e445, hx445_0, hx445_1, hx445_2, hx445_3, hx445_4, hx445_5, hl445_5, hi445_5⟩ := at_T24 (Kd.V_reads' HO_0.out).2.2 x8_1 p445 q445
                obtain rfl : ad436 = ad445 := (by injection e445)
                obtain ⟨ce445, hce445, hMe445, hcc445⟩ := Kd.V_get HO_0.out z24 x8_1 p445 (by first | exact q445 | exact of_decide_eq_true (by first | (with_reducible assumption) | assumption) | (have e_ := (Kd.V_reads' HO_0.out).1; omega))
                obtain ⟨ua445_5, uc445_5, rfl, ul445_5, ge445_5⟩ := k24_openF hMe445
                have hv445_5 := hcc445 5 _ rfl
                rw [add_field _ _ 5 (by omega)] at hv445_5
                replace hv445_5 := Option.some.inj (hv445_5.symm.trans hx445_5)
                injection hv445_5 with hva_ hvn_ hvc_
                rw [hva_] at ge445_5
                rw [hvc_] at ul445_5
                have HL445_5 := Aside0.mk (show Kd.V k24 24 _ w.heap.size _ _ ((rd_T24 l0 x8_1).f5) from Kd.V_mk ul445_5 ge445_5)
                clear hva_ hvn_ hvc_ ge445_5 ul445_5
                clear hcc445 hce445
                have HR445_5 := Aside0.mk hi445_5
                have HC445_5 := Aside0.mk hl445_5
                clear hi445_5 hl445_5
                replace p445 := eq_true p445
                replace q445 := eq_true q445
                refine start_ (n := 6) (S := fun w' => w'.cell? ⟨gb429, 0, none⟩ = some (.slice A1_0 l1_0.length c1_0) ∧ w'.cell? ⟨gb429, 1, none⟩ = some (.int .i64 a1_1) ∧ w'.cell? ⟨gb429, 2, none⟩ = some (.int .i64 a1_2) ∧ w'.cell? ⟨gb429, 3, none⟩ = some (.int .i64 a1_3) ∧ w'.cell? (ad436.add ((x8_1).toNat * 6)) = some (.int .i64 ((rd_T24 l0 x8_1).f0)) ∧ w'.cell? ⟨(ad436.add ((x8_1).toNat * 6)).block, (ad436.add ((x8_1).toNat * 6)).off + 1, none⟩ = some (.int .i64 ((rd_T24 l0 x8_1).f1)) ∧ w'.cell? ⟨(ad436.add ((x8_1).toNat * 6)).block, (ad436.add ((x8_1).toNat * 6)).off + 2, none⟩ = some (.string ((rd_T24 l0 x8_1).f2)) ∧ w'.cell? ⟨(ad436.add ((x8_1).toNat * 6)).block, (ad436.add ((x8_1).toNat * 6)).off + 3, none⟩ = some (.int .i64 ((rd_T24 l0 x8_1).f3)) ∧ w'.cell? ⟨(ad436.add ((x8_1).toNat * 6)).block, (ad436.add ((x8_1).toNat * 6)).off + 4, none⟩ = some (.int .i64 ((rd_T24 l0 x8_1).f4)) ∧ w'.cell? ⟨(ad436.add ((x8_1).toNat * 6)).block, (ad436.add ((x8_1).toNat * 6)).off + 5, none⟩ = some (.slice A445_5 ((rd_T24 l0 x8_1).f5).length c445_5)) (ds := []) #[false, false, false, false, false, false] (by kernel_rfl) rfl rfl ⟨(blk_cell BK429.out 0).trans rfl, (blk_cell BK429.out 1).trans rfl, (blk_cell BK429.out 2).trans rfl, (blk_cell BK429.out 3).trans rfl, hx445_0, hx445_1, hx445_2, hx445_3, hx445_4, hx445_5⟩ (fun hHeld => ?_)
                generalize wc.drew = w59 at HO_0 HO_441005 BK429 BK440 HB HL445_5 HR445_5 hx445_0 hx445_1 hx445_2 hx445_3 hx445_4 hx445_5 hHeld ⊢
                refine pure_ (i := 0) (N := some 72) (v := ?_) (a' := ?_) #[true, false, false, false, false, false] rfl rfl (by kernel_rfl) (fun _ _ _ h => h) (Or.inl ⟨by rfl, ?_⟩) ?_ ?_
                rotate_left
                ·intro w'
                 go_simp
                 with_reducible rfl
                rotate_left
                ·simp only [Act.put, List.setIfInBounds_toArray, List.set_cons_zero, List.set_cons_succ, i64_w, i32_w]
                 rfl
                refine pure_ (i := 1) (N := some 73) (v := ?_) (a' := ?_) #[true, true, false, false, false, false] rfl rfl (by kernel_rfl) (fun _ _ _ h => h) (Or.inl ⟨by rfl, ?_⟩) ?_ ?_
                rotate_left
                ·intro w'
                 go_simp
                 with_reducible rfl
                rotate_left
                ·simp only [Act.put, List.setIfInBounds_toArray, List.set_cons_zero, List.set_cons_succ, i64_w, i32_w]
                 rfl
                refine pure_ (i := 2) (N := some 74) (v := ?_) (a' := ?_) #[true, true, true, false, false, false] rfl rfl (by kernel_rfl) (fun _ _ _ h => h) (Or.inl ⟨by rfl, ?_⟩) ?_ ?_
                rotate_left
                ·intro w'
                 go_simp
                 with_reducible rfl
                rotate_left
                ·simp only [Act.put, List.setIfInBounds_toArray, List.set_cons_zero, List.set_cons_succ, i64_w, i32_w]
                 rfl
                refine take_ (i := 3) (N := some 75) (v := ?_) (a' := ?_) #[true, true, true, true, false, false] rfl rfl (by kernel_rfl) (fun _ _ _ h => h) (Or.inl ⟨by rfl, ?_⟩) hHeld ?_ ?_
                rotate_left
                ·rintro w' ⟨s0, s1, s2, s3, s4, s5, s6, s7, s8, s9⟩
                 go_simp
                 with_reducible rfl
                rotate_left
                ·simp only [Act.put, List.setIfInBounds_toArray, List.set_cons_zero, List.set_cons_succ, i64_w, i32_w]
                 rfl
                refine take_ (i := 4) (N := some 76) (v := ?_) (a' := ?_) #[true, true, true, true, true, false] rfl rfl (by kernel_rfl) (fun _ _ _ h => h) (Or.inl ⟨by rfl, ?_⟩) hHeld ?_ ?_
                rotate_left
                ·rintro w' ⟨s0, s1, s2, s3, s4, s5, s6, s7, s8, s9⟩
                 go_simp
                 with_reducible rfl
                rotate_left
                ·simp only [Act.put, List.setIfInBounds_toArray, List.set_cons_zero, List.set_cons_succ, i64_w, i32_w]
                 rfl
                refine one_ (i := 5) (N := some 77) #[true, true, true, true, true, true] rfl rfl (by kernel_rfl) (by decide) (fun K hK => ?_)
                refine goes_ Tryd.func22 (by kernel_rfl) rfl #[.agg #[.int .i64 ((rd_T24 l0 x8_1).f0), .int .i64 ((rd_T24 l0 x8_1).f1), .string ((rd_T24 l0 x8_1).f2), .int .i64 ((rd_T24 l0 x8_1).f3), .int .i64 ((rd_T24 l0 x8_1).f4), .slice A445_5 ((rd_T24 l0 x8_1).f5).length c445_5], .agg #[.slice A1_0 l1_0.length c1_0, .int .i64 a1_1, .int .i64 a1_2, .int .i64 a1_3]] (by rfl) rfl rfl (by (try simp only [List.map_toArray, List.map_cons, List.map_nil]); first | done | rfl | (simp only [List.length_drop, List.length_take]; rfl)) ?_
                with_reducible refine (sizarlaw12_holds.calls kj32 ((rd_T24 l0 x8_1).f0) ((rd_T24 l0 x8_1).f1) ((rd_T24 l0 x8_1).f2) ((rd_T24 l0 x8_1).f3) ((rd_T24 l0 x8_1).f4) _ _ ((rd_T24 l0 x8_1).f5) _ _ l1_0 a1_1 a1_2 a1_3 false _ ?side1 ?side2 ?side3 ?side4 A55.out ?sideK).mono ?_
                (case sideK => exact HKT.out.below (by repeat (first | (with_reducible first | exact HB.out | apply below_alloc | apply pw_below_drewN | apply below_drew1 | refine below_set ?_ GE429.out | refine below_set ?_ GE440.out) | exact HB.out)))
                (case side1 => repeat (first | exact (by repeat (first | (with_reducible exact HR445_5.out) | (with_reducible refine Kd.C_alloc ?_ _) | (with_reducible refine Kd.C_drewN ?_ _) | (with_reducible refine Kd.C_drew ?_) | exact HR445_5.out)) | (with_reducible refine Kd.C_alloc ?_ _) | (with_reducible refine Kd.C_drewN ?_ _) | (with_reducible refine Kd.C_drew ?_)))
                (case side2 => exact HC445_5.out)
                (case side3 => repeat (first | exact (Kd.C_below HR1_0.out HB.out) | (with_reducible refine Kd.C_alloc ?_ _) | (with_reducible refine Kd.C_drewN ?_ _) | (with_reducible refine Kd.C_drew ?_)))
                (case side4 => exact HC1_0.out)
                rintro e w60 ⟨rfl, hb⟩
                have HS4_ := (hb.cell (World.block_lt_of_cell? _ _ (hHeld.2.2.2.2.1))).trans (hHeld.2.2.2.2.1)
                have HS5_ := (hb.cell (World.block_lt_of_cell? _ _ (hHeld.2.2.2.2.2.1))).trans (hHeld.2.2.2.2.2.1)
                have HS6_ := (hb.cell (World.block_lt_of_cell? _ _ (hHeld.2.2.2.2.2.2.1))).trans (hHeld.2.2.2.2.2.2.1)
                have HS7_ := (hb.cell (World.block_lt_of_cell? _ _ (hHeld.2.2.2.2.2.2.2.1))).trans (hHeld.2.2.2.2.2.2.2.1)
                have HS8_ := (hb.cell (World.block_lt_of_cell? _ _ (hHeld.2.2.2.2.2.2.2.2.1))).trans (hHeld.2.2.2.2.2.2.2.2.1)
                have HS9_ := (hb.cell (World.block_lt_of_cell? _ _ (hHeld.2.2.2.2.2.2.2.2.2))).trans (hHeld.2.2.2.2.2.2.2.2.2)
                refine ⟨_, rfl, ?_⟩
                have n0_ := Aside0.mk (Kd.V_below (by (with_reducible repeat (first | apply Kd.V_alloc | apply Kd.V_drewN | apply Kd.V_drew)); exact HO_0.out) hb)
                have n1_ := Aside0.mk (Kd.N_below (by (with_reducible repeat (first | apply Kd.N_alloc | apply Kd.N_drewN | apply Kd.N_drew)); exact HO_441005.out) hb)
                have n2_ := Aside0.mk (Kd.V_below (by (with_reducible repeat (first | apply Kd.V_alloc | apply Kd.V_drewN | apply Kd.V_drew)); exact HL445_5.out) hb)
                have n3_ := Aside0.mk (blk_below (g := gb429) (o := .cells #[.slice A1_0 l1_0.length c1_0, .int .i64 a1_1, .int .i64 a1_2, .int .i64 a1_3] 29 (0, 0)) (by (with_reducible repeat (first | refine blk_drewN ?_ _ | refine blk_drew ?_ | refine blk_alloc ?_ _)); exact BK429.out) hb)
                have n4_ := Aside0.mk (blk_below (g := gb440) (o := .cells #[.int .i64 4, .int .i64 0, .string (⟨#[]⟩ : ByteArray), .int .i64 0, .int .i64 0, .slice Ao36 y437.length co36] 24 (0, 0)) (by (with_reducible repeat (first | refine blk_drewN ?_ _ | refine blk_drew ?_ | refine blk_alloc ?_ _)); exact BK440.out) hb)
                have n5_ := Aside0.mk (Kd.C_below (by repeat (first | (with_reducible exact HR445_5.out) | (with_reducible refine Kd.C_alloc ?_ _) | (with_reducible refine Kd.C_drewN ?_ _) | (with_reducible refine Kd.C_drew ?_) | exact HR445_5.out)) hb)
                have n6_ := Aside0.mk (below_step (by repeat (first | (with_reducible first | exact HB.out | apply below_alloc | apply pw_below_drewN | apply below_drew1 | refine below_set ?_ GE429.out | refine below_set ?_ GE440.out) | exact HB.out)) hb)
                clear HO_0
                clear HO_441005
                clear HL445_5
                clear BK429
                clear BK440
                clear HR445_5
                clear HB
                have HO_0 := n0_
                have HO_441005 := n1_
                have HL445_5 := n2_
                have BK429 := n3_
                have BK440 := n4_
                have HR445_5 := n5_
                have HB := n6_
                clear n0_ n1_ n2_ n3_ n4_ n5_ n6_
                (try clear hb)
                (try clear hb2)
                (try clear hk)
                (try clear hi)
                refine hK.out _ _ ⟨(blk_cell BK429.out 0).trans rfl, (blk_cell BK429.out 1).trans rfl, (blk_cell BK429.out 2).trans rfl, (blk_cell BK429.out 3).trans rfl, HS4_, HS5_, HS6_, HS7_, HS8_, HS9_⟩ (fun hHeld => ?_)
                clear hK K
                refine norm_ (a' := ?_) ?_ ?_
                rotate_left
                ·show Act.put _ (some 77) _ = _
                 simp only [Act.put, List.setIfInBounds_toArray, List.set_cons_zero, List.set_cons_succ, i64_w, i32_w]
                 rfl
                refine done_ (by kernel_rfl) ?_
                try go_wp2
                go_roundg kj32
                case measure => have := HK1.out; have := HJ8.out; have := HJ32.out; omega
                case rel => exact ⟨(x7_1), (wrap64 (x8_1 + 1)), (by first | rfl | (simp; done) | (simp [*]; done)), (by first | rfl | (simp; done) | (simp [*]; done)), H', ⟨by have := HK1.out; have := HJ8.out; have := HJ32.out; omega⟩, ⟨by (with_reducible repeat (first | apply Kd.V_alloc | apply Kd.V_drewN | apply Kd.V_drew)); exact Kd.V_mono HO_0.out (fun _ hk => ⟨hk.1, hk.2.2.1⟩)⟩, ⟨by (with_reducible repeat (first | refine blk_drewN ?_ _ | refine blk_drew ?_ | refine blk_alloc ?_ _)); exact BK429.out⟩, ⟨by repeat (first | (with_reducible first | exact HB.out | apply below_alloc | apply pw_below_drewN | apply below_drew1 | refine below_set ?_ GE429.out | refine below_set ?_ GE440.out) | exact HB.out)⟩⟩
              ·rw [if_neg c54] at H
               exact absurd H (by simp)
             ·rw [if_neg c53] at H
              exact absurd H (by simp)
         ·rw [if_neg c32] at H
          exact absurd H (by simp)
        ·rw [if_neg c31] at H
         exact absurd H (by simp)
    ·rw [if_neg c8] at H
     have c8b0 : decide (x8_1 < (l0.length : Int)) = false := decide_eq_false c8
     clear c8
     replace H := Option.bind_eq_some_iff.mp H
     obtain ⟨t447, A610, H⟩ := H
     replace H : (if t447 = 0 then ((some (([(⟨(⟨1, 0, (⟨#[]⟩ : ByteArray), 0, 0, l0⟩ : S24), (x7_1 == (l0.length : Int))⟩ : S43), (⟨(⟨2, 0, (⟨#[]⟩ : ByteArray), 0, 0, l0⟩ : S24), decide (x7_1 > 0)⟩ : S43), (⟨(⟨3, 0, (⟨#[]⟩ : ByteArray), Int.tmod (wrap64 (a2)) 201, 0, l0⟩ : S24), decide (x7_1 ≥ (Int.tmod (wrap64 (a2)) 201))⟩ : S43)] : List (S43)) : List (S43))).bind fun y448 => (sizarlaw12_RulesBoolean.l1 k1 y448 (y448.length : Int) 0 l1_0 a1_1 a1_2 a1_3)) else (some true)) = some r := H
     have A61 := Aside0.mk A610
     clear A610
     by_cases c62 : t447 = 0
     ·rw [if_pos c62] at H
      have c62b0 : (t447 == 0) = true := beq_iff_eq.mpr c62
      have c62b1 : (t447 != 0) = false := bne_eq_false_iff_eq.mpr c62
      clear c62
      obtain ⟨y448, hy448⟩ : ∃ y_ : List (S43), y_ = (([(⟨(⟨1, 0, (⟨#[]⟩ : ByteArray), 0, 0, l0⟩ : S24), (x7_1 == (l0.length : Int))⟩ : S43), (⟨(⟨2, 0, (⟨#[]⟩ : ByteArray), 0, 0, l0⟩ : S24), decide (x7_1 > 0)⟩ : S43), (⟨(⟨3, 0, (⟨#[]⟩ : ByteArray), Int.tmod (wrap64 (a2)) 201, 0, l0⟩ : S24), decide (x7_1 ≥ (Int.tmod (wrap64 (a2)) 201))⟩ : S43)] : List (S43))) := ⟨_, rfl⟩
      replace H : (sizarlaw12_RulesBoolean.l1 k1 y448 (y448.length : Int) 0 l1_0 a1_1 a1_2 a1_3) = some r := by first | (rw [hy448]; with_reducible exact H) | (have H2_ := (Option.bind_some _ _).symm.trans H; rw [hy448]; with_reducible exact H2_) | (have H2_ := (Option.bind_some _ _).symm.trans H; with_reducible exact H2_) | with_reducible exact H | (rw [hy448]; exact H) | exact H
      have Ny448 := Aside0.mk hy448
      clear hy448
      have H' := Aside0.mk H
      clear H
      have hcz63_0 : wr.cell? ⟨gb429, 0, none⟩ = some (.slice A1_0 l1_0.length c1_0) := (blk_cell BK429.out 0).trans rfl
      have hcz63_1 : wr.cell? ⟨gb429, 1, none⟩ = some (.int .i64 a1_1) := (blk_cell BK429.out 1).trans rfl
      have hcz63_2 : wr.cell? ⟨gb429, 2, none⟩ = some (.int .i64 a1_2) := (blk_cell BK429.out 2).trans rfl
      have hcz63_3 : wr.cell? ⟨gb429, 3, none⟩ = some (.int .i64 a1_3) := (blk_cell BK429.out 3).trans rfl
      have hfz63_0 := blk_frozen BK429.out 0
      have hfz63_1 := blk_frozen BK429.out 1
      have hfz63_2 := blk_frozen BK429.out 2
      have hfz63_3 := blk_frozen BK429.out 3
      go_wp2_with (first | ((with_reducible refine gate_callee (f := 21) rfl ?_); refine goesL_ (some 81) rfl rfl Tryd.func21 (by kernel_rfl) rfl #[.agg #[.slice A1_0 l1_0.length c1_0, .int .i64 a1_1, .int .i64 a1_2, .int .i64 a1_3]] rfl (by (try simp only [List.map_toArray, List.map_cons, List.map_nil]); first | done | rfl | (simp only [List.length_drop, List.length_take]; rfl)) ?_; (with_reducible refine (rules_Fits.calls k1 _ _ l1_0 a1_1 a1_2 a1_3 t447 _ ?side1 ?side2 A61.out).mono ?_); (case side1 => repeat (first | exact (Kd.C_below HR1_0.out HB.out) | (with_reducible refine Kd.C_alloc ?_ _) | (with_reducible refine Kd.C_drewN ?_ _) | (with_reducible refine Kd.C_drew ?_))); (case side2 => exact HC1_0.out); rintro e w64 ⟨rfl, hb⟩; refine ⟨_, rfl, ?_⟩; have n0_ := Aside0.mk (Kd.V_below (by (with_reducible repeat (first | apply Kd.V_alloc | apply Kd.V_drewN | apply Kd.V_drew)); exact HO_0.out) hb); have n1_ := Aside0.mk (blk_below (g := gb429) (o := .cells #[.slice A1_0 l1_0.length c1_0, .int .i64 a1_1, .int .i64 a1_2, .int .i64 a1_3] 29 (0, 0)) (by (with_reducible repeat (first | refine blk_drewN ?_ _ | refine blk_drew ?_ | refine blk_alloc ?_ _)); exact BK429.out) hb); have n2_ := Aside0.mk (below_step (by repeat (first | (with_reducible first | exact HB.out | apply below_alloc | apply pw_below_drewN | apply below_drew1 | refine below_set ?_ GE429.out) | exact HB.out)) hb); clear HO_0; clear BK429; clear HB; have HO_0 := n0_; have BK429 := n1_; have HB := n2_; clear n0_ n1_ n2_; (try clear hb); (try clear hb2); (try clear hk); (try clear hi)) | ((with_reducible refine gate_dst (N := 105) rfl ?_); (try (refine gate_guard (by rfl) ?_; dsimp only)); refine Kd.N_lit k43 _ 43 ?hg (N' := 105) ?hd (xs := ([(⟨(⟨1, 0, (⟨#[]⟩ : ByteArray), 0, 0, l0⟩ : S24), (x7_1 == (l0.length : Int))⟩ : S43), (⟨(⟨2, 0, (⟨#[]⟩ : ByteArray), 0, 0, l0⟩ : S24), decide (x7_1 > 0)⟩ : S43), (⟨(⟨3, 0, (⟨#[]⟩ : ByteArray), Int.tmod (wrap64 (a2)) 201, 0, l0⟩ : S24), decide (x7_1 ≥ (Int.tmod (wrap64 (a2)) 201))⟩ : S43)] : List (S43))) (inner := [.int .i64 1, .int .i64 0, .string (⟨#[]⟩ : ByteArray), .int .i64 0, .int .i64 0, .slice A0 l0.length c0, .bool (x7_1 == (l0.length : Int)), .int .i64 2, .int .i64 0, .string (⟨#[]⟩ : ByteArray), .int .i64 0, .int .i64 0, .slice A0 l0.length c0, .bool (decide (x7_1 > 0)), .int .i64 3, .int .i64 0, .string (⟨#[]⟩ : ByteArray), .int .i64 (Int.tmod (wrap64 (a2)) 201), .int .i64 0, .slice A0 l0.length c0, .bool (decide (x7_1 ≥ (Int.tmod (wrap64 (a2)) 201)))]) (ok := (fun k_ => (P0_ k_ ∨ w.heap.size ≤ k_) ∧ k_ ≠ gb429)) (okp := (fun k_ => (P0_ k_ ∨ w.heap.size ≤ k_) ∧ k_ ≠ gb429)) ?hr ?hp (fun _ hk => hk) ((show ∀ k_, w64.heap.size ≤ k_ → (fun k_ => (P0_ k_ ∨ w.heap.size ≤ k_) ∧ k_ ≠ gb429) k_ from fun k_ hk => ⟨(.inr (Nat.le_trans (below_size (by repeat (first | (with_reducible first | exact HB.out | apply below_alloc | apply pw_below_drewN | apply below_drew1 | refine below_set ?_ GE429.out) | exact HB.out))) hk)), Kd.freshB (g := gb429) (o := .cells #[.slice A1_0 l1_0.length c1_0, .int .i64 a1_1, .int .i64 a1_2, .int .i64 a1_3] 29 (0, 0)) (by (with_reducible repeat (first | refine blk_drewN ?_ _ | refine blk_drew ?_ | refine blk_alloc ?_ _)); exact BK429.out) k_ hk⟩) _ (Nat.le_refl _)) (Below.refl _ _) (Nat.le_refl _) (by simp) ?_; (case hd => rfl); (case hg => rfl); (case hr => first | (go_simp; done) | (go_simp; rfl)); (case hp => exact (Reps.c7 (show Kd.FK k43 _ _ (⟨(⟨1, 0, (⟨#[]⟩ : ByteArray), 0, 0, l0⟩ : S24), (x7_1 == (l0.length : Int))⟩ : S43) [.int .i64 1, .int .i64 0, .string (⟨#[]⟩ : ByteArray), .int .i64 0, .int .i64 0, .slice A0 l0.length c0, .bool (x7_1 == (l0.length : Int))] from (k43_mkF _ _ (⟨(⟨1, 0, (⟨#[]⟩ : ByteArray), 0, 0, l0⟩ : S24), (x7_1 == (l0.length : Int))⟩ : S43) (Kd.V_reads' (Kd.V_mono (ok' := (fun k_ => (P0_ k_ ∨ w.heap.size ≤ k_) ∧ k_ ≠ gb429)) (HO_0.out) (fun k_ hk => ⟨hk.1, hk.2⟩))).2.1 (Kd.V_F (Kd.V_mono (ok' := (fun k_ => (P0_ k_ ∨ w.heap.size ≤ k_) ∧ k_ ≠ gb429)) (HO_0.out) (fun k_ hk => ⟨hk.1, hk.2⟩))))) (Reps.c7 (show Kd.FK k43 _ _ (⟨(⟨2, 0, (⟨#[]⟩ : ByteArray), 0, 0, l0⟩ : S24), decide (x7_1 > 0)⟩ : S43) [.int .i64 2, .int .i64 0, .string (⟨#[]⟩ : ByteArray), .int .i64 0, .int .i64 0, .slice A0 l0.length c0, .bool (decide (x7_1 > 0))] from (k43_mkF _ _ (⟨(⟨2, 0, (⟨#[]⟩ : ByteArray), 0, 0, l0⟩ : S24), decide (x7_1 > 0)⟩ : S43) (Kd.V_reads' (Kd.V_mono (ok' := (fun k_ => (P0_ k_ ∨ w.heap.size ≤ k_) ∧ k_ ≠ gb429)) (HO_0.out) (fun k_ hk => ⟨hk.1, hk.2⟩))).2.1 (Kd.V_F (Kd.V_mono (ok' := (fun k_ => (P0_ k_ ∨ w.heap.size ≤ k_) ∧ k_ ≠ gb429)) (HO_0.out) (fun k_ hk => ⟨hk.1, hk.2⟩))))) (Reps.c7 (show Kd.FK k43 _ _ (⟨(⟨3, 0, (⟨#[]⟩ : ByteArray), Int.tmod (wrap64 (a2)) 201, 0, l0⟩ : S24), decide (x7_1 ≥ (Int.tmod (wrap64 (a2)) 201))⟩ : S43) [.int .i64 3, .int .i64 0, .string (⟨#[]⟩ : ByteArray), .int .i64 (Int.tmod (wrap64 (a2)) 201), .int .i64 0, .slice A0 l0.length c0, .bool (decide (x7_1 ≥ (Int.tmod (wrap64 (a2)) 201)))] from (k43_mkF _ _ (⟨(⟨3, 0, (⟨#[]⟩ : ByteArray), Int.tmod (wrap64 (a2)) 201, 0, l0⟩ : S24), decide (x7_1 ≥ (Int.tmod (wrap64 (a2)) 201))⟩ : S43) (Kd.V_reads' (Kd.V_mono (ok' := (fun k_ => (P0_ k_ ∨ w.heap.size ≤ k_) ∧ k_ ≠ gb429)) (HO_0.out) (fun k_ hk => ⟨hk.1, hk.2⟩))).2.1 (Kd.V_F (Kd.V_mono (ok' := (fun k_ => (P0_ k_ ∨ w.heap.size ≤ k_) ∧ k_ ≠ gb429)) (HO_0.out) (fun k_ hk => ⟨hk.1, hk.2⟩))))) (Reps.none _ _))))); intro v449 w65 ho66 hb hg_ hnew_; clear hg_ hnew_; (first | rw [← Ny448.out] at ho66 | (simp only [Int.reduceToNat] at ho66; rw [← Ny448.out] at ho66)); have n0_ := Aside0.mk (Kd.V_elder' (by (with_reducible repeat (first | apply Kd.V_alloc | apply Kd.V_drewN | apply Kd.V_drew)); exact HO_0.out) (Kd.N_base ho66) hb); have n1_ := Aside0.mk (Kd.N_lower ho66 (below_size (by repeat (first | (with_reducible first | exact HB.out | apply below_alloc | apply pw_below_drewN | apply below_drew1 | refine below_set ?_ GE429.out) | exact HB.out)))); have n2_ := Aside0.mk (blk_below (g := gb429) (o := .cells #[.slice A1_0 l1_0.length c1_0, .int .i64 a1_1, .int .i64 a1_2, .int .i64 a1_3] 29 (0, 0)) (by (with_reducible repeat (first | refine blk_drewN ?_ _ | refine blk_drew ?_ | refine blk_alloc ?_ _)); exact BK429.out) hb); have n3_ := Aside0.mk (below_step (by repeat (first | (with_reducible first | exact HB.out | apply below_alloc | apply pw_below_drewN | apply below_drew1 | refine below_set ?_ GE429.out) | exact HB.out)) hb); clear HO_0; clear BK429; clear HB; have HO_0 := n0_; have HO450 := n1_; have BK429 := n2_; have HB := n3_; clear n0_ n1_ n2_ n3_; clear hb ho66; obtain ⟨Ao67, co67, eo67⟩ := Kd.N_slice HO450.out; subst eo67))
      go_loopg [107] k1 (fun kq v107 w' => ∃ (x107_2 : Int), v107 = .int .i64 x107_2 ∧ Aside0 (sizarlaw12_RulesBoolean.l1 kq y448 (y448.length : Int) x107_2 l1_0 a1_1 a1_2 a1_3 = some r) ∧ Aside0 (kq ≤ k1) ∧ Aside0 (Kd.N k43 43 w' w.heap.size (fun k_ => (P0_ k_ ∨ w.heap.size ≤ k_) ∧ k_ ≠ gb429) (.slice Ao67 y448.length co67) y448) ∧ Aside0 (w'.heap[gb429]? = some (.cells #[(.slice A1_0 l1_0.length c1_0), .int .i64 a1_1, .int .i64 a1_2, .int .i64 a1_3] 29 (0, 0))) ∧ Aside0 (Below w.heap.size w w'))
      case atStart => exact ⟨(0), (by first | rfl | (simp; done) | (simp [*]; done)), H', ⟨Nat.le_refl _⟩, ⟨by (with_reducible repeat (first | apply Kd.N_alloc | apply Kd.N_drewN | apply Kd.N_drew)); exact HO450.out⟩, ⟨by (with_reducible repeat (first | refine blk_drewN ?_ _ | refine blk_drew ?_ | refine blk_alloc ?_ _)); exact BK429.out⟩, ⟨by repeat (first | (with_reducible first | exact HB.out | apply below_alloc | apply pw_below_drewN | apply below_drew1 | refine below_set ?_ GE429.out) | exact HB.out)⟩⟩
      case round =>
       clear H'
       try clear c1
       try clear c2
       try clear p2
       try clear c3
       try clear c4
       try clear p4
       try clear q4
       try clear hx4
       try clear c5
       try clear c6
       try clear p6
       try clear c7
       try clear c8
       try clear c8b0
       try clear c19
       try clear c19b1
       try clear c20
       try clear c21
       try clear c22
       try clear c30
       try clear c31
       try clear c31b0
       try clear c32
       try clear c32b0
       try clear c38
       try clear c41
       try clear c41b0
       try clear c41b1
       try clear c43
       try clear p43
       try clear q43
       try clear hx43
       try clear c44
       try clear p44
       try clear q44
       try clear hx44
       try clear c52
       try clear c53
       try clear c53b0
       try clear c54
       try clear c54b0
       try clear c56
       try clear c62
       try clear c62b0
       try clear c62b1
       try clear p64
       try clear hcz17_0
       try clear hcz17_1
       try clear hcz17_2
       try clear hcz17_3
       try clear hcz22_0
       try clear hcz22_1
       try clear hcz22_2
       try clear hcz22_3
       try clear hcz24_0
       try clear hcz24_1
       try clear hcz24_2
       try clear hcz24_3
       try clear hcz27_0
       try clear hcz27_1
       try clear hcz27_2
       try clear hcz27_3
       try clear hcz39_0
       try clear hcz39_1
       try clear hcz39_2
       try clear hcz39_3
       try clear hcz39_4
       try clear hcz39_5
       try clear hcz63_0
       try clear hcz63_1
       try clear hcz63_2
       try clear hcz63_3
       try clear hfz17_0
       try clear hfz17_1
       try clear hfz17_2
       try clear hfz17_3
       try clear hfz22_0
       try clear hfz22_1
       try clear hfz22_2
       try clear hfz22_3
       try clear hfz24_0
       try clear hfz24_1
       try clear hfz24_2
       try clear hfz24_3
       try clear hfz27_0
       try clear hfz27_1
       try clear hfz27_2
       try clear hfz27_3
       try clear hfz39_0
       try clear hfz39_1
       try clear hfz39_2
       try clear hfz39_3
       try clear hfz39_4
       try clear hfz39_5
       try clear hfz63_0
       try clear hfz63_1
       try clear hfz63_2
       try clear hfz63_3
       try clear hx431_0
       try clear hx431_1
       try clear hx431_2
       try clear hx431_3
       try clear hx431_4
       try clear hx431_5
       try clear hx433_0
       try clear hx433_1
       try clear hx433_2
       try clear hx433_3
       try clear hx433_4
       try clear hx433_5
       try clear hx436_0
       try clear hx436_1
       try clear hx436_2
       try clear hx436_3
       try clear hx436_4
       try clear hx436_5
       try clear hx443_0
       try clear hx443_1
       try clear hx443_2
       try clear hx443_3
       try clear hx443_4
       try clear hx443_5
       try clear hx445_0
       try clear hx445_1
       try clear hx445_2
       try clear hx445_3
       try clear hx445_4
       try clear hx445_5
       try clear p2
       try clear p4
       try clear p43
       try clear p431
       try clear p433
       try clear p436
       try clear p44
       try clear p443
       try clear p445
       try clear q4
       try clear q43
       try clear q431
       try clear q433
       try clear q436
       try clear q44
       try clear q443
       try clear q445
       obtain ⟨x107_2, rfl, HA, HK2, HO_105, BK429, HB⟩ := hrel
       cases gk with
       | zero => exact absurd HA.out (by simp [sizarlaw12_RulesBoolean.l1])
       | succ k2 =>
        have H := HA.out
        clear HA
        simp only [sizarlaw12_RulesBoolean.l1] at H
        by_cases c68 : x107_2 < (y448.length : Int)
        ·rw [if_pos c68] at H
         have c68b0 : decide (x107_2 < (y448.length : Int)) = true := decide_eq_true c68
         clear c68
         by_cases c69 : 0 ≤ x107_2
         ·rw [if_pos c69] at H
          have c69b0 : decide (0 ≤ x107_2) = true := decide_eq_true c69
          clear c69
          by_cases c70 : x107_2 < (y448.length : Int)
          ·rw [if_pos c70] at H
           have c70b0 : decide (x107_2 < (y448.length : Int)) = true := decide_eq_true c70
           clear c70
           replace H := Option.bind_eq_some_iff.mp H
           obtain ⟨t453, A710, H⟩ := H
           replace H : (if t453 = 0 then ((sizarlaw12_holds.f k2 ((rd_T43 y448 x107_2).f0.f0) ((rd_T43 y448 x107_2).f0.f1) ((rd_T43 y448 x107_2).f0.f2) ((rd_T43 y448 x107_2).f0.f3) ((rd_T43 y448 x107_2).f0.f4) ((rd_T43 y448 x107_2).f0.f5) l1_0 a1_1 a1_2 a1_3).bind fun t454 => (if (t454 != ((rd_T43 y448 x107_2).f1)) = true then (some false) else (sizarlaw12_RulesBoolean.l1 k2 y448 (y448.length : Int) (wrap64 (x107_2 + 1)) l1_0 a1_1 a1_2 a1_3))) else (sizarlaw12_RulesBoolean.l1 k2 y448 (y448.length : Int) (wrap64 (x107_2 + 1)) l1_0 a1_1 a1_2 a1_3)) = some r := H
           have A71 := Aside0.mk A710
           clear A710
           by_cases c72 : t453 = 0
           ·rw [if_pos c72] at H
            have c72b0 : (t453 == 0) = true := beq_iff_eq.mpr c72
            have c72b1 : (t453 != 0) = false := bne_eq_false_iff_eq.mpr c72
            clear c72
            replace H := Option.bind_eq_some_iff.mp H
            obtain ⟨t454, A730, H⟩ := H
            replace H : (if (t454 != ((rd_T43 y448 x107_2).f1)) = true then (some false) else (sizarlaw12_RulesBoolean.l1 k2 y448 (y448.length : Int) (wrap64 (x107_2 + 1)) l1_0 a1_1 a1_2 a1_3)) = some r := H
            have A73 := Aside0.mk A730
            clear A730
            by_cases c74 : (t454 != ((rd_T43 y448 x107_2).f1)) = true
            ·rw [if_pos c74] at H
             have c74b0 : (t454 != ((rd_T43 y448 x107_2).f1)) = true := c74
             (try (have c74b1 : decide (t454 = ((rd_T43 y448 x107_2).f1)) = false := by simpa using c74))
             (try (have c74b2 : (t454 == ((rd_T43 y448 x107_2).f1)) = false := by simpa using c74))
             (try (have c74b3 : ¬ (t454 = ((rd_T43 y448 x107_2).f1)) := by simpa using c74))
             clear c74
             obtain rfl := Option.some.inj H
             have p451 : 0 ≤ (x107_2 : Int) := of_decide_eq_true (by first | (with_reducible assumption) | assumption)
             have q451 : x107_2 < (y448.length : Int) := of_decide_eq_true (by first | (with_reducible assumption) | assumption)
             obtain ⟨ad451, A451_5, c451_5, e451, hx451_0, hx451_1, hx451_2, hx451_3, hx451_4, hx451_5, hx451_6, hl451_5, hi451_5⟩ := at_T43 (Kd.N_reads' HO_105.out).2.2 x107_2 p451 q451
             cases e451
             obtain ⟨ce451, hce451, hMe451, hcc451⟩ := Kd.N_get HO_105.out z43 x107_2 p451 (by first | exact q451 | exact of_decide_eq_true (by first | (with_reducible assumption) | assumption) | (have e_ := (Kd.N_reads' HO_105.out).1; omega))
             obtain ⟨ua451_5, uc451_5, rfl, ul451_5, ge451_5⟩ := k43_openF hMe451
             have hv451_5 := hcc451 5 _ rfl
             rw [add_field _ _ 5 (by omega)] at hv451_5
             replace hv451_5 := Option.some.inj (hv451_5.symm.trans hx451_5)
             injection hv451_5 with hva_ hvn_ hvc_
             rw [hva_] at ge451_5
             rw [hvc_] at ul451_5
             have HL451_5 := Aside0.mk (show Kd.V k24 24 _ w.heap.size _ _ ((rd_T43 y448 x107_2).f0.f5) from Kd.V_mk ul451_5 ge451_5)
             clear hva_ hvn_ hvc_ ge451_5 ul451_5
             clear hcc451 hce451
             have HR451_5 := Aside0.mk hi451_5
             have HC451_5 := Aside0.mk hl451_5
             clear hi451_5 hl451_5
             replace p451 := eq_true p451
             replace q451 := eq_true q451
             try go_wp2_with (first | ((with_reducible refine gate_dst (N := 12) rfl ?_); (try (refine gate_guard (by rfl) ?_; dsimp only)); refine box_event ?hg (N := 12) ?hd (cs := #[.int .i64 0, .int .i64 0, .string (⟨#[]⟩ : ByteArray), .int .i64 0, .int .i64 0, .slice none 0 0, .bool false]) (t := 43) ?hr ?_; (case hd => rfl); (case hg => rfl); (case hr => first | (go_simp; done) | (go_simp; rfl)); intro gb452 hg w75 hbox hb; have n0_ := Aside0.mk (Kd.N_below (Kd.N_elderB (by (with_reducible repeat (first | apply Kd.N_alloc | apply Kd.N_drewN | apply Kd.N_drew)); exact HO_105.out) gb452 (Nat.le_of_eq hg.symm)) hb); have n1_ := Aside0.mk (Kd.V_below (Kd.V_elderB (by (with_reducible repeat (first | apply Kd.V_alloc | apply Kd.V_drewN | apply Kd.V_drew)); exact HL451_5.out) gb452 (Nat.le_of_eq hg.symm)) hb); have n2_ := Aside0.mk (blk_below (g := gb429) (o := .cells #[.slice A1_0 l1_0.length c1_0, .int .i64 a1_1, .int .i64 a1_2, .int .i64 a1_3] 29 (0, 0)) (by (with_reducible repeat (first | refine blk_drewN ?_ _ | refine blk_drew ?_ | refine blk_alloc ?_ _)); exact BK429.out) hb); have n3_ := Aside0.mk (Kd.C_below (by repeat (first | (with_reducible exact HR451_5.out) | (with_reducible refine Kd.C_alloc ?_ _) | (with_reducible refine Kd.C_drewN ?_ _) | (with_reducible refine Kd.C_drew ?_) | exact HR451_5.out)) hb); have n4_ := Aside0.mk (below_step (by repeat (first | (with_reducible first | exact HB.out | apply below_alloc | apply pw_below_drewN | apply below_drew1 | refine below_set ?_ GE429.out) | exact HB.out)) hb); have n5_ := Aside0.mk (hbox); have n6_ := Aside0.mk ((by rw [hg]; exact (below_size (by repeat (first | (with_reducible first | exact HB.out | apply below_alloc | apply pw_below_drewN | apply below_drew1 | refine below_set ?_ GE429.out) | exact HB.out))) : w.heap.size ≤ gb452)); have n7_ := Aside0.mk ((by rw [hg]; exact (below_size (by repeat (first | (with_reducible first | exact HB.out | apply below_alloc | apply pw_below_drewN | apply below_drew1 | refine below_set ?_ GE429.out) | exact HB.out))) : w.heap.size ≤ gb452)); have n8_ := Aside0.mk ((by rw [hg]; exact Nat.ne_of_lt (blk_lt (g := gb429) (o := .cells #[.slice A1_0 l1_0.length c1_0, .int .i64 a1_1, .int .i64 a1_2, .int .i64 a1_3] 29 (0, 0)) (by (with_reducible repeat (first | refine blk_drewN ?_ _ | refine blk_drew ?_ | refine blk_alloc ?_ _)); exact BK429.out)) : gb429 ≠ gb452)); have n9_ := Aside0.mk ((by rw [hg]; exact Nat.ne_of_gt (blk_lt (g := gb429) (o := .cells #[.slice A1_0 l1_0.length c1_0, .int .i64 a1_1, .int .i64 a1_2, .int .i64 a1_3] 29 (0, 0)) (by (with_reducible repeat (first | refine blk_drewN ?_ _ | refine blk_drew ?_ | refine blk_alloc ?_ _)); exact BK429.out)) : gb452 ≠ gb429)); clear HO_105; clear HL451_5; clear BK429; clear HR451_5; clear HB; have HO_105 := n0_; have HL451_5 := n1_; have BK429 := n2_; have HR451_5 := n3_; have HB := n4_; have BK452 := n5_; have GW452 := n6_; have GE452 := n7_; have NB429_452 := n8_; have NB452_429 := n9_; clear n0_ n1_ n2_ n3_ n4_ n5_ n6_ n7_ n8_ n9_; clear hb hbox hg; have hnb76 := NB452_429.out; have hnc76 := NB429_452.out; have hcz77_0 : w75.cell? ⟨gb452, 0, none⟩ = some (.int .i64 0) := (blk_cell BK452.out 0).trans rfl; have hcz77_1 : w75.cell? ⟨gb452, 1, none⟩ = some (.int .i64 0) := (blk_cell BK452.out 1).trans rfl; have hcz77_2 : w75.cell? ⟨gb452, 2, none⟩ = some (.string (⟨#[]⟩ : ByteArray)) := (blk_cell BK452.out 2).trans rfl; have hcz77_3 : w75.cell? ⟨gb452, 3, none⟩ = some (.int .i64 0) := (blk_cell BK452.out 3).trans rfl; have hcz77_4 : w75.cell? ⟨gb452, 4, none⟩ = some (.int .i64 0) := (blk_cell BK452.out 4).trans rfl; have hcz77_5 : w75.cell? ⟨gb452, 5, none⟩ = some (.slice none 0 0) := (blk_cell BK452.out 5).trans rfl; have hcz77_6 : w75.cell? ⟨gb452, 6, none⟩ = some (.bool false) := (blk_cell BK452.out 6).trans rfl; have hfz77_0 := blk_frozen BK452.out 0; have hfz77_1 := blk_frozen BK452.out 1; have hfz77_2 := blk_frozen BK452.out 2; have hfz77_3 := blk_frozen BK452.out 3; have hfz77_4 := blk_frozen BK452.out 4; have hfz77_5 := blk_frozen BK452.out 5; have hfz77_6 := blk_frozen BK452.out 6))
             have n0_ : Aside0 (Kd.N k43 43 (((((((w75.setCell ⟨gb452, 0, none⟩ (.int .i64 ((rd_T43 y448 x107_2).f0.f0))).setCell ⟨gb452, 1, none⟩ (.int .i64 ((rd_T43 y448 x107_2).f0.f1))).setCell ⟨gb452, 2, none⟩ (.string ((rd_T43 y448 x107_2).f0.f2))).setCell ⟨gb452, 3, none⟩ (.int .i64 ((rd_T43 y448 x107_2).f0.f3))).setCell ⟨gb452, 4, none⟩ (.int .i64 ((rd_T43 y448 x107_2).f0.f4))).setCell ⟨gb452, 5, none⟩ (.slice A451_5 ((rd_T43 y448 x107_2).f0.f5).length c451_5)).setCell ⟨gb452, 6, none⟩ (.bool ((rd_T43 y448 x107_2).f1))) w.heap.size (fun k_ => (P0_ k_ ∨ w.heap.size ≤ k_) ∧ k_ ≠ gb429 ∧ k_ ≠ gb452) (.slice (some ad451) y448.length co67) y448) := ⟨by (with_reducible repeat (first | apply Kd.N_alloc | apply Kd.N_drewN | apply Kd.N_drew)); exact Kd.N_mono (Kd.N_far (p := ⟨gb452, 6, none⟩) (Kd.N_far (p := ⟨gb452, 5, none⟩) (Kd.N_far (p := ⟨gb452, 4, none⟩) (Kd.N_far (p := ⟨gb452, 3, none⟩) (Kd.N_far (p := ⟨gb452, 2, none⟩) (Kd.N_far (p := ⟨gb452, 1, none⟩) (Kd.N_far (p := ⟨gb452, 0, none⟩) (Kd.N_mono HO_105.out (fun k_ hk => (⟨hk, hk.2⟩ : _ ∧ k_ ≠ gb452))) (fun _ hk => hk.2) (.int .i64 ((rd_T43 y448 x107_2).f0.f0))) (fun _ hk => hk.2) (.int .i64 ((rd_T43 y448 x107_2).f0.f1))) (fun _ hk => hk.2) (.string ((rd_T43 y448 x107_2).f0.f2))) (fun _ hk => hk.2) (.int .i64 ((rd_T43 y448 x107_2).f0.f3))) (fun _ hk => hk.2) (.int .i64 ((rd_T43 y448 x107_2).f0.f4))) (fun _ hk => hk.2) (.slice A451_5 ((rd_T43 y448 x107_2).f0.f5).length c451_5)) (fun _ hk => hk.2) (.bool ((rd_T43 y448 x107_2).f1))) (fun _ hk => ⟨hk.1.1.1, ⟨hk.1.1.2, hk.1.2⟩⟩)⟩
             have n1_ : Aside0 (Kd.V k24 24 (((((((w75.setCell ⟨gb452, 0, none⟩ (.int .i64 ((rd_T43 y448 x107_2).f0.f0))).setCell ⟨gb452, 1, none⟩ (.int .i64 ((rd_T43 y448 x107_2).f0.f1))).setCell ⟨gb452, 2, none⟩ (.string ((rd_T43 y448 x107_2).f0.f2))).setCell ⟨gb452, 3, none⟩ (.int .i64 ((rd_T43 y448 x107_2).f0.f3))).setCell ⟨gb452, 4, none⟩ (.int .i64 ((rd_T43 y448 x107_2).f0.f4))).setCell ⟨gb452, 5, none⟩ (.slice A451_5 ((rd_T43 y448 x107_2).f0.f5).length c451_5)).setCell ⟨gb452, 6, none⟩ (.bool ((rd_T43 y448 x107_2).f1))) w.heap.size (fun k_ => (P0_ k_ ∨ w.heap.size ≤ k_) ∧ some k_ ≠ (.slice (some ad451) y448.length co67 : Value).ownBlock ∧ k_ ≠ gb429 ∧ k_ ≠ gb452) (.slice A451_5 ((rd_T43 y448 x107_2).f0.f5).length c451_5) ((rd_T43 y448 x107_2).f0.f5)) := ⟨by (with_reducible repeat (first | apply Kd.V_alloc | apply Kd.V_drewN | apply Kd.V_drew)); exact Kd.V_mono (Kd.V_far (p := ⟨gb452, 6, none⟩) (Kd.V_far (p := ⟨gb452, 5, none⟩) (Kd.V_far (p := ⟨gb452, 4, none⟩) (Kd.V_far (p := ⟨gb452, 3, none⟩) (Kd.V_far (p := ⟨gb452, 2, none⟩) (Kd.V_far (p := ⟨gb452, 1, none⟩) (Kd.V_far (p := ⟨gb452, 0, none⟩) (Kd.V_mono HL451_5.out (fun k_ hk => (⟨hk, hk.2⟩ : _ ∧ k_ ≠ gb452))) (fun _ hk => hk.2) (.int .i64 ((rd_T43 y448 x107_2).f0.f0))) (fun _ hk => hk.2) (.int .i64 ((rd_T43 y448 x107_2).f0.f1))) (fun _ hk => hk.2) (.string ((rd_T43 y448 x107_2).f0.f2))) (fun _ hk => hk.2) (.int .i64 ((rd_T43 y448 x107_2).f0.f3))) (fun _ hk => hk.2) (.int .i64 ((rd_T43 y448 x107_2).f0.f4))) (fun _ hk => hk.2) (.slice A451_5 ((rd_T43 y448 x107_2).f0.f5).length c451_5)) (fun _ hk => hk.2) (.bool ((rd_T43 y448 x107_2).f1))) (fun _ hk => ⟨hk.1.1.1.1, ⟨hk.1.1.2, ⟨hk.1.1.1.2, hk.1.2⟩⟩⟩)⟩
             have n2_ : Aside0 ((((((((w75.setCell ⟨gb452, 0, none⟩ (.int .i64 ((rd_T43 y448 x107_2).f0.f0))).setCell ⟨gb452, 1, none⟩ (.int .i64 ((rd_T43 y448 x107_2).f0.f1))).setCell ⟨gb452, 2, none⟩ (.string ((rd_T43 y448 x107_2).f0.f2))).setCell ⟨gb452, 3, none⟩ (.int .i64 ((rd_T43 y448 x107_2).f0.f3))).setCell ⟨gb452, 4, none⟩ (.int .i64 ((rd_T43 y448 x107_2).f0.f4))).setCell ⟨gb452, 5, none⟩ (.slice A451_5 ((rd_T43 y448 x107_2).f0.f5).length c451_5)).setCell ⟨gb452, 6, none⟩ (.bool ((rd_T43 y448 x107_2).f1))).heap[gb429]? = some (.cells #[.slice A1_0 l1_0.length c1_0, .int .i64 a1_1, .int .i64 a1_2, .int .i64 a1_3] 29 (0, 0))) := ⟨by (with_reducible repeat (first | refine blk_drewN ?_ _ | refine blk_drew ?_ | refine blk_alloc ?_ _)); refine blk_far ?_ NB429_452.out _; (with_reducible repeat (first | refine blk_drewN ?_ _ | refine blk_drew ?_ | refine blk_alloc ?_ _)); refine blk_far ?_ NB429_452.out _; (with_reducible repeat (first | refine blk_drewN ?_ _ | refine blk_drew ?_ | refine blk_alloc ?_ _)); refine blk_far ?_ NB429_452.out _; (with_reducible repeat (first | refine blk_drewN ?_ _ | refine blk_drew ?_ | refine blk_alloc ?_ _)); refine blk_far ?_ NB429_452.out _; (with_reducible repeat (first | refine blk_drewN ?_ _ | refine blk_drew ?_ | refine blk_alloc ?_ _)); refine blk_far ?_ NB429_452.out _; (with_reducible repeat (first | refine blk_drewN ?_ _ | refine blk_drew ?_ | refine blk_alloc ?_ _)); refine blk_far ?_ NB429_452.out _; (with_reducible repeat (first | refine blk_drewN ?_ _ | refine blk_drew ?_ | refine blk_alloc ?_ _)); refine blk_far ?_ NB429_452.out _; (with_reducible repeat (first | refine blk_drewN ?_ _ | refine blk_drew ?_ | refine blk_alloc ?_ _)); exact BK429.out⟩
             have n3_ : Aside0 ((((((((w75.setCell ⟨gb452, 0, none⟩ (.int .i64 ((rd_T43 y448 x107_2).f0.f0))).setCell ⟨gb452, 1, none⟩ (.int .i64 ((rd_T43 y448 x107_2).f0.f1))).setCell ⟨gb452, 2, none⟩ (.string ((rd_T43 y448 x107_2).f0.f2))).setCell ⟨gb452, 3, none⟩ (.int .i64 ((rd_T43 y448 x107_2).f0.f3))).setCell ⟨gb452, 4, none⟩ (.int .i64 ((rd_T43 y448 x107_2).f0.f4))).setCell ⟨gb452, 5, none⟩ (.slice A451_5 ((rd_T43 y448 x107_2).f0.f5).length c451_5)).setCell ⟨gb452, 6, none⟩ (.bool ((rd_T43 y448 x107_2).f1))).heap[gb452]? = some (.cells #[.int .i64 ((rd_T43 y448 x107_2).f0.f0), .int .i64 ((rd_T43 y448 x107_2).f0.f1), .string ((rd_T43 y448 x107_2).f0.f2), .int .i64 ((rd_T43 y448 x107_2).f0.f3), .int .i64 ((rd_T43 y448 x107_2).f0.f4), .slice A451_5 ((rd_T43 y448 x107_2).f0.f5).length c451_5, .bool ((rd_T43 y448 x107_2).f1)] 43 (0, 0))) := ⟨by (with_reducible repeat (first | refine blk_drewN ?_ _ | refine blk_drew ?_ | refine blk_alloc ?_ _)); refine blk_put (cs := #[.int .i64 ((rd_T43 y448 x107_2).f0.f0), .int .i64 ((rd_T43 y448 x107_2).f0.f1), .string ((rd_T43 y448 x107_2).f0.f2), .int .i64 ((rd_T43 y448 x107_2).f0.f3), .int .i64 ((rd_T43 y448 x107_2).f0.f4), .slice A451_5 ((rd_T43 y448 x107_2).f0.f5).length c451_5, .bool false]) ?_ 6 _ rfl; (with_reducible repeat (first | refine blk_drewN ?_ _ | refine blk_drew ?_ | refine blk_alloc ?_ _)); refine blk_put (cs := #[.int .i64 ((rd_T43 y448 x107_2).f0.f0), .int .i64 ((rd_T43 y448 x107_2).f0.f1), .string ((rd_T43 y448 x107_2).f0.f2), .int .i64 ((rd_T43 y448 x107_2).f0.f3), .int .i64 ((rd_T43 y448 x107_2).f0.f4), .slice none 0 0, .bool false]) ?_ 5 _ rfl; (with_reducible repeat (first | refine blk_drewN ?_ _ | refine blk_drew ?_ | refine blk_alloc ?_ _)); refine blk_put (cs := #[.int .i64 ((rd_T43 y448 x107_2).f0.f0), .int .i64 ((rd_T43 y448 x107_2).f0.f1), .string ((rd_T43 y448 x107_2).f0.f2), .int .i64 ((rd_T43 y448 x107_2).f0.f3), .int .i64 0, .slice none 0 0, .bool false]) ?_ 4 _ rfl; (with_reducible repeat (first | refine blk_drewN ?_ _ | refine blk_drew ?_ | refine blk_alloc ?_ _)); refine blk_put (cs := #[.int .i64 ((rd_T43 y448 x107_2).f0.f0), .int .i64 ((rd_T43 y448 x107_2).f0.f1), .string ((rd_T43 y448 x107_2).f0.f2), .int .i64 0, .int .i64 0, .slice none 0 0, .bool false]) ?_ 3 _ rfl; (with_reducible repeat (first | refine blk_drewN ?_ _ | refine blk_drew ?_ | refine blk_alloc ?_ _)); refine blk_put (cs := #[.int .i64 ((rd_T43 y448 x107_2).f0.f0), .int .i64 ((rd_T43 y448 x107_2).f0.f1), .string (⟨#[]⟩ : ByteArray), .int .i64 0, .int .i64 0, .slice none 0 0, .bool false]) ?_ 2 _ rfl; (with_reducible repeat (first | refine blk_drewN ?_ _ | refine blk_drew ?_ | refine blk_alloc ?_ _)); refine blk_put (cs := #[.int .i64 ((rd_T43 y448 x107_2).f0.f0), .int .i64 0, .string (⟨#[]⟩ : ByteArray), .int .i64 0, .int .i64 0, .slice none 0 0, .bool false]) ?_ 1 _ rfl; (with_reducible repeat (first | refine blk_drewN ?_ _ | refine blk_drew ?_ | refine blk_alloc ?_ _)); refine blk_put (cs := #[.int .i64 0, .int .i64 0, .string (⟨#[]⟩ : ByteArray), .int .i64 0, .int .i64 0, .slice none 0 0, .bool false]) ?_ 0 _ rfl; (with_reducible repeat (first | refine blk_drewN ?_ _ | refine blk_drew ?_ | refine blk_alloc ?_ _)); exact BK452.out⟩
             have n4_ : Aside0 (Below w.heap.size w (((((((w75.setCell ⟨gb452, 0, none⟩ (.int .i64 ((rd_T43 y448 x107_2).f0.f0))).setCell ⟨gb452, 1, none⟩ (.int .i64 ((rd_T43 y448 x107_2).f0.f1))).setCell ⟨gb452, 2, none⟩ (.string ((rd_T43 y448 x107_2).f0.f2))).setCell ⟨gb452, 3, none⟩ (.int .i64 ((rd_T43 y448 x107_2).f0.f3))).setCell ⟨gb452, 4, none⟩ (.int .i64 ((rd_T43 y448 x107_2).f0.f4))).setCell ⟨gb452, 5, none⟩ (.slice A451_5 ((rd_T43 y448 x107_2).f0.f5).length c451_5)).setCell ⟨gb452, 6, none⟩ (.bool ((rd_T43 y448 x107_2).f1)))) := ⟨by repeat (first | (with_reducible first | exact HB.out | apply below_alloc | apply pw_below_drewN | apply below_drew1 | refine below_set ?_ GE429.out | refine below_set ?_ GE452.out) | exact HB.out)⟩
             (try clear HO_105)
             (try clear HL451_5)
             (try clear BK429)
             (try clear BK452)
             (try clear HB)
             generalize (((((((w75.setCell ⟨gb452, 0, none⟩ (.int .i64 ((rd_T43 y448 x107_2).f0.f0))).setCell ⟨gb452, 1, none⟩ (.int .i64 ((rd_T43 y448 x107_2).f0.f1))).setCell ⟨gb452, 2, none⟩ (.string ((rd_T43 y448 x107_2).f0.f2))).setCell ⟨gb452, 3, none⟩ (.int .i64 ((rd_T43 y448 x107_2).f0.f3))).setCell ⟨gb452, 4, none⟩ (.int .i64 ((rd_T43 y448 x107_2).f0.f4))).setCell ⟨gb452, 5, none⟩ (.slice A451_5 ((rd_T43 y448 x107_2).f0.f5).length c451_5)).setCell ⟨gb452, 6, none⟩ (.bool ((rd_T43 y448 x107_2).f1))) = w78 at n0_ n1_ n2_ n3_ n4_ ⊢
             have HO_105 := n0_
             have HL451_5 := n1_
             have BK429 := n2_
             have BK452 := n3_
             have HB := n4_
             clear n0_ n1_ n2_ n3_ n4_
             have n0_ := Aside0.mk (Kd.N_drew HO_105.out)
             have n1_ := Aside0.mk (Kd.V_drew HL451_5.out)
             have n2_ := Aside0.mk (blk_drew BK429.out)
             have n3_ := Aside0.mk (blk_drew BK452.out)
             have n4_ := Aside0.mk (below_drew1 HB.out)
             clear HO_105
             clear HL451_5
             clear BK429
             clear BK452
             clear HB
             have HO_105 := n0_
             have HL451_5 := n1_
             have BK429 := n2_
             have BK452 := n3_
             have HB := n4_
             clear n0_ n1_ n2_ n3_ n4_
             refine start_ (n := 13) (S := fun w' => w'.cell? ⟨gb452, 0, none⟩ = some (.int .i64 ((rd_T43 y448 x107_2).f0.f0)) ∧ w'.cell? ⟨gb452, 1, none⟩ = some (.int .i64 ((rd_T43 y448 x107_2).f0.f1)) ∧ w'.cell? ⟨gb452, 2, none⟩ = some (.string ((rd_T43 y448 x107_2).f0.f2)) ∧ w'.cell? ⟨gb452, 3, none⟩ = some (.int .i64 ((rd_T43 y448 x107_2).f0.f3)) ∧ w'.cell? ⟨gb452, 4, none⟩ = some (.int .i64 ((rd_T43 y448 x107_2).f0.f4)) ∧ w'.cell? ⟨gb452, 5, none⟩ = some (.slice A451_5 ((rd_T43 y448 x107_2).f0.f5).length c451_5) ∧ w'.cell? ⟨gb452, 6, none⟩ = some (.bool ((rd_T43 y448 x107_2).f1)) ∧ w'.cell? ⟨gb429, 0, none⟩ = some (.slice A1_0 l1_0.length c1_0) ∧ w'.cell? ⟨gb429, 1, none⟩ = some (.int .i64 a1_1) ∧ w'.cell? ⟨gb429, 2, none⟩ = some (.int .i64 a1_2) ∧ w'.cell? ⟨gb429, 3, none⟩ = some (.int .i64 a1_3)) (ds := []) #[false, false, false, false, false, false, false, false, false, false, false, false, false] (by kernel_rfl) rfl rfl ⟨(blk_cell BK452.out 0).trans rfl, (blk_cell BK452.out 1).trans rfl, (blk_cell BK452.out 2).trans rfl, (blk_cell BK452.out 3).trans rfl, (blk_cell BK452.out 4).trans rfl, (blk_cell BK452.out 5).trans rfl, (blk_cell BK452.out 6).trans rfl, (blk_cell BK429.out 0).trans rfl, (blk_cell BK429.out 1).trans rfl, (blk_cell BK429.out 2).trans rfl, (blk_cell BK429.out 3).trans rfl⟩ (fun hHeld => ?_); refine with_tabW sizarlaw12_RulesBoolean.tab20 sizarlaw12_RulesBoolean.bits20 (fun HT_ HW_ => ?_)
             generalize w78.drew = w79 at HO_105 HL451_5 BK429 BK452 HB hHeld ⊢
             refine pure_ (i := 0) (N := some 111) (v := ?_) (a' := ?_) #[true, false, false, false, false, false, false, false, false, false, false, false, false] rfl rfl (any_of HT_.out (by kernel_rfl)) (fun _ _ _ h => h) (Or.inl ⟨by rfl, ?_⟩) ?_ ?_
             rotate_left
             ·intro w'
              go_simp
              with_reducible rfl
             rotate_left
             ·simp only [Act.put, List.setIfInBounds_toArray, List.set_cons_zero, List.set_cons_succ, i64_w, i32_w]
              rfl
             refine take_ (i := 1) (N := some 112) (v := ?_) (a' := ?_) #[true, true, false, false, false, false, false, false, false, false, false, false, false] rfl rfl (take_ofW HT_.out HW_.out (by kernel_rfl)) (fun _ _ _ h => h) (Or.inl ⟨by rfl, ?_⟩) hHeld ?_ ?_
             rotate_left
             ·rintro w' ⟨s0, s1, s2, s3, s4, s5, s6, s7, s8, s9, s10⟩
              go_simp
              with_reducible rfl
             rotate_left
             ·simp only [Act.put, List.setIfInBounds_toArray, List.set_cons_zero, List.set_cons_succ, i64_w, i32_w]
              rfl
             refine one_ (i := 2) (N := some 113) #[true, true, true, false, false, false, false, false, false, false, false, false, false] rfl rfl (one_of HT_.out (by kernel_rfl)) (by decide) (fun K hK => ?_)
             refine goes_ Tryd.func20 (by kernel_rfl) rfl #[.agg #[.int .i64 ((rd_T43 y448 x107_2).f0.f0), .int .i64 ((rd_T43 y448 x107_2).f0.f1), .string ((rd_T43 y448 x107_2).f0.f2), .int .i64 ((rd_T43 y448 x107_2).f0.f3), .int .i64 ((rd_T43 y448 x107_2).f0.f4), .slice A451_5 ((rd_T43 y448 x107_2).f0.f5).length c451_5]] (by rfl) rfl rfl (by (try simp only [List.map_toArray, List.map_cons, List.map_nil]); first | done | rfl | (simp only [List.length_drop, List.length_take]; rfl)) ?_
             with_reducible refine (rules_Check.calls ((rd_T43 y448 x107_2).f0.f0) ((rd_T43 y448 x107_2).f0.f1) ((rd_T43 y448 x107_2).f0.f2) ((rd_T43 y448 x107_2).f0.f3) ((rd_T43 y448 x107_2).f0.f4) _ _ ((rd_T43 y448 x107_2).f0.f5) t453 _ ?side1 ?side2 A71.out ?sideK).mono ?_
             (case sideK => exact HKT.out.below (by repeat (first | (with_reducible first | exact HB.out | apply below_alloc | apply pw_below_drewN | apply below_drew1 | refine below_set ?_ GE429.out | refine below_set ?_ GE452.out) | exact HB.out)))
             (case side1 => repeat (first | exact ((Kd.V_reads' (by (with_reducible repeat (first | apply Kd.V_alloc | apply Kd.V_drewN | apply Kd.V_drew)); exact HL451_5.out)).2.2) | (with_reducible refine Kd.C_alloc ?_ _) | (with_reducible refine Kd.C_drewN ?_ _) | (with_reducible refine Kd.C_drew ?_)))
             (case side2 => exact HC451_5.out)
             rintro e w80 ⟨rfl, hb⟩
             refine ⟨_, rfl, ?_⟩
             have n0_ := Aside0.mk (Kd.N_below (by (with_reducible repeat (first | apply Kd.N_alloc | apply Kd.N_drewN | apply Kd.N_drew)); exact HO_105.out) hb)
             have n1_ := Aside0.mk (Kd.V_below (by (with_reducible repeat (first | apply Kd.V_alloc | apply Kd.V_drewN | apply Kd.V_drew)); exact HL451_5.out) hb)
             have n2_ := Aside0.mk (blk_below (g := gb429) (o := .cells #[.slice A1_0 l1_0.length c1_0, .int .i64 a1_1, .int .i64 a1_2, .int .i64 a1_3] 29 (0, 0)) (by (with_reducible repeat (first | refine blk_drewN ?_ _ | refine blk_drew ?_ | refine blk_alloc ?_ _)); exact BK429.out) hb)
             have n3_ := Aside0.mk (blk_below (g := gb452) (o := .cells #[.int .i64 ((rd_T43 y448 x107_2).f0.f0), .int .i64 ((rd_T43 y448 x107_2).f0.f1), .string ((rd_T43 y448 x107_2).f0.f2), .int .i64 ((rd_T43 y448 x107_2).f0.f3), .int .i64 ((rd_T43 y448 x107_2).f0.f4), .slice A451_5 ((rd_T43 y448 x107_2).f0.f5).length c451_5, .bool ((rd_T43 y448 x107_2).f1)] 43 (0, 0)) (by (with_reducible repeat (first | refine blk_drewN ?_ _ | refine blk_drew ?_ | refine blk_alloc ?_ _)); exact BK452.out) hb)
             have n4_ := Aside0.mk (below_step (by repeat (first | (with_reducible first | exact HB.out | apply below_alloc | apply pw_below_drewN | apply below_drew1 | refine below_set ?_ GE429.out | refine below_set ?_ GE452.out) | exact HB.out)) hb)
             clear HO_105
             clear HL451_5
             clear BK429
             clear BK452
             clear HB
             have HO_105 := n0_
             have HL451_5 := n1_
             have BK429 := n2_
             have BK452 := n3_
             have HB := n4_
             clear n0_ n1_ n2_ n3_ n4_
             (try clear hb)
             (try clear hb2)
             (try clear hk)
             (try clear hi)
             refine hK.out _ _ ⟨(blk_cell BK452.out 0).trans rfl, (blk_cell BK452.out 1).trans rfl, (blk_cell BK452.out 2).trans rfl, (blk_cell BK452.out 3).trans rfl, (blk_cell BK452.out 4).trans rfl, (blk_cell BK452.out 5).trans rfl, (blk_cell BK452.out 6).trans rfl, (blk_cell BK429.out 0).trans rfl, (blk_cell BK429.out 1).trans rfl, (blk_cell BK429.out 2).trans rfl, (blk_cell BK429.out 3).trans rfl⟩ (fun hHeld => ?_)
             clear hK K
             refine norm_ (a' := ?_) ?_ ?_
             rotate_left
             ·show Act.put _ (some 113) _ = _
              simp only [Act.put, List.setIfInBounds_toArray, List.set_cons_zero, List.set_cons_succ, i64_w, i32_w]
              rfl
             refine pure_ (i := 3) (N := some 114) (v := ?_) (a' := ?_) #[true, true, true, true, false, false, false, false, false, false, false, false, false] rfl rfl (any_of HT_.out (by kernel_rfl)) (fun _ _ _ h => h) (Or.inl ⟨by rfl, ?_⟩) ?_ ?_
             rotate_left
             ·intro w'
              go_simp
              with_reducible rfl
             rotate_left
             ·simp only [Act.put, List.setIfInBounds_toArray, List.set_cons_zero, List.set_cons_succ, i64_w, i32_w]
              rfl
             refine pure_ (i := 4) (N := some 115) (v := ?_) (a' := ?_) #[true, true, true, true, true, false, false, false, false, false, false, false, false] rfl rfl (any_of HT_.out (by kernel_rfl)) (fun _ _ _ h => h) (Or.inl ⟨by rfl, ?_⟩) ?_ ?_
             rotate_left
             ·intro w'
              go_simp
              with_reducible rfl
             rotate_left
             ·simp only [Act.put, List.setIfInBounds_toArray, List.set_cons_zero, List.set_cons_succ, i64_w, i32_w]
              rfl
             refine pure_ (i := 5) (N := some 116) (v := ?_) (a' := ?_) #[true, true, true, true, true, true, false, false, false, false, false, false, false] rfl rfl (any_of HT_.out (by kernel_rfl)) (fun _ _ _ h => h) (Or.inl ⟨by rfl, ?_⟩) ?_ ?_
             rotate_left
             ·intro w'
              go_simp
              with_reducible rfl
             rotate_left
             ·simp only [Act.put, List.setIfInBounds_toArray, List.set_cons_zero, List.set_cons_succ, i64_w, i32_w]
              rfl
             refine pure_ (i := 9) (N := some 120) (v := ?_) (a' := ?_) #[true, true, true, true, true, true, false, false, false, true, false, false, false] rfl rfl (any_of HT_.out (by kernel_rfl)) (fun _ _ _ h => h) (Or.inl ⟨by rfl, ?_⟩) ?_ ?_
             rotate_left
             ·intro w'
              go_simp
              with_reducible rfl
             rotate_left
             ·simp only [Act.put, List.setIfInBounds_toArray, List.set_cons_zero, List.set_cons_succ, i64_w, i32_w]
              rfl
             refine take_ (i := 6) (N := some 117) (v := ?_) (a' := ?_) #[true, true, true, true, true, true, true, false, false, true, false, false, false] rfl rfl (take_ofW HT_.out HW_.out (by kernel_rfl)) (fun _ _ _ h => h) (Or.inl ⟨by rfl, ?_⟩) hHeld ?_ ?_
             rotate_left
             ·rintro w' ⟨s0, s1, s2, s3, s4, s5, s6, s7, s8, s9, s10⟩
              go_simp
              with_reducible rfl
             rotate_left
             ·simp only [Act.put, List.setIfInBounds_toArray, List.set_cons_zero, List.set_cons_succ, i64_w, i32_w]
              rfl
             refine take_ (i := 7) (N := some 118) (v := ?_) (a' := ?_) #[true, true, true, true, true, true, true, true, false, true, false, false, false] rfl rfl (take_ofW HT_.out HW_.out (by kernel_rfl)) (fun _ _ _ h => h) (Or.inl ⟨by rfl, ?_⟩) hHeld ?_ ?_
             rotate_left
             ·rintro w' ⟨s0, s1, s2, s3, s4, s5, s6, s7, s8, s9, s10⟩
              go_simp
              with_reducible rfl
             rotate_left
             ·simp only [Act.put, List.setIfInBounds_toArray, List.set_cons_zero, List.set_cons_succ, i64_w, i32_w]
              rfl
             refine take_ (i := 10) (N := some 121) (v := ?_) (a' := ?_) #[true, true, true, true, true, true, true, true, false, true, true, false, false] rfl rfl (take_ofW HT_.out HW_.out (by kernel_rfl)) (fun _ _ _ h => h) (Or.inl ⟨by rfl, ?_⟩) hHeld ?_ ?_
             rotate_left
             ·rintro w' ⟨s0, s1, s2, s3, s4, s5, s6, s7, s8, s9, s10⟩
              go_simp
              with_reducible rfl
             rotate_left
             ·simp only [Act.put, List.setIfInBounds_toArray, List.set_cons_zero, List.set_cons_succ, i64_w, i32_w]
              rfl
             refine one_ (i := 8) (N := some 119) #[true, true, true, true, true, true, true, true, true, true, true, false, false] rfl rfl (one_of HT_.out (by kernel_rfl)) (by decide) (fun K hK => ?_)
             refine goes_ Tryd.func22 (by kernel_rfl) rfl #[.agg #[.int .i64 ((rd_T43 y448 x107_2).f0.f0), .int .i64 ((rd_T43 y448 x107_2).f0.f1), .string ((rd_T43 y448 x107_2).f0.f2), .int .i64 ((rd_T43 y448 x107_2).f0.f3), .int .i64 ((rd_T43 y448 x107_2).f0.f4), .slice A451_5 ((rd_T43 y448 x107_2).f0.f5).length c451_5], .agg #[.slice A1_0 l1_0.length c1_0, .int .i64 a1_1, .int .i64 a1_2, .int .i64 a1_3]] (by rfl) rfl rfl (by (try simp only [List.map_toArray, List.map_cons, List.map_nil]); first | done | rfl | (simp only [List.length_drop, List.length_take]; rfl)) ?_
             with_reducible refine (sizarlaw12_holds.calls k2 ((rd_T43 y448 x107_2).f0.f0) ((rd_T43 y448 x107_2).f0.f1) ((rd_T43 y448 x107_2).f0.f2) ((rd_T43 y448 x107_2).f0.f3) ((rd_T43 y448 x107_2).f0.f4) _ _ ((rd_T43 y448 x107_2).f0.f5) _ _ l1_0 a1_1 a1_2 a1_3 t454 _ ?side1 ?side2 ?side3 ?side4 A73.out ?sideK).mono ?_
             (case sideK => exact HKT.out.below (by repeat (first | (with_reducible first | exact HB.out | apply below_alloc | apply pw_below_drewN | apply below_drew1 | refine below_set ?_ GE429.out | refine below_set ?_ GE452.out) | exact HB.out)))
             (case side1 => repeat (first | exact ((Kd.V_reads' (by (with_reducible repeat (first | apply Kd.V_alloc | apply Kd.V_drewN | apply Kd.V_drew)); exact HL451_5.out)).2.2) | (with_reducible refine Kd.C_alloc ?_ _) | (with_reducible refine Kd.C_drewN ?_ _) | (with_reducible refine Kd.C_drew ?_)))
             (case side2 => exact HC451_5.out)
             (case side3 => repeat (first | exact (Kd.C_below HR1_0.out HB.out) | (with_reducible refine Kd.C_alloc ?_ _) | (with_reducible refine Kd.C_drewN ?_ _) | (with_reducible refine Kd.C_drew ?_)))
             (case side4 => exact HC1_0.out)
             rintro e w81 ⟨rfl, hb⟩
             refine ⟨_, rfl, ?_⟩
             have n0_ := Aside0.mk (Kd.N_below (by (with_reducible repeat (first | apply Kd.N_alloc | apply Kd.N_drewN | apply Kd.N_drew)); exact HO_105.out) hb)
             have n1_ := Aside0.mk (Kd.V_below (by (with_reducible repeat (first | apply Kd.V_alloc | apply Kd.V_drewN | apply Kd.V_drew)); exact HL451_5.out) hb)
             have n2_ := Aside0.mk (blk_below (g := gb429) (o := .cells #[.slice A1_0 l1_0.length c1_0, .int .i64 a1_1, .int .i64 a1_2, .int .i64 a1_3] 29 (0, 0)) (by (with_reducible repeat (first | refine blk_drewN ?_ _ | refine blk_drew ?_ | refine blk_alloc ?_ _)); exact BK429.out) hb)
             have n3_ := Aside0.mk (blk_below (g := gb452) (o := .cells #[.int .i64 ((rd_T43 y448 x107_2).f0.f0), .int .i64 ((rd_T43 y448 x107_2).f0.f1), .string ((rd_T43 y448 x107_2).f0.f2), .int .i64 ((rd_T43 y448 x107_2).f0.f3), .int .i64 ((rd_T43 y448 x107_2).f0.f4), .slice A451_5 ((rd_T43 y448 x107_2).f0.f5).length c451_5, .bool ((rd_T43 y448 x107_2).f1)] 43 (0, 0)) (by (with_reducible repeat (first | refine blk_drewN ?_ _ | refine blk_drew ?_ | refine blk_alloc ?_ _)); exact BK452.out) hb)
             have n4_ := Aside0.mk (below_step (by repeat (first | (with_reducible first | exact HB.out | apply below_alloc | apply pw_below_drewN | apply below_drew1 | refine below_set ?_ GE429.out | refine below_set ?_ GE452.out) | exact HB.out)) hb)
             clear HO_105
             clear HL451_5
             clear BK429
             clear BK452
             clear HB
             have HO_105 := n0_
             have HL451_5 := n1_
             have BK429 := n2_
             have BK452 := n3_
             have HB := n4_
             clear n0_ n1_ n2_ n3_ n4_
             (try clear hb)
             (try clear hb2)
             (try clear hk)
             (try clear hi)
             refine hK.out _ _ ⟨(blk_cell BK452.out 0).trans rfl, (blk_cell BK452.out 1).trans rfl, (blk_cell BK452.out 2).trans rfl, (blk_cell BK452.out 3).trans rfl, (blk_cell BK452.out 4).trans rfl, (blk_cell BK452.out 5).trans rfl, (blk_cell BK452.out 6).trans rfl, (blk_cell BK429.out 0).trans rfl, (blk_cell BK429.out 1).trans rfl, (blk_cell BK429.out 2).trans rfl, (blk_cell BK429.out 3).trans rfl⟩ (fun hHeld => ?_)
             clear hK K
             refine norm_ (a' := ?_) ?_ ?_
             rotate_left
             ·show Act.put _ (some 119) _ = _
              simp only [Act.put, List.setIfInBounds_toArray, List.set_cons_zero, List.set_cons_succ, i64_w, i32_w]
              rfl
             refine pure_ (i := 11) (N := some 122) (v := ?_) (a' := ?_) #[true, true, true, true, true, true, true, true, true, true, true, true, false] rfl rfl (any_of HT_.out (by kernel_rfl)) (fun _ _ _ h => h) (Or.inl ⟨by rfl, ?_⟩) ?_ ?_
             rotate_left
             ·intro w'
              go_simp
              with_reducible rfl
             rotate_left
             ·simp only [Act.put, List.setIfInBounds_toArray, List.set_cons_zero, List.set_cons_succ, i64_w, i32_w]
              rfl
             refine pure_ (i := 12) (N := some 123) (v := ?_) (a' := ?_) #[true, true, true, true, true, true, true, true, true, true, true, true, true] rfl rfl (any_of HT_.out (by kernel_rfl)) (fun _ _ _ h => h) (Or.inl ⟨by rfl, ?_⟩) ?_ ?_
             rotate_left
             ·intro w'
              go_simp
              with_reducible rfl
             rotate_left
             ·simp only [Act.put, List.setIfInBounds_toArray, List.set_cons_zero, List.set_cons_succ, i64_w, i32_w]
              rfl
             refine done_ (done_of HT_.out (by kernel_rfl)) ?_
             try go_wp2
             go_ret
             exact ⟨by first | rfl | (simp [errW_none, errW_some] <;> rfl) | (simp [*, errW_none, errW_some] <;> rfl), by repeat (first | (with_reducible first | exact HB.out | apply below_alloc | apply pw_below_drewN | apply below_drew1 | refine below_set ?_ GE429.out | refine below_set ?_ GE452.out) | exact HB.out)⟩
            ·rw [if_neg c74] at H
             have c74b0 : (t454 != ((rd_T43 y448 x107_2).f1)) = false := by simpa using c74
             (try (have c74b1 : decide (t454 = ((rd_T43 y448 x107_2).f1)) = true := by simpa using c74))
             (try (have c74b2 : (t454 == ((rd_T43 y448 x107_2).f1)) = true := by simpa using c74))
             clear c74
             have H' := Aside0.mk H
             clear H
             have p451 : 0 ≤ (x107_2 : Int) := of_decide_eq_true (by first | (with_reducible assumption) | assumption)
             have q451 : x107_2 < (y448.length : Int) := of_decide_eq_true (by first | (with_reducible assumption) | assumption)
             obtain ⟨ad451, A451_5, c451_5, e451, hx451_0, hx451_1, hx451_2, hx451_3, hx451_4, hx451_5, hx451_6, hl451_5, hi451_5⟩ := at_T43 (Kd.N_reads' HO_105.out).2.2 x107_2 p451 q451
             cases e451
             obtain ⟨ce451, hce451, hMe451, hcc451⟩ := Kd.N_get HO_105.out z43 x107_2 p451 (by first | exact q451 | exact of_decide_eq_true (by first | (with_reducible assumption) | assumption) | (have e_ := (Kd.N_reads' HO_105.out).1; omega))
             obtain ⟨ua451_5, uc451_5, rfl, ul451_5, ge451_5⟩ := k43_openF hMe451
             have hv451_5 := hcc451 5 _ rfl
             rw [add_field _ _ 5 (by omega)] at hv451_5
             replace hv451_5 := Option.some.inj (hv451_5.symm.trans hx451_5)
             injection hv451_5 with hva_ hvn_ hvc_
             rw [hva_] at ge451_5
             rw [hvc_] at ul451_5
             have HL451_5 := Aside0.mk (show Kd.V k24 24 _ w.heap.size _ _ ((rd_T43 y448 x107_2).f0.f5) from Kd.V_mk ul451_5 ge451_5)
             clear hva_ hvn_ hvc_ ge451_5 ul451_5
             clear hcc451 hce451
             have HR451_5 := Aside0.mk hi451_5
             have HC451_5 := Aside0.mk hl451_5
             clear hi451_5 hl451_5
             replace p451 := eq_true p451
             replace q451 := eq_true q451
             try go_wp2_with (first | ((with_reducible refine gate_dst (N := 12) rfl ?_); (try (refine gate_guard (by rfl) ?_; dsimp only)); refine box_event ?hg (N := 12) ?hd (cs := #[.int .i64 0, .int .i64 0, .string (⟨#[]⟩ : ByteArray), .int .i64 0, .int .i64 0, .slice none 0 0, .bool false]) (t := 43) ?hr ?_; (case hd => rfl); (case hg => rfl); (case hr => first | (go_simp; done) | (go_simp; rfl)); intro gb452 hg w82 hbox hb; have n0_ := Aside0.mk (Kd.N_below (Kd.N_elderB (by (with_reducible repeat (first | apply Kd.N_alloc | apply Kd.N_drewN | apply Kd.N_drew)); exact HO_105.out) gb452 (Nat.le_of_eq hg.symm)) hb); have n1_ := Aside0.mk (Kd.V_below (Kd.V_elderB (by (with_reducible repeat (first | apply Kd.V_alloc | apply Kd.V_drewN | apply Kd.V_drew)); exact HL451_5.out) gb452 (Nat.le_of_eq hg.symm)) hb); have n2_ := Aside0.mk (blk_below (g := gb429) (o := .cells #[.slice A1_0 l1_0.length c1_0, .int .i64 a1_1, .int .i64 a1_2, .int .i64 a1_3] 29 (0, 0)) (by (with_reducible repeat (first | refine blk_drewN ?_ _ | refine blk_drew ?_ | refine blk_alloc ?_ _)); exact BK429.out) hb); have n3_ := Aside0.mk (Kd.C_below (by repeat (first | (with_reducible exact HR451_5.out) | (with_reducible refine Kd.C_alloc ?_ _) | (with_reducible refine Kd.C_drewN ?_ _) | (with_reducible refine Kd.C_drew ?_) | exact HR451_5.out)) hb); have n4_ := Aside0.mk (below_step (by repeat (first | (with_reducible first | exact HB.out | apply below_alloc | apply pw_below_drewN | apply below_drew1 | refine below_set ?_ GE429.out) | exact HB.out)) hb); have n5_ := Aside0.mk (hbox); have n6_ := Aside0.mk ((by rw [hg]; exact (below_size (by repeat (first | (with_reducible first | exact HB.out | apply below_alloc | apply pw_below_drewN | apply below_drew1 | refine below_set ?_ GE429.out) | exact HB.out))) : w.heap.size ≤ gb452)); have n7_ := Aside0.mk ((by rw [hg]; exact (below_size (by repeat (first | (with_reducible first | exact HB.out | apply below_alloc | apply pw_below_drewN | apply below_drew1 | refine below_set ?_ GE429.out) | exact HB.out))) : w.heap.size ≤ gb452)); have n8_ := Aside0.mk ((by rw [hg]; exact Nat.ne_of_lt (blk_lt (g := gb429) (o := .cells #[.slice A1_0 l1_0.length c1_0, .int .i64 a1_1, .int .i64 a1_2, .int .i64 a1_3] 29 (0, 0)) (by (with_reducible repeat (first | refine blk_drewN ?_ _ | refine blk_drew ?_ | refine blk_alloc ?_ _)); exact BK429.out)) : gb429 ≠ gb452)); have n9_ := Aside0.mk ((by rw [hg]; exact Nat.ne_of_gt (blk_lt (g := gb429) (o := .cells #[.slice A1_0 l1_0.length c1_0, .int .i64 a1_1, .int .i64 a1_2, .int .i64 a1_3] 29 (0, 0)) (by (with_reducible repeat (first | refine blk_drewN ?_ _ | refine blk_drew ?_ | refine blk_alloc ?_ _)); exact BK429.out)) : gb452 ≠ gb429)); clear HO_105; clear HL451_5; clear BK429; clear HR451_5; clear HB; have HO_105 := n0_; have HL451_5 := n1_; have BK429 := n2_; have HR451_5 := n3_; have HB := n4_; have BK452 := n5_; have GW452 := n6_; have GE452 := n7_; have NB429_452 := n8_; have NB452_429 := n9_; clear n0_ n1_ n2_ n3_ n4_ n5_ n6_ n7_ n8_ n9_; clear hb hbox hg; have hnb83 := NB452_429.out; have hnc83 := NB429_452.out; have hcz84_0 : w82.cell? ⟨gb452, 0, none⟩ = some (.int .i64 0) := (blk_cell BK452.out 0).trans rfl; have hcz84_1 : w82.cell? ⟨gb452, 1, none⟩ = some (.int .i64 0) := (blk_cell BK452.out 1).trans rfl; have hcz84_2 : w82.cell? ⟨gb452, 2, none⟩ = some (.string (⟨#[]⟩ : ByteArray)) := (blk_cell BK452.out 2).trans rfl; have hcz84_3 : w82.cell? ⟨gb452, 3, none⟩ = some (.int .i64 0) := (blk_cell BK452.out 3).trans rfl; have hcz84_4 : w82.cell? ⟨gb452, 4, none⟩ = some (.int .i64 0) := (blk_cell BK452.out 4).trans rfl; have hcz84_5 : w82.cell? ⟨gb452, 5, none⟩ = some (.slice none 0 0) := (blk_cell BK452.out 5).trans rfl; have hcz84_6 : w82.cell? ⟨gb452, 6, none⟩ = some (.bool false) := (blk_cell BK452.out 6).trans rfl; have hfz84_0 := blk_frozen BK452.out 0; have hfz84_1 := blk_frozen BK452.out 1; have hfz84_2 := blk_frozen BK452.out 2; have hfz84_3 := blk_frozen BK452.out 3; have hfz84_4 := blk_frozen BK452.out 4; have hfz84_5 := blk_frozen BK452.out 5; have hfz84_6 := blk_frozen BK452.out 6))
             have n0_ : Aside0 (Kd.N k43 43 (((((((w82.setCell ⟨gb452, 0, none⟩ (.int .i64 ((rd_T43 y448 x107_2).f0.f0))).setCell ⟨gb452, 1, none⟩ (.int .i64 ((rd_T43 y448 x107_2).f0.f1))).setCell ⟨gb452, 2, none⟩ (.string ((rd_T43 y448 x107_2).f0.f2))).setCell ⟨gb452, 3, none⟩ (.int .i64 ((rd_T43 y448 x107_2).f0.f3))).setCell ⟨gb452, 4, none⟩ (.int .i64 ((rd_T43 y448 x107_2).f0.f4))).setCell ⟨gb452, 5, none⟩ (.slice A451_5 ((rd_T43 y448 x107_2).f0.f5).length c451_5)).setCell ⟨gb452, 6, none⟩ (.bool ((rd_T43 y448 x107_2).f1))) w.heap.size (fun k_ => (P0_ k_ ∨ w.heap.size ≤ k_) ∧ k_ ≠ gb429 ∧ k_ ≠ gb452) (.slice (some ad451) y448.length co67) y448) := ⟨by (with_reducible repeat (first | apply Kd.N_alloc | apply Kd.N_drewN | apply Kd.N_drew)); exact Kd.N_mono (Kd.N_far (p := ⟨gb452, 6, none⟩) (Kd.N_far (p := ⟨gb452, 5, none⟩) (Kd.N_far (p := ⟨gb452, 4, none⟩) (Kd.N_far (p := ⟨gb452, 3, none⟩) (Kd.N_far (p := ⟨gb452, 2, none⟩) (Kd.N_far (p := ⟨gb452, 1, none⟩) (Kd.N_far (p := ⟨gb452, 0, none⟩) (Kd.N_mono HO_105.out (fun k_ hk => (⟨hk, hk.2⟩ : _ ∧ k_ ≠ gb452))) (fun _ hk => hk.2) (.int .i64 ((rd_T43 y448 x107_2).f0.f0))) (fun _ hk => hk.2) (.int .i64 ((rd_T43 y448 x107_2).f0.f1))) (fun _ hk => hk.2) (.string ((rd_T43 y448 x107_2).f0.f2))) (fun _ hk => hk.2) (.int .i64 ((rd_T43 y448 x107_2).f0.f3))) (fun _ hk => hk.2) (.int .i64 ((rd_T43 y448 x107_2).f0.f4))) (fun _ hk => hk.2) (.slice A451_5 ((rd_T43 y448 x107_2).f0.f5).length c451_5)) (fun _ hk => hk.2) (.bool ((rd_T43 y448 x107_2).f1))) (fun _ hk => ⟨hk.1.1.1, ⟨hk.1.1.2, hk.1.2⟩⟩)⟩
             have n1_ : Aside0 (Kd.V k24 24 (((((((w82.setCell ⟨gb452, 0, none⟩ (.int .i64 ((rd_T43 y448 x107_2).f0.f0))).setCell ⟨gb452, 1, none⟩ (.int .i64 ((rd_T43 y448 x107_2).f0.f1))).setCell ⟨gb452, 2, none⟩ (.string ((rd_T43 y448 x107_2).f0.f2))).setCell ⟨gb452, 3, none⟩ (.int .i64 ((rd_T43 y448 x107_2).f0.f3))).setCell ⟨gb452, 4, none⟩ (.int .i64 ((rd_T43 y448 x107_2).f0.f4))).setCell ⟨gb452, 5, none⟩ (.slice A451_5 ((rd_T43 y448 x107_2).f0.f5).length c451_5)).setCell ⟨gb452, 6, none⟩ (.bool ((rd_T43 y448 x107_2).f1))) w.heap.size (fun k_ => (P0_ k_ ∨ w.heap.size ≤ k_) ∧ some k_ ≠ (.slice (some ad451) y448.length co67 : Value).ownBlock ∧ k_ ≠ gb429 ∧ k_ ≠ gb452) (.slice A451_5 ((rd_T43 y448 x107_2).f0.f5).length c451_5) ((rd_T43 y448 x107_2).f0.f5)) := ⟨by (with_reducible repeat (first | apply Kd.V_alloc | apply Kd.V_drewN | apply Kd.V_drew)); exact Kd.V_mono (Kd.V_far (p := ⟨gb452, 6, none⟩) (Kd.V_far (p := ⟨gb452, 5, none⟩) (Kd.V_far (p := ⟨gb452, 4, none⟩) (Kd.V_far (p := ⟨gb452, 3, none⟩) (Kd.V_far (p := ⟨gb452, 2, none⟩) (Kd.V_far (p := ⟨gb452, 1, none⟩) (Kd.V_far (p := ⟨gb452, 0, none⟩) (Kd.V_mono HL451_5.out (fun k_ hk => (⟨hk, hk.2⟩ : _ ∧ k_ ≠ gb452))) (fun _ hk => hk.2) (.int .i64 ((rd_T43 y448 x107_2).f0.f0))) (fun _ hk => hk.2) (.int .i64 ((rd_T43 y448 x107_2).f0.f1))) (fun _ hk => hk.2) (.string ((rd_T43 y448 x107_2).f0.f2))) (fun _ hk => hk.2) (.int .i64 ((rd_T43 y448 x107_2).f0.f3))) (fun _ hk => hk.2) (.int .i64 ((rd_T43 y448 x107_2).f0.f4))) (fun _ hk => hk.2) (.slice A451_5 ((rd_T43 y448 x107_2).f0.f5).length c451_5)) (fun _ hk => hk.2) (.bool ((rd_T43 y448 x107_2).f1))) (fun _ hk => ⟨hk.1.1.1.1, ⟨hk.1.1.2, ⟨hk.1.1.1.2, hk.1.2⟩⟩⟩)⟩
             have n2_ : Aside0 ((((((((w82.setCell ⟨gb452, 0, none⟩ (.int .i64 ((rd_T43 y448 x107_2).f0.f0))).setCell ⟨gb452, 1, none⟩ (.int .i64 ((rd_T43 y448 x107_2).f0.f1))).setCell ⟨gb452, 2, none⟩ (.string ((rd_T43 y448 x107_2).f0.f2))).setCell ⟨gb452, 3, none⟩ (.int .i64 ((rd_T43 y448 x107_2).f0.f3))).setCell ⟨gb452, 4, none⟩ (.int .i64 ((rd_T43 y448 x107_2).f0.f4))).setCell ⟨gb452, 5, none⟩ (.slice A451_5 ((rd_T43 y448 x107_2).f0.f5).length c451_5)).setCell ⟨gb452, 6, none⟩ (.bool ((rd_T43 y448 x107_2).f1))).heap[gb429]? = some (.cells #[.slice A1_0 l1_0.length c1_0, .int .i64 a1_1, .int .i64 a1_2, .int .i64 a1_3] 29 (0, 0))) := ⟨by (with_reducible repeat (first | refine blk_drewN ?_ _ | refine blk_drew ?_ | refine blk_alloc ?_ _)); refine blk_far ?_ NB429_452.out _; (with_reducible repeat (first | refine blk_drewN ?_ _ | refine blk_drew ?_ | refine blk_alloc ?_ _)); refine blk_far ?_ NB429_452.out _; (with_reducible repeat (first | refine blk_drewN ?_ _ | refine blk_drew ?_ | refine blk_alloc ?_ _)); refine blk_far ?_ NB429_452.out _; (with_reducible repeat (first | refine blk_drewN ?_ _ | refine blk_drew ?_ | refine blk_alloc ?_ _)); refine blk_far ?_ NB429_452.out _; (with_reducible repeat (first | refine blk_drewN ?_ _ | refine blk_drew ?_ | refine blk_alloc ?_ _)); refine blk_far ?_ NB429_452.out _; (with_reducible repeat (first | refine blk_drewN ?_ _ | refine blk_drew ?_ | refine blk_alloc ?_ _)); refine blk_far ?_ NB429_452.out _; (with_reducible repeat (first | refine blk_drewN ?_ _ | refine blk_drew ?_ | refine blk_alloc ?_ _)); refine blk_far ?_ NB429_452.out _; (with_reducible repeat (first | refine blk_drewN ?_ _ | refine blk_drew ?_ | refine blk_alloc ?_ _)); exact BK429.out⟩
             have n3_ : Aside0 ((((((((w82.setCell ⟨gb452, 0, none⟩ (.int .i64 ((rd_T43 y448 x107_2).f0.f0))).setCell ⟨gb452, 1, none⟩ (.int .i64 ((rd_T43 y448 x107_2).f0.f1))).setCell ⟨gb452, 2, none⟩ (.string ((rd_T43 y448 x107_2).f0.f2))).setCell ⟨gb452, 3, none⟩ (.int .i64 ((rd_T43 y448 x107_2).f0.f3))).setCell ⟨gb452, 4, none⟩ (.int .i64 ((rd_T43 y448 x107_2).f0.f4))).setCell ⟨gb452, 5, none⟩ (.slice A451_5 ((rd_T43 y448 x107_2).f0.f5).length c451_5)).setCell ⟨gb452, 6, none⟩ (.bool ((rd_T43 y448 x107_2).f1))).heap[gb452]? = some (.cells #[.int .i64 ((rd_T43 y448 x107_2).f0.f0), .int .i64 ((rd_T43 y448 x107_2).f0.f1), .string ((rd_T43 y448 x107_2).f0.f2), .int .i64 ((rd_T43 y448 x107_2).f0.f3), .int .i64 ((rd_T43 y448 x107_2).f0.f4), .slice A451_5 ((rd_T43 y448 x107_2).f0.f5).length c451_5, .bool ((rd_T43 y448 x107_2).f1)] 43 (0, 0))) := ⟨by (with_reducible repeat (first | refine blk_drewN ?_ _ | refine blk_drew ?_ | refine blk_alloc ?_ _)); refine blk_put (cs := #[.int .i64 ((rd_T43 y448 x107_2).f0.f0), .int .i64 ((rd_T43 y448 x107_2).f0.f1), .string ((rd_T43 y448 x107_2).f0.f2), .int .i64 ((rd_T43 y448 x107_2).f0.f3), .int .i64 ((rd_T43 y448 x107_2).f0.f4), .slice A451_5 ((rd_T43 y448 x107_2).f0.f5).length c451_5, .bool false]) ?_ 6 _ rfl; (with_reducible repeat (first | refine blk_drewN ?_ _ | refine blk_drew ?_ | refine blk_alloc ?_ _)); refine blk_put (cs := #[.int .i64 ((rd_T43 y448 x107_2).f0.f0), .int .i64 ((rd_T43 y448 x107_2).f0.f1), .string ((rd_T43 y448 x107_2).f0.f2), .int .i64 ((rd_T43 y448 x107_2).f0.f3), .int .i64 ((rd_T43 y448 x107_2).f0.f4), .slice none 0 0, .bool false]) ?_ 5 _ rfl; (with_reducible repeat (first | refine blk_drewN ?_ _ | refine blk_drew ?_ | refine blk_alloc ?_ _)); refine blk_put (cs := #[.int .i64 ((rd_T43 y448 x107_2).f0.f0), .int .i64 ((rd_T43 y448 x107_2).f0.f1), .string ((rd_T43 y448 x107_2).f0.f2), .int .i64 ((rd_T43 y448 x107_2).f0.f3), .int .i64 0, .slice none 0 0, .bool false]) ?_ 4 _ rfl; (with_reducible repeat (first | refine blk_drewN ?_ _ | refine blk_drew ?_ | refine blk_alloc ?_ _)); refine blk_put (cs := #[.int .i64 ((rd_T43 y448 x107_2).f0.f0), .int .i64 ((rd_T43 y448 x107_2).f0.f1), .string ((rd_T43 y448 x107_2).f0.f2), .int .i64 0, .int .i64 0, .slice none 0 0, .bool false]) ?_ 3 _ rfl; (with_reducible repeat (first | refine blk_drewN ?_ _ | refine blk_drew ?_ | refine blk_alloc ?_ _)); refine blk_put (cs := #[.int .i64 ((rd_T43 y448 x107_2).f0.f0), .int .i64 ((rd_T43 y448 x107_2).f0.f1), .string (⟨#[]⟩ : ByteArray), .int .i64 0, .int .i64 0, .slice none 0 0, .bool false]) ?_ 2 _ rfl; (with_reducible repeat (first | refine blk_drewN ?_ _ | refine blk_drew ?_ | refine blk_alloc ?_ _)); refine blk_put (cs := #[.int .i64 ((rd_T43 y448 x107_2).f0.f0), .int .i64 0, .string (⟨#[]⟩ : ByteArray), .int .i64 0, .int .i64 0, .slice none 0 0, .bool false]) ?_ 1 _ rfl; (with_reducible repeat (first | refine blk_drewN ?_ _ | refine blk_drew ?_ | refine blk_alloc ?_ _)); refine blk_put (cs := #[.int .i64 0, .int .i64 0, .string (⟨#[]⟩ : ByteArray), .int .i64 0, .int .i64 0, .slice none 0 0, .bool false]) ?_ 0 _ rfl; (with_reducible repeat (first | refine blk_drewN ?_ _ | refine blk_drew ?_ | refine blk_alloc ?_ _)); exact BK452.out⟩
             have n4_ : Aside0 (Below w.heap.size w (((((((w82.setCell ⟨gb452, 0, none⟩ (.int .i64 ((rd_T43 y448 x107_2).f0.f0))).setCell ⟨gb452, 1, none⟩ (.int .i64 ((rd_T43 y448 x107_2).f0.f1))).setCell ⟨gb452, 2, none⟩ (.string ((rd_T43 y448 x107_2).f0.f2))).setCell ⟨gb452, 3, none⟩ (.int .i64 ((rd_T43 y448 x107_2).f0.f3))).setCell ⟨gb452, 4, none⟩ (.int .i64 ((rd_T43 y448 x107_2).f0.f4))).setCell ⟨gb452, 5, none⟩ (.slice A451_5 ((rd_T43 y448 x107_2).f0.f5).length c451_5)).setCell ⟨gb452, 6, none⟩ (.bool ((rd_T43 y448 x107_2).f1)))) := ⟨by repeat (first | (with_reducible first | exact HB.out | apply below_alloc | apply pw_below_drewN | apply below_drew1 | refine below_set ?_ GE429.out | refine below_set ?_ GE452.out) | exact HB.out)⟩
             (try clear HO_105)
             (try clear HL451_5)
             (try clear BK429)
             (try clear BK452)
             (try clear HB)
             generalize (((((((w82.setCell ⟨gb452, 0, none⟩ (.int .i64 ((rd_T43 y448 x107_2).f0.f0))).setCell ⟨gb452, 1, none⟩ (.int .i64 ((rd_T43 y448 x107_2).f0.f1))).setCell ⟨gb452, 2, none⟩ (.string ((rd_T43 y448 x107_2).f0.f2))).setCell ⟨gb452, 3, none⟩ (.int .i64 ((rd_T43 y448 x107_2).f0.f3))).setCell ⟨gb452, 4, none⟩ (.int .i64 ((rd_T43 y448 x107_2).f0.f4))).setCell ⟨gb452, 5, none⟩ (.slice A451_5 ((rd_T43 y448 x107_2).f0.f5).length c451_5)).setCell ⟨gb452, 6, none⟩ (.bool ((rd_T43 y448 x107_2).f1))) = w85 at n0_ n1_ n2_ n3_ n4_ ⊢
             have HO_105 := n0_
             have HL451_5 := n1_
             have BK429 := n2_
             have BK452 := n3_
             have HB := n4_
             clear n0_ n1_ n2_ n3_ n4_
             have n0_ := Aside0.mk (Kd.N_drew HO_105.out)
             have n1_ := Aside0.mk (Kd.V_drew HL451_5.out)
             have n2_ := Aside0.mk (blk_drew BK429.out)
             have n3_ := Aside0.mk (blk_drew BK452.out)
             have n4_ := Aside0.mk (below_drew1 HB.out)
             clear HO_105
             clear HL451_5
             clear BK429
             clear BK452
             clear HB
             have HO_105 := n0_
             have HL451_5 := n1_
             have BK429 := n2_
             have BK452 := n3_
             have HB := n4_
             clear n0_ n1_ n2_ n3_ n4_
             refine start_ (n := 13) (S := fun w' => w'.cell? ⟨gb452, 0, none⟩ = some (.int .i64 ((rd_T43 y448 x107_2).f0.f0)) ∧ w'.cell? ⟨gb452, 1, none⟩ = some (.int .i64 ((rd_T43 y448 x107_2).f0.f1)) ∧ w'.cell? ⟨gb452, 2, none⟩ = some (.string ((rd_T43 y448 x107_2).f0.f2)) ∧ w'.cell? ⟨gb452, 3, none⟩ = some (.int .i64 ((rd_T43 y448 x107_2).f0.f3)) ∧ w'.cell? ⟨gb452, 4, none⟩ = some (.int .i64 ((rd_T43 y448 x107_2).f0.f4)) ∧ w'.cell? ⟨gb452, 5, none⟩ = some (.slice A451_5 ((rd_T43 y448 x107_2).f0.f5).length c451_5) ∧ w'.cell? ⟨gb452, 6, none⟩ = some (.bool ((rd_T43 y448 x107_2).f1)) ∧ w'.cell? ⟨gb429, 0, none⟩ = some (.slice A1_0 l1_0.length c1_0) ∧ w'.cell? ⟨gb429, 1, none⟩ = some (.int .i64 a1_1) ∧ w'.cell? ⟨gb429, 2, none⟩ = some (.int .i64 a1_2) ∧ w'.cell? ⟨gb429, 3, none⟩ = some (.int .i64 a1_3)) (ds := []) #[false, false, false, false, false, false, false, false, false, false, false, false, false] (by kernel_rfl) rfl rfl ⟨(blk_cell BK452.out 0).trans rfl, (blk_cell BK452.out 1).trans rfl, (blk_cell BK452.out 2).trans rfl, (blk_cell BK452.out 3).trans rfl, (blk_cell BK452.out 4).trans rfl, (blk_cell BK452.out 5).trans rfl, (blk_cell BK452.out 6).trans rfl, (blk_cell BK429.out 0).trans rfl, (blk_cell BK429.out 1).trans rfl, (blk_cell BK429.out 2).trans rfl, (blk_cell BK429.out 3).trans rfl⟩ (fun hHeld => ?_); refine with_tabW sizarlaw12_RulesBoolean.tab20 sizarlaw12_RulesBoolean.bits20 (fun HT_ HW_ => ?_)
             generalize w85.drew = w86 at HO_105 HL451_5 BK429 BK452 HB hHeld ⊢
             refine pure_ (i := 0) (N := some 111) (v := ?_) (a' := ?_) #[true, false, false, false, false, false, false, false, false, false, false, false, false] rfl rfl (any_of HT_.out (by kernel_rfl)) (fun _ _ _ h => h) (Or.inl ⟨by rfl, ?_⟩) ?_ ?_
             rotate_left
             ·intro w'
              go_simp
              with_reducible rfl
             rotate_left
             ·simp only [Act.put, List.setIfInBounds_toArray, List.set_cons_zero, List.set_cons_succ, i64_w, i32_w]
              rfl
             refine take_ (i := 1) (N := some 112) (v := ?_) (a' := ?_) #[true, true, false, false, false, false, false, false, false, false, false, false, false] rfl rfl (take_ofW HT_.out HW_.out (by kernel_rfl)) (fun _ _ _ h => h) (Or.inl ⟨by rfl, ?_⟩) hHeld ?_ ?_
             rotate_left
             ·rintro w' ⟨s0, s1, s2, s3, s4, s5, s6, s7, s8, s9, s10⟩
              go_simp
              with_reducible rfl
             rotate_left
             ·simp only [Act.put, List.setIfInBounds_toArray, List.set_cons_zero, List.set_cons_succ, i64_w, i32_w]
              rfl
             refine one_ (i := 2) (N := some 113) #[true, true, true, false, false, false, false, false, false, false, false, false, false] rfl rfl (one_of HT_.out (by kernel_rfl)) (by decide) (fun K hK => ?_)
             refine goes_ Tryd.func20 (by kernel_rfl) rfl #[.agg #[.int .i64 ((rd_T43 y448 x107_2).f0.f0), .int .i64 ((rd_T43 y448 x107_2).f0.f1), .string ((rd_T43 y448 x107_2).f0.f2), .int .i64 ((rd_T43 y448 x107_2).f0.f3), .int .i64 ((rd_T43 y448 x107_2).f0.f4), .slice A451_5 ((rd_T43 y448 x107_2).f0.f5).length c451_5]] (by rfl) rfl rfl (by (try simp only [List.map_toArray, List.map_cons, List.map_nil]); first | done | rfl | (simp only [List.length_drop, List.length_take]; rfl)) ?_
             with_reducible refine (rules_Check.calls ((rd_T43 y448 x107_2).f0.f0) ((rd_T43 y448 x107_2).f0.f1) ((rd_T43 y448 x107_2).f0.f2) ((rd_T43 y448 x107_2).f0.f3) ((rd_T43 y448 x107_2).f0.f4) _ _ ((rd_T43 y448 x107_2).f0.f5) t453 _ ?side1 ?side2 A71.out ?sideK).mono ?_
             (case sideK => exact HKT.out.below (by repeat (first | (with_reducible first | exact HB.out | apply below_alloc | apply pw_below_drewN | apply below_drew1 | refine below_set ?_ GE429.out | refine below_set ?_ GE452.out) | exact HB.out)))
             (case side1 => repeat (first | exact ((Kd.V_reads' (by (with_reducible repeat (first | apply Kd.V_alloc | apply Kd.V_drewN | apply Kd.V_drew)); exact HL451_5.out)).2.2) | (with_reducible refine Kd.C_alloc ?_ _) | (with_reducible refine Kd.C_drewN ?_ _) | (with_reducible refine Kd.C_drew ?_)))
             (case side2 => exact HC451_5.out)
             rintro e w87 ⟨rfl, hb⟩
             refine ⟨_, rfl, ?_⟩
             have n0_ := Aside0.mk (Kd.N_below (by (with_reducible repeat (first | apply Kd.N_alloc | apply Kd.N_drewN | apply Kd.N_drew)); exact HO_105.out) hb)
             have n1_ := Aside0.mk (Kd.V_below (by (with_reducible repeat (first | apply Kd.V_alloc | apply Kd.V_drewN | apply Kd.V_drew)); exact HL451_5.out) hb)
             have n2_ := Aside0.mk (blk_below (g := gb429) (o := .cells #[.slice A1_0 l1_0.length c1_0, .int .i64 a1_1, .int .i64 a1_2, .int .i64 a1_3] 29 (0, 0)) (by (with_reducible repeat (first | refine blk_drewN ?_ _ | refine blk_drew ?_ | refine blk_alloc ?_ _)); exact BK429.out) hb)
             have n3_ := Aside0.mk (blk_below (g := gb452) (o := .cells #[.int .i64 ((rd_T43 y448 x107_2).f0.f0), .int .i64 ((rd_T43 y448 x107_2).f0.f1), .string ((rd_T43 y448 x107_2).f0.f2), .int .i64 ((rd_T43 y448 x107_2).f0.f3), .int .i64 ((rd_T43 y448 x107_2).f0.f4), .slice A451_5 ((rd_T43 y448 x107_2).f0.f5).length c451_5, .bool ((rd_T43 y448 x107_2).f1)] 43 (0, 0)) (by (with_reducible repeat (first | refine blk_drewN ?_ _ | refine blk_drew ?_ | refine blk_alloc ?_ _)); exact BK452.out) hb)
             have n4_ := Aside0.mk (below_step (by repeat (first | (with_reducible first | exact HB.out | apply below_alloc | apply pw_below_drewN | apply below_drew1 | refine below_set ?_ GE429.out | refine below_set ?_ GE452.out) | exact HB.out)) hb)
             clear HO_105
             clear HL451_5
             clear BK429
             clear BK452
             clear HB
             have HO_105 := n0_
             have HL451_5 := n1_
             have BK429 := n2_
             have BK452 := n3_
             have HB := n4_
             clear n0_ n1_ n2_ n3_ n4_
             (try clear hb)
             (try clear hb2)
             (try clear hk)
             (try clear hi)
             refine hK.out _ _ ⟨(blk_cell BK452.out 0).trans rfl, (blk_cell BK452.out 1).trans rfl, (blk_cell BK452.out 2).trans rfl, (blk_cell BK452.out 3).trans rfl, (blk_cell BK452.out 4).trans rfl, (blk_cell BK452.out 5).trans rfl, (blk_cell BK452.out 6).trans rfl, (blk_cell BK429.out 0).trans rfl, (blk_cell BK429.out 1).trans rfl, (blk_cell BK429.out 2).trans rfl, (blk_cell BK429.out 3).trans rfl⟩ (fun hHeld => ?_)
             clear hK K
             refine norm_ (a' := ?_) ?_ ?_
             rotate_left
             ·show Act.put _ (some 113) _ = _
              simp only [Act.put, List.setIfInBounds_toArray, List.set_cons_zero, List.set_cons_succ, i64_w, i32_w]
              rfl
             refine pure_ (i := 3) (N := some 114) (v := ?_) (a' := ?_) #[true, true, true, true, false, false, false, false, false, false, false, false, false] rfl rfl (any_of HT_.out (by kernel_rfl)) (fun _ _ _ h => h) (Or.inl ⟨by rfl, ?_⟩) ?_ ?_
             rotate_left
             ·intro w'
              go_simp
              with_reducible rfl
             rotate_left
             ·simp only [Act.put, List.setIfInBounds_toArray, List.set_cons_zero, List.set_cons_succ, i64_w, i32_w]
              rfl
             refine pure_ (i := 4) (N := some 115) (v := ?_) (a' := ?_) #[true, true, true, true, true, false, false, false, false, false, false, false, false] rfl rfl (any_of HT_.out (by kernel_rfl)) (fun _ _ _ h => h) (Or.inl ⟨by rfl, ?_⟩) ?_ ?_
             rotate_left
             ·intro w'
              go_simp
              with_reducible rfl
             rotate_left
             ·simp only [Act.put, List.setIfInBounds_toArray, List.set_cons_zero, List.set_cons_succ, i64_w, i32_w]
              rfl
             refine pure_ (i := 5) (N := some 116) (v := ?_) (a' := ?_) #[true, true, true, true, true, true, false, false, false, false, false, false, false] rfl rfl (any_of HT_.out (by kernel_rfl)) (fun _ _ _ h => h) (Or.inl ⟨by rfl, ?_⟩) ?_ ?_
             rotate_left
             ·intro w'
              go_simp
              with_reducible rfl
             rotate_left
             ·simp only [Act.put, List.setIfInBounds_toArray, List.set_cons_zero, List.set_cons_succ, i64_w, i32_w]
              rfl
             refine pure_ (i := 9) (N := some 120) (v := ?_) (a' := ?_) #[true, true, true, true, true, true, false, false, false, true, false, false, false] rfl rfl (any_of HT_.out (by kernel_rfl)) (fun _ _ _ h => h) (Or.inl ⟨by rfl, ?_⟩) ?_ ?_
             rotate_left
             ·intro w'
              go_simp
              with_reducible rfl
             rotate_left
             ·simp only [Act.put, List.setIfInBounds_toArray, List.set_cons_zero, List.set_cons_succ, i64_w, i32_w]
              rfl
             refine take_ (i := 6) (N := some 117) (v := ?_) (a' := ?_) #[true, true, true, true, true, true, true, false, false, true, false, false, false] rfl rfl (take_ofW HT_.out HW_.out (by kernel_rfl)) (fun _ _ _ h => h) (Or.inl ⟨by rfl, ?_⟩) hHeld ?_ ?_
             rotate_left
             ·rintro w' ⟨s0, s1, s2, s3, s4, s5, s6, s7, s8, s9, s10⟩
              go_simp
              with_reducible rfl
             rotate_left
             ·simp only [Act.put, List.setIfInBounds_toArray, List.set_cons_zero, List.set_cons_succ, i64_w, i32_w]
              rfl
             refine take_ (i := 7) (N := some 118) (v := ?_) (a' := ?_) #[true, true, true, true, true, true, true, true, false, true, false, false, false] rfl rfl (take_ofW HT_.out HW_.out (by kernel_rfl)) (fun _ _ _ h => h) (Or.inl ⟨by rfl, ?_⟩) hHeld ?_ ?_
             rotate_left
             ·rintro w' ⟨s0, s1, s2, s3, s4, s5, s6, s7, s8, s9, s10⟩
              go_simp
              with_reducible rfl
             rotate_left
             ·simp only [Act.put, List.setIfInBounds_toArray, List.set_cons_zero, List.set_cons_succ, i64_w, i32_w]
              rfl
             refine take_ (i := 10) (N := some 121) (v := ?_) (a' := ?_) #[true, true, true, true, true, true, true, true, false, true, true, false, false] rfl rfl (take_ofW HT_.out HW_.out (by kernel_rfl)) (fun _ _ _ h => h) (Or.inl ⟨by rfl, ?_⟩) hHeld ?_ ?_
             rotate_left
             ·rintro w' ⟨s0, s1, s2, s3, s4, s5, s6, s7, s8, s9, s10⟩
              go_simp
              with_reducible rfl
             rotate_left
             ·simp only [Act.put, List.setIfInBounds_toArray, List.set_cons_zero, List.set_cons_succ, i64_w, i32_w]
              rfl
             refine one_ (i := 8) (N := some 119) #[true, true, true, true, true, true, true, true, true, true, true, false, false] rfl rfl (one_of HT_.out (by kernel_rfl)) (by decide) (fun K hK => ?_)
             refine goes_ Tryd.func22 (by kernel_rfl) rfl #[.agg #[.int .i64 ((rd_T43 y448 x107_2).f0.f0), .int .i64 ((rd_T43 y448 x107_2).f0.f1), .string ((rd_T43 y448 x107_2).f0.f2), .int .i64 ((rd_T43 y448 x107_2).f0.f3), .int .i64 ((rd_T43 y448 x107_2).f0.f4), .slice A451_5 ((rd_T43 y448 x107_2).f0.f5).length c451_5], .agg #[.slice A1_0 l1_0.length c1_0, .int .i64 a1_1, .int .i64 a1_2, .int .i64 a1_3]] (by rfl) rfl rfl (by (try simp only [List.map_toArray, List.map_cons, List.map_nil]); first | done | rfl | (simp only [List.length_drop, List.length_take]; rfl)) ?_
             with_reducible refine (sizarlaw12_holds.calls k2 ((rd_T43 y448 x107_2).f0.f0) ((rd_T43 y448 x107_2).f0.f1) ((rd_T43 y448 x107_2).f0.f2) ((rd_T43 y448 x107_2).f0.f3) ((rd_T43 y448 x107_2).f0.f4) _ _ ((rd_T43 y448 x107_2).f0.f5) _ _ l1_0 a1_1 a1_2 a1_3 t454 _ ?side1 ?side2 ?side3 ?side4 A73.out ?sideK).mono ?_
             (case sideK => exact HKT.out.below (by repeat (first | (with_reducible first | exact HB.out | apply below_alloc | apply pw_below_drewN | apply below_drew1 | refine below_set ?_ GE429.out | refine below_set ?_ GE452.out) | exact HB.out)))
             (case side1 => repeat (first | exact ((Kd.V_reads' (by (with_reducible repeat (first | apply Kd.V_alloc | apply Kd.V_drewN | apply Kd.V_drew)); exact HL451_5.out)).2.2) | (with_reducible refine Kd.C_alloc ?_ _) | (with_reducible refine Kd.C_drewN ?_ _) | (with_reducible refine Kd.C_drew ?_)))
             (case side2 => exact HC451_5.out)
             (case side3 => repeat (first | exact (Kd.C_below HR1_0.out HB.out) | (with_reducible refine Kd.C_alloc ?_ _) | (with_reducible refine Kd.C_drewN ?_ _) | (with_reducible refine Kd.C_drew ?_)))
             (case side4 => exact HC1_0.out)
             rintro e w88 ⟨rfl, hb⟩
             refine ⟨_, rfl, ?_⟩
             have n0_ := Aside0.mk (Kd.N_below (by (with_reducible repeat (first | apply Kd.N_alloc | apply Kd.N_drewN | apply Kd.N_drew)); exact HO_105.out) hb)
             have n1_ := Aside0.mk (Kd.V_below (by (with_reducible repeat (first | apply Kd.V_alloc | apply Kd.V_drewN | apply Kd.V_drew)); exact HL451_5.out) hb)
             have n2_ := Aside0.mk (blk_below (g := gb429) (o := .cells #[.slice A1_0 l1_0.length c1_0, .int .i64 a1_1, .int .i64 a1_2, .int .i64 a1_3] 29 (0, 0)) (by (with_reducible repeat (first | refine blk_drewN ?_ _ | refine blk_drew ?_ | refine blk_alloc ?_ _)); exact BK429.out) hb)
             have n3_ := Aside0.mk (blk_below (g := gb452) (o := .cells #[.int .i64 ((rd_T43 y448 x107_2).f0.f0), .int .i64 ((rd_T43 y448 x107_2).f0.f1), .string ((rd_T43 y448 x107_2).f0.f2), .int .i64 ((rd_T43 y448 x107_2).f0.f3), .int .i64 ((rd_T43 y448 x107_2).f0.f4), .slice A451_5 ((rd_T43 y448 x107_2).f0.f5).length c451_5, .bool ((rd_T43 y448 x107_2).f1)] 43 (0, 0)) (by (with_reducible repeat (first | refine blk_drewN ?_ _ | refine blk_drew ?_ | refine blk_alloc ?_ _)); exact BK452.out) hb)
             have n4_ := Aside0.mk (below_step (by repeat (first | (with_reducible first | exact HB.out | apply below_alloc | apply pw_below_drewN | apply below_drew1 | refine below_set ?_ GE429.out | refine below_set ?_ GE452.out) | exact HB.out)) hb)
             clear HO_105
             clear HL451_5
             clear BK429
             clear BK452
             clear HB
             have HO_105 := n0_
             have HL451_5 := n1_
             have BK429 := n2_
             have BK452 := n3_
             have HB := n4_
             clear n0_ n1_ n2_ n3_ n4_
             (try clear hb)
             (try clear hb2)
             (try clear hk)
             (try clear hi)
             refine hK.out _ _ ⟨(blk_cell BK452.out 0).trans rfl, (blk_cell BK452.out 1).trans rfl, (blk_cell BK452.out 2).trans rfl, (blk_cell BK452.out 3).trans rfl, (blk_cell BK452.out 4).trans rfl, (blk_cell BK452.out 5).trans rfl, (blk_cell BK452.out 6).trans rfl, (blk_cell BK429.out 0).trans rfl, (blk_cell BK429.out 1).trans rfl, (blk_cell BK429.out 2).trans rfl, (blk_cell BK429.out 3).trans rfl⟩ (fun hHeld => ?_)
             clear hK K
             refine norm_ (a' := ?_) ?_ ?_
             rotate_left
             ·show Act.put _ (some 119) _ = _
              simp only [Act.put, List.setIfInBounds_toArray, List.set_cons_zero, List.set_cons_succ, i64_w, i32_w]
              rfl
             refine pure_ (i := 11) (N := some 122) (v := ?_) (a' := ?_) #[true, true, true, true, true, true, true, true, true, true, true, true, false] rfl rfl (any_of HT_.out (by kernel_rfl)) (fun _ _ _ h => h) (Or.inl ⟨by rfl, ?_⟩) ?_ ?_
             rotate_left
             ·intro w'
              go_simp
              with_reducible rfl
             rotate_left
             ·simp only [Act.put, List.setIfInBounds_toArray, List.set_cons_zero, List.set_cons_succ, i64_w, i32_w]
              rfl
             refine pure_ (i := 12) (N := some 123) (v := ?_) (a' := ?_) #[true, true, true, true, true, true, true, true, true, true, true, true, true] rfl rfl (any_of HT_.out (by kernel_rfl)) (fun _ _ _ h => h) (Or.inl ⟨by rfl, ?_⟩) ?_ ?_
             rotate_left
             ·intro w'
              go_simp
              with_reducible rfl
             rotate_left
             ·simp only [Act.put, List.setIfInBounds_toArray, List.set_cons_zero, List.set_cons_succ, i64_w, i32_w]
              rfl
             refine done_ (done_of HT_.out (by kernel_rfl)) ?_
             try go_wp2
             go_roundg k2
             case measure => have := HK1.out; have := HK2.out; omega
             case rel => exact ⟨(wrap64 (x107_2 + 1)), (by first | rfl | (simp; done) | (simp [*]; done)), H', ⟨by have := HK1.out; have := HK2.out; omega⟩, ⟨by (with_reducible repeat (first | apply Kd.N_alloc | apply Kd.N_drewN | apply Kd.N_drew)); exact Kd.N_mono HO_105.out (fun _ hk => ⟨hk.1, hk.2.1⟩)⟩, ⟨by (with_reducible repeat (first | refine blk_drewN ?_ _ | refine blk_drew ?_ | refine blk_alloc ?_ _)); exact BK429.out⟩, ⟨by repeat (first | (with_reducible first | exact HB.out | apply below_alloc | apply pw_below_drewN | apply below_drew1 | refine below_set ?_ GE429.out | refine below_set ?_ GE452.out) | exact HB.out)⟩⟩
           ·rw [if_neg c72] at H
            have c72b0 : (t453 == 0) = false := beq_eq_false_iff_ne.mpr c72
            have c72b1 : (t453 != 0) = true := bne_iff_ne.mpr c72
            have H' := Aside0.mk H
            clear H
            have p451 : 0 ≤ (x107_2 : Int) := of_decide_eq_true (by first | (with_reducible assumption) | assumption)
            have q451 : x107_2 < (y448.length : Int) := of_decide_eq_true (by first | (with_reducible assumption) | assumption)
            obtain ⟨ad451, A451_5, c451_5, e451, hx451_0, hx451_1, hx451_2, hx451_3, hx451_4, hx451_5, hx451_6, hl451_5, hi451_5⟩ := at_T43 (Kd.N_reads' HO_105.out).2.2 x107_2 p451 q451
            cases e451
            obtain ⟨ce451, hce451, hMe451, hcc451⟩ := Kd.N_get HO_105.out z43 x107_2 p451 (by first | exact q451 | exact of_decide_eq_true (by first | (with_reducible assumption) | assumption) | (have e_ := (Kd.N_reads' HO_105.out).1; omega))
            obtain ⟨ua451_5, uc451_5, rfl, ul451_5, ge451_5⟩ := k43_openF hMe451
            have hv451_5 := hcc451 5 _ rfl
            rw [add_field _ _ 5 (by omega)] at hv451_5
            replace hv451_5 := Option.some.inj (hv451_5.symm.trans hx451_5)
            injection hv451_5 with hva_ hvn_ hvc_
            rw [hva_] at ge451_5
            rw [hvc_] at ul451_5
            have HL451_5 := Aside0.mk (show Kd.V k24 24 _ w.heap.size _ _ ((rd_T43 y448 x107_2).f0.f5) from Kd.V_mk ul451_5 ge451_5)
            clear hva_ hvn_ hvc_ ge451_5 ul451_5
            clear hcc451 hce451
            have HR451_5 := Aside0.mk hi451_5
            have HC451_5 := Aside0.mk hl451_5
            clear hi451_5 hl451_5
            replace p451 := eq_true p451
            replace q451 := eq_true q451
            try go_wp2_with (first | ((with_reducible refine gate_dst (N := 12) rfl ?_); (try (refine gate_guard (by rfl) ?_; dsimp only)); refine box_event ?hg (N := 12) ?hd (cs := #[.int .i64 0, .int .i64 0, .string (⟨#[]⟩ : ByteArray), .int .i64 0, .int .i64 0, .slice none 0 0, .bool false]) (t := 43) ?hr ?_; (case hd => rfl); (case hg => rfl); (case hr => first | (go_simp; done) | (go_simp; rfl)); intro gb452 hg w89 hbox hb; have n0_ := Aside0.mk (Kd.N_below (Kd.N_elderB (by (with_reducible repeat (first | apply Kd.N_alloc | apply Kd.N_drewN | apply Kd.N_drew)); exact HO_105.out) gb452 (Nat.le_of_eq hg.symm)) hb); have n1_ := Aside0.mk (Kd.V_below (Kd.V_elderB (by (with_reducible repeat (first | apply Kd.V_alloc | apply Kd.V_drewN | apply Kd.V_drew)); exact HL451_5.out) gb452 (Nat.le_of_eq hg.symm)) hb); have n2_ := Aside0.mk (blk_below (g := gb429) (o := .cells #[.slice A1_0 l1_0.length c1_0, .int .i64 a1_1, .int .i64 a1_2, .int .i64 a1_3] 29 (0, 0)) (by (with_reducible repeat (first | refine blk_drewN ?_ _ | refine blk_drew ?_ | refine blk_alloc ?_ _)); exact BK429.out) hb); have n3_ := Aside0.mk (Kd.C_below (by repeat (first | (with_reducible exact HR451_5.out) | (with_reducible refine Kd.C_alloc ?_ _) | (with_reducible refine Kd.C_drewN ?_ _) | (with_reducible refine Kd.C_drew ?_) | exact HR451_5.out)) hb); have n4_ := Aside0.mk (below_step (by repeat (first | (with_reducible first | exact HB.out | apply below_alloc | apply pw_below_drewN | apply below_drew1 | refine below_set ?_ GE429.out) | exact HB.out)) hb); have n5_ := Aside0.mk (hbox); have n6_ := Aside0.mk ((by rw [hg]; exact (below_size (by repeat (first | (with_reducible first | exact HB.out | apply below_alloc | apply pw_below_drewN | apply below_drew1 | refine below_set ?_ GE429.out) | exact HB.out))) : w.heap.size ≤ gb452)); have n7_ := Aside0.mk ((by rw [hg]; exact (below_size (by repeat (first | (with_reducible first | exact HB.out | apply below_alloc | apply pw_below_drewN | apply below_drew1 | refine below_set ?_ GE429.out) | exact HB.out))) : w.heap.size ≤ gb452)); have n8_ := Aside0.mk ((by rw [hg]; exact Nat.ne_of_lt (blk_lt (g := gb429) (o := .cells #[.slice A1_0 l1_0.length c1_0, .int .i64 a1_1, .int .i64 a1_2, .int .i64 a1_3] 29 (0, 0)) (by (with_reducible repeat (first | refine blk_drewN ?_ _ | refine blk_drew ?_ | refine blk_alloc ?_ _)); exact BK429.out)) : gb429 ≠ gb452)); have n9_ := Aside0.mk ((by rw [hg]; exact Nat.ne_of_gt (blk_lt (g := gb429) (o := .cells #[.slice A1_0 l1_0.length c1_0, .int .i64 a1_1, .int .i64 a1_2, .int .i64 a1_3] 29 (0, 0)) (by (with_reducible repeat (first | refine blk_drewN ?_ _ | refine blk_drew ?_ | refine blk_alloc ?_ _)); exact BK429.out)) : gb452 ≠ gb429)); clear HO_105; clear HL451_5; clear BK429; clear HR451_5; clear HB; have HO_105 := n0_; have HL451_5 := n1_; have BK429 := n2_; have HR451_5 := n3_; have HB := n4_; have BK452 := n5_; have GW452 := n6_; have GE452 := n7_; have NB429_452 := n8_; have NB452_429 := n9_; clear n0_ n1_ n2_ n3_ n4_ n5_ n6_ n7_ n8_ n9_; clear hb hbox hg; have hnb90 := NB452_429.out; have hnc90 := NB429_452.out; have hcz91_0 : w89.cell? ⟨gb452, 0, none⟩ = some (.int .i64 0) := (blk_cell BK452.out 0).trans rfl; have hcz91_1 : w89.cell? ⟨gb452, 1, none⟩ = some (.int .i64 0) := (blk_cell BK452.out 1).trans rfl; have hcz91_2 : w89.cell? ⟨gb452, 2, none⟩ = some (.string (⟨#[]⟩ : ByteArray)) := (blk_cell BK452.out 2).trans rfl; have hcz91_3 : w89.cell? ⟨gb452, 3, none⟩ = some (.int .i64 0) := (blk_cell BK452.out 3).trans rfl; have hcz91_4 : w89.cell? ⟨gb452, 4, none⟩ = some (.int .i64 0) := (blk_cell BK452.out 4).trans rfl; have hcz91_5 : w89.cell? ⟨gb452, 5, none⟩ = some (.slice none 0 0) := (blk_cell BK452.out 5).trans rfl; have hcz91_6 : w89.cell? ⟨gb452, 6, none⟩ = some (.bool false) := (blk_cell BK452.out 6).trans rfl; have hfz91_0 := blk_frozen BK452.out 0; have hfz91_1 := blk_frozen BK452.out 1; have hfz91_2 := blk_frozen BK452.out 2; have hfz91_3 := blk_frozen BK452.out 3; have hfz91_4 := blk_frozen BK452.out 4; have hfz91_5 := blk_frozen BK452.out 5; have hfz91_6 := blk_frozen BK452.out 6))
            have n0_ : Aside0 (Kd.N k43 43 (((((((w89.setCell ⟨gb452, 0, none⟩ (.int .i64 ((rd_T43 y448 x107_2).f0.f0))).setCell ⟨gb452, 1, none⟩ (.int .i64 ((rd_T43 y448 x107_2).f0.f1))).setCell ⟨gb452, 2, none⟩ (.string ((rd_T43 y448 x107_2).f0.f2))).setCell ⟨gb452, 3, none⟩ (.int .i64 ((rd_T43 y448 x107_2).f0.f3))).setCell ⟨gb452, 4, none⟩ (.int .i64 ((rd_T43 y448 x107_2).f0.f4))).setCell ⟨gb452, 5, none⟩ (.slice A451_5 ((rd_T43 y448 x107_2).f0.f5).length c451_5)).setCell ⟨gb452, 6, none⟩ (.bool ((rd_T43 y448 x107_2).f1))) w.heap.size (fun k_ => (P0_ k_ ∨ w.heap.size ≤ k_) ∧ k_ ≠ gb429 ∧ k_ ≠ gb452) (.slice (some ad451) y448.length co67) y448) := ⟨by (with_reducible repeat (first | apply Kd.N_alloc | apply Kd.N_drewN | apply Kd.N_drew)); exact Kd.N_mono (Kd.N_far (p := ⟨gb452, 6, none⟩) (Kd.N_far (p := ⟨gb452, 5, none⟩) (Kd.N_far (p := ⟨gb452, 4, none⟩) (Kd.N_far (p := ⟨gb452, 3, none⟩) (Kd.N_far (p := ⟨gb452, 2, none⟩) (Kd.N_far (p := ⟨gb452, 1, none⟩) (Kd.N_far (p := ⟨gb452, 0, none⟩) (Kd.N_mono HO_105.out (fun k_ hk => (⟨hk, hk.2⟩ : _ ∧ k_ ≠ gb452))) (fun _ hk => hk.2) (.int .i64 ((rd_T43 y448 x107_2).f0.f0))) (fun _ hk => hk.2) (.int .i64 ((rd_T43 y448 x107_2).f0.f1))) (fun _ hk => hk.2) (.string ((rd_T43 y448 x107_2).f0.f2))) (fun _ hk => hk.2) (.int .i64 ((rd_T43 y448 x107_2).f0.f3))) (fun _ hk => hk.2) (.int .i64 ((rd_T43 y448 x107_2).f0.f4))) (fun _ hk => hk.2) (.slice A451_5 ((rd_T43 y448 x107_2).f0.f5).length c451_5)) (fun _ hk => hk.2) (.bool ((rd_T43 y448 x107_2).f1))) (fun _ hk => ⟨hk.1.1.1, ⟨hk.1.1.2, hk.1.2⟩⟩)⟩
            have n1_ : Aside0 (Kd.V k24 24 (((((((w89.setCell ⟨gb452, 0, none⟩ (.int .i64 ((rd_T43 y448 x107_2).f0.f0))).setCell ⟨gb452, 1, none⟩ (.int .i64 ((rd_T43 y448 x107_2).f0.f1))).setCell ⟨gb452, 2, none⟩ (.string ((rd_T43 y448 x107_2).f0.f2))).setCell ⟨gb452, 3, none⟩ (.int .i64 ((rd_T43 y448 x107_2).f0.f3))).setCell ⟨gb452, 4, none⟩ (.int .i64 ((rd_T43 y448 x107_2).f0.f4))).setCell ⟨gb452, 5, none⟩ (.slice A451_5 ((rd_T43 y448 x107_2).f0.f5).length c451_5)).setCell ⟨gb452, 6, none⟩ (.bool ((rd_T43 y448 x107_2).f1))) w.heap.size (fun k_ => (P0_ k_ ∨ w.heap.size ≤ k_) ∧ some k_ ≠ (.slice (some ad451) y448.length co67 : Value).ownBlock ∧ k_ ≠ gb429 ∧ k_ ≠ gb452) (.slice A451_5 ((rd_T43 y448 x107_2).f0.f5).length c451_5) ((rd_T43 y448 x107_2).f0.f5)) := ⟨by (with_reducible repeat (first | apply Kd.V_alloc | apply Kd.V_drewN | apply Kd.V_drew)); exact Kd.V_mono (Kd.V_far (p := ⟨gb452, 6, none⟩) (Kd.V_far (p := ⟨gb452, 5, none⟩) (Kd.V_far (p := ⟨gb452, 4, none⟩) (Kd.V_far (p := ⟨gb452, 3, none⟩) (Kd.V_far (p := ⟨gb452, 2, none⟩) (Kd.V_far (p := ⟨gb452, 1, none⟩) (Kd.V_far (p := ⟨gb452, 0, none⟩) (Kd.V_mono HL451_5.out (fun k_ hk => (⟨hk, hk.2⟩ : _ ∧ k_ ≠ gb452))) (fun _ hk => hk.2) (.int .i64 ((rd_T43 y448 x107_2).f0.f0))) (fun _ hk => hk.2) (.int .i64 ((rd_T43 y448 x107_2).f0.f1))) (fun _ hk => hk.2) (.string ((rd_T43 y448 x107_2).f0.f2))) (fun _ hk => hk.2) (.int .i64 ((rd_T43 y448 x107_2).f0.f3))) (fun _ hk => hk.2) (.int .i64 ((rd_T43 y448 x107_2).f0.f4))) (fun _ hk => hk.2) (.slice A451_5 ((rd_T43 y448 x107_2).f0.f5).length c451_5)) (fun _ hk => hk.2) (.bool ((rd_T43 y448 x107_2).f1))) (fun _ hk => ⟨hk.1.1.1.1, ⟨hk.1.1.2, ⟨hk.1.1.1.2, hk.1.2⟩⟩⟩)⟩
            have n2_ : Aside0 ((((((((w89.setCell ⟨gb452, 0, none⟩ (.int .i64 ((rd_T43 y448 x107_2).f0.f0))).setCell ⟨gb452, 1, none⟩ (.int .i64 ((rd_T43 y448 x107_2).f0.f1))).setCell ⟨gb452, 2, none⟩ (.string ((rd_T43 y448 x107_2).f0.f2))).setCell ⟨gb452, 3, none⟩ (.int .i64 ((rd_T43 y448 x107_2).f0.f3))).setCell ⟨gb452, 4, none⟩ (.int .i64 ((rd_T43 y448 x107_2).f0.f4))).setCell ⟨gb452, 5, none⟩ (.slice A451_5 ((rd_T43 y448 x107_2).f0.f5).length c451_5)).setCell ⟨gb452, 6, none⟩ (.bool ((rd_T43 y448 x107_2).f1))).heap[gb429]? = some (.cells #[.slice A1_0 l1_0.length c1_0, .int .i64 a1_1, .int .i64 a1_2, .int .i64 a1_3] 29 (0, 0))) := ⟨by (with_reducible repeat (first | refine blk_drewN ?_ _ | refine blk_drew ?_ | refine blk_alloc ?_ _)); refine blk_far ?_ NB429_452.out _; (with_reducible repeat (first | refine blk_drewN ?_ _ | refine blk_drew ?_ | refine blk_alloc ?_ _)); refine blk_far ?_ NB429_452.out _; (with_reducible repeat (first | refine blk_drewN ?_ _ | refine blk_drew ?_ | refine blk_alloc ?_ _)); refine blk_far ?_ NB429_452.out _; (with_reducible repeat (first | refine blk_drewN ?_ _ | refine blk_drew ?_ | refine blk_alloc ?_ _)); refine blk_far ?_ NB429_452.out _; (with_reducible repeat (first | refine blk_drewN ?_ _ | refine blk_drew ?_ | refine blk_alloc ?_ _)); refine blk_far ?_ NB429_452.out _; (with_reducible repeat (first | refine blk_drewN ?_ _ | refine blk_drew ?_ | refine blk_alloc ?_ _)); refine blk_far ?_ NB429_452.out _; (with_reducible repeat (first | refine blk_drewN ?_ _ | refine blk_drew ?_ | refine blk_alloc ?_ _)); refine blk_far ?_ NB429_452.out _; (with_reducible repeat (first | refine blk_drewN ?_ _ | refine blk_drew ?_ | refine blk_alloc ?_ _)); exact BK429.out⟩
            have n3_ : Aside0 ((((((((w89.setCell ⟨gb452, 0, none⟩ (.int .i64 ((rd_T43 y448 x107_2).f0.f0))).setCell ⟨gb452, 1, none⟩ (.int .i64 ((rd_T43 y448 x107_2).f0.f1))).setCell ⟨gb452, 2, none⟩ (.string ((rd_T43 y448 x107_2).f0.f2))).setCell ⟨gb452, 3, none⟩ (.int .i64 ((rd_T43 y448 x107_2).f0.f3))).setCell ⟨gb452, 4, none⟩ (.int .i64 ((rd_T43 y448 x107_2).f0.f4))).setCell ⟨gb452, 5, none⟩ (.slice A451_5 ((rd_T43 y448 x107_2).f0.f5).length c451_5)).setCell ⟨gb452, 6, none⟩ (.bool ((rd_T43 y448 x107_2).f1))).heap[gb452]? = some (.cells #[.int .i64 ((rd_T43 y448 x107_2).f0.f0), .int .i64 ((rd_T43 y448 x107_2).f0.f1), .string ((rd_T43 y448 x107_2).f0.f2), .int .i64 ((rd_T43 y448 x107_2).f0.f3), .int .i64 ((rd_T43 y448 x107_2).f0.f4), .slice A451_5 ((rd_T43 y448 x107_2).f0.f5).length c451_5, .bool ((rd_T43 y448 x107_2).f1)] 43 (0, 0))) := ⟨by (with_reducible repeat (first | refine blk_drewN ?_ _ | refine blk_drew ?_ | refine blk_alloc ?_ _)); refine blk_put (cs := #[.int .i64 ((rd_T43 y448 x107_2).f0.f0), .int .i64 ((rd_T43 y448 x107_2).f0.f1), .string ((rd_T43 y448 x107_2).f0.f2), .int .i64 ((rd_T43 y448 x107_2).f0.f3), .int .i64 ((rd_T43 y448 x107_2).f0.f4), .slice A451_5 ((rd_T43 y448 x107_2).f0.f5).length c451_5, .bool false]) ?_ 6 _ rfl; (with_reducible repeat (first | refine blk_drewN ?_ _ | refine blk_drew ?_ | refine blk_alloc ?_ _)); refine blk_put (cs := #[.int .i64 ((rd_T43 y448 x107_2).f0.f0), .int .i64 ((rd_T43 y448 x107_2).f0.f1), .string ((rd_T43 y448 x107_2).f0.f2), .int .i64 ((rd_T43 y448 x107_2).f0.f3), .int .i64 ((rd_T43 y448 x107_2).f0.f4), .slice none 0 0, .bool false]) ?_ 5 _ rfl; (with_reducible repeat (first | refine blk_drewN ?_ _ | refine blk_drew ?_ | refine blk_alloc ?_ _)); refine blk_put (cs := #[.int .i64 ((rd_T43 y448 x107_2).f0.f0), .int .i64 ((rd_T43 y448 x107_2).f0.f1), .string ((rd_T43 y448 x107_2).f0.f2), .int .i64 ((rd_T43 y448 x107_2).f0.f3), .int .i64 0, .slice none 0 0, .bool false]) ?_ 4 _ rfl; (with_reducible repeat (first | refine blk_drewN ?_ _ | refine blk_drew ?_ | refine blk_alloc ?_ _)); refine blk_put (cs := #[.int .i64 ((rd_T43 y448 x107_2).f0.f0), .int .i64 ((rd_T43 y448 x107_2).f0.f1), .string ((rd_T43 y448 x107_2).f0.f2), .int .i64 0, .int .i64 0, .slice none 0 0, .bool false]) ?_ 3 _ rfl; (with_reducible repeat (first | refine blk_drewN ?_ _ | refine blk_drew ?_ | refine blk_alloc ?_ _)); refine blk_put (cs := #[.int .i64 ((rd_T43 y448 x107_2).f0.f0), .int .i64 ((rd_T43 y448 x107_2).f0.f1), .string (⟨#[]⟩ : ByteArray), .int .i64 0, .int .i64 0, .slice none 0 0, .bool false]) ?_ 2 _ rfl; (with_reducible repeat (first | refine blk_drewN ?_ _ | refine blk_drew ?_ | refine blk_alloc ?_ _)); refine blk_put (cs := #[.int .i64 ((rd_T43 y448 x107_2).f0.f0), .int .i64 0, .string (⟨#[]⟩ : ByteArray), .int .i64 0, .int .i64 0, .slice none 0 0, .bool false]) ?_ 1 _ rfl; (with_reducible repeat (first | refine blk_drewN ?_ _ | refine blk_drew ?_ | refine blk_alloc ?_ _)); refine blk_put (cs := #[.int .i64 0, .int .i64 0, .string (⟨#[]⟩ : ByteArray), .int .i64 0, .int .i64 0, .slice none 0 0, .bool false]) ?_ 0 _ rfl; (with_reducible repeat (first | refine blk_drewN ?_ _ | refine blk_drew ?_ | refine blk_alloc ?_ _)); exact BK452.out⟩
            have n4_ : Aside0 (Below w.heap.size w (((((((w89.setCell ⟨gb452, 0, none⟩ (.int .i64 ((rd_T43 y448 x107_2).f0.f0))).setCell ⟨gb452, 1, none⟩ (.int .i64 ((rd_T43 y448 x107_2).f0.f1))).setCell ⟨gb452, 2, none⟩ (.string ((rd_T43 y448 x107_2).f0.f2))).setCell ⟨gb452, 3, none⟩ (.int .i64 ((rd_T43 y448 x107_2).f0.f3))).setCell ⟨gb452, 4, none⟩ (.int .i64 ((rd_T43 y448 x107_2).f0.f4))).setCell ⟨gb452, 5, none⟩ (.slice A451_5 ((rd_T43 y448 x107_2).f0.f5).length c451_5)).setCell ⟨gb452, 6, none⟩ (.bool ((rd_T43 y448 x107_2).f1)))) := ⟨by repeat (first | (with_reducible first | exact HB.out | apply below_alloc | apply pw_below_drewN | apply below_drew1 | refine below_set ?_ GE429.out | refine below_set ?_ GE452.out) | exact HB.out)⟩
            (try clear HO_105)
            (try clear HL451_5)
            (try clear BK429)
            (try clear BK452)
            (try clear HB)
            generalize (((((((w89.setCell ⟨gb452, 0, none⟩ (.int .i64 ((rd_T43 y448 x107_2).f0.f0))).setCell ⟨gb452, 1, none⟩ (.int .i64 ((rd_T43 y448 x107_2).f0.f1))).setCell ⟨gb452, 2, none⟩ (.string ((rd_T43 y448 x107_2).f0.f2))).setCell ⟨gb452, 3, none⟩ (.int .i64 ((rd_T43 y448 x107_2).f0.f3))).setCell ⟨gb452, 4, none⟩ (.int .i64 ((rd_T43 y448 x107_2).f0.f4))).setCell ⟨gb452, 5, none⟩ (.slice A451_5 ((rd_T43 y448 x107_2).f0.f5).length c451_5)).setCell ⟨gb452, 6, none⟩ (.bool ((rd_T43 y448 x107_2).f1))) = w92 at n0_ n1_ n2_ n3_ n4_ ⊢
            have HO_105 := n0_
            have HL451_5 := n1_
            have BK429 := n2_
            have BK452 := n3_
            have HB := n4_
            clear n0_ n1_ n2_ n3_ n4_
            have n0_ := Aside0.mk (Kd.N_drew HO_105.out)
            have n1_ := Aside0.mk (Kd.V_drew HL451_5.out)
            have n2_ := Aside0.mk (blk_drew BK429.out)
            have n3_ := Aside0.mk (blk_drew BK452.out)
            have n4_ := Aside0.mk (below_drew1 HB.out)
            clear HO_105
            clear HL451_5
            clear BK429
            clear BK452
            clear HB
            have HO_105 := n0_
            have HL451_5 := n1_
            have BK429 := n2_
            have BK452 := n3_
            have HB := n4_
            clear n0_ n1_ n2_ n3_ n4_
            refine start_ (n := 13) (S := fun w' => w'.cell? ⟨gb452, 0, none⟩ = some (.int .i64 ((rd_T43 y448 x107_2).f0.f0)) ∧ w'.cell? ⟨gb452, 1, none⟩ = some (.int .i64 ((rd_T43 y448 x107_2).f0.f1)) ∧ w'.cell? ⟨gb452, 2, none⟩ = some (.string ((rd_T43 y448 x107_2).f0.f2)) ∧ w'.cell? ⟨gb452, 3, none⟩ = some (.int .i64 ((rd_T43 y448 x107_2).f0.f3)) ∧ w'.cell? ⟨gb452, 4, none⟩ = some (.int .i64 ((rd_T43 y448 x107_2).f0.f4)) ∧ w'.cell? ⟨gb452, 5, none⟩ = some (.slice A451_5 ((rd_T43 y448 x107_2).f0.f5).length c451_5) ∧ w'.cell? ⟨gb452, 6, none⟩ = some (.bool ((rd_T43 y448 x107_2).f1))) (ds := []) #[false, false, false, false, false, false, false, false, false, false, false, false, false] (by kernel_rfl) rfl rfl ⟨(blk_cell BK452.out 0).trans rfl, (blk_cell BK452.out 1).trans rfl, (blk_cell BK452.out 2).trans rfl, (blk_cell BK452.out 3).trans rfl, (blk_cell BK452.out 4).trans rfl, (blk_cell BK452.out 5).trans rfl, (blk_cell BK452.out 6).trans rfl⟩ (fun hHeld => ?_); refine with_tabW sizarlaw12_RulesBoolean.tab20 sizarlaw12_RulesBoolean.bits20 (fun HT_ HW_ => ?_)
            generalize w92.drew = w93 at HO_105 HL451_5 BK429 BK452 HB hHeld ⊢
            refine pure_ (i := 0) (N := some 111) (v := ?_) (a' := ?_) #[true, false, false, false, false, false, false, false, false, false, false, false, false] rfl rfl (any_of HT_.out (by kernel_rfl)) (fun _ _ _ h => h) (Or.inl ⟨by rfl, ?_⟩) ?_ ?_
            rotate_left
            ·intro w'
             go_simp
             with_reducible rfl
            rotate_left
            ·simp only [Act.put, List.setIfInBounds_toArray, List.set_cons_zero, List.set_cons_succ, i64_w, i32_w]
             rfl
            refine take_ (i := 1) (N := some 112) (v := ?_) (a' := ?_) #[true, true, false, false, false, false, false, false, false, false, false, false, false] rfl rfl (take_ofW HT_.out HW_.out (by kernel_rfl)) (fun _ _ _ h => h) (Or.inl ⟨by rfl, ?_⟩) hHeld ?_ ?_
            rotate_left
            ·rintro w' ⟨s0, s1, s2, s3, s4, s5, s6⟩
             go_simp
             with_reducible rfl
            rotate_left
            ·simp only [Act.put, List.setIfInBounds_toArray, List.set_cons_zero, List.set_cons_succ, i64_w, i32_w]
             rfl
            refine one_ (i := 2) (N := some 113) #[true, true, true, false, false, false, false, false, false, false, false, false, false] rfl rfl (one_of HT_.out (by kernel_rfl)) (by decide) (fun K hK => ?_)
            refine goes_ Tryd.func20 (by kernel_rfl) rfl #[.agg #[.int .i64 ((rd_T43 y448 x107_2).f0.f0), .int .i64 ((rd_T43 y448 x107_2).f0.f1), .string ((rd_T43 y448 x107_2).f0.f2), .int .i64 ((rd_T43 y448 x107_2).f0.f3), .int .i64 ((rd_T43 y448 x107_2).f0.f4), .slice A451_5 ((rd_T43 y448 x107_2).f0.f5).length c451_5]] (by rfl) rfl rfl (by (try simp only [List.map_toArray, List.map_cons, List.map_nil]); first | done | rfl | (simp only [List.length_drop, List.length_take]; rfl)) ?_
            with_reducible refine (rules_Check.calls ((rd_T43 y448 x107_2).f0.f0) ((rd_T43 y448 x107_2).f0.f1) ((rd_T43 y448 x107_2).f0.f2) ((rd_T43 y448 x107_2).f0.f3) ((rd_T43 y448 x107_2).f0.f4) _ _ ((rd_T43 y448 x107_2).f0.f5) t453 _ ?side1 ?side2 A71.out ?sideK).mono ?_
            (case sideK => exact HKT.out.below (by repeat (first | (with_reducible first | exact HB.out | apply below_alloc | apply pw_below_drewN | apply below_drew1 | refine below_set ?_ GE429.out | refine below_set ?_ GE452.out) | exact HB.out)))
            (case side1 => repeat (first | exact ((Kd.V_reads' (by (with_reducible repeat (first | apply Kd.V_alloc | apply Kd.V_drewN | apply Kd.V_drew)); exact HL451_5.out)).2.2) | (with_reducible refine Kd.C_alloc ?_ _) | (with_reducible refine Kd.C_drewN ?_ _) | (with_reducible refine Kd.C_drew ?_)))
            (case side2 => exact HC451_5.out)
            rintro e w94 ⟨rfl, hb⟩
            refine ⟨_, rfl, ?_⟩
            have n0_ := Aside0.mk (Kd.N_below (by (with_reducible repeat (first | apply Kd.N_alloc | apply Kd.N_drewN | apply Kd.N_drew)); exact HO_105.out) hb)
            have n1_ := Aside0.mk (Kd.V_below (by (with_reducible repeat (first | apply Kd.V_alloc | apply Kd.V_drewN | apply Kd.V_drew)); exact HL451_5.out) hb)
            have n2_ := Aside0.mk (blk_below (g := gb429) (o := .cells #[.slice A1_0 l1_0.length c1_0, .int .i64 a1_1, .int .i64 a1_2, .int .i64 a1_3] 29 (0, 0)) (by (with_reducible repeat (first | refine blk_drewN ?_ _ | refine blk_drew ?_ | refine blk_alloc ?_ _)); exact BK429.out) hb)
            have n3_ := Aside0.mk (blk_below (g := gb452) (o := .cells #[.int .i64 ((rd_T43 y448 x107_2).f0.f0), .int .i64 ((rd_T43 y448 x107_2).f0.f1), .string ((rd_T43 y448 x107_2).f0.f2), .int .i64 ((rd_T43 y448 x107_2).f0.f3), .int .i64 ((rd_T43 y448 x107_2).f0.f4), .slice A451_5 ((rd_T43 y448 x107_2).f0.f5).length c451_5, .bool ((rd_T43 y448 x107_2).f1)] 43 (0, 0)) (by (with_reducible repeat (first | refine blk_drewN ?_ _ | refine blk_drew ?_ | refine blk_alloc ?_ _)); exact BK452.out) hb)
            have n4_ := Aside0.mk (below_step (by repeat (first | (with_reducible first | exact HB.out | apply below_alloc | apply pw_below_drewN | apply below_drew1 | refine below_set ?_ GE429.out | refine below_set ?_ GE452.out) | exact HB.out)) hb)
            clear HO_105
            clear HL451_5
            clear BK429
            clear BK452
            clear HB
            have HO_105 := n0_
            have HL451_5 := n1_
            have BK429 := n2_
            have BK452 := n3_
            have HB := n4_
            clear n0_ n1_ n2_ n3_ n4_
            (try clear hb)
            (try clear hb2)
            (try clear hk)
            (try clear hi)
            refine hK.out _ _ ⟨(blk_cell BK452.out 0).trans rfl, (blk_cell BK452.out 1).trans rfl, (blk_cell BK452.out 2).trans rfl, (blk_cell BK452.out 3).trans rfl, (blk_cell BK452.out 4).trans rfl, (blk_cell BK452.out 5).trans rfl, (blk_cell BK452.out 6).trans rfl⟩ (fun hHeld => ?_)
            clear hK K
            refine norm_ (a' := ?_) ?_ ?_
            rotate_left
            ·show Act.put _ (some 113) _ = _
             simp only [Act.put, List.setIfInBounds_toArray, List.set_cons_zero, List.set_cons_succ, i64_w, i32_w]
             rfl
            refine pure_ (i := 3) (N := some 114) (v := ?_) (a' := ?_) #[true, true, true, true, false, false, false, false, false, false, false, false, false] rfl rfl (any_of HT_.out (by kernel_rfl)) (fun _ _ _ h => h) (Or.inl ⟨by rfl, ?_⟩) ?_ ?_
            rotate_left
            ·intro w'
             go_simp
             with_reducible rfl
            rotate_left
            ·simp only [Act.put, List.setIfInBounds_toArray, List.set_cons_zero, List.set_cons_succ, i64_w, i32_w]
             rfl
            refine pure_ (i := 4) (N := some 115) (v := ?_) (a' := ?_) #[true, true, true, true, true, false, false, false, false, false, false, false, false] rfl rfl (any_of HT_.out (by kernel_rfl)) (fun _ _ _ h => h) (Or.inl ⟨by rfl, ?_⟩) ?_ ?_
            rotate_left
            ·intro w'
             go_simp
             with_reducible rfl
            rotate_left
            ·simp only [Act.put, List.setIfInBounds_toArray, List.set_cons_zero, List.set_cons_succ, i64_w, i32_w]
             rfl
            refine pure_ (i := 5) (N := some 116) (v := undef) (a' := ?_) #[true, true, true, true, true, true, false, false, false, false, false, false, false] rfl rfl (any_of HT_.out (by kernel_rfl)) (fun _ _ _ h => h) (Or.inr ⟨by rfl, rfl⟩) ?_ ?_
            rotate_left
            ·simp only [Act.put, List.setIfInBounds_toArray, List.set_cons_zero, List.set_cons_succ, i64_w, i32_w]
             rfl
            refine pure_ (i := 6) (N := some 117) (v := undef) (a' := ?_) #[true, true, true, true, true, true, true, false, false, false, false, false, false] rfl rfl (any_of HT_.out (by kernel_rfl)) (fun _ _ _ h => h) (Or.inr ⟨by rfl, rfl⟩) ?_ ?_
            rotate_left
            ·simp only [Act.put, List.setIfInBounds_toArray, List.set_cons_zero, List.set_cons_succ, i64_w, i32_w]
             rfl
            refine pure_ (i := 7) (N := some 118) (v := undef) (a' := ?_) #[true, true, true, true, true, true, true, true, false, false, false, false, false] rfl rfl (any_of HT_.out (by kernel_rfl)) (fun _ _ _ h => h) (Or.inr ⟨by rfl, rfl⟩) ?_ ?_
            rotate_left
            ·simp only [Act.put, List.setIfInBounds_toArray, List.set_cons_zero, List.set_cons_succ, i64_w, i32_w]
             rfl
            refine pure_ (i := 8) (N := some 119) (v := undef) (a' := ?_) #[true, true, true, true, true, true, true, true, true, false, false, false, false] rfl rfl (any_of HT_.out (by kernel_rfl)) (fun _ _ _ h => h) (Or.inr ⟨by rfl, rfl⟩) ?_ ?_
            rotate_left
            ·simp only [Act.put, List.setIfInBounds_toArray, List.set_cons_zero, List.set_cons_succ, i64_w, i32_w]
             rfl
            refine pure_ (i := 9) (N := some 120) (v := undef) (a' := ?_) #[true, true, true, true, true, true, true, true, true, true, false, false, false] rfl rfl (any_of HT_.out (by kernel_rfl)) (fun _ _ _ h => h) (Or.inr ⟨by rfl, rfl⟩) ?_ ?_
            rotate_left
            ·simp only [Act.put, List.setIfInBounds_toArray, List.set_cons_zero, List.set_cons_succ, i64_w, i32_w]
             rfl
            refine pure_ (i := 10) (N := some 121) (v := undef) (a' := ?_) #[true, true, true, true, true, true, true, true, true, true, true, false, false] rfl rfl (any_of HT_.out (by kernel_rfl)) (fun _ _ _ h => h) (Or.inr ⟨by rfl, rfl⟩) ?_ ?_
            rotate_left
            ·simp only [Act.put, List.setIfInBounds_toArray, List.set_cons_zero, List.set_cons_succ, i64_w, i32_w]
             rfl
            refine pure_ (i := 11) (N := some 122) (v := undef) (a' := ?_) #[true, true, true, true, true, true, true, true, true, true, true, true, false] rfl rfl (any_of HT_.out (by kernel_rfl)) (fun _ _ _ h => h) (Or.inr ⟨by rfl, rfl⟩) ?_ ?_
            rotate_left
            ·simp only [Act.put, List.setIfInBounds_toArray, List.set_cons_zero, List.set_cons_succ, i64_w, i32_w]
             rfl
            refine pure_ (i := 12) (N := some 123) (v := ?_) (a' := ?_) #[true, true, true, true, true, true, true, true, true, true, true, true, true] rfl rfl (any_of HT_.out (by kernel_rfl)) (fun _ _ _ h => h) (Or.inl ⟨by rfl, ?_⟩) ?_ ?_
            rotate_left
            ·intro w'
             go_simp
             with_reducible rfl
            rotate_left
            ·simp only [Act.put, List.setIfInBounds_toArray, List.set_cons_zero, List.set_cons_succ, i64_w, i32_w]
             rfl
            refine done_ (done_of HT_.out (by kernel_rfl)) ?_
            try go_wp2
            go_roundg k2
            case measure => have := HK1.out; have := HK2.out; omega
            case rel => exact ⟨(wrap64 (x107_2 + 1)), (by first | rfl | (simp; done) | (simp [*]; done)), H', ⟨by have := HK1.out; have := HK2.out; omega⟩, ⟨by (with_reducible repeat (first | apply Kd.N_alloc | apply Kd.N_drewN | apply Kd.N_drew)); exact Kd.N_mono HO_105.out (fun _ hk => ⟨hk.1, hk.2.1⟩)⟩, ⟨by (with_reducible repeat (first | refine blk_drewN ?_ _ | refine blk_drew ?_ | refine blk_alloc ?_ _)); exact BK429.out⟩, ⟨by repeat (first | (with_reducible first | exact HB.out | apply below_alloc | apply pw_below_drewN | apply below_drew1 | refine below_set ?_ GE429.out | refine below_set ?_ GE452.out) | exact HB.out)⟩⟩
          ·rw [if_neg c70] at H
           exact absurd H (by simp)
         ·rw [if_neg c69] at H
          exact absurd H (by simp)
        ·rw [if_neg c68] at H
         have c68b0 : decide (x107_2 < (y448.length : Int)) = false := decide_eq_false c68
         clear c68
         obtain rfl := Option.some.inj H
         go_wp2
         go_ret
         exact ⟨by first | rfl | (simp [errW_none, errW_some] <;> rfl) | (simp [*, errW_none, errW_some] <;> rfl), by repeat (first | (with_reducible first | exact HB.out | apply below_alloc | apply pw_below_drewN | apply below_drew1 | refine below_set ?_ GE429.out) | exact HB.out)⟩
     ·rw [if_neg c62] at H
      have c62b0 : (t447 == 0) = false := beq_eq_false_iff_ne.mpr c62
      have c62b1 : (t447 != 0) = true := bne_iff_ne.mpr c62
      obtain rfl := Option.some.inj H
      have hcz95_0 : wr.cell? ⟨gb429, 0, none⟩ = some (.slice A1_0 l1_0.length c1_0) := (blk_cell BK429.out 0).trans rfl
      have hcz95_1 : wr.cell? ⟨gb429, 1, none⟩ = some (.int .i64 a1_1) := (blk_cell BK429.out 1).trans rfl
      have hcz95_2 : wr.cell? ⟨gb429, 2, none⟩ = some (.int .i64 a1_2) := (blk_cell BK429.out 2).trans rfl
      have hcz95_3 : wr.cell? ⟨gb429, 3, none⟩ = some (.int .i64 a1_3) := (blk_cell BK429.out 3).trans rfl
      have hfz95_0 := blk_frozen BK429.out 0
      have hfz95_1 := blk_frozen BK429.out 1
      have hfz95_2 := blk_frozen BK429.out 2
      have hfz95_3 := blk_frozen BK429.out 3
      go_wp2_with (first | ((with_reducible refine gate_callee (f := 21) rfl ?_); refine goesL_ (some 81) rfl rfl Tryd.func21 (by kernel_rfl) rfl #[.agg #[.slice A1_0 l1_0.length c1_0, .int .i64 a1_1, .int .i64 a1_2, .int .i64 a1_3]] rfl (by (try simp only [List.map_toArray, List.map_cons, List.map_nil]); first | done | rfl | (simp only [List.length_drop, List.length_take]; rfl)) ?_; (with_reducible refine (rules_Fits.calls k1 _ _ l1_0 a1_1 a1_2 a1_3 t447 _ ?side1 ?side2 A61.out).mono ?_); (case side1 => repeat (first | exact (Kd.C_below HR1_0.out HB.out) | (with_reducible refine Kd.C_alloc ?_ _) | (with_reducible refine Kd.C_drewN ?_ _) | (with_reducible refine Kd.C_drew ?_))); (case side2 => exact HC1_0.out); rintro e w96 ⟨rfl, hb⟩; refine ⟨_, rfl, ?_⟩; have n0_ := Aside0.mk (Kd.V_below (by (with_reducible repeat (first | apply Kd.V_alloc | apply Kd.V_drewN | apply Kd.V_drew)); exact HO_0.out) hb); have n1_ := Aside0.mk (blk_below (g := gb429) (o := .cells #[.slice A1_0 l1_0.length c1_0, .int .i64 a1_1, .int .i64 a1_2, .int .i64 a1_3] 29 (0, 0)) (by (with_reducible repeat (first | refine blk_drewN ?_ _ | refine blk_drew ?_ | refine blk_alloc ?_ _)); exact BK429.out) hb); have n2_ := Aside0.mk (below_step (by repeat (first | (with_reducible first | exact HB.out | apply below_alloc | apply pw_below_drewN | apply below_drew1 | refine below_set ?_ GE429.out) | exact HB.out)) hb); clear HO_0; clear BK429; clear HB; have HO_0 := n0_; have BK429 := n1_; have HB := n2_; clear n0_ n1_ n2_; (try clear hb); (try clear hb2); (try clear hk); (try clear hi)))
      go_ret
      exact ⟨by first | rfl | (simp [errW_none, errW_some] <;> rfl) | (simp [*, errW_none, errW_some] <;> rfl), by repeat (first | (with_reducible first | exact HB.out | apply below_alloc | apply pw_below_drewN | apply below_drew1 | refine below_set ?_ GE429.out) | exact HB.out)⟩
 ·replace c5 := Bool.eq_false_iff.mpr c5
  subst c5
  have H1 : (some false) = some r := by rw [if_neg (show ¬ (false = true) by decide)] at H; exact H
  clear H
  have H := H1
  clear H1
  obtain rfl := Option.some.inj H
  go_enter Tryd.func5, Tryd.ntmps5
  go_wp2_with (first | ((with_reducible refine gate_dst (N := 4) rfl ?_); (try (refine gate_guard (by rfl) ?_; dsimp only)); refine box_event ?hg (N := 4) ?hd (cs := #[.slice A1_0 l1_0.length c1_0, .int .i64 a1_1, .int .i64 a1_2, .int .i64 a1_3]) (t := 29) ?hr ?_; (case hd => rfl); (case hg => rfl); (case hr => first | (go_simp; done) | (go_simp; rfl)); intro gb429 hg w97 hbox hb; have n0_ := Aside0.mk (Kd.V_below (Kd.V_elderB (by (with_reducible repeat (first | apply Kd.V_alloc | apply Kd.V_drewN | apply Kd.V_drew)); exact HO0.out) gb429 (Nat.le_of_eq hg.symm)) hb); have n1_ := Aside0.mk (below_step (by repeat (first | (with_reducible first | exact HB.out | apply below_alloc | apply pw_below_drewN | apply below_drew1) | exact HB.out)) hb); have n2_ := Aside0.mk (hbox); have n3_ := Aside0.mk ((by rw [hg]; exact (below_size (by repeat (first | (with_reducible first | exact HB.out | apply below_alloc | apply pw_below_drewN | apply below_drew1) | exact HB.out))) : w.heap.size ≤ gb429)); have n4_ := Aside0.mk ((by rw [hg]; exact (below_size (by repeat (first | (with_reducible first | exact HB.out | apply below_alloc | apply pw_below_drewN | apply below_drew1) | exact HB.out))) : w.heap.size ≤ gb429)); clear HO0; clear HB; have HO0 := n0_; have HB := n1_; have BK429 := n2_; have GW429 := n3_; have GE429 := n4_; clear n0_ n1_ n2_ n3_ n4_; clear hb hbox hg) | ((with_reducible refine gate_callee (f := 10) rfl ?_); refine goesL_ (some 13) rfl rfl Tryd.func10 (by kernel_rfl) rfl #[] rfl (by (try simp only [List.map_toArray, List.map_cons, List.map_nil]); first | done | rfl | (simp only [List.length_drop, List.length_take]; rfl)) ?_; (with_reducible refine (sizarlaw12_sane.calls k  false _ A4.out ?sideK).mono ?_); (case sideK => exact HKT.out.below (by repeat (first | (with_reducible first | exact HB.out | apply below_alloc | apply pw_below_drewN | apply below_drew1 | refine below_set ?_ GE429.out) | exact HB.out))); rintro e w98 ⟨rfl, hb⟩; refine ⟨_, rfl, ?_⟩; have n0_ := Aside0.mk (Kd.V_below (by (with_reducible repeat (first | apply Kd.V_alloc | apply Kd.V_drewN | apply Kd.V_drew)); exact HO0.out) hb); have n1_ := Aside0.mk (blk_below (g := gb429) (o := .cells #[.slice A1_0 l1_0.length c1_0, .int .i64 a1_1, .int .i64 a1_2, .int .i64 a1_3] 29 (0, 0)) (by (with_reducible repeat (first | refine blk_drewN ?_ _ | refine blk_drew ?_ | refine blk_alloc ?_ _)); exact BK429.out) hb); have n2_ := Aside0.mk (below_step (by repeat (first | (with_reducible first | exact HB.out | apply below_alloc | apply pw_below_drewN | apply below_drew1 | refine below_set ?_ GE429.out) | exact HB.out)) hb); clear HO0; clear BK429; clear HB; have HO0 := n0_; have BK429 := n1_; have HB := n2_; clear n0_ n1_ n2_; (try clear hb); (try clear hb2); (try clear hk); (try clear hi)))
  go_ret
  exact ⟨by first | rfl | (simp [errW_none, errW_some] <;> rfl) | (simp [*, errW_none, errW_some] <;> rfl), by repeat (first | (with_reducible first | exact HB.out | apply below_alloc | apply pw_below_drewN | apply below_drew1 | refine below_set ?_ GE429.out) | exact HB.out)⟩
end Go.Proofs.YtabocfninjankaaDoor.P
