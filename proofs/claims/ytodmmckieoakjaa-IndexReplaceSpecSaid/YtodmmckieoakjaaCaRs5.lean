/- Texts of this claim, one behind the other: Px11, EvCheck, EvAff, IdxAff, SaneEv, Opens, OpenS, PureA, Px12. Merged by wip/mkmerge.py. -/
import Derived.Test.YtodmmckieoakjaaCaRs1
import Derived.Test.YtodmmckieoakjaaCaRs4
import Derived.Test.YtodmmckieoakjaaCaRs3
import Derived.Deep.Slices
import Derived.ChangeSame
import Derived.ChangeArms
import Derived.DataReads
import Derived.Test.YtodmmckieoakjaaCaRs2
namespace Go.Proofs.Ytodmmckieoakjaa.P
open Go.RowKit Go.Proofs.YtodmmckieoakjaaW.PrintWords Go.Proofs.YtodmmckieoakjaaW.PrintLast Go.Proofs.YtodmmckieoakjaaW.PrintMore
attribute [local go_sem] max2_int min2_int max_two min_two max_three min_three max_four min_four   -- for this text's walks alone
set_option linter.unusedVariables false
set_option linter.unusedSimpArgs false
def sizarref35_Check.l0 : Nat → Int → Int → List (S49) → Option (Int)
 | 0, _, _, _ => none
 | k + 1, x1, x5, x273000 => if x5 < (x273000.length : Int) then (if 0 ≤ x5 then (if ((rd_T49 x273000 x5).f1) < 0 then (some 350) else (if ((rd_T49 x273000 x5).f1) ≥ x1 then (some 350) else (if x5 > 0 then (if 0 ≤ (wrap64 (x5 - 1)) then (if (wrap64 (x5 - 1)) < (x273000.length : Int) then ((sizarref35_Before.f ((rd_T49 x273000 (wrap64 (x5 - 1))).f0.f0.f0) ((rd_T49 x273000 (wrap64 (x5 - 1))).f0.f0.f1) ((rd_T49 x273000 (wrap64 (x5 - 1))).f0.f0.f2) ((rd_T49 x273000 (wrap64 (x5 - 1))).f0.f1) ((rd_T49 x273000 (wrap64 (x5 - 1))).f0.f2) ((rd_T49 x273000 (wrap64 (x5 - 1))).f1) ((rd_T49 x273000 x5).f0.f0.f0) ((rd_T49 x273000 x5).f0.f0.f1) ((rd_T49 x273000 x5).f0.f0.f2) ((rd_T49 x273000 x5).f0.f1) ((rd_T49 x273000 x5).f0.f2) ((rd_T49 x273000 x5).f1)).bind fun t277 => (if t277 = true then (sizarref35_Check.l0 k x1 (wrap64 (x5 + 1)) x273000) else (some 350))) else (none)) else (none)) else (sizarref35_Check.l0 k x1 (wrap64 (x5 + 1)) x273000)))) else (none)) else (some 0)
def sizarref35_Check.f (k : Nat) (l0_0 : List (S49)) (a1 : Int) : Option (Int) := sizarref35_Check.l0 k a1 0 l0_0
def sizarref35_Check.T4 : Bool × List (List Nat × List Nat) := (true, [([], []), ([0], [0]), ([], []), ([1, 2], [1, 2]), ([3], [3]), ([4], [4]), ([5], [5]), ([6], [6]), ([7], [7]), ([8, 7], [7, 8]), ([7], [7]), ([9, 10, 7], [7, 9, 10]), ([11, 7], [7, 11]), ([12, 7], [7, 12]), ([7], [7]), ([13, 14, 7], [7, 13, 14]), ([7, 15], [7, 15]), ([16, 7], [16]), ([17], [17]), ([18, 17], [17, 18]), ([19, 17, 17], [17, 19]), ([20], [20]), ([21, 20], [20, 21]), ([20], [20]), ([23, 20], [20, 23]), ([22, 24, 20], [20, 22, 24]), ([25, 20], [20, 25]), ([20], [20]), ([27, 20], [20, 27]), ([20], [20]), ([28, 29, 20], [20, 28, 29]), ([30, 20], [20, 30]), ([26, 31, 20, 20], [20, 26, 31]), ([32, 20], [20, 32]), ([20, 33, 17], [17, 20, 33]), ([17, 34], [17, 34])])
def sizarref35_Check.B4 : List Nat := [0, 1, 0, 7, 15, 31, 63, 127, 255, 511, 255, 2047, 4095, 8191, 255, 32767, 65535, 131071, 262143, 524287, 1048575, 2097151, 4194303, 2097151, 10485759, 33554431, 67108863, 2097151, 136314879, 2097151, 941621247, 2015363071, 4294967295, 8589934591, 17179869183, 34359738367]
theorem sizarref35_Check.tab4 : rtab .any (opsOf Try.f17 4) = sizarref35_Check.T4 := by kernel_rfl
theorem sizarref35_Check.bits4 : waitsOk sizarref35_Check.T4.2 sizarref35_Check.B4 = true := by kernel_rfl
set_option maxHeartbeats 8000000 in
set_option maxRecDepth 100000 in
theorem sizarref35_Check.calls (k : Nat) (A0_0 : Option Addr) (c0_0 : Nat) (l0_0 : List (S49)) (a1 : Int) (r : Int) (w : World) (hr0_0 : Kd.C k49 w A0_0 l0_0.length l0_0) (hc0_0 : l0_0.length ≤ c0_0) (h : sizarref35_Check.f k l0_0 a1 = some r) :
  Calls Try.prog 17 #[.agg #[.slice A0_0 l0_0.length c0_0], .int .i64 a1] w fun e w' => e = .returned (.int .i64 r) ∧ Below w.heap.size w w' := by
 have hu28 := Try.underlying28
 have hu49 := Try.underlying49
 have HR0_0 := Aside0.mk hr0_0
 have HC0_0 := Aside0.mk hc0_0
 clear hr0_0 hc0_0
 have HB := Aside0.mk (Below.refl w.heap.size w)
 have H : (sizarref35_Check.l0 k a1 0 l0_0) = some r := h
 clear h
 have H' := Aside0.mk H
 clear H
 go_enter Try.func17, Try.ntmps17
 go_wp2_with (first | ((with_reducible refine gate_dst (N := 2) rfl ?_); refine box_event ?hg (N := 2) ?hd (cs := #[.slice A0_0 l0_0.length c0_0]) (t := 28) ?hr ?_; (case hd => rfl); (case hg => rfl); (case hr => first | (go_simp; done) | (go_simp; rfl)); intro gb272 hg w3 hbox hb; have n0_ := Aside0.mk (below_step (by repeat (first | (with_reducible first | exact HB.out | apply below_alloc | apply pw_below_drewN | apply below_drew1) | exact HB.out)) hb); have n1_ := Aside0.mk (hbox); have n2_ := Aside0.mk ((by rw [hg]; exact (below_size (by repeat (first | (with_reducible first | exact HB.out | apply below_alloc | apply pw_below_drewN | apply below_drew1) | exact HB.out))) : w.heap.size ≤ gb272)); have n3_ := Aside0.mk ((by rw [hg]; exact (below_size (by repeat (first | (with_reducible first | exact HB.out | apply below_alloc | apply pw_below_drewN | apply below_drew1) | exact HB.out))) : w.heap.size ≤ gb272)); clear HB; have HB := n0_; have BK272 := n1_; have GW272 := n2_; have GE272 := n3_; clear n0_ n1_ n2_ n3_; clear hb hbox hg))
 go_loopg [5] k (fun kq v5 w' => ∃ (x5_1 : Int), v5 = .int .i64 x5_1 ∧ Aside0 (sizarref35_Check.l0 kq a1 x5_1 l0_0 = some r) ∧ Aside0 (kq ≤ k) ∧ Aside0 (w'.heap[gb272]? = some (.cells #[(.slice A0_0 l0_0.length c0_0)] 28 (0, 0))) ∧ Aside0 (Below w.heap.size w w'))
 case atStart => exact ⟨(0), (by first | rfl | (simp; done) | (simp [*]; done)), H', ⟨Nat.le_refl _⟩, ⟨by (with_reducible repeat (first | refine blk_drewN ?_ _ | refine blk_drew ?_ | refine blk_alloc ?_ _)); exact BK272.out⟩, ⟨by repeat (first | (with_reducible first | exact HB.out | apply below_alloc | apply pw_below_drewN | apply below_drew1 | refine below_set ?_ GE272.out) | exact HB.out)⟩⟩
 case round =>
  clear H'
  try clear c1
  try clear p2
  obtain ⟨x5_1, rfl, HA, HK1, BK272, HB⟩ := hrel
  cases gk with
  | zero => exact absurd HA.out (by simp [sizarref35_Check.l0])
  | succ k1 =>
   have H := HA.out
   clear HA
   simp only [sizarref35_Check.l0] at H
   by_cases c4 : x5_1 < (l0_0.length : Int)
   ·rw [if_pos c4] at H
    have c4b0 : decide (x5_1 < (l0_0.length : Int)) = true := decide_eq_true c4
    clear c4
    by_cases c5 : 0 ≤ x5_1
    ·rw [if_pos c5] at H
     have c5b0 : decide (0 ≤ x5_1) = true := decide_eq_true c5
     clear c5
     by_cases c6 : ((rd_T49 l0_0 x5_1).f1) < 0
     ·rw [if_pos c6] at H
      have c6b0 : decide (((rd_T49 l0_0 x5_1).f1) < 0) = true := decide_eq_true c6
      clear c6
      obtain rfl := Option.some.inj H
      have hcz7_0 : wr.cell? ⟨gb272, 0, none⟩ = some (.slice A0_0 l0_0.length c0_0) := (blk_cell BK272.out 0).trans rfl
      have hfz7_0 := blk_frozen BK272.out 0
      try go_wp2
      have n0_ := Aside0.mk (blk_drew BK272.out)
      have n1_ := Aside0.mk (below_drew1 HB.out)
      clear BK272
      clear HB
      have BK272 := n0_
      have HB := n1_
      clear n0_ n1_
      have p273 : 0 ≤ (x5_1 : Int) := of_decide_eq_true (by first | (with_reducible assumption) | assumption)
      have q273 : x5_1 < (l0_0.length : Int) := of_decide_eq_true (by first | (with_reducible assumption) | assumption)
      obtain ⟨ad273, e273, hx273_0, hx273_1, hx273_2, hx273_3, hx273_4, hx273_5⟩ := at_T49 HR0_0.out x5_1 p273 q273
      have hw273_5 := hx273_5
      have hw273_4 := hx273_4
      have hw273_3 := hx273_3
      have hw273_2 := hx273_2
      have hw273_1 := hx273_1
      have hw273_0 := hx273_0
      cases e273
      replace hx273_0 := (HB.out.cell (World.block_lt_of_cell? w _ hx273_0)).trans hx273_0
      replace hx273_1 := (HB.out.cell (World.block_lt_of_cell? w _ hx273_1)).trans hx273_1
      replace hx273_2 := (HB.out.cell (World.block_lt_of_cell? w _ hx273_2)).trans hx273_2
      replace hx273_3 := (HB.out.cell (World.block_lt_of_cell? w _ hx273_3)).trans hx273_3
      replace hx273_4 := (HB.out.cell (World.block_lt_of_cell? w _ hx273_4)).trans hx273_4
      replace hx273_5 := (HB.out.cell (World.block_lt_of_cell? w _ hx273_5)).trans hx273_5
      replace p273 := eq_true p273
      replace q273 := eq_true q273
      refine start_ (n := 36) (S := fun w' => w'.cell? ⟨gb272, 0, none⟩ = some (.slice (some ad273) l0_0.length c0_0) ∧ w'.cell? (ad273.add ((x5_1).toNat * 6)) = some (.int .i64 ((rd_T49 l0_0 x5_1).f0.f0.f0)) ∧ w'.cell? ⟨(ad273.add ((x5_1).toNat * 6)).block, (ad273.add ((x5_1).toNat * 6)).off + 1, none⟩ = some (.int .i64 ((rd_T49 l0_0 x5_1).f0.f0.f1)) ∧ w'.cell? ⟨(ad273.add ((x5_1).toNat * 6)).block, (ad273.add ((x5_1).toNat * 6)).off + 2, none⟩ = some (.int .i64 ((rd_T49 l0_0 x5_1).f0.f0.f2)) ∧ w'.cell? ⟨(ad273.add ((x5_1).toNat * 6)).block, (ad273.add ((x5_1).toNat * 6)).off + 3, none⟩ = some (.int .i64 ((rd_T49 l0_0 x5_1).f0.f1)) ∧ w'.cell? ⟨(ad273.add ((x5_1).toNat * 6)).block, (ad273.add ((x5_1).toNat * 6)).off + 4, none⟩ = some (.int .i64 ((rd_T49 l0_0 x5_1).f0.f2)) ∧ w'.cell? ⟨(ad273.add ((x5_1).toNat * 6)).block, (ad273.add ((x5_1).toNat * 6)).off + 5, none⟩ = some (.int .i64 ((rd_T49 l0_0 x5_1).f1))) (ds := []) #[false, false, false, false, false, false, false, false, false, false, false, false, false, false, false, false, false, false, false, false, false, false, false, false, false, false, false, false, false, false, false, false, false, false, false, false] (by kernel_rfl) rfl rfl ⟨(blk_cell BK272.out 0).trans rfl, ((HB.out.cell (World.block_lt_of_cell? w _ hw273_0)).trans hw273_0), ((HB.out.cell (World.block_lt_of_cell? w _ hw273_1)).trans hw273_1), ((HB.out.cell (World.block_lt_of_cell? w _ hw273_2)).trans hw273_2), ((HB.out.cell (World.block_lt_of_cell? w _ hw273_3)).trans hw273_3), ((HB.out.cell (World.block_lt_of_cell? w _ hw273_4)).trans hw273_4), ((HB.out.cell (World.block_lt_of_cell? w _ hw273_5)).trans hw273_5)⟩ (fun hHeld => ?_); refine with_tabW sizarref35_Check.tab4 sizarref35_Check.bits4 (fun HT_ HW_ => ?_)
      generalize wr.drew = w8 at BK272 HB hx273_0 hx273_1 hx273_2 hx273_3 hx273_4 hx273_5 hHeld ⊢
      refine pure_ (i := 0) (N := some 13) (v := ?_) (a' := ?_) #[true, false, false, false, false, false, false, false, false, false, false, false, false, false, false, false, false, false, false, false, false, false, false, false, false, false, false, false, false, false, false, false, false, false, false, false] rfl rfl (any_of HT_.out (by kernel_rfl)) (fun _ _ _ h => h) (Or.inl ⟨by rfl, ?_⟩) ?_ ?_
      rotate_left
      ·intro w'
       go_simp
       with_reducible rfl
      rotate_left
      ·simp only [Act.put, List.setIfInBounds_toArray, List.set_cons_zero, List.set_cons_succ, i64_w, i32_w]
       rfl
      refine pure_ (i := 2) (N := some 15) (v := ?_) (a' := ?_) #[true, false, true, false, false, false, false, false, false, false, false, false, false, false, false, false, false, false, false, false, false, false, false, false, false, false, false, false, false, false, false, false, false, false, false, false] rfl rfl (any_of HT_.out (by kernel_rfl)) (fun _ _ _ h => h) (Or.inl ⟨by rfl, ?_⟩) ?_ ?_
      rotate_left
      ·intro w'
       go_simp
       with_reducible rfl
      rotate_left
      ·simp only [Act.put, List.setIfInBounds_toArray, List.set_cons_zero, List.set_cons_succ, i64_w, i32_w]
       rfl
      refine take_ (i := 1) (N := some 14) (v := ?_) (a' := ?_) #[true, true, true, false, false, false, false, false, false, false, false, false, false, false, false, false, false, false, false, false, false, false, false, false, false, false, false, false, false, false, false, false, false, false, false, false] rfl rfl (take_ofW HT_.out HW_.out (by kernel_rfl)) (fun _ _ _ h => h) (Or.inl ⟨by rfl, ?_⟩) hHeld ?_ ?_
      rotate_left
      ·rintro w' ⟨s0, s1, s2, s3, s4, s5, s6⟩
       go_simp
       with_reducible rfl
      rotate_left
      ·simp only [Act.put, List.setIfInBounds_toArray, List.set_cons_zero, List.set_cons_succ, i64_w, i32_w]
       rfl
      refine pure_ (i := 3) (N := some 16) (v := ?_) (a' := ?_) #[true, true, true, true, false, false, false, false, false, false, false, false, false, false, false, false, false, false, false, false, false, false, false, false, false, false, false, false, false, false, false, false, false, false, false, false] rfl rfl (any_of HT_.out (by kernel_rfl)) (fun _ _ _ h => h) (Or.inl ⟨by rfl, ?_⟩) ?_ ?_
      rotate_left
      ·intro w'
       go_simp
       with_reducible rfl
      rotate_left
      ·simp only [Act.put, List.setIfInBounds_toArray, List.set_cons_zero, List.set_cons_succ, i64_w, i32_w]
       rfl
      refine pure_ (i := 4) (N := some 17) (v := ?_) (a' := ?_) #[true, true, true, true, true, false, false, false, false, false, false, false, false, false, false, false, false, false, false, false, false, false, false, false, false, false, false, false, false, false, false, false, false, false, false, false] rfl rfl (any_of HT_.out (by kernel_rfl)) (fun _ _ _ h => h) (Or.inl ⟨by rfl, ?_⟩) ?_ ?_
      rotate_left
      ·intro w'
       go_simp
       with_reducible rfl
      rotate_left
      ·simp only [Act.put, List.setIfInBounds_toArray, List.set_cons_zero, List.set_cons_succ, i64_w, i32_w]
       rfl
      refine take_ (i := 5) (N := some 18) (v := ?_) (a' := ?_) #[true, true, true, true, true, true, false, false, false, false, false, false, false, false, false, false, false, false, false, false, false, false, false, false, false, false, false, false, false, false, false, false, false, false, false, false] rfl rfl (take_ofW HT_.out HW_.out (by kernel_rfl)) (fun _ _ _ h => h) (Or.inl ⟨by rfl, ?_⟩) hHeld ?_ ?_
      rotate_left
      ·rintro w' ⟨s0, s1, s2, s3, s4, s5, s6⟩
       go_simp
       with_reducible rfl
      rotate_left
      ·simp only [Act.put, List.setIfInBounds_toArray, List.set_cons_zero, List.set_cons_succ, i64_w, i32_w]
       rfl
      refine pure_ (i := 6) (N := some 19) (v := ?_) (a' := ?_) #[true, true, true, true, true, true, true, false, false, false, false, false, false, false, false, false, false, false, false, false, false, false, false, false, false, false, false, false, false, false, false, false, false, false, false, false] rfl rfl (any_of HT_.out (by kernel_rfl)) (fun _ _ _ h => h) (Or.inl ⟨by rfl, ?_⟩) ?_ ?_
      rotate_left
      ·intro w'
       go_simp
       with_reducible rfl
      rotate_left
      ·simp only [Act.put, List.setIfInBounds_toArray, List.set_cons_zero, List.set_cons_succ, i64_w, i32_w]
       rfl
      refine pure_ (i := 7) (N := some 20) (v := ?_) (a' := ?_) #[true, true, true, true, true, true, true, true, false, false, false, false, false, false, false, false, false, false, false, false, false, false, false, false, false, false, false, false, false, false, false, false, false, false, false, false] rfl rfl (any_of HT_.out (by kernel_rfl)) (fun _ _ _ h => h) (Or.inl ⟨by rfl, ?_⟩) ?_ ?_
      rotate_left
      ·intro w'
       go_simp
       with_reducible rfl
      rotate_left
      ·simp only [Act.put, List.setIfInBounds_toArray, List.set_cons_zero, List.set_cons_succ, i64_w, i32_w]
       rfl
      refine pure_ (i := 8) (N := some 21) (v := undef) (a' := ?_) #[true, true, true, true, true, true, true, true, true, false, false, false, false, false, false, false, false, false, false, false, false, false, false, false, false, false, false, false, false, false, false, false, false, false, false, false] rfl rfl (any_of HT_.out (by kernel_rfl)) (fun _ _ _ h => h) (Or.inr ⟨by rfl, rfl⟩) ?_ ?_
      rotate_left
      ·simp only [Act.put, List.setIfInBounds_toArray, List.set_cons_zero, List.set_cons_succ, i64_w, i32_w]
       rfl
      refine pure_ (i := 9) (N := some 22) (v := undef) (a' := ?_) #[true, true, true, true, true, true, true, true, true, true, false, false, false, false, false, false, false, false, false, false, false, false, false, false, false, false, false, false, false, false, false, false, false, false, false, false] rfl rfl (any_of HT_.out (by kernel_rfl)) (fun _ _ _ h => h) (Or.inr ⟨by rfl, rfl⟩) ?_ ?_
      rotate_left
      ·simp only [Act.put, List.setIfInBounds_toArray, List.set_cons_zero, List.set_cons_succ, i64_w, i32_w]
       rfl
      refine pure_ (i := 10) (N := some 23) (v := undef) (a' := ?_) #[true, true, true, true, true, true, true, true, true, true, true, false, false, false, false, false, false, false, false, false, false, false, false, false, false, false, false, false, false, false, false, false, false, false, false, false] rfl rfl (any_of HT_.out (by kernel_rfl)) (fun _ _ _ h => h) (Or.inr ⟨by rfl, rfl⟩) ?_ ?_
      rotate_left
      ·simp only [Act.put, List.setIfInBounds_toArray, List.set_cons_zero, List.set_cons_succ, i64_w, i32_w]
       rfl
      refine pure_ (i := 11) (N := some 24) (v := undef) (a' := ?_) #[true, true, true, true, true, true, true, true, true, true, true, true, false, false, false, false, false, false, false, false, false, false, false, false, false, false, false, false, false, false, false, false, false, false, false, false] rfl rfl (any_of HT_.out (by kernel_rfl)) (fun _ _ _ h => h) (Or.inr ⟨by rfl, rfl⟩) ?_ ?_
      rotate_left
      ·simp only [Act.put, List.setIfInBounds_toArray, List.set_cons_zero, List.set_cons_succ, i64_w, i32_w]
       rfl
      refine pure_ (i := 12) (N := some 25) (v := undef) (a' := ?_) #[true, true, true, true, true, true, true, true, true, true, true, true, true, false, false, false, false, false, false, false, false, false, false, false, false, false, false, false, false, false, false, false, false, false, false, false] rfl rfl (any_of HT_.out (by kernel_rfl)) (fun _ _ _ h => h) (Or.inr ⟨by rfl, rfl⟩) ?_ ?_
      rotate_left
      ·simp only [Act.put, List.setIfInBounds_toArray, List.set_cons_zero, List.set_cons_succ, i64_w, i32_w]
       rfl
      refine pure_ (i := 13) (N := some 26) (v := undef) (a' := ?_) #[true, true, true, true, true, true, true, true, true, true, true, true, true, true, false, false, false, false, false, false, false, false, false, false, false, false, false, false, false, false, false, false, false, false, false, false] rfl rfl (any_of HT_.out (by kernel_rfl)) (fun _ _ _ h => h) (Or.inr ⟨by rfl, rfl⟩) ?_ ?_
      rotate_left
      ·simp only [Act.put, List.setIfInBounds_toArray, List.set_cons_zero, List.set_cons_succ, i64_w, i32_w]
       rfl
      refine pure_ (i := 14) (N := some 27) (v := undef) (a' := ?_) #[true, true, true, true, true, true, true, true, true, true, true, true, true, true, true, false, false, false, false, false, false, false, false, false, false, false, false, false, false, false, false, false, false, false, false, false] rfl rfl (any_of HT_.out (by kernel_rfl)) (fun _ _ _ h => h) (Or.inr ⟨by rfl, rfl⟩) ?_ ?_
      rotate_left
      ·simp only [Act.put, List.setIfInBounds_toArray, List.set_cons_zero, List.set_cons_succ, i64_w, i32_w]
       rfl
      refine pure_ (i := 15) (N := some 28) (v := undef) (a' := ?_) #[true, true, true, true, true, true, true, true, true, true, true, true, true, true, true, true, false, false, false, false, false, false, false, false, false, false, false, false, false, false, false, false, false, false, false, false] rfl rfl (any_of HT_.out (by kernel_rfl)) (fun _ _ _ h => h) (Or.inr ⟨by rfl, rfl⟩) ?_ ?_
      rotate_left
      ·simp only [Act.put, List.setIfInBounds_toArray, List.set_cons_zero, List.set_cons_succ, i64_w, i32_w]
       rfl
      refine pure_ (i := 16) (N := some 29) (v := ?_) (a' := ?_) #[true, true, true, true, true, true, true, true, true, true, true, true, true, true, true, true, true, false, false, false, false, false, false, false, false, false, false, false, false, false, false, false, false, false, false, false] rfl rfl (any_of HT_.out (by kernel_rfl)) (fun _ _ _ h => h) (Or.inl ⟨by rfl, ?_⟩) ?_ ?_
      rotate_left
      ·intro w'
       go_simp
       with_reducible rfl
      rotate_left
      ·simp only [Act.put, List.setIfInBounds_toArray, List.set_cons_zero, List.set_cons_succ, i64_w, i32_w]
       rfl
      refine pure_ (i := 17) (N := some 30) (v := ?_) (a' := ?_) #[true, true, true, true, true, true, true, true, true, true, true, true, true, true, true, true, true, true, false, false, false, false, false, false, false, false, false, false, false, false, false, false, false, false, false, false] rfl rfl (any_of HT_.out (by kernel_rfl)) (fun _ _ _ h => h) (Or.inl ⟨by rfl, ?_⟩) ?_ ?_
      rotate_left
      ·intro w'
       go_simp
       with_reducible rfl
      rotate_left
      ·simp only [Act.put, List.setIfInBounds_toArray, List.set_cons_zero, List.set_cons_succ, i64_w, i32_w]
       rfl
      refine pure_ (i := 18) (N := some 31) (v := undef) (a' := ?_) #[true, true, true, true, true, true, true, true, true, true, true, true, true, true, true, true, true, true, true, false, false, false, false, false, false, false, false, false, false, false, false, false, false, false, false, false] rfl rfl (any_of HT_.out (by kernel_rfl)) (fun _ _ _ h => h) (Or.inr ⟨by rfl, rfl⟩) ?_ ?_
      rotate_left
      ·simp only [Act.put, List.setIfInBounds_toArray, List.set_cons_zero, List.set_cons_succ, i64_w, i32_w]
       rfl
      refine pure_ (i := 19) (N := some 32) (v := undef) (a' := ?_) #[true, true, true, true, true, true, true, true, true, true, true, true, true, true, true, true, true, true, true, true, false, false, false, false, false, false, false, false, false, false, false, false, false, false, false, false] rfl rfl (any_of HT_.out (by kernel_rfl)) (fun _ _ _ h => h) (Or.inr ⟨by rfl, rfl⟩) ?_ ?_
      rotate_left
      ·simp only [Act.put, List.setIfInBounds_toArray, List.set_cons_zero, List.set_cons_succ, i64_w, i32_w]
       rfl
      refine pure_ (i := 20) (N := some 33) (v := undef) (a' := ?_) #[true, true, true, true, true, true, true, true, true, true, true, true, true, true, true, true, true, true, true, true, true, false, false, false, false, false, false, false, false, false, false, false, false, false, false, false] rfl rfl (any_of HT_.out (by kernel_rfl)) (fun _ _ _ h => h) (Or.inr ⟨by rfl, rfl⟩) ?_ ?_
      rotate_left
      ·simp only [Act.put, List.setIfInBounds_toArray, List.set_cons_zero, List.set_cons_succ, i64_w, i32_w]
       rfl
      refine pure_ (i := 21) (N := some 34) (v := undef) (a' := ?_) #[true, true, true, true, true, true, true, true, true, true, true, true, true, true, true, true, true, true, true, true, true, true, false, false, false, false, false, false, false, false, false, false, false, false, false, false] rfl rfl (any_of HT_.out (by kernel_rfl)) (fun _ _ _ h => h) (Or.inr ⟨by rfl, rfl⟩) ?_ ?_
      rotate_left
      ·simp only [Act.put, List.setIfInBounds_toArray, List.set_cons_zero, List.set_cons_succ, i64_w, i32_w]
       rfl
      refine pure_ (i := 22) (N := some 35) (v := undef) (a' := ?_) #[true, true, true, true, true, true, true, true, true, true, true, true, true, true, true, true, true, true, true, true, true, true, true, false, false, false, false, false, false, false, false, false, false, false, false, false] rfl rfl (any_of HT_.out (by kernel_rfl)) (fun _ _ _ h => h) (Or.inr ⟨by rfl, rfl⟩) ?_ ?_
      rotate_left
      ·simp only [Act.put, List.setIfInBounds_toArray, List.set_cons_zero, List.set_cons_succ, i64_w, i32_w]
       rfl
      refine pure_ (i := 23) (N := some 36) (v := undef) (a' := ?_) #[true, true, true, true, true, true, true, true, true, true, true, true, true, true, true, true, true, true, true, true, true, true, true, true, false, false, false, false, false, false, false, false, false, false, false, false] rfl rfl (any_of HT_.out (by kernel_rfl)) (fun _ _ _ h => h) (Or.inr ⟨by rfl, rfl⟩) ?_ ?_
      rotate_left
      ·simp only [Act.put, List.setIfInBounds_toArray, List.set_cons_zero, List.set_cons_succ, i64_w, i32_w]
       rfl
      refine pure_ (i := 24) (N := some 37) (v := undef) (a' := ?_) #[true, true, true, true, true, true, true, true, true, true, true, true, true, true, true, true, true, true, true, true, true, true, true, true, true, false, false, false, false, false, false, false, false, false, false, false] rfl rfl (any_of HT_.out (by kernel_rfl)) (fun _ _ _ h => h) (Or.inr ⟨by rfl, rfl⟩) ?_ ?_
      rotate_left
      ·simp only [Act.put, List.setIfInBounds_toArray, List.set_cons_zero, List.set_cons_succ, i64_w, i32_w]
       rfl
      refine pure_ (i := 25) (N := some 38) (v := undef) (a' := ?_) #[true, true, true, true, true, true, true, true, true, true, true, true, true, true, true, true, true, true, true, true, true, true, true, true, true, true, false, false, false, false, false, false, false, false, false, false] rfl rfl (any_of HT_.out (by kernel_rfl)) (fun _ _ _ h => h) (Or.inr ⟨by rfl, rfl⟩) ?_ ?_
      rotate_left
      ·simp only [Act.put, List.setIfInBounds_toArray, List.set_cons_zero, List.set_cons_succ, i64_w, i32_w]
       rfl
      refine pure_ (i := 26) (N := some 39) (v := undef) (a' := ?_) #[true, true, true, true, true, true, true, true, true, true, true, true, true, true, true, true, true, true, true, true, true, true, true, true, true, true, true, false, false, false, false, false, false, false, false, false] rfl rfl (any_of HT_.out (by kernel_rfl)) (fun _ _ _ h => h) (Or.inr ⟨by rfl, rfl⟩) ?_ ?_
      rotate_left
      ·simp only [Act.put, List.setIfInBounds_toArray, List.set_cons_zero, List.set_cons_succ, i64_w, i32_w]
       rfl
      refine pure_ (i := 27) (N := some 40) (v := undef) (a' := ?_) #[true, true, true, true, true, true, true, true, true, true, true, true, true, true, true, true, true, true, true, true, true, true, true, true, true, true, true, true, false, false, false, false, false, false, false, false] rfl rfl (any_of HT_.out (by kernel_rfl)) (fun _ _ _ h => h) (Or.inr ⟨by rfl, rfl⟩) ?_ ?_
      rotate_left
      ·simp only [Act.put, List.setIfInBounds_toArray, List.set_cons_zero, List.set_cons_succ, i64_w, i32_w]
       rfl
      refine pure_ (i := 28) (N := some 41) (v := undef) (a' := ?_) #[true, true, true, true, true, true, true, true, true, true, true, true, true, true, true, true, true, true, true, true, true, true, true, true, true, true, true, true, true, false, false, false, false, false, false, false] rfl rfl (any_of HT_.out (by kernel_rfl)) (fun _ _ _ h => h) (Or.inr ⟨by rfl, rfl⟩) ?_ ?_
      rotate_left
      ·simp only [Act.put, List.setIfInBounds_toArray, List.set_cons_zero, List.set_cons_succ, i64_w, i32_w]
       rfl
      refine pure_ (i := 29) (N := some 42) (v := undef) (a' := ?_) #[true, true, true, true, true, true, true, true, true, true, true, true, true, true, true, true, true, true, true, true, true, true, true, true, true, true, true, true, true, true, false, false, false, false, false, false] rfl rfl (any_of HT_.out (by kernel_rfl)) (fun _ _ _ h => h) (Or.inr ⟨by rfl, rfl⟩) ?_ ?_
      rotate_left
      ·simp only [Act.put, List.setIfInBounds_toArray, List.set_cons_zero, List.set_cons_succ, i64_w, i32_w]
       rfl
      refine pure_ (i := 30) (N := some 43) (v := undef) (a' := ?_) #[true, true, true, true, true, true, true, true, true, true, true, true, true, true, true, true, true, true, true, true, true, true, true, true, true, true, true, true, true, true, true, false, false, false, false, false] rfl rfl (any_of HT_.out (by kernel_rfl)) (fun _ _ _ h => h) (Or.inr ⟨by rfl, rfl⟩) ?_ ?_
      rotate_left
      ·simp only [Act.put, List.setIfInBounds_toArray, List.set_cons_zero, List.set_cons_succ, i64_w, i32_w]
       rfl
      refine pure_ (i := 31) (N := some 44) (v := undef) (a' := ?_) #[true, true, true, true, true, true, true, true, true, true, true, true, true, true, true, true, true, true, true, true, true, true, true, true, true, true, true, true, true, true, true, true, false, false, false, false] rfl rfl (any_of HT_.out (by kernel_rfl)) (fun _ _ _ h => h) (Or.inr ⟨by rfl, rfl⟩) ?_ ?_
      rotate_left
      ·simp only [Act.put, List.setIfInBounds_toArray, List.set_cons_zero, List.set_cons_succ, i64_w, i32_w]
       rfl
      refine pure_ (i := 32) (N := some 45) (v := undef) (a' := ?_) #[true, true, true, true, true, true, true, true, true, true, true, true, true, true, true, true, true, true, true, true, true, true, true, true, true, true, true, true, true, true, true, true, true, false, false, false] rfl rfl (any_of HT_.out (by kernel_rfl)) (fun _ _ _ h => h) (Or.inr ⟨by rfl, rfl⟩) ?_ ?_
      rotate_left
      ·simp only [Act.put, List.setIfInBounds_toArray, List.set_cons_zero, List.set_cons_succ, i64_w, i32_w]
       rfl
      refine pure_ (i := 33) (N := some 46) (v := undef) (a' := ?_) #[true, true, true, true, true, true, true, true, true, true, true, true, true, true, true, true, true, true, true, true, true, true, true, true, true, true, true, true, true, true, true, true, true, true, false, false] rfl rfl (any_of HT_.out (by kernel_rfl)) (fun _ _ _ h => h) (Or.inr ⟨by rfl, rfl⟩) ?_ ?_
      rotate_left
      ·simp only [Act.put, List.setIfInBounds_toArray, List.set_cons_zero, List.set_cons_succ, i64_w, i32_w]
       rfl
      refine pure_ (i := 34) (N := some 47) (v := undef) (a' := ?_) #[true, true, true, true, true, true, true, true, true, true, true, true, true, true, true, true, true, true, true, true, true, true, true, true, true, true, true, true, true, true, true, true, true, true, true, false] rfl rfl (any_of HT_.out (by kernel_rfl)) (fun _ _ _ h => h) (Or.inr ⟨by rfl, rfl⟩) ?_ ?_
      rotate_left
      ·simp only [Act.put, List.setIfInBounds_toArray, List.set_cons_zero, List.set_cons_succ, i64_w, i32_w]
       rfl
      refine pure_ (i := 35) (N := some 48) (v := ?_) (a' := ?_) #[true, true, true, true, true, true, true, true, true, true, true, true, true, true, true, true, true, true, true, true, true, true, true, true, true, true, true, true, true, true, true, true, true, true, true, true] rfl rfl (any_of HT_.out (by kernel_rfl)) (fun _ _ _ h => h) (Or.inl ⟨by rfl, ?_⟩) ?_ ?_
      rotate_left
      ·intro w'
       go_simp
       with_reducible rfl
      rotate_left
      ·simp only [Act.put, List.setIfInBounds_toArray, List.set_cons_zero, List.set_cons_succ, i64_w, i32_w]
       rfl
      refine done_ (done_of HT_.out (by kernel_rfl)) ?_
      try go_wp2
      go_ret
      exact ⟨by first | rfl | (simp [errW_none, errW_some] <;> rfl) | (simp [*, errW_none, errW_some] <;> rfl), by repeat (first | (with_reducible first | exact HB.out | apply below_alloc | apply pw_below_drewN | apply below_drew1 | refine below_set ?_ GE272.out) | exact HB.out)⟩
     ·rw [if_neg c6] at H
      have c6b0 : decide (((rd_T49 l0_0 x5_1).f1) < 0) = false := decide_eq_false c6
      clear c6
      by_cases c9 : ((rd_T49 l0_0 x5_1).f1) ≥ a1
      ·rw [if_pos c9] at H
       have c9b0 : decide (a1 ≤ ((rd_T49 l0_0 x5_1).f1)) = true := decide_eq_true c9
       clear c9
       obtain rfl := Option.some.inj H
       have hcz10_0 : wr.cell? ⟨gb272, 0, none⟩ = some (.slice A0_0 l0_0.length c0_0) := (blk_cell BK272.out 0).trans rfl
       have hfz10_0 := blk_frozen BK272.out 0
       try go_wp2
       have n0_ := Aside0.mk (blk_drew BK272.out)
       have n1_ := Aside0.mk (below_drew1 HB.out)
       clear BK272
       clear HB
       have BK272 := n0_
       have HB := n1_
       clear n0_ n1_
       have p273 : 0 ≤ (x5_1 : Int) := of_decide_eq_true (by first | (with_reducible assumption) | assumption)
       have q273 : x5_1 < (l0_0.length : Int) := of_decide_eq_true (by first | (with_reducible assumption) | assumption)
       obtain ⟨ad273, e273, hx273_0, hx273_1, hx273_2, hx273_3, hx273_4, hx273_5⟩ := at_T49 HR0_0.out x5_1 p273 q273
       have hw273_5 := hx273_5
       have hw273_4 := hx273_4
       have hw273_3 := hx273_3
       have hw273_2 := hx273_2
       have hw273_1 := hx273_1
       have hw273_0 := hx273_0
       cases e273
       replace hx273_0 := (HB.out.cell (World.block_lt_of_cell? w _ hx273_0)).trans hx273_0
       replace hx273_1 := (HB.out.cell (World.block_lt_of_cell? w _ hx273_1)).trans hx273_1
       replace hx273_2 := (HB.out.cell (World.block_lt_of_cell? w _ hx273_2)).trans hx273_2
       replace hx273_3 := (HB.out.cell (World.block_lt_of_cell? w _ hx273_3)).trans hx273_3
       replace hx273_4 := (HB.out.cell (World.block_lt_of_cell? w _ hx273_4)).trans hx273_4
       replace hx273_5 := (HB.out.cell (World.block_lt_of_cell? w _ hx273_5)).trans hx273_5
       replace p273 := eq_true p273
       replace q273 := eq_true q273
       have p274 : 0 ≤ (x5_1 : Int) := of_decide_eq_true (by first | (with_reducible assumption) | assumption)
       have q274 : x5_1 < (l0_0.length : Int) := of_decide_eq_true (by first | (with_reducible assumption) | assumption)
       obtain ⟨ad274, e274, hx274_0, hx274_1, hx274_2, hx274_3, hx274_4, hx274_5⟩ := at_T49 HR0_0.out x5_1 p274 q274
       have hw274_5 := hx274_5
       have hw274_4 := hx274_4
       have hw274_3 := hx274_3
       have hw274_2 := hx274_2
       have hw274_1 := hx274_1
       have hw274_0 := hx274_0
       obtain rfl : ad273 = ad274 := (by injection e274)
       replace hx274_0 := (HB.out.cell (World.block_lt_of_cell? w _ hx274_0)).trans hx274_0
       replace hx274_1 := (HB.out.cell (World.block_lt_of_cell? w _ hx274_1)).trans hx274_1
       replace hx274_2 := (HB.out.cell (World.block_lt_of_cell? w _ hx274_2)).trans hx274_2
       replace hx274_3 := (HB.out.cell (World.block_lt_of_cell? w _ hx274_3)).trans hx274_3
       replace hx274_4 := (HB.out.cell (World.block_lt_of_cell? w _ hx274_4)).trans hx274_4
       replace hx274_5 := (HB.out.cell (World.block_lt_of_cell? w _ hx274_5)).trans hx274_5
       replace p274 := eq_true p274
       replace q274 := eq_true q274
       refine start_ (n := 36) (S := fun w' => w'.cell? ⟨gb272, 0, none⟩ = some (.slice (some ad273) l0_0.length c0_0) ∧ w'.cell? (ad273.add ((x5_1).toNat * 6)) = some (.int .i64 ((rd_T49 l0_0 x5_1).f0.f0.f0)) ∧ w'.cell? ⟨(ad273.add ((x5_1).toNat * 6)).block, (ad273.add ((x5_1).toNat * 6)).off + 1, none⟩ = some (.int .i64 ((rd_T49 l0_0 x5_1).f0.f0.f1)) ∧ w'.cell? ⟨(ad273.add ((x5_1).toNat * 6)).block, (ad273.add ((x5_1).toNat * 6)).off + 2, none⟩ = some (.int .i64 ((rd_T49 l0_0 x5_1).f0.f0.f2)) ∧ w'.cell? ⟨(ad273.add ((x5_1).toNat * 6)).block, (ad273.add ((x5_1).toNat * 6)).off + 3, none⟩ = some (.int .i64 ((rd_T49 l0_0 x5_1).f0.f1)) ∧ w'.cell? ⟨(ad273.add ((x5_1).toNat * 6)).block, (ad273.add ((x5_1).toNat * 6)).off + 4, none⟩ = some (.int .i64 ((rd_T49 l0_0 x5_1).f0.f2)) ∧ w'.cell? ⟨(ad273.add ((x5_1).toNat * 6)).block, (ad273.add ((x5_1).toNat * 6)).off + 5, none⟩ = some (.int .i64 ((rd_T49 l0_0 x5_1).f1)) ∧ w'.cell? (ad273.add ((x5_1).toNat * 6)) = some (.int .i64 ((rd_T49 l0_0 x5_1).f0.f0.f0)) ∧ w'.cell? ⟨(ad273.add ((x5_1).toNat * 6)).block, (ad273.add ((x5_1).toNat * 6)).off + 1, none⟩ = some (.int .i64 ((rd_T49 l0_0 x5_1).f0.f0.f1)) ∧ w'.cell? ⟨(ad273.add ((x5_1).toNat * 6)).block, (ad273.add ((x5_1).toNat * 6)).off + 2, none⟩ = some (.int .i64 ((rd_T49 l0_0 x5_1).f0.f0.f2)) ∧ w'.cell? ⟨(ad273.add ((x5_1).toNat * 6)).block, (ad273.add ((x5_1).toNat * 6)).off + 3, none⟩ = some (.int .i64 ((rd_T49 l0_0 x5_1).f0.f1)) ∧ w'.cell? ⟨(ad273.add ((x5_1).toNat * 6)).block, (ad273.add ((x5_1).toNat * 6)).off + 4, none⟩ = some (.int .i64 ((rd_T49 l0_0 x5_1).f0.f2)) ∧ w'.cell? ⟨(ad273.add ((x5_1).toNat * 6)).block, (ad273.add ((x5_1).toNat * 6)).off + 5, none⟩ = some (.int .i64 ((rd_T49 l0_0 x5_1).f1))) (ds := []) #[false, false, false, false, false, false, false, false, false, false, false, false, false, false, false, false, false, false, false, false, false, false, false, false, false, false, false, false, false, false, false, false, false, false, false, false] (by kernel_rfl) rfl rfl ⟨(blk_cell BK272.out 0).trans rfl, ((HB.out.cell (World.block_lt_of_cell? w _ hw273_0)).trans hw273_0), ((HB.out.cell (World.block_lt_of_cell? w _ hw273_1)).trans hw273_1), ((HB.out.cell (World.block_lt_of_cell? w _ hw273_2)).trans hw273_2), ((HB.out.cell (World.block_lt_of_cell? w _ hw273_3)).trans hw273_3), ((HB.out.cell (World.block_lt_of_cell? w _ hw273_4)).trans hw273_4), ((HB.out.cell (World.block_lt_of_cell? w _ hw273_5)).trans hw273_5), ((HB.out.cell (World.block_lt_of_cell? w _ hw274_0)).trans hw274_0), ((HB.out.cell (World.block_lt_of_cell? w _ hw274_1)).trans hw274_1), ((HB.out.cell (World.block_lt_of_cell? w _ hw274_2)).trans hw274_2), ((HB.out.cell (World.block_lt_of_cell? w _ hw274_3)).trans hw274_3), ((HB.out.cell (World.block_lt_of_cell? w _ hw274_4)).trans hw274_4), ((HB.out.cell (World.block_lt_of_cell? w _ hw274_5)).trans hw274_5)⟩ (fun hHeld => ?_); refine with_tabW sizarref35_Check.tab4 sizarref35_Check.bits4 (fun HT_ HW_ => ?_)
       generalize wr.drew = w11 at BK272 HB hx273_0 hx273_1 hx273_2 hx273_3 hx273_4 hx273_5 hx274_0 hx274_1 hx274_2 hx274_3 hx274_4 hx274_5 hHeld ⊢
       refine pure_ (i := 0) (N := some 13) (v := ?_) (a' := ?_) #[true, false, false, false, false, false, false, false, false, false, false, false, false, false, false, false, false, false, false, false, false, false, false, false, false, false, false, false, false, false, false, false, false, false, false, false] rfl rfl (any_of HT_.out (by kernel_rfl)) (fun _ _ _ h => h) (Or.inl ⟨by rfl, ?_⟩) ?_ ?_
       rotate_left
       ·intro w'
        go_simp
        with_reducible rfl
       rotate_left
       ·simp only [Act.put, List.setIfInBounds_toArray, List.set_cons_zero, List.set_cons_succ, i64_w, i32_w]
        rfl
       refine pure_ (i := 2) (N := some 15) (v := ?_) (a' := ?_) #[true, false, true, false, false, false, false, false, false, false, false, false, false, false, false, false, false, false, false, false, false, false, false, false, false, false, false, false, false, false, false, false, false, false, false, false] rfl rfl (any_of HT_.out (by kernel_rfl)) (fun _ _ _ h => h) (Or.inl ⟨by rfl, ?_⟩) ?_ ?_
       rotate_left
       ·intro w'
        go_simp
        with_reducible rfl
       rotate_left
       ·simp only [Act.put, List.setIfInBounds_toArray, List.set_cons_zero, List.set_cons_succ, i64_w, i32_w]
        rfl
       refine take_ (i := 1) (N := some 14) (v := ?_) (a' := ?_) #[true, true, true, false, false, false, false, false, false, false, false, false, false, false, false, false, false, false, false, false, false, false, false, false, false, false, false, false, false, false, false, false, false, false, false, false] rfl rfl (take_ofW HT_.out HW_.out (by kernel_rfl)) (fun _ _ _ h => h) (Or.inl ⟨by rfl, ?_⟩) hHeld ?_ ?_
       rotate_left
       ·rintro w' ⟨s0, s1, s2, s3, s4, s5, s6, s7, s8, s9, s10, s11, s12⟩
        go_simp
        with_reducible rfl
       rotate_left
       ·simp only [Act.put, List.setIfInBounds_toArray, List.set_cons_zero, List.set_cons_succ, i64_w, i32_w]
        rfl
       refine pure_ (i := 3) (N := some 16) (v := ?_) (a' := ?_) #[true, true, true, true, false, false, false, false, false, false, false, false, false, false, false, false, false, false, false, false, false, false, false, false, false, false, false, false, false, false, false, false, false, false, false, false] rfl rfl (any_of HT_.out (by kernel_rfl)) (fun _ _ _ h => h) (Or.inl ⟨by rfl, ?_⟩) ?_ ?_
       rotate_left
       ·intro w'
        go_simp
        with_reducible rfl
       rotate_left
       ·simp only [Act.put, List.setIfInBounds_toArray, List.set_cons_zero, List.set_cons_succ, i64_w, i32_w]
        rfl
       refine pure_ (i := 4) (N := some 17) (v := ?_) (a' := ?_) #[true, true, true, true, true, false, false, false, false, false, false, false, false, false, false, false, false, false, false, false, false, false, false, false, false, false, false, false, false, false, false, false, false, false, false, false] rfl rfl (any_of HT_.out (by kernel_rfl)) (fun _ _ _ h => h) (Or.inl ⟨by rfl, ?_⟩) ?_ ?_
       rotate_left
       ·intro w'
        go_simp
        with_reducible rfl
       rotate_left
       ·simp only [Act.put, List.setIfInBounds_toArray, List.set_cons_zero, List.set_cons_succ, i64_w, i32_w]
        rfl
       refine take_ (i := 5) (N := some 18) (v := ?_) (a' := ?_) #[true, true, true, true, true, true, false, false, false, false, false, false, false, false, false, false, false, false, false, false, false, false, false, false, false, false, false, false, false, false, false, false, false, false, false, false] rfl rfl (take_ofW HT_.out HW_.out (by kernel_rfl)) (fun _ _ _ h => h) (Or.inl ⟨by rfl, ?_⟩) hHeld ?_ ?_
       rotate_left
       ·rintro w' ⟨s0, s1, s2, s3, s4, s5, s6, s7, s8, s9, s10, s11, s12⟩
        go_simp
        with_reducible rfl
       rotate_left
       ·simp only [Act.put, List.setIfInBounds_toArray, List.set_cons_zero, List.set_cons_succ, i64_w, i32_w]
        rfl
       refine pure_ (i := 6) (N := some 19) (v := ?_) (a' := ?_) #[true, true, true, true, true, true, true, false, false, false, false, false, false, false, false, false, false, false, false, false, false, false, false, false, false, false, false, false, false, false, false, false, false, false, false, false] rfl rfl (any_of HT_.out (by kernel_rfl)) (fun _ _ _ h => h) (Or.inl ⟨by rfl, ?_⟩) ?_ ?_
       rotate_left
       ·intro w'
        go_simp
        with_reducible rfl
       rotate_left
       ·simp only [Act.put, List.setIfInBounds_toArray, List.set_cons_zero, List.set_cons_succ, i64_w, i32_w]
        rfl
       refine pure_ (i := 7) (N := some 20) (v := ?_) (a' := ?_) #[true, true, true, true, true, true, true, true, false, false, false, false, false, false, false, false, false, false, false, false, false, false, false, false, false, false, false, false, false, false, false, false, false, false, false, false] rfl rfl (any_of HT_.out (by kernel_rfl)) (fun _ _ _ h => h) (Or.inl ⟨by rfl, ?_⟩) ?_ ?_
       rotate_left
       ·intro w'
        go_simp
        with_reducible rfl
       rotate_left
       ·simp only [Act.put, List.setIfInBounds_toArray, List.set_cons_zero, List.set_cons_succ, i64_w, i32_w]
        rfl
       refine pure_ (i := 8) (N := some 21) (v := ?_) (a' := ?_) #[true, true, true, true, true, true, true, true, true, false, false, false, false, false, false, false, false, false, false, false, false, false, false, false, false, false, false, false, false, false, false, false, false, false, false, false] rfl rfl (any_of HT_.out (by kernel_rfl)) (fun _ _ _ h => h) (Or.inl ⟨by rfl, ?_⟩) ?_ ?_
       rotate_left
       ·intro w'
        go_simp
        with_reducible rfl
       rotate_left
       ·simp only [Act.put, List.setIfInBounds_toArray, List.set_cons_zero, List.set_cons_succ, i64_w, i32_w]
        rfl
       refine pure_ (i := 10) (N := some 23) (v := ?_) (a' := ?_) #[true, true, true, true, true, true, true, true, true, false, true, false, false, false, false, false, false, false, false, false, false, false, false, false, false, false, false, false, false, false, false, false, false, false, false, false] rfl rfl (any_of HT_.out (by kernel_rfl)) (fun _ _ _ h => h) (Or.inl ⟨by rfl, ?_⟩) ?_ ?_
       rotate_left
       ·intro w'
        go_simp
        with_reducible rfl
       rotate_left
       ·simp only [Act.put, List.setIfInBounds_toArray, List.set_cons_zero, List.set_cons_succ, i64_w, i32_w]
        rfl
       refine pure_ (i := 14) (N := some 27) (v := ?_) (a' := ?_) #[true, true, true, true, true, true, true, true, true, false, true, false, false, false, true, false, false, false, false, false, false, false, false, false, false, false, false, false, false, false, false, false, false, false, false, false] rfl rfl (any_of HT_.out (by kernel_rfl)) (fun _ _ _ h => h) (Or.inl ⟨by rfl, ?_⟩) ?_ ?_
       rotate_left
       ·intro w'
        go_simp
        with_reducible rfl
       rotate_left
       ·simp only [Act.put, List.setIfInBounds_toArray, List.set_cons_zero, List.set_cons_succ, i64_w, i32_w]
        rfl
       refine take_ (i := 9) (N := some 22) (v := ?_) (a' := ?_) #[true, true, true, true, true, true, true, true, true, true, true, false, false, false, true, false, false, false, false, false, false, false, false, false, false, false, false, false, false, false, false, false, false, false, false, false] rfl rfl (take_ofW HT_.out HW_.out (by kernel_rfl)) (fun _ _ _ h => h) (Or.inl ⟨by rfl, ?_⟩) hHeld ?_ ?_
       rotate_left
       ·rintro w' ⟨s0, s1, s2, s3, s4, s5, s6, s7, s8, s9, s10, s11, s12⟩
        go_simp
        with_reducible rfl
       rotate_left
       ·simp only [Act.put, List.setIfInBounds_toArray, List.set_cons_zero, List.set_cons_succ, i64_w, i32_w]
        rfl
       refine pure_ (i := 11) (N := some 24) (v := ?_) (a' := ?_) #[true, true, true, true, true, true, true, true, true, true, true, true, false, false, true, false, false, false, false, false, false, false, false, false, false, false, false, false, false, false, false, false, false, false, false, false] rfl rfl (any_of HT_.out (by kernel_rfl)) (fun _ _ _ h => h) (Or.inl ⟨by rfl, ?_⟩) ?_ ?_
       rotate_left
       ·intro w'
        go_simp
        with_reducible rfl
       rotate_left
       ·simp only [Act.put, List.setIfInBounds_toArray, List.set_cons_zero, List.set_cons_succ, i64_w, i32_w]
        rfl
       refine pure_ (i := 12) (N := some 25) (v := ?_) (a' := ?_) #[true, true, true, true, true, true, true, true, true, true, true, true, true, false, true, false, false, false, false, false, false, false, false, false, false, false, false, false, false, false, false, false, false, false, false, false] rfl rfl (any_of HT_.out (by kernel_rfl)) (fun _ _ _ h => h) (Or.inl ⟨by rfl, ?_⟩) ?_ ?_
       rotate_left
       ·intro w'
        go_simp
        with_reducible rfl
       rotate_left
       ·simp only [Act.put, List.setIfInBounds_toArray, List.set_cons_zero, List.set_cons_succ, i64_w, i32_w]
        rfl
       refine take_ (i := 13) (N := some 26) (v := ?_) (a' := ?_) #[true, true, true, true, true, true, true, true, true, true, true, true, true, true, true, false, false, false, false, false, false, false, false, false, false, false, false, false, false, false, false, false, false, false, false, false] rfl rfl (take_ofW HT_.out HW_.out (by kernel_rfl)) (fun _ _ _ h => h) (Or.inl ⟨by rfl, ?_⟩) hHeld ?_ ?_
       rotate_left
       ·rintro w' ⟨s0, s1, s2, s3, s4, s5, s6, s7, s8, s9, s10, s11, s12⟩
        go_simp
        with_reducible rfl
       rotate_left
       ·simp only [Act.put, List.setIfInBounds_toArray, List.set_cons_zero, List.set_cons_succ, i64_w, i32_w]
        rfl
       refine pure_ (i := 15) (N := some 28) (v := ?_) (a' := ?_) #[true, true, true, true, true, true, true, true, true, true, true, true, true, true, true, true, false, false, false, false, false, false, false, false, false, false, false, false, false, false, false, false, false, false, false, false] rfl rfl (any_of HT_.out (by kernel_rfl)) (fun _ _ _ h => h) (Or.inl ⟨by rfl, ?_⟩) ?_ ?_
       rotate_left
       ·intro w'
        go_simp
        with_reducible rfl
       rotate_left
       ·simp only [Act.put, List.setIfInBounds_toArray, List.set_cons_zero, List.set_cons_succ, i64_w, i32_w]
        rfl
       refine pure_ (i := 16) (N := some 29) (v := ?_) (a' := ?_) #[true, true, true, true, true, true, true, true, true, true, true, true, true, true, true, true, true, false, false, false, false, false, false, false, false, false, false, false, false, false, false, false, false, false, false, false] rfl rfl (any_of HT_.out (by kernel_rfl)) (fun _ _ _ h => h) (Or.inl ⟨by rfl, ?_⟩) ?_ ?_
       rotate_left
       ·intro w'
        go_simp
        with_reducible rfl
       rotate_left
       ·simp only [Act.put, List.setIfInBounds_toArray, List.set_cons_zero, List.set_cons_succ, i64_w, i32_w]
        rfl
       refine pure_ (i := 17) (N := some 30) (v := ?_) (a' := ?_) #[true, true, true, true, true, true, true, true, true, true, true, true, true, true, true, true, true, true, false, false, false, false, false, false, false, false, false, false, false, false, false, false, false, false, false, false] rfl rfl (any_of HT_.out (by kernel_rfl)) (fun _ _ _ h => h) (Or.inl ⟨by rfl, ?_⟩) ?_ ?_
       rotate_left
       ·intro w'
        go_simp
        with_reducible rfl
       rotate_left
       ·simp only [Act.put, List.setIfInBounds_toArray, List.set_cons_zero, List.set_cons_succ, i64_w, i32_w]
        rfl
       refine pure_ (i := 18) (N := some 31) (v := undef) (a' := ?_) #[true, true, true, true, true, true, true, true, true, true, true, true, true, true, true, true, true, true, true, false, false, false, false, false, false, false, false, false, false, false, false, false, false, false, false, false] rfl rfl (any_of HT_.out (by kernel_rfl)) (fun _ _ _ h => h) (Or.inr ⟨by rfl, rfl⟩) ?_ ?_
       rotate_left
       ·simp only [Act.put, List.setIfInBounds_toArray, List.set_cons_zero, List.set_cons_succ, i64_w, i32_w]
        rfl
       refine pure_ (i := 19) (N := some 32) (v := undef) (a' := ?_) #[true, true, true, true, true, true, true, true, true, true, true, true, true, true, true, true, true, true, true, true, false, false, false, false, false, false, false, false, false, false, false, false, false, false, false, false] rfl rfl (any_of HT_.out (by kernel_rfl)) (fun _ _ _ h => h) (Or.inr ⟨by rfl, rfl⟩) ?_ ?_
       rotate_left
       ·simp only [Act.put, List.setIfInBounds_toArray, List.set_cons_zero, List.set_cons_succ, i64_w, i32_w]
        rfl
       refine pure_ (i := 20) (N := some 33) (v := undef) (a' := ?_) #[true, true, true, true, true, true, true, true, true, true, true, true, true, true, true, true, true, true, true, true, true, false, false, false, false, false, false, false, false, false, false, false, false, false, false, false] rfl rfl (any_of HT_.out (by kernel_rfl)) (fun _ _ _ h => h) (Or.inr ⟨by rfl, rfl⟩) ?_ ?_
       rotate_left
       ·simp only [Act.put, List.setIfInBounds_toArray, List.set_cons_zero, List.set_cons_succ, i64_w, i32_w]
        rfl
       refine pure_ (i := 21) (N := some 34) (v := undef) (a' := ?_) #[true, true, true, true, true, true, true, true, true, true, true, true, true, true, true, true, true, true, true, true, true, true, false, false, false, false, false, false, false, false, false, false, false, false, false, false] rfl rfl (any_of HT_.out (by kernel_rfl)) (fun _ _ _ h => h) (Or.inr ⟨by rfl, rfl⟩) ?_ ?_
       rotate_left
       ·simp only [Act.put, List.setIfInBounds_toArray, List.set_cons_zero, List.set_cons_succ, i64_w, i32_w]
        rfl
       refine pure_ (i := 22) (N := some 35) (v := undef) (a' := ?_) #[true, true, true, true, true, true, true, true, true, true, true, true, true, true, true, true, true, true, true, true, true, true, true, false, false, false, false, false, false, false, false, false, false, false, false, false] rfl rfl (any_of HT_.out (by kernel_rfl)) (fun _ _ _ h => h) (Or.inr ⟨by rfl, rfl⟩) ?_ ?_
       rotate_left
       ·simp only [Act.put, List.setIfInBounds_toArray, List.set_cons_zero, List.set_cons_succ, i64_w, i32_w]
        rfl
       refine pure_ (i := 23) (N := some 36) (v := undef) (a' := ?_) #[true, true, true, true, true, true, true, true, true, true, true, true, true, true, true, true, true, true, true, true, true, true, true, true, false, false, false, false, false, false, false, false, false, false, false, false] rfl rfl (any_of HT_.out (by kernel_rfl)) (fun _ _ _ h => h) (Or.inr ⟨by rfl, rfl⟩) ?_ ?_
       rotate_left
       ·simp only [Act.put, List.setIfInBounds_toArray, List.set_cons_zero, List.set_cons_succ, i64_w, i32_w]
        rfl
       refine pure_ (i := 24) (N := some 37) (v := undef) (a' := ?_) #[true, true, true, true, true, true, true, true, true, true, true, true, true, true, true, true, true, true, true, true, true, true, true, true, true, false, false, false, false, false, false, false, false, false, false, false] rfl rfl (any_of HT_.out (by kernel_rfl)) (fun _ _ _ h => h) (Or.inr ⟨by rfl, rfl⟩) ?_ ?_
       rotate_left
       ·simp only [Act.put, List.setIfInBounds_toArray, List.set_cons_zero, List.set_cons_succ, i64_w, i32_w]
        rfl
       refine pure_ (i := 25) (N := some 38) (v := undef) (a' := ?_) #[true, true, true, true, true, true, true, true, true, true, true, true, true, true, true, true, true, true, true, true, true, true, true, true, true, true, false, false, false, false, false, false, false, false, false, false] rfl rfl (any_of HT_.out (by kernel_rfl)) (fun _ _ _ h => h) (Or.inr ⟨by rfl, rfl⟩) ?_ ?_
       rotate_left
       ·simp only [Act.put, List.setIfInBounds_toArray, List.set_cons_zero, List.set_cons_succ, i64_w, i32_w]
        rfl
       refine pure_ (i := 26) (N := some 39) (v := undef) (a' := ?_) #[true, true, true, true, true, true, true, true, true, true, true, true, true, true, true, true, true, true, true, true, true, true, true, true, true, true, true, false, false, false, false, false, false, false, false, false] rfl rfl (any_of HT_.out (by kernel_rfl)) (fun _ _ _ h => h) (Or.inr ⟨by rfl, rfl⟩) ?_ ?_
       rotate_left
       ·simp only [Act.put, List.setIfInBounds_toArray, List.set_cons_zero, List.set_cons_succ, i64_w, i32_w]
        rfl
       refine pure_ (i := 27) (N := some 40) (v := undef) (a' := ?_) #[true, true, true, true, true, true, true, true, true, true, true, true, true, true, true, true, true, true, true, true, true, true, true, true, true, true, true, true, false, false, false, false, false, false, false, false] rfl rfl (any_of HT_.out (by kernel_rfl)) (fun _ _ _ h => h) (Or.inr ⟨by rfl, rfl⟩) ?_ ?_
       rotate_left
       ·simp only [Act.put, List.setIfInBounds_toArray, List.set_cons_zero, List.set_cons_succ, i64_w, i32_w]
        rfl
       refine pure_ (i := 28) (N := some 41) (v := undef) (a' := ?_) #[true, true, true, true, true, true, true, true, true, true, true, true, true, true, true, true, true, true, true, true, true, true, true, true, true, true, true, true, true, false, false, false, false, false, false, false] rfl rfl (any_of HT_.out (by kernel_rfl)) (fun _ _ _ h => h) (Or.inr ⟨by rfl, rfl⟩) ?_ ?_
       rotate_left
       ·simp only [Act.put, List.setIfInBounds_toArray, List.set_cons_zero, List.set_cons_succ, i64_w, i32_w]
        rfl
       refine pure_ (i := 29) (N := some 42) (v := undef) (a' := ?_) #[true, true, true, true, true, true, true, true, true, true, true, true, true, true, true, true, true, true, true, true, true, true, true, true, true, true, true, true, true, true, false, false, false, false, false, false] rfl rfl (any_of HT_.out (by kernel_rfl)) (fun _ _ _ h => h) (Or.inr ⟨by rfl, rfl⟩) ?_ ?_
       rotate_left
       ·simp only [Act.put, List.setIfInBounds_toArray, List.set_cons_zero, List.set_cons_succ, i64_w, i32_w]
        rfl
       refine pure_ (i := 30) (N := some 43) (v := undef) (a' := ?_) #[true, true, true, true, true, true, true, true, true, true, true, true, true, true, true, true, true, true, true, true, true, true, true, true, true, true, true, true, true, true, true, false, false, false, false, false] rfl rfl (any_of HT_.out (by kernel_rfl)) (fun _ _ _ h => h) (Or.inr ⟨by rfl, rfl⟩) ?_ ?_
       rotate_left
       ·simp only [Act.put, List.setIfInBounds_toArray, List.set_cons_zero, List.set_cons_succ, i64_w, i32_w]
        rfl
       refine pure_ (i := 31) (N := some 44) (v := undef) (a' := ?_) #[true, true, true, true, true, true, true, true, true, true, true, true, true, true, true, true, true, true, true, true, true, true, true, true, true, true, true, true, true, true, true, true, false, false, false, false] rfl rfl (any_of HT_.out (by kernel_rfl)) (fun _ _ _ h => h) (Or.inr ⟨by rfl, rfl⟩) ?_ ?_
       rotate_left
       ·simp only [Act.put, List.setIfInBounds_toArray, List.set_cons_zero, List.set_cons_succ, i64_w, i32_w]
        rfl
       refine pure_ (i := 32) (N := some 45) (v := undef) (a' := ?_) #[true, true, true, true, true, true, true, true, true, true, true, true, true, true, true, true, true, true, true, true, true, true, true, true, true, true, true, true, true, true, true, true, true, false, false, false] rfl rfl (any_of HT_.out (by kernel_rfl)) (fun _ _ _ h => h) (Or.inr ⟨by rfl, rfl⟩) ?_ ?_
       rotate_left
       ·simp only [Act.put, List.setIfInBounds_toArray, List.set_cons_zero, List.set_cons_succ, i64_w, i32_w]
        rfl
       refine pure_ (i := 33) (N := some 46) (v := undef) (a' := ?_) #[true, true, true, true, true, true, true, true, true, true, true, true, true, true, true, true, true, true, true, true, true, true, true, true, true, true, true, true, true, true, true, true, true, true, false, false] rfl rfl (any_of HT_.out (by kernel_rfl)) (fun _ _ _ h => h) (Or.inr ⟨by rfl, rfl⟩) ?_ ?_
       rotate_left
       ·simp only [Act.put, List.setIfInBounds_toArray, List.set_cons_zero, List.set_cons_succ, i64_w, i32_w]
        rfl
       refine pure_ (i := 34) (N := some 47) (v := undef) (a' := ?_) #[true, true, true, true, true, true, true, true, true, true, true, true, true, true, true, true, true, true, true, true, true, true, true, true, true, true, true, true, true, true, true, true, true, true, true, false] rfl rfl (any_of HT_.out (by kernel_rfl)) (fun _ _ _ h => h) (Or.inr ⟨by rfl, rfl⟩) ?_ ?_
       rotate_left
       ·simp only [Act.put, List.setIfInBounds_toArray, List.set_cons_zero, List.set_cons_succ, i64_w, i32_w]
        rfl
       refine pure_ (i := 35) (N := some 48) (v := ?_) (a' := ?_) #[true, true, true, true, true, true, true, true, true, true, true, true, true, true, true, true, true, true, true, true, true, true, true, true, true, true, true, true, true, true, true, true, true, true, true, true] rfl rfl (any_of HT_.out (by kernel_rfl)) (fun _ _ _ h => h) (Or.inl ⟨by rfl, ?_⟩) ?_ ?_
       rotate_left
       ·intro w'
        go_simp
        with_reducible rfl
       rotate_left
       ·simp only [Act.put, List.setIfInBounds_toArray, List.set_cons_zero, List.set_cons_succ, i64_w, i32_w]
        rfl
       refine done_ (done_of HT_.out (by kernel_rfl)) ?_
       try go_wp2
       go_ret
       exact ⟨by first | rfl | (simp [errW_none, errW_some] <;> rfl) | (simp [*, errW_none, errW_some] <;> rfl), by repeat (first | (with_reducible first | exact HB.out | apply below_alloc | apply pw_below_drewN | apply below_drew1 | refine below_set ?_ GE272.out) | exact HB.out)⟩
      ·rw [if_neg c9] at H
       have c9b0 : decide (a1 ≤ ((rd_T49 l0_0 x5_1).f1)) = false := decide_eq_false c9
       clear c9
       by_cases c12 : x5_1 > 0
       ·rw [if_pos c12] at H
        have c12b0 : decide (0 < x5_1) = true := decide_eq_true c12
        clear c12
        obtain ⟨ji13, hji13⟩ : ∃ j_ : Int, (wrap64 (x5_1 - 1)) = j_ := ⟨_, rfl⟩
        replace H : (if 0 ≤ (ji13) then (if (ji13) < (l0_0.length : Int) then ((sizarref35_Before.f ((rd_T49 l0_0 (ji13)).f0.f0.f0) ((rd_T49 l0_0 (ji13)).f0.f0.f1) ((rd_T49 l0_0 (ji13)).f0.f0.f2) ((rd_T49 l0_0 (ji13)).f0.f1) ((rd_T49 l0_0 (ji13)).f0.f2) ((rd_T49 l0_0 (ji13)).f1) ((rd_T49 l0_0 x5_1).f0.f0.f0) ((rd_T49 l0_0 x5_1).f0.f0.f1) ((rd_T49 l0_0 x5_1).f0.f0.f2) ((rd_T49 l0_0 x5_1).f0.f1) ((rd_T49 l0_0 x5_1).f0.f2) ((rd_T49 l0_0 x5_1).f1)).bind fun t277 => (if t277 = true then (sizarref35_Check.l0 k1 a1 (wrap64 (x5_1 + 1)) l0_0) else (some 350))) else (none)) else (none)) = some r := by first | (rw [hji13] at H; exact H) | (simp only [hji13] at H ⊢; exact H)
        have hji13w : (IntKind.i64.wrap (x5_1 - 1)) = ji13 := (i64_w _).trans hji13
        by_cases c14 : 0 ≤ (ji13)
        ·rw [if_pos c14] at H
         have c14b0 : decide (0 ≤ (ji13)) = true := decide_eq_true c14
         clear c14
         by_cases c15 : (ji13) < (l0_0.length : Int)
         ·rw [if_pos c15] at H
          have c15b0 : decide ((ji13) < (l0_0.length : Int)) = true := decide_eq_true c15
          clear c15
          replace H := Option.bind_eq_some_iff.mp H
          obtain ⟨t277, A160, H⟩ := H
          replace H : (if t277 = true then (sizarref35_Check.l0 k1 a1 (wrap64 (x5_1 + 1)) l0_0) else (some 350)) = some r := H
          have A16 := Aside0.mk A160
          clear A160
          by_cases c17 : t277 = true
          ·subst c17
           have H1 : (sizarref35_Check.l0 k1 a1 (wrap64 (x5_1 + 1)) l0_0) = some r := by rw [if_pos rfl] at H; exact H
           clear H
           have H := H1
           clear H1
           have H' := Aside0.mk H
           clear H
           have hcz18_0 : wr.cell? ⟨gb272, 0, none⟩ = some (.slice A0_0 l0_0.length c0_0) := (blk_cell BK272.out 0).trans rfl
           have hfz18_0 := blk_frozen BK272.out 0
           try go_wp2
           have n0_ := Aside0.mk (blk_drew BK272.out)
           have n1_ := Aside0.mk (below_drew1 HB.out)
           clear BK272
           clear HB
           have BK272 := n0_
           have HB := n1_
           clear n0_ n1_
           have p273 : 0 ≤ (x5_1 : Int) := of_decide_eq_true (by first | (with_reducible assumption) | assumption)
           have q273 : x5_1 < (l0_0.length : Int) := of_decide_eq_true (by first | (with_reducible assumption) | assumption)
           obtain ⟨ad273, e273, hx273_0, hx273_1, hx273_2, hx273_3, hx273_4, hx273_5⟩ := at_T49 HR0_0.out x5_1 p273 q273
           have hw273_5 := hx273_5
           have hw273_4 := hx273_4
           have hw273_3 := hx273_3
           have hw273_2 := hx273_2
           have hw273_1 := hx273_1
           have hw273_0 := hx273_0
           cases e273
           replace hx273_0 := (HB.out.cell (World.block_lt_of_cell? w _ hx273_0)).trans hx273_0
           replace hx273_1 := (HB.out.cell (World.block_lt_of_cell? w _ hx273_1)).trans hx273_1
           replace hx273_2 := (HB.out.cell (World.block_lt_of_cell? w _ hx273_2)).trans hx273_2
           replace hx273_3 := (HB.out.cell (World.block_lt_of_cell? w _ hx273_3)).trans hx273_3
           replace hx273_4 := (HB.out.cell (World.block_lt_of_cell? w _ hx273_4)).trans hx273_4
           replace hx273_5 := (HB.out.cell (World.block_lt_of_cell? w _ hx273_5)).trans hx273_5
           replace p273 := eq_true p273
           replace q273 := eq_true q273
           have p274 : 0 ≤ (x5_1 : Int) := of_decide_eq_true (by first | (with_reducible assumption) | assumption)
           have q274 : x5_1 < (l0_0.length : Int) := of_decide_eq_true (by first | (with_reducible assumption) | assumption)
           obtain ⟨ad274, e274, hx274_0, hx274_1, hx274_2, hx274_3, hx274_4, hx274_5⟩ := at_T49 HR0_0.out x5_1 p274 q274
           have hw274_5 := hx274_5
           have hw274_4 := hx274_4
           have hw274_3 := hx274_3
           have hw274_2 := hx274_2
           have hw274_1 := hx274_1
           have hw274_0 := hx274_0
           obtain rfl : ad273 = ad274 := (by injection e274)
           replace hx274_0 := (HB.out.cell (World.block_lt_of_cell? w _ hx274_0)).trans hx274_0
           replace hx274_1 := (HB.out.cell (World.block_lt_of_cell? w _ hx274_1)).trans hx274_1
           replace hx274_2 := (HB.out.cell (World.block_lt_of_cell? w _ hx274_2)).trans hx274_2
           replace hx274_3 := (HB.out.cell (World.block_lt_of_cell? w _ hx274_3)).trans hx274_3
           replace hx274_4 := (HB.out.cell (World.block_lt_of_cell? w _ hx274_4)).trans hx274_4
           replace hx274_5 := (HB.out.cell (World.block_lt_of_cell? w _ hx274_5)).trans hx274_5
           replace p274 := eq_true p274
           replace q274 := eq_true q274
           have p275 : 0 ≤ ((ji13) : Int) := of_decide_eq_true (by first | (with_reducible assumption) | assumption)
           have q275 : (ji13) < (l0_0.length : Int) := of_decide_eq_true (by first | (with_reducible assumption) | assumption)
           obtain ⟨ad275, e275, hx275_0, hx275_1, hx275_2, hx275_3, hx275_4, hx275_5⟩ := at_T49 HR0_0.out (ji13) p275 q275
           have hw275_5 := hx275_5
           have hw275_4 := hx275_4
           have hw275_3 := hx275_3
           have hw275_2 := hx275_2
           have hw275_1 := hx275_1
           have hw275_0 := hx275_0
           obtain rfl : ad273 = ad275 := (by injection e275)
           replace hx275_0 := (HB.out.cell (World.block_lt_of_cell? w _ hx275_0)).trans hx275_0
           replace hx275_1 := (HB.out.cell (World.block_lt_of_cell? w _ hx275_1)).trans hx275_1
           replace hx275_2 := (HB.out.cell (World.block_lt_of_cell? w _ hx275_2)).trans hx275_2
           replace hx275_3 := (HB.out.cell (World.block_lt_of_cell? w _ hx275_3)).trans hx275_3
           replace hx275_4 := (HB.out.cell (World.block_lt_of_cell? w _ hx275_4)).trans hx275_4
           replace hx275_5 := (HB.out.cell (World.block_lt_of_cell? w _ hx275_5)).trans hx275_5
           replace p275 := eq_true p275
           replace q275 := eq_true q275
           have p276 : 0 ≤ (x5_1 : Int) := of_decide_eq_true (by first | (with_reducible assumption) | assumption)
           have q276 : x5_1 < (l0_0.length : Int) := of_decide_eq_true (by first | (with_reducible assumption) | assumption)
           obtain ⟨ad276, e276, hx276_0, hx276_1, hx276_2, hx276_3, hx276_4, hx276_5⟩ := at_T49 HR0_0.out x5_1 p276 q276
           have hw276_5 := hx276_5
           have hw276_4 := hx276_4
           have hw276_3 := hx276_3
           have hw276_2 := hx276_2
           have hw276_1 := hx276_1
           have hw276_0 := hx276_0
           obtain rfl : ad273 = ad276 := (by injection e276)
           replace hx276_0 := (HB.out.cell (World.block_lt_of_cell? w _ hx276_0)).trans hx276_0
           replace hx276_1 := (HB.out.cell (World.block_lt_of_cell? w _ hx276_1)).trans hx276_1
           replace hx276_2 := (HB.out.cell (World.block_lt_of_cell? w _ hx276_2)).trans hx276_2
           replace hx276_3 := (HB.out.cell (World.block_lt_of_cell? w _ hx276_3)).trans hx276_3
           replace hx276_4 := (HB.out.cell (World.block_lt_of_cell? w _ hx276_4)).trans hx276_4
           replace hx276_5 := (HB.out.cell (World.block_lt_of_cell? w _ hx276_5)).trans hx276_5
           replace p276 := eq_true p276
           replace q276 := eq_true q276
           refine start_ (n := 36) (S := fun w' => w'.cell? ⟨gb272, 0, none⟩ = some (.slice (some ad273) l0_0.length c0_0) ∧ w'.cell? (ad273.add ((x5_1).toNat * 6)) = some (.int .i64 ((rd_T49 l0_0 x5_1).f0.f0.f0)) ∧ w'.cell? ⟨(ad273.add ((x5_1).toNat * 6)).block, (ad273.add ((x5_1).toNat * 6)).off + 1, none⟩ = some (.int .i64 ((rd_T49 l0_0 x5_1).f0.f0.f1)) ∧ w'.cell? ⟨(ad273.add ((x5_1).toNat * 6)).block, (ad273.add ((x5_1).toNat * 6)).off + 2, none⟩ = some (.int .i64 ((rd_T49 l0_0 x5_1).f0.f0.f2)) ∧ w'.cell? ⟨(ad273.add ((x5_1).toNat * 6)).block, (ad273.add ((x5_1).toNat * 6)).off + 3, none⟩ = some (.int .i64 ((rd_T49 l0_0 x5_1).f0.f1)) ∧ w'.cell? ⟨(ad273.add ((x5_1).toNat * 6)).block, (ad273.add ((x5_1).toNat * 6)).off + 4, none⟩ = some (.int .i64 ((rd_T49 l0_0 x5_1).f0.f2)) ∧ w'.cell? ⟨(ad273.add ((x5_1).toNat * 6)).block, (ad273.add ((x5_1).toNat * 6)).off + 5, none⟩ = some (.int .i64 ((rd_T49 l0_0 x5_1).f1)) ∧ w'.cell? (ad273.add ((x5_1).toNat * 6)) = some (.int .i64 ((rd_T49 l0_0 x5_1).f0.f0.f0)) ∧ w'.cell? ⟨(ad273.add ((x5_1).toNat * 6)).block, (ad273.add ((x5_1).toNat * 6)).off + 1, none⟩ = some (.int .i64 ((rd_T49 l0_0 x5_1).f0.f0.f1)) ∧ w'.cell? ⟨(ad273.add ((x5_1).toNat * 6)).block, (ad273.add ((x5_1).toNat * 6)).off + 2, none⟩ = some (.int .i64 ((rd_T49 l0_0 x5_1).f0.f0.f2)) ∧ w'.cell? ⟨(ad273.add ((x5_1).toNat * 6)).block, (ad273.add ((x5_1).toNat * 6)).off + 3, none⟩ = some (.int .i64 ((rd_T49 l0_0 x5_1).f0.f1)) ∧ w'.cell? ⟨(ad273.add ((x5_1).toNat * 6)).block, (ad273.add ((x5_1).toNat * 6)).off + 4, none⟩ = some (.int .i64 ((rd_T49 l0_0 x5_1).f0.f2)) ∧ w'.cell? ⟨(ad273.add ((x5_1).toNat * 6)).block, (ad273.add ((x5_1).toNat * 6)).off + 5, none⟩ = some (.int .i64 ((rd_T49 l0_0 x5_1).f1)) ∧ w'.cell? (ad273.add (((ji13)).toNat * 6)) = some (.int .i64 ((rd_T49 l0_0 (ji13)).f0.f0.f0)) ∧ w'.cell? ⟨(ad273.add (((ji13)).toNat * 6)).block, (ad273.add (((ji13)).toNat * 6)).off + 1, none⟩ = some (.int .i64 ((rd_T49 l0_0 (ji13)).f0.f0.f1)) ∧ w'.cell? ⟨(ad273.add (((ji13)).toNat * 6)).block, (ad273.add (((ji13)).toNat * 6)).off + 2, none⟩ = some (.int .i64 ((rd_T49 l0_0 (ji13)).f0.f0.f2)) ∧ w'.cell? ⟨(ad273.add (((ji13)).toNat * 6)).block, (ad273.add (((ji13)).toNat * 6)).off + 3, none⟩ = some (.int .i64 ((rd_T49 l0_0 (ji13)).f0.f1)) ∧ w'.cell? ⟨(ad273.add (((ji13)).toNat * 6)).block, (ad273.add (((ji13)).toNat * 6)).off + 4, none⟩ = some (.int .i64 ((rd_T49 l0_0 (ji13)).f0.f2)) ∧ w'.cell? ⟨(ad273.add (((ji13)).toNat * 6)).block, (ad273.add (((ji13)).toNat * 6)).off + 5, none⟩ = some (.int .i64 ((rd_T49 l0_0 (ji13)).f1)) ∧ w'.cell? (ad273.add ((x5_1).toNat * 6)) = some (.int .i64 ((rd_T49 l0_0 x5_1).f0.f0.f0)) ∧ w'.cell? ⟨(ad273.add ((x5_1).toNat * 6)).block, (ad273.add ((x5_1).toNat * 6)).off + 1, none⟩ = some (.int .i64 ((rd_T49 l0_0 x5_1).f0.f0.f1)) ∧ w'.cell? ⟨(ad273.add ((x5_1).toNat * 6)).block, (ad273.add ((x5_1).toNat * 6)).off + 2, none⟩ = some (.int .i64 ((rd_T49 l0_0 x5_1).f0.f0.f2)) ∧ w'.cell? ⟨(ad273.add ((x5_1).toNat * 6)).block, (ad273.add ((x5_1).toNat * 6)).off + 3, none⟩ = some (.int .i64 ((rd_T49 l0_0 x5_1).f0.f1)) ∧ w'.cell? ⟨(ad273.add ((x5_1).toNat * 6)).block, (ad273.add ((x5_1).toNat * 6)).off + 4, none⟩ = some (.int .i64 ((rd_T49 l0_0 x5_1).f0.f2)) ∧ w'.cell? ⟨(ad273.add ((x5_1).toNat * 6)).block, (ad273.add ((x5_1).toNat * 6)).off + 5, none⟩ = some (.int .i64 ((rd_T49 l0_0 x5_1).f1))) (ds := []) #[false, false, false, false, false, false, false, false, false, false, false, false, false, false, false, false, false, false, false, false, false, false, false, false, false, false, false, false, false, false, false, false, false, false, false, false] (by kernel_rfl) rfl rfl ⟨(blk_cell BK272.out 0).trans rfl, ((HB.out.cell (World.block_lt_of_cell? w _ hw273_0)).trans hw273_0), ((HB.out.cell (World.block_lt_of_cell? w _ hw273_1)).trans hw273_1), ((HB.out.cell (World.block_lt_of_cell? w _ hw273_2)).trans hw273_2), ((HB.out.cell (World.block_lt_of_cell? w _ hw273_3)).trans hw273_3), ((HB.out.cell (World.block_lt_of_cell? w _ hw273_4)).trans hw273_4), ((HB.out.cell (World.block_lt_of_cell? w _ hw273_5)).trans hw273_5), ((HB.out.cell (World.block_lt_of_cell? w _ hw274_0)).trans hw274_0), ((HB.out.cell (World.block_lt_of_cell? w _ hw274_1)).trans hw274_1), ((HB.out.cell (World.block_lt_of_cell? w _ hw274_2)).trans hw274_2), ((HB.out.cell (World.block_lt_of_cell? w _ hw274_3)).trans hw274_3), ((HB.out.cell (World.block_lt_of_cell? w _ hw274_4)).trans hw274_4), ((HB.out.cell (World.block_lt_of_cell? w _ hw274_5)).trans hw274_5), ((HB.out.cell (World.block_lt_of_cell? w _ hw275_0)).trans hw275_0), ((HB.out.cell (World.block_lt_of_cell? w _ hw275_1)).trans hw275_1), ((HB.out.cell (World.block_lt_of_cell? w _ hw275_2)).trans hw275_2), ((HB.out.cell (World.block_lt_of_cell? w _ hw275_3)).trans hw275_3), ((HB.out.cell (World.block_lt_of_cell? w _ hw275_4)).trans hw275_4), ((HB.out.cell (World.block_lt_of_cell? w _ hw275_5)).trans hw275_5), ((HB.out.cell (World.block_lt_of_cell? w _ hw276_0)).trans hw276_0), ((HB.out.cell (World.block_lt_of_cell? w _ hw276_1)).trans hw276_1), ((HB.out.cell (World.block_lt_of_cell? w _ hw276_2)).trans hw276_2), ((HB.out.cell (World.block_lt_of_cell? w _ hw276_3)).trans hw276_3), ((HB.out.cell (World.block_lt_of_cell? w _ hw276_4)).trans hw276_4), ((HB.out.cell (World.block_lt_of_cell? w _ hw276_5)).trans hw276_5)⟩ (fun hHeld => ?_); refine with_tabW sizarref35_Check.tab4 sizarref35_Check.bits4 (fun HT_ HW_ => ?_)
           generalize wr.drew = w19 at BK272 HB hx273_0 hx273_1 hx273_2 hx273_3 hx273_4 hx273_5 hx274_0 hx274_1 hx274_2 hx274_3 hx274_4 hx274_5 hx275_0 hx275_1 hx275_2 hx275_3 hx275_4 hx275_5 hx276_0 hx276_1 hx276_2 hx276_3 hx276_4 hx276_5 hHeld ⊢
           refine pure_ (i := 0) (N := some 13) (v := ?_) (a' := ?_) #[true, false, false, false, false, false, false, false, false, false, false, false, false, false, false, false, false, false, false, false, false, false, false, false, false, false, false, false, false, false, false, false, false, false, false, false] rfl rfl (any_of HT_.out (by kernel_rfl)) (fun _ _ _ h => h) (Or.inl ⟨by rfl, ?_⟩) ?_ ?_
           rotate_left
           ·intro w'
            go_simp
            with_reducible rfl
           rotate_left
           ·simp only [Act.put, List.setIfInBounds_toArray, List.set_cons_zero, List.set_cons_succ, i64_w, i32_w]
            rfl
           refine pure_ (i := 2) (N := some 15) (v := ?_) (a' := ?_) #[true, false, true, false, false, false, false, false, false, false, false, false, false, false, false, false, false, false, false, false, false, false, false, false, false, false, false, false, false, false, false, false, false, false, false, false] rfl rfl (any_of HT_.out (by kernel_rfl)) (fun _ _ _ h => h) (Or.inl ⟨by rfl, ?_⟩) ?_ ?_
           rotate_left
           ·intro w'
            go_simp
            with_reducible rfl
           rotate_left
           ·simp only [Act.put, List.setIfInBounds_toArray, List.set_cons_zero, List.set_cons_succ, i64_w, i32_w]
            rfl
           refine take_ (i := 1) (N := some 14) (v := ?_) (a' := ?_) #[true, true, true, false, false, false, false, false, false, false, false, false, false, false, false, false, false, false, false, false, false, false, false, false, false, false, false, false, false, false, false, false, false, false, false, false] rfl rfl (take_ofW HT_.out HW_.out (by kernel_rfl)) (fun _ _ _ h => h) (Or.inl ⟨by rfl, ?_⟩) hHeld ?_ ?_
           rotate_left
           ·rintro w' ⟨s0, s1, s2, s3, s4, s5, s6, s7, s8, s9, s10, s11, s12, s13, s14, s15, s16, s17, s18, s19, s20, s21, s22, s23, s24⟩
            go_simp
            with_reducible rfl
           rotate_left
           ·simp only [Act.put, List.setIfInBounds_toArray, List.set_cons_zero, List.set_cons_succ, i64_w, i32_w]
            rfl
           refine pure_ (i := 3) (N := some 16) (v := ?_) (a' := ?_) #[true, true, true, true, false, false, false, false, false, false, false, false, false, false, false, false, false, false, false, false, false, false, false, false, false, false, false, false, false, false, false, false, false, false, false, false] rfl rfl (any_of HT_.out (by kernel_rfl)) (fun _ _ _ h => h) (Or.inl ⟨by rfl, ?_⟩) ?_ ?_
           rotate_left
           ·intro w'
            go_simp
            with_reducible rfl
           rotate_left
           ·simp only [Act.put, List.setIfInBounds_toArray, List.set_cons_zero, List.set_cons_succ, i64_w, i32_w]
            rfl
           refine pure_ (i := 4) (N := some 17) (v := ?_) (a' := ?_) #[true, true, true, true, true, false, false, false, false, false, false, false, false, false, false, false, false, false, false, false, false, false, false, false, false, false, false, false, false, false, false, false, false, false, false, false] rfl rfl (any_of HT_.out (by kernel_rfl)) (fun _ _ _ h => h) (Or.inl ⟨by rfl, ?_⟩) ?_ ?_
           rotate_left
           ·intro w'
            go_simp
            with_reducible rfl
           rotate_left
           ·simp only [Act.put, List.setIfInBounds_toArray, List.set_cons_zero, List.set_cons_succ, i64_w, i32_w]
            rfl
           refine take_ (i := 5) (N := some 18) (v := ?_) (a' := ?_) #[true, true, true, true, true, true, false, false, false, false, false, false, false, false, false, false, false, false, false, false, false, false, false, false, false, false, false, false, false, false, false, false, false, false, false, false] rfl rfl (take_ofW HT_.out HW_.out (by kernel_rfl)) (fun _ _ _ h => h) (Or.inl ⟨by rfl, ?_⟩) hHeld ?_ ?_
           rotate_left
           ·rintro w' ⟨s0, s1, s2, s3, s4, s5, s6, s7, s8, s9, s10, s11, s12, s13, s14, s15, s16, s17, s18, s19, s20, s21, s22, s23, s24⟩
            go_simp
            with_reducible rfl
           rotate_left
           ·simp only [Act.put, List.setIfInBounds_toArray, List.set_cons_zero, List.set_cons_succ, i64_w, i32_w]
            rfl
           refine pure_ (i := 6) (N := some 19) (v := ?_) (a' := ?_) #[true, true, true, true, true, true, true, false, false, false, false, false, false, false, false, false, false, false, false, false, false, false, false, false, false, false, false, false, false, false, false, false, false, false, false, false] rfl rfl (any_of HT_.out (by kernel_rfl)) (fun _ _ _ h => h) (Or.inl ⟨by rfl, ?_⟩) ?_ ?_
           rotate_left
           ·intro w'
            go_simp
            with_reducible rfl
           rotate_left
           ·simp only [Act.put, List.setIfInBounds_toArray, List.set_cons_zero, List.set_cons_succ, i64_w, i32_w]
            rfl
           refine pure_ (i := 7) (N := some 20) (v := ?_) (a' := ?_) #[true, true, true, true, true, true, true, true, false, false, false, false, false, false, false, false, false, false, false, false, false, false, false, false, false, false, false, false, false, false, false, false, false, false, false, false] rfl rfl (any_of HT_.out (by kernel_rfl)) (fun _ _ _ h => h) (Or.inl ⟨by rfl, ?_⟩) ?_ ?_
           rotate_left
           ·intro w'
            go_simp
            with_reducible rfl
           rotate_left
           ·simp only [Act.put, List.setIfInBounds_toArray, List.set_cons_zero, List.set_cons_succ, i64_w, i32_w]
            rfl
           refine pure_ (i := 8) (N := some 21) (v := ?_) (a' := ?_) #[true, true, true, true, true, true, true, true, true, false, false, false, false, false, false, false, false, false, false, false, false, false, false, false, false, false, false, false, false, false, false, false, false, false, false, false] rfl rfl (any_of HT_.out (by kernel_rfl)) (fun _ _ _ h => h) (Or.inl ⟨by rfl, ?_⟩) ?_ ?_
           rotate_left
           ·intro w'
            go_simp
            with_reducible rfl
           rotate_left
           ·simp only [Act.put, List.setIfInBounds_toArray, List.set_cons_zero, List.set_cons_succ, i64_w, i32_w]
            rfl
           refine pure_ (i := 10) (N := some 23) (v := ?_) (a' := ?_) #[true, true, true, true, true, true, true, true, true, false, true, false, false, false, false, false, false, false, false, false, false, false, false, false, false, false, false, false, false, false, false, false, false, false, false, false] rfl rfl (any_of HT_.out (by kernel_rfl)) (fun _ _ _ h => h) (Or.inl ⟨by rfl, ?_⟩) ?_ ?_
           rotate_left
           ·intro w'
            go_simp
            with_reducible rfl
           rotate_left
           ·simp only [Act.put, List.setIfInBounds_toArray, List.set_cons_zero, List.set_cons_succ, i64_w, i32_w]
            rfl
           refine pure_ (i := 14) (N := some 27) (v := ?_) (a' := ?_) #[true, true, true, true, true, true, true, true, true, false, true, false, false, false, true, false, false, false, false, false, false, false, false, false, false, false, false, false, false, false, false, false, false, false, false, false] rfl rfl (any_of HT_.out (by kernel_rfl)) (fun _ _ _ h => h) (Or.inl ⟨by rfl, ?_⟩) ?_ ?_
           rotate_left
           ·intro w'
            go_simp
            with_reducible rfl
           rotate_left
           ·simp only [Act.put, List.setIfInBounds_toArray, List.set_cons_zero, List.set_cons_succ, i64_w, i32_w]
            rfl
           refine take_ (i := 9) (N := some 22) (v := ?_) (a' := ?_) #[true, true, true, true, true, true, true, true, true, true, true, false, false, false, true, false, false, false, false, false, false, false, false, false, false, false, false, false, false, false, false, false, false, false, false, false] rfl rfl (take_ofW HT_.out HW_.out (by kernel_rfl)) (fun _ _ _ h => h) (Or.inl ⟨by rfl, ?_⟩) hHeld ?_ ?_
           rotate_left
           ·rintro w' ⟨s0, s1, s2, s3, s4, s5, s6, s7, s8, s9, s10, s11, s12, s13, s14, s15, s16, s17, s18, s19, s20, s21, s22, s23, s24⟩
            go_simp
            with_reducible rfl
           rotate_left
           ·simp only [Act.put, List.setIfInBounds_toArray, List.set_cons_zero, List.set_cons_succ, i64_w, i32_w]
            rfl
           refine pure_ (i := 11) (N := some 24) (v := ?_) (a' := ?_) #[true, true, true, true, true, true, true, true, true, true, true, true, false, false, true, false, false, false, false, false, false, false, false, false, false, false, false, false, false, false, false, false, false, false, false, false] rfl rfl (any_of HT_.out (by kernel_rfl)) (fun _ _ _ h => h) (Or.inl ⟨by rfl, ?_⟩) ?_ ?_
           rotate_left
           ·intro w'
            go_simp
            with_reducible rfl
           rotate_left
           ·simp only [Act.put, List.setIfInBounds_toArray, List.set_cons_zero, List.set_cons_succ, i64_w, i32_w]
            rfl
           refine pure_ (i := 12) (N := some 25) (v := ?_) (a' := ?_) #[true, true, true, true, true, true, true, true, true, true, true, true, true, false, true, false, false, false, false, false, false, false, false, false, false, false, false, false, false, false, false, false, false, false, false, false] rfl rfl (any_of HT_.out (by kernel_rfl)) (fun _ _ _ h => h) (Or.inl ⟨by rfl, ?_⟩) ?_ ?_
           rotate_left
           ·intro w'
            go_simp
            with_reducible rfl
           rotate_left
           ·simp only [Act.put, List.setIfInBounds_toArray, List.set_cons_zero, List.set_cons_succ, i64_w, i32_w]
            rfl
           refine take_ (i := 13) (N := some 26) (v := ?_) (a' := ?_) #[true, true, true, true, true, true, true, true, true, true, true, true, true, true, true, false, false, false, false, false, false, false, false, false, false, false, false, false, false, false, false, false, false, false, false, false] rfl rfl (take_ofW HT_.out HW_.out (by kernel_rfl)) (fun _ _ _ h => h) (Or.inl ⟨by rfl, ?_⟩) hHeld ?_ ?_
           rotate_left
           ·rintro w' ⟨s0, s1, s2, s3, s4, s5, s6, s7, s8, s9, s10, s11, s12, s13, s14, s15, s16, s17, s18, s19, s20, s21, s22, s23, s24⟩
            go_simp
            with_reducible rfl
           rotate_left
           ·simp only [Act.put, List.setIfInBounds_toArray, List.set_cons_zero, List.set_cons_succ, i64_w, i32_w]
            rfl
           refine pure_ (i := 15) (N := some 28) (v := ?_) (a' := ?_) #[true, true, true, true, true, true, true, true, true, true, true, true, true, true, true, true, false, false, false, false, false, false, false, false, false, false, false, false, false, false, false, false, false, false, false, false] rfl rfl (any_of HT_.out (by kernel_rfl)) (fun _ _ _ h => h) (Or.inl ⟨by rfl, ?_⟩) ?_ ?_
           rotate_left
           ·intro w'
            go_simp
            with_reducible rfl
           rotate_left
           ·simp only [Act.put, List.setIfInBounds_toArray, List.set_cons_zero, List.set_cons_succ, i64_w, i32_w]
            rfl
           refine pure_ (i := 16) (N := some 29) (v := ?_) (a' := ?_) #[true, true, true, true, true, true, true, true, true, true, true, true, true, true, true, true, true, false, false, false, false, false, false, false, false, false, false, false, false, false, false, false, false, false, false, false] rfl rfl (any_of HT_.out (by kernel_rfl)) (fun _ _ _ h => h) (Or.inl ⟨by rfl, ?_⟩) ?_ ?_
           rotate_left
           ·intro w'
            go_simp
            with_reducible rfl
           rotate_left
           ·simp only [Act.put, List.setIfInBounds_toArray, List.set_cons_zero, List.set_cons_succ, i64_w, i32_w]
            rfl
           refine pure_ (i := 17) (N := some 30) (v := ?_) (a' := ?_) #[true, true, true, true, true, true, true, true, true, true, true, true, true, true, true, true, true, true, false, false, false, false, false, false, false, false, false, false, false, false, false, false, false, false, false, false] rfl rfl (any_of HT_.out (by kernel_rfl)) (fun _ _ _ h => h) (Or.inl ⟨by rfl, ?_⟩) ?_ ?_
           rotate_left
           ·intro w'
            go_simp
            with_reducible rfl
           rotate_left
           ·simp only [Act.put, List.setIfInBounds_toArray, List.set_cons_zero, List.set_cons_succ, i64_w, i32_w]
            rfl
           refine pure_ (i := 18) (N := some 31) (v := ?_) (a' := ?_) #[true, true, true, true, true, true, true, true, true, true, true, true, true, true, true, true, true, true, true, false, false, false, false, false, false, false, false, false, false, false, false, false, false, false, false, false] rfl rfl (any_of HT_.out (by kernel_rfl)) (fun _ _ _ h => h) (Or.inl ⟨by rfl, ?_⟩) ?_ ?_
           rotate_left
           ·intro w'
            go_simp
            with_reducible rfl
           rotate_left
           ·simp only [Act.put, List.setIfInBounds_toArray, List.set_cons_zero, List.set_cons_succ, i64_w, i32_w]
            rfl
           refine pure_ (i := 19) (N := some 32) (v := ?_) (a' := ?_) #[true, true, true, true, true, true, true, true, true, true, true, true, true, true, true, true, true, true, true, true, false, false, false, false, false, false, false, false, false, false, false, false, false, false, false, false] rfl rfl (any_of HT_.out (by kernel_rfl)) (fun _ _ _ h => h) (Or.inl ⟨by rfl, ?_⟩) ?_ ?_
           rotate_left
           ·intro w'
            go_simp
            with_reducible rfl
           rotate_left
           ·simp only [Act.put, List.setIfInBounds_toArray, List.set_cons_zero, List.set_cons_succ, i64_w, i32_w]
            rfl
           refine pure_ (i := 20) (N := some 33) (v := ?_) (a' := ?_) #[true, true, true, true, true, true, true, true, true, true, true, true, true, true, true, true, true, true, true, true, true, false, false, false, false, false, false, false, false, false, false, false, false, false, false, false] rfl rfl (any_of HT_.out (by kernel_rfl)) (fun _ _ _ h => h) (Or.inl ⟨by rfl, ?_⟩) ?_ ?_
           rotate_left
           ·intro w'
            go_simp
            with_reducible rfl
           rotate_left
           ·simp only [Act.put, List.setIfInBounds_toArray, List.set_cons_zero, List.set_cons_succ, i64_w, i32_w]
            rfl
           refine pure_ (i := 21) (N := some 34) (v := ?_) (a' := ?_) #[true, true, true, true, true, true, true, true, true, true, true, true, true, true, true, true, true, true, true, true, true, true, false, false, false, false, false, false, false, false, false, false, false, false, false, false] rfl rfl (any_of HT_.out (by kernel_rfl)) (fun _ _ _ h => h) (Or.inl ⟨by rfl, ?_⟩) ?_ ?_
           rotate_left
           ·intro w'
            go_simp
            with_reducible rfl
           rotate_left
           ·simp only [Act.put, List.setIfInBounds_toArray, List.set_cons_zero, List.set_cons_succ, i64_w, i32_w]
            rfl
           refine pure_ (i := 23) (N := some 36) (v := ?_) (a' := ?_) #[true, true, true, true, true, true, true, true, true, true, true, true, true, true, true, true, true, true, true, true, true, true, false, true, false, false, false, false, false, false, false, false, false, false, false, false] rfl rfl (any_of HT_.out (by kernel_rfl)) (fun _ _ _ h => h) (Or.inl ⟨by rfl, ?_⟩) ?_ ?_
           rotate_left
           ·intro w'
            go_simp
            with_reducible rfl
           rotate_left
           ·simp only [Act.put, List.setIfInBounds_toArray, List.set_cons_zero, List.set_cons_succ, i64_w, i32_w]
            rfl
           refine pure_ (i := 24) (N := some 37) (v := ?_) (a' := ?_) #[true, true, true, true, true, true, true, true, true, true, true, true, true, true, true, true, true, true, true, true, true, true, false, true, true, false, false, false, false, false, false, false, false, false, false, false] rfl rfl (any_of HT_.out (by kernel_rfl)) (fun _ _ _ h => h) (Or.inl ⟨by rfl, ?_⟩) ?_ ?_
           rotate_left
           ·intro w'
            go_simp
            with_reducible rfl
           rotate_left
           ·simp only [Act.put, List.setIfInBounds_toArray, List.set_cons_zero, List.set_cons_succ, i64_w, i32_w]
            rfl
           refine pure_ (i := 27) (N := some 40) (v := ?_) (a' := ?_) #[true, true, true, true, true, true, true, true, true, true, true, true, true, true, true, true, true, true, true, true, true, true, false, true, true, false, false, true, false, false, false, false, false, false, false, false] rfl rfl (any_of HT_.out (by kernel_rfl)) (fun _ _ _ h => h) (Or.inl ⟨by rfl, ?_⟩) ?_ ?_
           rotate_left
           ·intro w'
            go_simp
            with_reducible rfl
           rotate_left
           ·simp only [Act.put, List.setIfInBounds_toArray, List.set_cons_zero, List.set_cons_succ, i64_w, i32_w]
            rfl
           refine pure_ (i := 29) (N := some 42) (v := ?_) (a' := ?_) #[true, true, true, true, true, true, true, true, true, true, true, true, true, true, true, true, true, true, true, true, true, true, false, true, true, false, false, true, false, true, false, false, false, false, false, false] rfl rfl (any_of HT_.out (by kernel_rfl)) (fun _ _ _ h => h) (Or.inl ⟨by rfl, ?_⟩) ?_ ?_
           rotate_left
           ·intro w'
            go_simp
            with_reducible rfl
           rotate_left
           ·simp only [Act.put, List.setIfInBounds_toArray, List.set_cons_zero, List.set_cons_succ, i64_w, i32_w]
            rfl
           refine take_ (i := 22) (N := some 35) (v := ?_) (a' := ?_) #[true, true, true, true, true, true, true, true, true, true, true, true, true, true, true, true, true, true, true, true, true, true, true, true, true, false, false, true, false, true, false, false, false, false, false, false] rfl rfl (take_ofW HT_.out HW_.out (by kernel_rfl)) (fun _ _ _ h => h) (Or.inl ⟨by rfl, ?_⟩) hHeld ?_ ?_
           rotate_left
           ·rintro w' ⟨s0, s1, s2, s3, s4, s5, s6, s7, s8, s9, s10, s11, s12, s13, s14, s15, s16, s17, s18, s19, s20, s21, s22, s23, s24⟩
            go_simp
            with_reducible rfl
           rotate_left
           ·simp only [Act.put, List.setIfInBounds_toArray, List.set_cons_zero, List.set_cons_succ, i64_w, i32_w]
            rfl
           refine pure_ (i := 25) (N := some 38) (v := ?_) (a' := ?_) #[true, true, true, true, true, true, true, true, true, true, true, true, true, true, true, true, true, true, true, true, true, true, true, true, true, true, false, true, false, true, false, false, false, false, false, false] rfl rfl (any_of HT_.out (by kernel_rfl)) (fun _ _ _ h => h) (Or.inl ⟨by rfl, ?_⟩) ?_ ?_
           rotate_left
           ·intro w'
            go_simp
            with_reducible rfl
           rotate_left
           ·simp only [Act.put, List.setIfInBounds_toArray, List.set_cons_zero, List.set_cons_succ, i64_w, i32_w]
            rfl
           refine take_ (i := 26) (N := some 39) (v := ?_) (a' := ?_) #[true, true, true, true, true, true, true, true, true, true, true, true, true, true, true, true, true, true, true, true, true, true, true, true, true, true, true, true, false, true, false, false, false, false, false, false] rfl rfl (take_ofW HT_.out HW_.out (by kernel_rfl)) (fun _ _ _ h => h) (Or.inl ⟨by rfl, ?_⟩) hHeld ?_ ?_
           rotate_left
           ·rintro w' ⟨s0, s1, s2, s3, s4, s5, s6, s7, s8, s9, s10, s11, s12, s13, s14, s15, s16, s17, s18, s19, s20, s21, s22, s23, s24⟩
            go_simp
            with_reducible rfl
           rotate_left
           ·simp only [Act.put, List.setIfInBounds_toArray, List.set_cons_zero, List.set_cons_succ, i64_w, i32_w]
            rfl
           refine take_ (i := 28) (N := some 41) (v := ?_) (a' := ?_) #[true, true, true, true, true, true, true, true, true, true, true, true, true, true, true, true, true, true, true, true, true, true, true, true, true, true, true, true, true, true, false, false, false, false, false, false] rfl rfl (take_ofW HT_.out HW_.out (by kernel_rfl)) (fun _ _ _ h => h) (Or.inl ⟨by rfl, ?_⟩) hHeld ?_ ?_
           rotate_left
           ·rintro w' ⟨s0, s1, s2, s3, s4, s5, s6, s7, s8, s9, s10, s11, s12, s13, s14, s15, s16, s17, s18, s19, s20, s21, s22, s23, s24⟩
            go_simp
            with_reducible rfl
           rotate_left
           ·simp only [Act.put, List.setIfInBounds_toArray, List.set_cons_zero, List.set_cons_succ, i64_w, i32_w]
            rfl
           refine pure_ (i := 30) (N := some 43) (v := ?_) (a' := ?_) #[true, true, true, true, true, true, true, true, true, true, true, true, true, true, true, true, true, true, true, true, true, true, true, true, true, true, true, true, true, true, true, false, false, false, false, false] rfl rfl (any_of HT_.out (by kernel_rfl)) (fun _ _ _ h => h) (Or.inl ⟨by rfl, ?_⟩) ?_ ?_
           rotate_left
           ·intro w'
            go_simp
            with_reducible rfl
           rotate_left
           ·simp only [Act.put, List.setIfInBounds_toArray, List.set_cons_zero, List.set_cons_succ, i64_w, i32_w]
            rfl
           refine take_ (i := 31) (N := some 44) (v := ?_) (a' := ?_) #[true, true, true, true, true, true, true, true, true, true, true, true, true, true, true, true, true, true, true, true, true, true, true, true, true, true, true, true, true, true, true, true, false, false, false, false] rfl rfl (take_ofW HT_.out HW_.out (by kernel_rfl)) (fun _ _ _ h => h) (Or.inl ⟨by rfl, ?_⟩) hHeld ?_ ?_
           rotate_left
           ·rintro w' ⟨s0, s1, s2, s3, s4, s5, s6, s7, s8, s9, s10, s11, s12, s13, s14, s15, s16, s17, s18, s19, s20, s21, s22, s23, s24⟩
            go_simp
            with_reducible rfl
           rotate_left
           ·simp only [Act.put, List.setIfInBounds_toArray, List.set_cons_zero, List.set_cons_succ, i64_w, i32_w]
            rfl
           refine one_ (i := 32) (N := some 45) #[true, true, true, true, true, true, true, true, true, true, true, true, true, true, true, true, true, true, true, true, true, true, true, true, true, true, true, true, true, true, true, true, true, false, false, false] rfl rfl (one_of HT_.out (by kernel_rfl)) (by decide) (fun K hK => ?_)
           refine goes_ Try.func33 (by kernel_rfl) rfl #[.agg #[.int .i64 ((rd_T49 l0_0 (ji13)).f0.f0.f0), .int .i64 ((rd_T49 l0_0 (ji13)).f0.f0.f1), .int .i64 ((rd_T49 l0_0 (ji13)).f0.f0.f2), .int .i64 ((rd_T49 l0_0 (ji13)).f0.f1), .int .i64 ((rd_T49 l0_0 (ji13)).f0.f2), .int .i64 ((rd_T49 l0_0 (ji13)).f1)], .agg #[.int .i64 ((rd_T49 l0_0 x5_1).f0.f0.f0), .int .i64 ((rd_T49 l0_0 x5_1).f0.f0.f1), .int .i64 ((rd_T49 l0_0 x5_1).f0.f0.f2), .int .i64 ((rd_T49 l0_0 x5_1).f0.f1), .int .i64 ((rd_T49 l0_0 x5_1).f0.f2), .int .i64 ((rd_T49 l0_0 x5_1).f1)]] (by rfl) rfl rfl (by (try simp only [List.map_toArray, List.map_cons, List.map_nil]); first | done | (simp only [hji13]; rfl) | rfl | (simp only [List.length_drop, List.length_take]; rfl)) ?_
           with_reducible refine (sizarref35_Before.calls ((rd_T49 l0_0 (ji13)).f0.f0.f0) ((rd_T49 l0_0 (ji13)).f0.f0.f1) ((rd_T49 l0_0 (ji13)).f0.f0.f2) ((rd_T49 l0_0 (ji13)).f0.f1) ((rd_T49 l0_0 (ji13)).f0.f2) ((rd_T49 l0_0 (ji13)).f1) ((rd_T49 l0_0 x5_1).f0.f0.f0) ((rd_T49 l0_0 x5_1).f0.f0.f1) ((rd_T49 l0_0 x5_1).f0.f0.f2) ((rd_T49 l0_0 x5_1).f0.f1) ((rd_T49 l0_0 x5_1).f0.f2) ((rd_T49 l0_0 x5_1).f1) true _ A16.out).mono ?_
           rintro e w20 ⟨rfl, hb⟩
           refine ⟨_, rfl, ?_⟩
           have n0_ := Aside0.mk (blk_below (g := gb272) (o := .cells #[.slice (some ad273) l0_0.length c0_0] 28 (0, 0)) (by (with_reducible repeat (first | refine blk_drewN ?_ _ | refine blk_drew ?_ | refine blk_alloc ?_ _)); exact BK272.out) hb)
           have n1_ := Aside0.mk (below_step (by repeat (first | (with_reducible first | exact HB.out | apply below_alloc | apply pw_below_drewN | apply below_drew1 | refine below_set ?_ GE272.out) | exact HB.out)) hb)
           clear BK272
           clear HB
           have BK272 := n0_
           have HB := n1_
           clear n0_ n1_
           (try clear hb)
           (try clear hb2)
           (try clear hk)
           (try clear hi)
           refine hK.out _ _ ⟨(blk_cell BK272.out 0).trans rfl, ((HB.out.cell (World.block_lt_of_cell? w _ hw273_0)).trans hw273_0), ((HB.out.cell (World.block_lt_of_cell? w _ hw273_1)).trans hw273_1), ((HB.out.cell (World.block_lt_of_cell? w _ hw273_2)).trans hw273_2), ((HB.out.cell (World.block_lt_of_cell? w _ hw273_3)).trans hw273_3), ((HB.out.cell (World.block_lt_of_cell? w _ hw273_4)).trans hw273_4), ((HB.out.cell (World.block_lt_of_cell? w _ hw273_5)).trans hw273_5), ((HB.out.cell (World.block_lt_of_cell? w _ hw274_0)).trans hw274_0), ((HB.out.cell (World.block_lt_of_cell? w _ hw274_1)).trans hw274_1), ((HB.out.cell (World.block_lt_of_cell? w _ hw274_2)).trans hw274_2), ((HB.out.cell (World.block_lt_of_cell? w _ hw274_3)).trans hw274_3), ((HB.out.cell (World.block_lt_of_cell? w _ hw274_4)).trans hw274_4), ((HB.out.cell (World.block_lt_of_cell? w _ hw274_5)).trans hw274_5), ((HB.out.cell (World.block_lt_of_cell? w _ hw275_0)).trans hw275_0), ((HB.out.cell (World.block_lt_of_cell? w _ hw275_1)).trans hw275_1), ((HB.out.cell (World.block_lt_of_cell? w _ hw275_2)).trans hw275_2), ((HB.out.cell (World.block_lt_of_cell? w _ hw275_3)).trans hw275_3), ((HB.out.cell (World.block_lt_of_cell? w _ hw275_4)).trans hw275_4), ((HB.out.cell (World.block_lt_of_cell? w _ hw275_5)).trans hw275_5), ((HB.out.cell (World.block_lt_of_cell? w _ hw276_0)).trans hw276_0), ((HB.out.cell (World.block_lt_of_cell? w _ hw276_1)).trans hw276_1), ((HB.out.cell (World.block_lt_of_cell? w _ hw276_2)).trans hw276_2), ((HB.out.cell (World.block_lt_of_cell? w _ hw276_3)).trans hw276_3), ((HB.out.cell (World.block_lt_of_cell? w _ hw276_4)).trans hw276_4), ((HB.out.cell (World.block_lt_of_cell? w _ hw276_5)).trans hw276_5)⟩ (fun hHeld => ?_)
           clear hK K
           refine norm_ (a' := ?_) ?_ ?_
           rotate_left
           ·show Act.put _ (some 45) _ = _
            simp only [Act.put, List.setIfInBounds_toArray, List.set_cons_zero, List.set_cons_succ, i64_w, i32_w]
            rfl
           refine pure_ (i := 33) (N := some 46) (v := ?_) (a' := ?_) #[true, true, true, true, true, true, true, true, true, true, true, true, true, true, true, true, true, true, true, true, true, true, true, true, true, true, true, true, true, true, true, true, true, true, false, false] rfl rfl (any_of HT_.out (by kernel_rfl)) (fun _ _ _ h => h) (Or.inl ⟨by rfl, ?_⟩) ?_ ?_
           rotate_left
           ·intro w'
            go_simp
            with_reducible rfl
           rotate_left
           ·simp only [Act.put, List.setIfInBounds_toArray, List.set_cons_zero, List.set_cons_succ, i64_w, i32_w]
            rfl
           refine pure_ (i := 34) (N := some 47) (v := ?_) (a' := ?_) #[true, true, true, true, true, true, true, true, true, true, true, true, true, true, true, true, true, true, true, true, true, true, true, true, true, true, true, true, true, true, true, true, true, true, true, false] rfl rfl (any_of HT_.out (by kernel_rfl)) (fun _ _ _ h => h) (Or.inl ⟨by rfl, ?_⟩) ?_ ?_
           rotate_left
           ·intro w'
            go_simp
            with_reducible rfl
           rotate_left
           ·simp only [Act.put, List.setIfInBounds_toArray, List.set_cons_zero, List.set_cons_succ, i64_w, i32_w]
            rfl
           refine pure_ (i := 35) (N := some 48) (v := ?_) (a' := ?_) #[true, true, true, true, true, true, true, true, true, true, true, true, true, true, true, true, true, true, true, true, true, true, true, true, true, true, true, true, true, true, true, true, true, true, true, true] rfl rfl (any_of HT_.out (by kernel_rfl)) (fun _ _ _ h => h) (Or.inl ⟨by rfl, ?_⟩) ?_ ?_
           rotate_left
           ·intro w'
            go_simp
            with_reducible rfl
           rotate_left
           ·simp only [Act.put, List.setIfInBounds_toArray, List.set_cons_zero, List.set_cons_succ, i64_w, i32_w]
            rfl
           refine done_ (done_of HT_.out (by kernel_rfl)) ?_
           try go_wp2
           go_roundg k1
           case measure => have := HK1.out; omega
           case rel => exact ⟨(wrap64 (x5_1 + 1)), (by first | rfl | (simp; done) | (simp [*]; done)), H', ⟨by have := HK1.out; omega⟩, ⟨by (with_reducible repeat (first | refine blk_drewN ?_ _ | refine blk_drew ?_ | refine blk_alloc ?_ _)); exact BK272.out⟩, ⟨by repeat (first | (with_reducible first | exact HB.out | apply below_alloc | apply pw_below_drewN | apply below_drew1 | refine below_set ?_ GE272.out) | exact HB.out)⟩⟩
          ·replace c17 := Bool.eq_false_iff.mpr c17
           subst c17
           have H1 : (some 350) = some r := by rw [if_neg (show ¬ (false = true) by decide)] at H; exact H
           clear H
           have H := H1
           clear H1
           obtain rfl := Option.some.inj H
           have hcz21_0 : wr.cell? ⟨gb272, 0, none⟩ = some (.slice A0_0 l0_0.length c0_0) := (blk_cell BK272.out 0).trans rfl
           have hfz21_0 := blk_frozen BK272.out 0
           try go_wp2
           have n0_ := Aside0.mk (blk_drew BK272.out)
           have n1_ := Aside0.mk (below_drew1 HB.out)
           clear BK272
           clear HB
           have BK272 := n0_
           have HB := n1_
           clear n0_ n1_
           have p273 : 0 ≤ (x5_1 : Int) := of_decide_eq_true (by first | (with_reducible assumption) | assumption)
           have q273 : x5_1 < (l0_0.length : Int) := of_decide_eq_true (by first | (with_reducible assumption) | assumption)
           obtain ⟨ad273, e273, hx273_0, hx273_1, hx273_2, hx273_3, hx273_4, hx273_5⟩ := at_T49 HR0_0.out x5_1 p273 q273
           have hw273_5 := hx273_5
           have hw273_4 := hx273_4
           have hw273_3 := hx273_3
           have hw273_2 := hx273_2
           have hw273_1 := hx273_1
           have hw273_0 := hx273_0
           cases e273
           replace hx273_0 := (HB.out.cell (World.block_lt_of_cell? w _ hx273_0)).trans hx273_0
           replace hx273_1 := (HB.out.cell (World.block_lt_of_cell? w _ hx273_1)).trans hx273_1
           replace hx273_2 := (HB.out.cell (World.block_lt_of_cell? w _ hx273_2)).trans hx273_2
           replace hx273_3 := (HB.out.cell (World.block_lt_of_cell? w _ hx273_3)).trans hx273_3
           replace hx273_4 := (HB.out.cell (World.block_lt_of_cell? w _ hx273_4)).trans hx273_4
           replace hx273_5 := (HB.out.cell (World.block_lt_of_cell? w _ hx273_5)).trans hx273_5
           replace p273 := eq_true p273
           replace q273 := eq_true q273
           have p274 : 0 ≤ (x5_1 : Int) := of_decide_eq_true (by first | (with_reducible assumption) | assumption)
           have q274 : x5_1 < (l0_0.length : Int) := of_decide_eq_true (by first | (with_reducible assumption) | assumption)
           obtain ⟨ad274, e274, hx274_0, hx274_1, hx274_2, hx274_3, hx274_4, hx274_5⟩ := at_T49 HR0_0.out x5_1 p274 q274
           have hw274_5 := hx274_5
           have hw274_4 := hx274_4
           have hw274_3 := hx274_3
           have hw274_2 := hx274_2
           have hw274_1 := hx274_1
           have hw274_0 := hx274_0
           obtain rfl : ad273 = ad274 := (by injection e274)
           replace hx274_0 := (HB.out.cell (World.block_lt_of_cell? w _ hx274_0)).trans hx274_0
           replace hx274_1 := (HB.out.cell (World.block_lt_of_cell? w _ hx274_1)).trans hx274_1
           replace hx274_2 := (HB.out.cell (World.block_lt_of_cell? w _ hx274_2)).trans hx274_2
           replace hx274_3 := (HB.out.cell (World.block_lt_of_cell? w _ hx274_3)).trans hx274_3
           replace hx274_4 := (HB.out.cell (World.block_lt_of_cell? w _ hx274_4)).trans hx274_4
           replace hx274_5 := (HB.out.cell (World.block_lt_of_cell? w _ hx274_5)).trans hx274_5
           replace p274 := eq_true p274
           replace q274 := eq_true q274
           have p275 : 0 ≤ ((ji13) : Int) := of_decide_eq_true (by first | (with_reducible assumption) | assumption)
           have q275 : (ji13) < (l0_0.length : Int) := of_decide_eq_true (by first | (with_reducible assumption) | assumption)
           obtain ⟨ad275, e275, hx275_0, hx275_1, hx275_2, hx275_3, hx275_4, hx275_5⟩ := at_T49 HR0_0.out (ji13) p275 q275
           have hw275_5 := hx275_5
           have hw275_4 := hx275_4
           have hw275_3 := hx275_3
           have hw275_2 := hx275_2
           have hw275_1 := hx275_1
           have hw275_0 := hx275_0
           obtain rfl : ad273 = ad275 := (by injection e275)
           replace hx275_0 := (HB.out.cell (World.block_lt_of_cell? w _ hx275_0)).trans hx275_0
           replace hx275_1 := (HB.out.cell (World.block_lt_of_cell? w _ hx275_1)).trans hx275_1
           replace hx275_2 := (HB.out.cell (World.block_lt_of_cell? w _ hx275_2)).trans hx275_2
           replace hx275_3 := (HB.out.cell (World.block_lt_of_cell? w _ hx275_3)).trans hx275_3
           replace hx275_4 := (HB.out.cell (World.block_lt_of_cell? w _ hx275_4)).trans hx275_4
           replace hx275_5 := (HB.out.cell (World.block_lt_of_cell? w _ hx275_5)).trans hx275_5
           replace p275 := eq_true p275
           replace q275 := eq_true q275
           have p276 : 0 ≤ (x5_1 : Int) := of_decide_eq_true (by first | (with_reducible assumption) | assumption)
           have q276 : x5_1 < (l0_0.length : Int) := of_decide_eq_true (by first | (with_reducible assumption) | assumption)
           obtain ⟨ad276, e276, hx276_0, hx276_1, hx276_2, hx276_3, hx276_4, hx276_5⟩ := at_T49 HR0_0.out x5_1 p276 q276
           have hw276_5 := hx276_5
           have hw276_4 := hx276_4
           have hw276_3 := hx276_3
           have hw276_2 := hx276_2
           have hw276_1 := hx276_1
           have hw276_0 := hx276_0
           obtain rfl : ad273 = ad276 := (by injection e276)
           replace hx276_0 := (HB.out.cell (World.block_lt_of_cell? w _ hx276_0)).trans hx276_0
           replace hx276_1 := (HB.out.cell (World.block_lt_of_cell? w _ hx276_1)).trans hx276_1
           replace hx276_2 := (HB.out.cell (World.block_lt_of_cell? w _ hx276_2)).trans hx276_2
           replace hx276_3 := (HB.out.cell (World.block_lt_of_cell? w _ hx276_3)).trans hx276_3
           replace hx276_4 := (HB.out.cell (World.block_lt_of_cell? w _ hx276_4)).trans hx276_4
           replace hx276_5 := (HB.out.cell (World.block_lt_of_cell? w _ hx276_5)).trans hx276_5
           replace p276 := eq_true p276
           replace q276 := eq_true q276
           refine start_ (n := 36) (S := fun w' => w'.cell? ⟨gb272, 0, none⟩ = some (.slice (some ad273) l0_0.length c0_0) ∧ w'.cell? (ad273.add ((x5_1).toNat * 6)) = some (.int .i64 ((rd_T49 l0_0 x5_1).f0.f0.f0)) ∧ w'.cell? ⟨(ad273.add ((x5_1).toNat * 6)).block, (ad273.add ((x5_1).toNat * 6)).off + 1, none⟩ = some (.int .i64 ((rd_T49 l0_0 x5_1).f0.f0.f1)) ∧ w'.cell? ⟨(ad273.add ((x5_1).toNat * 6)).block, (ad273.add ((x5_1).toNat * 6)).off + 2, none⟩ = some (.int .i64 ((rd_T49 l0_0 x5_1).f0.f0.f2)) ∧ w'.cell? ⟨(ad273.add ((x5_1).toNat * 6)).block, (ad273.add ((x5_1).toNat * 6)).off + 3, none⟩ = some (.int .i64 ((rd_T49 l0_0 x5_1).f0.f1)) ∧ w'.cell? ⟨(ad273.add ((x5_1).toNat * 6)).block, (ad273.add ((x5_1).toNat * 6)).off + 4, none⟩ = some (.int .i64 ((rd_T49 l0_0 x5_1).f0.f2)) ∧ w'.cell? ⟨(ad273.add ((x5_1).toNat * 6)).block, (ad273.add ((x5_1).toNat * 6)).off + 5, none⟩ = some (.int .i64 ((rd_T49 l0_0 x5_1).f1)) ∧ w'.cell? (ad273.add ((x5_1).toNat * 6)) = some (.int .i64 ((rd_T49 l0_0 x5_1).f0.f0.f0)) ∧ w'.cell? ⟨(ad273.add ((x5_1).toNat * 6)).block, (ad273.add ((x5_1).toNat * 6)).off + 1, none⟩ = some (.int .i64 ((rd_T49 l0_0 x5_1).f0.f0.f1)) ∧ w'.cell? ⟨(ad273.add ((x5_1).toNat * 6)).block, (ad273.add ((x5_1).toNat * 6)).off + 2, none⟩ = some (.int .i64 ((rd_T49 l0_0 x5_1).f0.f0.f2)) ∧ w'.cell? ⟨(ad273.add ((x5_1).toNat * 6)).block, (ad273.add ((x5_1).toNat * 6)).off + 3, none⟩ = some (.int .i64 ((rd_T49 l0_0 x5_1).f0.f1)) ∧ w'.cell? ⟨(ad273.add ((x5_1).toNat * 6)).block, (ad273.add ((x5_1).toNat * 6)).off + 4, none⟩ = some (.int .i64 ((rd_T49 l0_0 x5_1).f0.f2)) ∧ w'.cell? ⟨(ad273.add ((x5_1).toNat * 6)).block, (ad273.add ((x5_1).toNat * 6)).off + 5, none⟩ = some (.int .i64 ((rd_T49 l0_0 x5_1).f1)) ∧ w'.cell? (ad273.add (((ji13)).toNat * 6)) = some (.int .i64 ((rd_T49 l0_0 (ji13)).f0.f0.f0)) ∧ w'.cell? ⟨(ad273.add (((ji13)).toNat * 6)).block, (ad273.add (((ji13)).toNat * 6)).off + 1, none⟩ = some (.int .i64 ((rd_T49 l0_0 (ji13)).f0.f0.f1)) ∧ w'.cell? ⟨(ad273.add (((ji13)).toNat * 6)).block, (ad273.add (((ji13)).toNat * 6)).off + 2, none⟩ = some (.int .i64 ((rd_T49 l0_0 (ji13)).f0.f0.f2)) ∧ w'.cell? ⟨(ad273.add (((ji13)).toNat * 6)).block, (ad273.add (((ji13)).toNat * 6)).off + 3, none⟩ = some (.int .i64 ((rd_T49 l0_0 (ji13)).f0.f1)) ∧ w'.cell? ⟨(ad273.add (((ji13)).toNat * 6)).block, (ad273.add (((ji13)).toNat * 6)).off + 4, none⟩ = some (.int .i64 ((rd_T49 l0_0 (ji13)).f0.f2)) ∧ w'.cell? ⟨(ad273.add (((ji13)).toNat * 6)).block, (ad273.add (((ji13)).toNat * 6)).off + 5, none⟩ = some (.int .i64 ((rd_T49 l0_0 (ji13)).f1)) ∧ w'.cell? (ad273.add ((x5_1).toNat * 6)) = some (.int .i64 ((rd_T49 l0_0 x5_1).f0.f0.f0)) ∧ w'.cell? ⟨(ad273.add ((x5_1).toNat * 6)).block, (ad273.add ((x5_1).toNat * 6)).off + 1, none⟩ = some (.int .i64 ((rd_T49 l0_0 x5_1).f0.f0.f1)) ∧ w'.cell? ⟨(ad273.add ((x5_1).toNat * 6)).block, (ad273.add ((x5_1).toNat * 6)).off + 2, none⟩ = some (.int .i64 ((rd_T49 l0_0 x5_1).f0.f0.f2)) ∧ w'.cell? ⟨(ad273.add ((x5_1).toNat * 6)).block, (ad273.add ((x5_1).toNat * 6)).off + 3, none⟩ = some (.int .i64 ((rd_T49 l0_0 x5_1).f0.f1)) ∧ w'.cell? ⟨(ad273.add ((x5_1).toNat * 6)).block, (ad273.add ((x5_1).toNat * 6)).off + 4, none⟩ = some (.int .i64 ((rd_T49 l0_0 x5_1).f0.f2)) ∧ w'.cell? ⟨(ad273.add ((x5_1).toNat * 6)).block, (ad273.add ((x5_1).toNat * 6)).off + 5, none⟩ = some (.int .i64 ((rd_T49 l0_0 x5_1).f1))) (ds := []) #[false, false, false, false, false, false, false, false, false, false, false, false, false, false, false, false, false, false, false, false, false, false, false, false, false, false, false, false, false, false, false, false, false, false, false, false] (by kernel_rfl) rfl rfl ⟨(blk_cell BK272.out 0).trans rfl, ((HB.out.cell (World.block_lt_of_cell? w _ hw273_0)).trans hw273_0), ((HB.out.cell (World.block_lt_of_cell? w _ hw273_1)).trans hw273_1), ((HB.out.cell (World.block_lt_of_cell? w _ hw273_2)).trans hw273_2), ((HB.out.cell (World.block_lt_of_cell? w _ hw273_3)).trans hw273_3), ((HB.out.cell (World.block_lt_of_cell? w _ hw273_4)).trans hw273_4), ((HB.out.cell (World.block_lt_of_cell? w _ hw273_5)).trans hw273_5), ((HB.out.cell (World.block_lt_of_cell? w _ hw274_0)).trans hw274_0), ((HB.out.cell (World.block_lt_of_cell? w _ hw274_1)).trans hw274_1), ((HB.out.cell (World.block_lt_of_cell? w _ hw274_2)).trans hw274_2), ((HB.out.cell (World.block_lt_of_cell? w _ hw274_3)).trans hw274_3), ((HB.out.cell (World.block_lt_of_cell? w _ hw274_4)).trans hw274_4), ((HB.out.cell (World.block_lt_of_cell? w _ hw274_5)).trans hw274_5), ((HB.out.cell (World.block_lt_of_cell? w _ hw275_0)).trans hw275_0), ((HB.out.cell (World.block_lt_of_cell? w _ hw275_1)).trans hw275_1), ((HB.out.cell (World.block_lt_of_cell? w _ hw275_2)).trans hw275_2), ((HB.out.cell (World.block_lt_of_cell? w _ hw275_3)).trans hw275_3), ((HB.out.cell (World.block_lt_of_cell? w _ hw275_4)).trans hw275_4), ((HB.out.cell (World.block_lt_of_cell? w _ hw275_5)).trans hw275_5), ((HB.out.cell (World.block_lt_of_cell? w _ hw276_0)).trans hw276_0), ((HB.out.cell (World.block_lt_of_cell? w _ hw276_1)).trans hw276_1), ((HB.out.cell (World.block_lt_of_cell? w _ hw276_2)).trans hw276_2), ((HB.out.cell (World.block_lt_of_cell? w _ hw276_3)).trans hw276_3), ((HB.out.cell (World.block_lt_of_cell? w _ hw276_4)).trans hw276_4), ((HB.out.cell (World.block_lt_of_cell? w _ hw276_5)).trans hw276_5)⟩ (fun hHeld => ?_); refine with_tabW sizarref35_Check.tab4 sizarref35_Check.bits4 (fun HT_ HW_ => ?_)
           generalize wr.drew = w22 at BK272 HB hx273_0 hx273_1 hx273_2 hx273_3 hx273_4 hx273_5 hx274_0 hx274_1 hx274_2 hx274_3 hx274_4 hx274_5 hx275_0 hx275_1 hx275_2 hx275_3 hx275_4 hx275_5 hx276_0 hx276_1 hx276_2 hx276_3 hx276_4 hx276_5 hHeld ⊢
           refine pure_ (i := 0) (N := some 13) (v := ?_) (a' := ?_) #[true, false, false, false, false, false, false, false, false, false, false, false, false, false, false, false, false, false, false, false, false, false, false, false, false, false, false, false, false, false, false, false, false, false, false, false] rfl rfl (any_of HT_.out (by kernel_rfl)) (fun _ _ _ h => h) (Or.inl ⟨by rfl, ?_⟩) ?_ ?_
           rotate_left
           ·intro w'
            go_simp
            with_reducible rfl
           rotate_left
           ·simp only [Act.put, List.setIfInBounds_toArray, List.set_cons_zero, List.set_cons_succ, i64_w, i32_w]
            rfl
           refine pure_ (i := 2) (N := some 15) (v := ?_) (a' := ?_) #[true, false, true, false, false, false, false, false, false, false, false, false, false, false, false, false, false, false, false, false, false, false, false, false, false, false, false, false, false, false, false, false, false, false, false, false] rfl rfl (any_of HT_.out (by kernel_rfl)) (fun _ _ _ h => h) (Or.inl ⟨by rfl, ?_⟩) ?_ ?_
           rotate_left
           ·intro w'
            go_simp
            with_reducible rfl
           rotate_left
           ·simp only [Act.put, List.setIfInBounds_toArray, List.set_cons_zero, List.set_cons_succ, i64_w, i32_w]
            rfl
           refine take_ (i := 1) (N := some 14) (v := ?_) (a' := ?_) #[true, true, true, false, false, false, false, false, false, false, false, false, false, false, false, false, false, false, false, false, false, false, false, false, false, false, false, false, false, false, false, false, false, false, false, false] rfl rfl (take_ofW HT_.out HW_.out (by kernel_rfl)) (fun _ _ _ h => h) (Or.inl ⟨by rfl, ?_⟩) hHeld ?_ ?_
           rotate_left
           ·rintro w' ⟨s0, s1, s2, s3, s4, s5, s6, s7, s8, s9, s10, s11, s12, s13, s14, s15, s16, s17, s18, s19, s20, s21, s22, s23, s24⟩
            go_simp
            with_reducible rfl
           rotate_left
           ·simp only [Act.put, List.setIfInBounds_toArray, List.set_cons_zero, List.set_cons_succ, i64_w, i32_w]
            rfl
           refine pure_ (i := 3) (N := some 16) (v := ?_) (a' := ?_) #[true, true, true, true, false, false, false, false, false, false, false, false, false, false, false, false, false, false, false, false, false, false, false, false, false, false, false, false, false, false, false, false, false, false, false, false] rfl rfl (any_of HT_.out (by kernel_rfl)) (fun _ _ _ h => h) (Or.inl ⟨by rfl, ?_⟩) ?_ ?_
           rotate_left
           ·intro w'
            go_simp
            with_reducible rfl
           rotate_left
           ·simp only [Act.put, List.setIfInBounds_toArray, List.set_cons_zero, List.set_cons_succ, i64_w, i32_w]
            rfl
           refine pure_ (i := 4) (N := some 17) (v := ?_) (a' := ?_) #[true, true, true, true, true, false, false, false, false, false, false, false, false, false, false, false, false, false, false, false, false, false, false, false, false, false, false, false, false, false, false, false, false, false, false, false] rfl rfl (any_of HT_.out (by kernel_rfl)) (fun _ _ _ h => h) (Or.inl ⟨by rfl, ?_⟩) ?_ ?_
           rotate_left
           ·intro w'
            go_simp
            with_reducible rfl
           rotate_left
           ·simp only [Act.put, List.setIfInBounds_toArray, List.set_cons_zero, List.set_cons_succ, i64_w, i32_w]
            rfl
           refine take_ (i := 5) (N := some 18) (v := ?_) (a' := ?_) #[true, true, true, true, true, true, false, false, false, false, false, false, false, false, false, false, false, false, false, false, false, false, false, false, false, false, false, false, false, false, false, false, false, false, false, false] rfl rfl (take_ofW HT_.out HW_.out (by kernel_rfl)) (fun _ _ _ h => h) (Or.inl ⟨by rfl, ?_⟩) hHeld ?_ ?_
           rotate_left
           ·rintro w' ⟨s0, s1, s2, s3, s4, s5, s6, s7, s8, s9, s10, s11, s12, s13, s14, s15, s16, s17, s18, s19, s20, s21, s22, s23, s24⟩
            go_simp
            with_reducible rfl
           rotate_left
           ·simp only [Act.put, List.setIfInBounds_toArray, List.set_cons_zero, List.set_cons_succ, i64_w, i32_w]
            rfl
           refine pure_ (i := 6) (N := some 19) (v := ?_) (a' := ?_) #[true, true, true, true, true, true, true, false, false, false, false, false, false, false, false, false, false, false, false, false, false, false, false, false, false, false, false, false, false, false, false, false, false, false, false, false] rfl rfl (any_of HT_.out (by kernel_rfl)) (fun _ _ _ h => h) (Or.inl ⟨by rfl, ?_⟩) ?_ ?_
           rotate_left
           ·intro w'
            go_simp
            with_reducible rfl
           rotate_left
           ·simp only [Act.put, List.setIfInBounds_toArray, List.set_cons_zero, List.set_cons_succ, i64_w, i32_w]
            rfl
           refine pure_ (i := 7) (N := some 20) (v := ?_) (a' := ?_) #[true, true, true, true, true, true, true, true, false, false, false, false, false, false, false, false, false, false, false, false, false, false, false, false, false, false, false, false, false, false, false, false, false, false, false, false] rfl rfl (any_of HT_.out (by kernel_rfl)) (fun _ _ _ h => h) (Or.inl ⟨by rfl, ?_⟩) ?_ ?_
           rotate_left
           ·intro w'
            go_simp
            with_reducible rfl
           rotate_left
           ·simp only [Act.put, List.setIfInBounds_toArray, List.set_cons_zero, List.set_cons_succ, i64_w, i32_w]
            rfl
           refine pure_ (i := 8) (N := some 21) (v := ?_) (a' := ?_) #[true, true, true, true, true, true, true, true, true, false, false, false, false, false, false, false, false, false, false, false, false, false, false, false, false, false, false, false, false, false, false, false, false, false, false, false] rfl rfl (any_of HT_.out (by kernel_rfl)) (fun _ _ _ h => h) (Or.inl ⟨by rfl, ?_⟩) ?_ ?_
           rotate_left
           ·intro w'
            go_simp
            with_reducible rfl
           rotate_left
           ·simp only [Act.put, List.setIfInBounds_toArray, List.set_cons_zero, List.set_cons_succ, i64_w, i32_w]
            rfl
           refine pure_ (i := 10) (N := some 23) (v := ?_) (a' := ?_) #[true, true, true, true, true, true, true, true, true, false, true, false, false, false, false, false, false, false, false, false, false, false, false, false, false, false, false, false, false, false, false, false, false, false, false, false] rfl rfl (any_of HT_.out (by kernel_rfl)) (fun _ _ _ h => h) (Or.inl ⟨by rfl, ?_⟩) ?_ ?_
           rotate_left
           ·intro w'
            go_simp
            with_reducible rfl
           rotate_left
           ·simp only [Act.put, List.setIfInBounds_toArray, List.set_cons_zero, List.set_cons_succ, i64_w, i32_w]
            rfl
           refine pure_ (i := 14) (N := some 27) (v := ?_) (a' := ?_) #[true, true, true, true, true, true, true, true, true, false, true, false, false, false, true, false, false, false, false, false, false, false, false, false, false, false, false, false, false, false, false, false, false, false, false, false] rfl rfl (any_of HT_.out (by kernel_rfl)) (fun _ _ _ h => h) (Or.inl ⟨by rfl, ?_⟩) ?_ ?_
           rotate_left
           ·intro w'
            go_simp
            with_reducible rfl
           rotate_left
           ·simp only [Act.put, List.setIfInBounds_toArray, List.set_cons_zero, List.set_cons_succ, i64_w, i32_w]
            rfl
           refine take_ (i := 9) (N := some 22) (v := ?_) (a' := ?_) #[true, true, true, true, true, true, true, true, true, true, true, false, false, false, true, false, false, false, false, false, false, false, false, false, false, false, false, false, false, false, false, false, false, false, false, false] rfl rfl (take_ofW HT_.out HW_.out (by kernel_rfl)) (fun _ _ _ h => h) (Or.inl ⟨by rfl, ?_⟩) hHeld ?_ ?_
           rotate_left
           ·rintro w' ⟨s0, s1, s2, s3, s4, s5, s6, s7, s8, s9, s10, s11, s12, s13, s14, s15, s16, s17, s18, s19, s20, s21, s22, s23, s24⟩
            go_simp
            with_reducible rfl
           rotate_left
           ·simp only [Act.put, List.setIfInBounds_toArray, List.set_cons_zero, List.set_cons_succ, i64_w, i32_w]
            rfl
           refine pure_ (i := 11) (N := some 24) (v := ?_) (a' := ?_) #[true, true, true, true, true, true, true, true, true, true, true, true, false, false, true, false, false, false, false, false, false, false, false, false, false, false, false, false, false, false, false, false, false, false, false, false] rfl rfl (any_of HT_.out (by kernel_rfl)) (fun _ _ _ h => h) (Or.inl ⟨by rfl, ?_⟩) ?_ ?_
           rotate_left
           ·intro w'
            go_simp
            with_reducible rfl
           rotate_left
           ·simp only [Act.put, List.setIfInBounds_toArray, List.set_cons_zero, List.set_cons_succ, i64_w, i32_w]
            rfl
           refine pure_ (i := 12) (N := some 25) (v := ?_) (a' := ?_) #[true, true, true, true, true, true, true, true, true, true, true, true, true, false, true, false, false, false, false, false, false, false, false, false, false, false, false, false, false, false, false, false, false, false, false, false] rfl rfl (any_of HT_.out (by kernel_rfl)) (fun _ _ _ h => h) (Or.inl ⟨by rfl, ?_⟩) ?_ ?_
           rotate_left
           ·intro w'
            go_simp
            with_reducible rfl
           rotate_left
           ·simp only [Act.put, List.setIfInBounds_toArray, List.set_cons_zero, List.set_cons_succ, i64_w, i32_w]
            rfl
           refine take_ (i := 13) (N := some 26) (v := ?_) (a' := ?_) #[true, true, true, true, true, true, true, true, true, true, true, true, true, true, true, false, false, false, false, false, false, false, false, false, false, false, false, false, false, false, false, false, false, false, false, false] rfl rfl (take_ofW HT_.out HW_.out (by kernel_rfl)) (fun _ _ _ h => h) (Or.inl ⟨by rfl, ?_⟩) hHeld ?_ ?_
           rotate_left
           ·rintro w' ⟨s0, s1, s2, s3, s4, s5, s6, s7, s8, s9, s10, s11, s12, s13, s14, s15, s16, s17, s18, s19, s20, s21, s22, s23, s24⟩
            go_simp
            with_reducible rfl
           rotate_left
           ·simp only [Act.put, List.setIfInBounds_toArray, List.set_cons_zero, List.set_cons_succ, i64_w, i32_w]
            rfl
           refine pure_ (i := 15) (N := some 28) (v := ?_) (a' := ?_) #[true, true, true, true, true, true, true, true, true, true, true, true, true, true, true, true, false, false, false, false, false, false, false, false, false, false, false, false, false, false, false, false, false, false, false, false] rfl rfl (any_of HT_.out (by kernel_rfl)) (fun _ _ _ h => h) (Or.inl ⟨by rfl, ?_⟩) ?_ ?_
           rotate_left
           ·intro w'
            go_simp
            with_reducible rfl
           rotate_left
           ·simp only [Act.put, List.setIfInBounds_toArray, List.set_cons_zero, List.set_cons_succ, i64_w, i32_w]
            rfl
           refine pure_ (i := 16) (N := some 29) (v := ?_) (a' := ?_) #[true, true, true, true, true, true, true, true, true, true, true, true, true, true, true, true, true, false, false, false, false, false, false, false, false, false, false, false, false, false, false, false, false, false, false, false] rfl rfl (any_of HT_.out (by kernel_rfl)) (fun _ _ _ h => h) (Or.inl ⟨by rfl, ?_⟩) ?_ ?_
           rotate_left
           ·intro w'
            go_simp
            with_reducible rfl
           rotate_left
           ·simp only [Act.put, List.setIfInBounds_toArray, List.set_cons_zero, List.set_cons_succ, i64_w, i32_w]
            rfl
           refine pure_ (i := 17) (N := some 30) (v := ?_) (a' := ?_) #[true, true, true, true, true, true, true, true, true, true, true, true, true, true, true, true, true, true, false, false, false, false, false, false, false, false, false, false, false, false, false, false, false, false, false, false] rfl rfl (any_of HT_.out (by kernel_rfl)) (fun _ _ _ h => h) (Or.inl ⟨by rfl, ?_⟩) ?_ ?_
           rotate_left
           ·intro w'
            go_simp
            with_reducible rfl
           rotate_left
           ·simp only [Act.put, List.setIfInBounds_toArray, List.set_cons_zero, List.set_cons_succ, i64_w, i32_w]
            rfl
           refine pure_ (i := 18) (N := some 31) (v := ?_) (a' := ?_) #[true, true, true, true, true, true, true, true, true, true, true, true, true, true, true, true, true, true, true, false, false, false, false, false, false, false, false, false, false, false, false, false, false, false, false, false] rfl rfl (any_of HT_.out (by kernel_rfl)) (fun _ _ _ h => h) (Or.inl ⟨by rfl, ?_⟩) ?_ ?_
           rotate_left
           ·intro w'
            go_simp
            with_reducible rfl
           rotate_left
           ·simp only [Act.put, List.setIfInBounds_toArray, List.set_cons_zero, List.set_cons_succ, i64_w, i32_w]
            rfl
           refine pure_ (i := 19) (N := some 32) (v := ?_) (a' := ?_) #[true, true, true, true, true, true, true, true, true, true, true, true, true, true, true, true, true, true, true, true, false, false, false, false, false, false, false, false, false, false, false, false, false, false, false, false] rfl rfl (any_of HT_.out (by kernel_rfl)) (fun _ _ _ h => h) (Or.inl ⟨by rfl, ?_⟩) ?_ ?_
           rotate_left
           ·intro w'
            go_simp
            with_reducible rfl
           rotate_left
           ·simp only [Act.put, List.setIfInBounds_toArray, List.set_cons_zero, List.set_cons_succ, i64_w, i32_w]
            rfl
           refine pure_ (i := 20) (N := some 33) (v := ?_) (a' := ?_) #[true, true, true, true, true, true, true, true, true, true, true, true, true, true, true, true, true, true, true, true, true, false, false, false, false, false, false, false, false, false, false, false, false, false, false, false] rfl rfl (any_of HT_.out (by kernel_rfl)) (fun _ _ _ h => h) (Or.inl ⟨by rfl, ?_⟩) ?_ ?_
           rotate_left
           ·intro w'
            go_simp
            with_reducible rfl
           rotate_left
           ·simp only [Act.put, List.setIfInBounds_toArray, List.set_cons_zero, List.set_cons_succ, i64_w, i32_w]
            rfl
           refine pure_ (i := 21) (N := some 34) (v := ?_) (a' := ?_) #[true, true, true, true, true, true, true, true, true, true, true, true, true, true, true, true, true, true, true, true, true, true, false, false, false, false, false, false, false, false, false, false, false, false, false, false] rfl rfl (any_of HT_.out (by kernel_rfl)) (fun _ _ _ h => h) (Or.inl ⟨by rfl, ?_⟩) ?_ ?_
           rotate_left
           ·intro w'
            go_simp
            with_reducible rfl
           rotate_left
           ·simp only [Act.put, List.setIfInBounds_toArray, List.set_cons_zero, List.set_cons_succ, i64_w, i32_w]
            rfl
           refine pure_ (i := 23) (N := some 36) (v := ?_) (a' := ?_) #[true, true, true, true, true, true, true, true, true, true, true, true, true, true, true, true, true, true, true, true, true, true, false, true, false, false, false, false, false, false, false, false, false, false, false, false] rfl rfl (any_of HT_.out (by kernel_rfl)) (fun _ _ _ h => h) (Or.inl ⟨by rfl, ?_⟩) ?_ ?_
           rotate_left
           ·intro w'
            go_simp
            with_reducible rfl
           rotate_left
           ·simp only [Act.put, List.setIfInBounds_toArray, List.set_cons_zero, List.set_cons_succ, i64_w, i32_w]
            rfl
           refine pure_ (i := 24) (N := some 37) (v := ?_) (a' := ?_) #[true, true, true, true, true, true, true, true, true, true, true, true, true, true, true, true, true, true, true, true, true, true, false, true, true, false, false, false, false, false, false, false, false, false, false, false] rfl rfl (any_of HT_.out (by kernel_rfl)) (fun _ _ _ h => h) (Or.inl ⟨by rfl, ?_⟩) ?_ ?_
           rotate_left
           ·intro w'
            go_simp
            with_reducible rfl
           rotate_left
           ·simp only [Act.put, List.setIfInBounds_toArray, List.set_cons_zero, List.set_cons_succ, i64_w, i32_w]
            rfl
           refine pure_ (i := 27) (N := some 40) (v := ?_) (a' := ?_) #[true, true, true, true, true, true, true, true, true, true, true, true, true, true, true, true, true, true, true, true, true, true, false, true, true, false, false, true, false, false, false, false, false, false, false, false] rfl rfl (any_of HT_.out (by kernel_rfl)) (fun _ _ _ h => h) (Or.inl ⟨by rfl, ?_⟩) ?_ ?_
           rotate_left
           ·intro w'
            go_simp
            with_reducible rfl
           rotate_left
           ·simp only [Act.put, List.setIfInBounds_toArray, List.set_cons_zero, List.set_cons_succ, i64_w, i32_w]
            rfl
           refine pure_ (i := 29) (N := some 42) (v := ?_) (a' := ?_) #[true, true, true, true, true, true, true, true, true, true, true, true, true, true, true, true, true, true, true, true, true, true, false, true, true, false, false, true, false, true, false, false, false, false, false, false] rfl rfl (any_of HT_.out (by kernel_rfl)) (fun _ _ _ h => h) (Or.inl ⟨by rfl, ?_⟩) ?_ ?_
           rotate_left
           ·intro w'
            go_simp
            with_reducible rfl
           rotate_left
           ·simp only [Act.put, List.setIfInBounds_toArray, List.set_cons_zero, List.set_cons_succ, i64_w, i32_w]
            rfl
           refine take_ (i := 22) (N := some 35) (v := ?_) (a' := ?_) #[true, true, true, true, true, true, true, true, true, true, true, true, true, true, true, true, true, true, true, true, true, true, true, true, true, false, false, true, false, true, false, false, false, false, false, false] rfl rfl (take_ofW HT_.out HW_.out (by kernel_rfl)) (fun _ _ _ h => h) (Or.inl ⟨by rfl, ?_⟩) hHeld ?_ ?_
           rotate_left
           ·rintro w' ⟨s0, s1, s2, s3, s4, s5, s6, s7, s8, s9, s10, s11, s12, s13, s14, s15, s16, s17, s18, s19, s20, s21, s22, s23, s24⟩
            go_simp
            with_reducible rfl
           rotate_left
           ·simp only [Act.put, List.setIfInBounds_toArray, List.set_cons_zero, List.set_cons_succ, i64_w, i32_w]
            rfl
           refine pure_ (i := 25) (N := some 38) (v := ?_) (a' := ?_) #[true, true, true, true, true, true, true, true, true, true, true, true, true, true, true, true, true, true, true, true, true, true, true, true, true, true, false, true, false, true, false, false, false, false, false, false] rfl rfl (any_of HT_.out (by kernel_rfl)) (fun _ _ _ h => h) (Or.inl ⟨by rfl, ?_⟩) ?_ ?_
           rotate_left
           ·intro w'
            go_simp
            with_reducible rfl
           rotate_left
           ·simp only [Act.put, List.setIfInBounds_toArray, List.set_cons_zero, List.set_cons_succ, i64_w, i32_w]
            rfl
           refine take_ (i := 26) (N := some 39) (v := ?_) (a' := ?_) #[true, true, true, true, true, true, true, true, true, true, true, true, true, true, true, true, true, true, true, true, true, true, true, true, true, true, true, true, false, true, false, false, false, false, false, false] rfl rfl (take_ofW HT_.out HW_.out (by kernel_rfl)) (fun _ _ _ h => h) (Or.inl ⟨by rfl, ?_⟩) hHeld ?_ ?_
           rotate_left
           ·rintro w' ⟨s0, s1, s2, s3, s4, s5, s6, s7, s8, s9, s10, s11, s12, s13, s14, s15, s16, s17, s18, s19, s20, s21, s22, s23, s24⟩
            go_simp
            with_reducible rfl
           rotate_left
           ·simp only [Act.put, List.setIfInBounds_toArray, List.set_cons_zero, List.set_cons_succ, i64_w, i32_w]
            rfl
           refine take_ (i := 28) (N := some 41) (v := ?_) (a' := ?_) #[true, true, true, true, true, true, true, true, true, true, true, true, true, true, true, true, true, true, true, true, true, true, true, true, true, true, true, true, true, true, false, false, false, false, false, false] rfl rfl (take_ofW HT_.out HW_.out (by kernel_rfl)) (fun _ _ _ h => h) (Or.inl ⟨by rfl, ?_⟩) hHeld ?_ ?_
           rotate_left
           ·rintro w' ⟨s0, s1, s2, s3, s4, s5, s6, s7, s8, s9, s10, s11, s12, s13, s14, s15, s16, s17, s18, s19, s20, s21, s22, s23, s24⟩
            go_simp
            with_reducible rfl
           rotate_left
           ·simp only [Act.put, List.setIfInBounds_toArray, List.set_cons_zero, List.set_cons_succ, i64_w, i32_w]
            rfl
           refine pure_ (i := 30) (N := some 43) (v := ?_) (a' := ?_) #[true, true, true, true, true, true, true, true, true, true, true, true, true, true, true, true, true, true, true, true, true, true, true, true, true, true, true, true, true, true, true, false, false, false, false, false] rfl rfl (any_of HT_.out (by kernel_rfl)) (fun _ _ _ h => h) (Or.inl ⟨by rfl, ?_⟩) ?_ ?_
           rotate_left
           ·intro w'
            go_simp
            with_reducible rfl
           rotate_left
           ·simp only [Act.put, List.setIfInBounds_toArray, List.set_cons_zero, List.set_cons_succ, i64_w, i32_w]
            rfl
           refine take_ (i := 31) (N := some 44) (v := ?_) (a' := ?_) #[true, true, true, true, true, true, true, true, true, true, true, true, true, true, true, true, true, true, true, true, true, true, true, true, true, true, true, true, true, true, true, true, false, false, false, false] rfl rfl (take_ofW HT_.out HW_.out (by kernel_rfl)) (fun _ _ _ h => h) (Or.inl ⟨by rfl, ?_⟩) hHeld ?_ ?_
           rotate_left
           ·rintro w' ⟨s0, s1, s2, s3, s4, s5, s6, s7, s8, s9, s10, s11, s12, s13, s14, s15, s16, s17, s18, s19, s20, s21, s22, s23, s24⟩
            go_simp
            with_reducible rfl
           rotate_left
           ·simp only [Act.put, List.setIfInBounds_toArray, List.set_cons_zero, List.set_cons_succ, i64_w, i32_w]
            rfl
           refine one_ (i := 32) (N := some 45) #[true, true, true, true, true, true, true, true, true, true, true, true, true, true, true, true, true, true, true, true, true, true, true, true, true, true, true, true, true, true, true, true, true, false, false, false] rfl rfl (one_of HT_.out (by kernel_rfl)) (by decide) (fun K hK => ?_)
           refine goes_ Try.func33 (by kernel_rfl) rfl #[.agg #[.int .i64 ((rd_T49 l0_0 (ji13)).f0.f0.f0), .int .i64 ((rd_T49 l0_0 (ji13)).f0.f0.f1), .int .i64 ((rd_T49 l0_0 (ji13)).f0.f0.f2), .int .i64 ((rd_T49 l0_0 (ji13)).f0.f1), .int .i64 ((rd_T49 l0_0 (ji13)).f0.f2), .int .i64 ((rd_T49 l0_0 (ji13)).f1)], .agg #[.int .i64 ((rd_T49 l0_0 x5_1).f0.f0.f0), .int .i64 ((rd_T49 l0_0 x5_1).f0.f0.f1), .int .i64 ((rd_T49 l0_0 x5_1).f0.f0.f2), .int .i64 ((rd_T49 l0_0 x5_1).f0.f1), .int .i64 ((rd_T49 l0_0 x5_1).f0.f2), .int .i64 ((rd_T49 l0_0 x5_1).f1)]] (by rfl) rfl rfl (by (try simp only [List.map_toArray, List.map_cons, List.map_nil]); first | done | (simp only [hji13]; rfl) | rfl | (simp only [List.length_drop, List.length_take]; rfl)) ?_
           with_reducible refine (sizarref35_Before.calls ((rd_T49 l0_0 (ji13)).f0.f0.f0) ((rd_T49 l0_0 (ji13)).f0.f0.f1) ((rd_T49 l0_0 (ji13)).f0.f0.f2) ((rd_T49 l0_0 (ji13)).f0.f1) ((rd_T49 l0_0 (ji13)).f0.f2) ((rd_T49 l0_0 (ji13)).f1) ((rd_T49 l0_0 x5_1).f0.f0.f0) ((rd_T49 l0_0 x5_1).f0.f0.f1) ((rd_T49 l0_0 x5_1).f0.f0.f2) ((rd_T49 l0_0 x5_1).f0.f1) ((rd_T49 l0_0 x5_1).f0.f2) ((rd_T49 l0_0 x5_1).f1) false _ A16.out).mono ?_
           rintro e w23 ⟨rfl, hb⟩
           refine ⟨_, rfl, ?_⟩
           have n0_ := Aside0.mk (blk_below (g := gb272) (o := .cells #[.slice (some ad273) l0_0.length c0_0] 28 (0, 0)) (by (with_reducible repeat (first | refine blk_drewN ?_ _ | refine blk_drew ?_ | refine blk_alloc ?_ _)); exact BK272.out) hb)
           have n1_ := Aside0.mk (below_step (by repeat (first | (with_reducible first | exact HB.out | apply below_alloc | apply pw_below_drewN | apply below_drew1 | refine below_set ?_ GE272.out) | exact HB.out)) hb)
           clear BK272
           clear HB
           have BK272 := n0_
           have HB := n1_
           clear n0_ n1_
           (try clear hb)
           (try clear hb2)
           (try clear hk)
           (try clear hi)
           refine hK.out _ _ ⟨(blk_cell BK272.out 0).trans rfl, ((HB.out.cell (World.block_lt_of_cell? w _ hw273_0)).trans hw273_0), ((HB.out.cell (World.block_lt_of_cell? w _ hw273_1)).trans hw273_1), ((HB.out.cell (World.block_lt_of_cell? w _ hw273_2)).trans hw273_2), ((HB.out.cell (World.block_lt_of_cell? w _ hw273_3)).trans hw273_3), ((HB.out.cell (World.block_lt_of_cell? w _ hw273_4)).trans hw273_4), ((HB.out.cell (World.block_lt_of_cell? w _ hw273_5)).trans hw273_5), ((HB.out.cell (World.block_lt_of_cell? w _ hw274_0)).trans hw274_0), ((HB.out.cell (World.block_lt_of_cell? w _ hw274_1)).trans hw274_1), ((HB.out.cell (World.block_lt_of_cell? w _ hw274_2)).trans hw274_2), ((HB.out.cell (World.block_lt_of_cell? w _ hw274_3)).trans hw274_3), ((HB.out.cell (World.block_lt_of_cell? w _ hw274_4)).trans hw274_4), ((HB.out.cell (World.block_lt_of_cell? w _ hw274_5)).trans hw274_5), ((HB.out.cell (World.block_lt_of_cell? w _ hw275_0)).trans hw275_0), ((HB.out.cell (World.block_lt_of_cell? w _ hw275_1)).trans hw275_1), ((HB.out.cell (World.block_lt_of_cell? w _ hw275_2)).trans hw275_2), ((HB.out.cell (World.block_lt_of_cell? w _ hw275_3)).trans hw275_3), ((HB.out.cell (World.block_lt_of_cell? w _ hw275_4)).trans hw275_4), ((HB.out.cell (World.block_lt_of_cell? w _ hw275_5)).trans hw275_5), ((HB.out.cell (World.block_lt_of_cell? w _ hw276_0)).trans hw276_0), ((HB.out.cell (World.block_lt_of_cell? w _ hw276_1)).trans hw276_1), ((HB.out.cell (World.block_lt_of_cell? w _ hw276_2)).trans hw276_2), ((HB.out.cell (World.block_lt_of_cell? w _ hw276_3)).trans hw276_3), ((HB.out.cell (World.block_lt_of_cell? w _ hw276_4)).trans hw276_4), ((HB.out.cell (World.block_lt_of_cell? w _ hw276_5)).trans hw276_5)⟩ (fun hHeld => ?_)
           clear hK K
           refine norm_ (a' := ?_) ?_ ?_
           rotate_left
           ·show Act.put _ (some 45) _ = _
            simp only [Act.put, List.setIfInBounds_toArray, List.set_cons_zero, List.set_cons_succ, i64_w, i32_w]
            rfl
           refine pure_ (i := 33) (N := some 46) (v := ?_) (a' := ?_) #[true, true, true, true, true, true, true, true, true, true, true, true, true, true, true, true, true, true, true, true, true, true, true, true, true, true, true, true, true, true, true, true, true, true, false, false] rfl rfl (any_of HT_.out (by kernel_rfl)) (fun _ _ _ h => h) (Or.inl ⟨by rfl, ?_⟩) ?_ ?_
           rotate_left
           ·intro w'
            go_simp
            with_reducible rfl
           rotate_left
           ·simp only [Act.put, List.setIfInBounds_toArray, List.set_cons_zero, List.set_cons_succ, i64_w, i32_w]
            rfl
           refine pure_ (i := 34) (N := some 47) (v := ?_) (a' := ?_) #[true, true, true, true, true, true, true, true, true, true, true, true, true, true, true, true, true, true, true, true, true, true, true, true, true, true, true, true, true, true, true, true, true, true, true, false] rfl rfl (any_of HT_.out (by kernel_rfl)) (fun _ _ _ h => h) (Or.inl ⟨by rfl, ?_⟩) ?_ ?_
           rotate_left
           ·intro w'
            go_simp
            with_reducible rfl
           rotate_left
           ·simp only [Act.put, List.setIfInBounds_toArray, List.set_cons_zero, List.set_cons_succ, i64_w, i32_w]
            rfl
           refine pure_ (i := 35) (N := some 48) (v := ?_) (a' := ?_) #[true, true, true, true, true, true, true, true, true, true, true, true, true, true, true, true, true, true, true, true, true, true, true, true, true, true, true, true, true, true, true, true, true, true, true, true] rfl rfl (any_of HT_.out (by kernel_rfl)) (fun _ _ _ h => h) (Or.inl ⟨by rfl, ?_⟩) ?_ ?_
           rotate_left
           ·intro w'
            go_simp
            with_reducible rfl
           rotate_left
           ·simp only [Act.put, List.setIfInBounds_toArray, List.set_cons_zero, List.set_cons_succ, i64_w, i32_w]
            rfl
           refine done_ (done_of HT_.out (by kernel_rfl)) ?_
           try go_wp2
           go_ret
           exact ⟨by first | rfl | (simp [errW_none, errW_some] <;> rfl) | (simp only [← hji13]; first | rfl | (simp [errW_none, errW_some] <;> rfl)) | (simp [*, errW_none, errW_some] <;> rfl), by repeat (first | (with_reducible first | exact HB.out | apply below_alloc | apply pw_below_drewN | apply below_drew1 | refine below_set ?_ GE272.out) | exact HB.out)⟩
         ·rw [if_neg c15] at H
          exact absurd H (by simp)
        ·rw [if_neg c14] at H
         exact absurd H (by simp)
       ·rw [if_neg c12] at H
        have c12b0 : decide (0 < x5_1) = false := decide_eq_false c12
        clear c12
        have H' := Aside0.mk H
        clear H
        have hcz24_0 : wr.cell? ⟨gb272, 0, none⟩ = some (.slice A0_0 l0_0.length c0_0) := (blk_cell BK272.out 0).trans rfl
        have hfz24_0 := blk_frozen BK272.out 0
        try go_wp2
        have n0_ := Aside0.mk (blk_drew BK272.out)
        have n1_ := Aside0.mk (below_drew1 HB.out)
        clear BK272
        clear HB
        have BK272 := n0_
        have HB := n1_
        clear n0_ n1_
        have p273 : 0 ≤ (x5_1 : Int) := of_decide_eq_true (by first | (with_reducible assumption) | assumption)
        have q273 : x5_1 < (l0_0.length : Int) := of_decide_eq_true (by first | (with_reducible assumption) | assumption)
        obtain ⟨ad273, e273, hx273_0, hx273_1, hx273_2, hx273_3, hx273_4, hx273_5⟩ := at_T49 HR0_0.out x5_1 p273 q273
        have hw273_5 := hx273_5
        have hw273_4 := hx273_4
        have hw273_3 := hx273_3
        have hw273_2 := hx273_2
        have hw273_1 := hx273_1
        have hw273_0 := hx273_0
        cases e273
        replace hx273_0 := (HB.out.cell (World.block_lt_of_cell? w _ hx273_0)).trans hx273_0
        replace hx273_1 := (HB.out.cell (World.block_lt_of_cell? w _ hx273_1)).trans hx273_1
        replace hx273_2 := (HB.out.cell (World.block_lt_of_cell? w _ hx273_2)).trans hx273_2
        replace hx273_3 := (HB.out.cell (World.block_lt_of_cell? w _ hx273_3)).trans hx273_3
        replace hx273_4 := (HB.out.cell (World.block_lt_of_cell? w _ hx273_4)).trans hx273_4
        replace hx273_5 := (HB.out.cell (World.block_lt_of_cell? w _ hx273_5)).trans hx273_5
        replace p273 := eq_true p273
        replace q273 := eq_true q273
        have p274 : 0 ≤ (x5_1 : Int) := of_decide_eq_true (by first | (with_reducible assumption) | assumption)
        have q274 : x5_1 < (l0_0.length : Int) := of_decide_eq_true (by first | (with_reducible assumption) | assumption)
        obtain ⟨ad274, e274, hx274_0, hx274_1, hx274_2, hx274_3, hx274_4, hx274_5⟩ := at_T49 HR0_0.out x5_1 p274 q274
        have hw274_5 := hx274_5
        have hw274_4 := hx274_4
        have hw274_3 := hx274_3
        have hw274_2 := hx274_2
        have hw274_1 := hx274_1
        have hw274_0 := hx274_0
        obtain rfl : ad273 = ad274 := (by injection e274)
        replace hx274_0 := (HB.out.cell (World.block_lt_of_cell? w _ hx274_0)).trans hx274_0
        replace hx274_1 := (HB.out.cell (World.block_lt_of_cell? w _ hx274_1)).trans hx274_1
        replace hx274_2 := (HB.out.cell (World.block_lt_of_cell? w _ hx274_2)).trans hx274_2
        replace hx274_3 := (HB.out.cell (World.block_lt_of_cell? w _ hx274_3)).trans hx274_3
        replace hx274_4 := (HB.out.cell (World.block_lt_of_cell? w _ hx274_4)).trans hx274_4
        replace hx274_5 := (HB.out.cell (World.block_lt_of_cell? w _ hx274_5)).trans hx274_5
        replace p274 := eq_true p274
        replace q274 := eq_true q274
        refine start_ (n := 36) (S := fun w' => w'.cell? ⟨gb272, 0, none⟩ = some (.slice (some ad273) l0_0.length c0_0) ∧ w'.cell? (ad273.add ((x5_1).toNat * 6)) = some (.int .i64 ((rd_T49 l0_0 x5_1).f0.f0.f0)) ∧ w'.cell? ⟨(ad273.add ((x5_1).toNat * 6)).block, (ad273.add ((x5_1).toNat * 6)).off + 1, none⟩ = some (.int .i64 ((rd_T49 l0_0 x5_1).f0.f0.f1)) ∧ w'.cell? ⟨(ad273.add ((x5_1).toNat * 6)).block, (ad273.add ((x5_1).toNat * 6)).off + 2, none⟩ = some (.int .i64 ((rd_T49 l0_0 x5_1).f0.f0.f2)) ∧ w'.cell? ⟨(ad273.add ((x5_1).toNat * 6)).block, (ad273.add ((x5_1).toNat * 6)).off + 3, none⟩ = some (.int .i64 ((rd_T49 l0_0 x5_1).f0.f1)) ∧ w'.cell? ⟨(ad273.add ((x5_1).toNat * 6)).block, (ad273.add ((x5_1).toNat * 6)).off + 4, none⟩ = some (.int .i64 ((rd_T49 l0_0 x5_1).f0.f2)) ∧ w'.cell? ⟨(ad273.add ((x5_1).toNat * 6)).block, (ad273.add ((x5_1).toNat * 6)).off + 5, none⟩ = some (.int .i64 ((rd_T49 l0_0 x5_1).f1)) ∧ w'.cell? (ad273.add ((x5_1).toNat * 6)) = some (.int .i64 ((rd_T49 l0_0 x5_1).f0.f0.f0)) ∧ w'.cell? ⟨(ad273.add ((x5_1).toNat * 6)).block, (ad273.add ((x5_1).toNat * 6)).off + 1, none⟩ = some (.int .i64 ((rd_T49 l0_0 x5_1).f0.f0.f1)) ∧ w'.cell? ⟨(ad273.add ((x5_1).toNat * 6)).block, (ad273.add ((x5_1).toNat * 6)).off + 2, none⟩ = some (.int .i64 ((rd_T49 l0_0 x5_1).f0.f0.f2)) ∧ w'.cell? ⟨(ad273.add ((x5_1).toNat * 6)).block, (ad273.add ((x5_1).toNat * 6)).off + 3, none⟩ = some (.int .i64 ((rd_T49 l0_0 x5_1).f0.f1)) ∧ w'.cell? ⟨(ad273.add ((x5_1).toNat * 6)).block, (ad273.add ((x5_1).toNat * 6)).off + 4, none⟩ = some (.int .i64 ((rd_T49 l0_0 x5_1).f0.f2)) ∧ w'.cell? ⟨(ad273.add ((x5_1).toNat * 6)).block, (ad273.add ((x5_1).toNat * 6)).off + 5, none⟩ = some (.int .i64 ((rd_T49 l0_0 x5_1).f1))) (ds := []) #[false, false, false, false, false, false, false, false, false, false, false, false, false, false, false, false, false, false, false, false, false, false, false, false, false, false, false, false, false, false, false, false, false, false, false, false] (by kernel_rfl) rfl rfl ⟨(blk_cell BK272.out 0).trans rfl, ((HB.out.cell (World.block_lt_of_cell? w _ hw273_0)).trans hw273_0), ((HB.out.cell (World.block_lt_of_cell? w _ hw273_1)).trans hw273_1), ((HB.out.cell (World.block_lt_of_cell? w _ hw273_2)).trans hw273_2), ((HB.out.cell (World.block_lt_of_cell? w _ hw273_3)).trans hw273_3), ((HB.out.cell (World.block_lt_of_cell? w _ hw273_4)).trans hw273_4), ((HB.out.cell (World.block_lt_of_cell? w _ hw273_5)).trans hw273_5), ((HB.out.cell (World.block_lt_of_cell? w _ hw274_0)).trans hw274_0), ((HB.out.cell (World.block_lt_of_cell? w _ hw274_1)).trans hw274_1), ((HB.out.cell (World.block_lt_of_cell? w _ hw274_2)).trans hw274_2), ((HB.out.cell (World.block_lt_of_cell? w _ hw274_3)).trans hw274_3), ((HB.out.cell (World.block_lt_of_cell? w _ hw274_4)).trans hw274_4), ((HB.out.cell (World.block_lt_of_cell? w _ hw274_5)).trans hw274_5)⟩ (fun hHeld => ?_); refine with_tabW sizarref35_Check.tab4 sizarref35_Check.bits4 (fun HT_ HW_ => ?_)
        generalize wr.drew = w25 at BK272 HB hx273_0 hx273_1 hx273_2 hx273_3 hx273_4 hx273_5 hx274_0 hx274_1 hx274_2 hx274_3 hx274_4 hx274_5 hHeld ⊢
        refine pure_ (i := 0) (N := some 13) (v := ?_) (a' := ?_) #[true, false, false, false, false, false, false, false, false, false, false, false, false, false, false, false, false, false, false, false, false, false, false, false, false, false, false, false, false, false, false, false, false, false, false, false] rfl rfl (any_of HT_.out (by kernel_rfl)) (fun _ _ _ h => h) (Or.inl ⟨by rfl, ?_⟩) ?_ ?_
        rotate_left
        ·intro w'
         go_simp
         with_reducible rfl
        rotate_left
        ·simp only [Act.put, List.setIfInBounds_toArray, List.set_cons_zero, List.set_cons_succ, i64_w, i32_w]
         rfl
        refine pure_ (i := 2) (N := some 15) (v := ?_) (a' := ?_) #[true, false, true, false, false, false, false, false, false, false, false, false, false, false, false, false, false, false, false, false, false, false, false, false, false, false, false, false, false, false, false, false, false, false, false, false] rfl rfl (any_of HT_.out (by kernel_rfl)) (fun _ _ _ h => h) (Or.inl ⟨by rfl, ?_⟩) ?_ ?_
        rotate_left
        ·intro w'
         go_simp
         with_reducible rfl
        rotate_left
        ·simp only [Act.put, List.setIfInBounds_toArray, List.set_cons_zero, List.set_cons_succ, i64_w, i32_w]
         rfl
        refine take_ (i := 1) (N := some 14) (v := ?_) (a' := ?_) #[true, true, true, false, false, false, false, false, false, false, false, false, false, false, false, false, false, false, false, false, false, false, false, false, false, false, false, false, false, false, false, false, false, false, false, false] rfl rfl (take_ofW HT_.out HW_.out (by kernel_rfl)) (fun _ _ _ h => h) (Or.inl ⟨by rfl, ?_⟩) hHeld ?_ ?_
        rotate_left
        ·rintro w' ⟨s0, s1, s2, s3, s4, s5, s6, s7, s8, s9, s10, s11, s12⟩
         go_simp
         with_reducible rfl
        rotate_left
        ·simp only [Act.put, List.setIfInBounds_toArray, List.set_cons_zero, List.set_cons_succ, i64_w, i32_w]
         rfl
        refine pure_ (i := 3) (N := some 16) (v := ?_) (a' := ?_) #[true, true, true, true, false, false, false, false, false, false, false, false, false, false, false, false, false, false, false, false, false, false, false, false, false, false, false, false, false, false, false, false, false, false, false, false] rfl rfl (any_of HT_.out (by kernel_rfl)) (fun _ _ _ h => h) (Or.inl ⟨by rfl, ?_⟩) ?_ ?_
        rotate_left
        ·intro w'
         go_simp
         with_reducible rfl
        rotate_left
        ·simp only [Act.put, List.setIfInBounds_toArray, List.set_cons_zero, List.set_cons_succ, i64_w, i32_w]
         rfl
        refine pure_ (i := 4) (N := some 17) (v := ?_) (a' := ?_) #[true, true, true, true, true, false, false, false, false, false, false, false, false, false, false, false, false, false, false, false, false, false, false, false, false, false, false, false, false, false, false, false, false, false, false, false] rfl rfl (any_of HT_.out (by kernel_rfl)) (fun _ _ _ h => h) (Or.inl ⟨by rfl, ?_⟩) ?_ ?_
        rotate_left
        ·intro w'
         go_simp
         with_reducible rfl
        rotate_left
        ·simp only [Act.put, List.setIfInBounds_toArray, List.set_cons_zero, List.set_cons_succ, i64_w, i32_w]
         rfl
        refine take_ (i := 5) (N := some 18) (v := ?_) (a' := ?_) #[true, true, true, true, true, true, false, false, false, false, false, false, false, false, false, false, false, false, false, false, false, false, false, false, false, false, false, false, false, false, false, false, false, false, false, false] rfl rfl (take_ofW HT_.out HW_.out (by kernel_rfl)) (fun _ _ _ h => h) (Or.inl ⟨by rfl, ?_⟩) hHeld ?_ ?_
        rotate_left
        ·rintro w' ⟨s0, s1, s2, s3, s4, s5, s6, s7, s8, s9, s10, s11, s12⟩
         go_simp
         with_reducible rfl
        rotate_left
        ·simp only [Act.put, List.setIfInBounds_toArray, List.set_cons_zero, List.set_cons_succ, i64_w, i32_w]
         rfl
        refine pure_ (i := 6) (N := some 19) (v := ?_) (a' := ?_) #[true, true, true, true, true, true, true, false, false, false, false, false, false, false, false, false, false, false, false, false, false, false, false, false, false, false, false, false, false, false, false, false, false, false, false, false] rfl rfl (any_of HT_.out (by kernel_rfl)) (fun _ _ _ h => h) (Or.inl ⟨by rfl, ?_⟩) ?_ ?_
        rotate_left
        ·intro w'
         go_simp
         with_reducible rfl
        rotate_left
        ·simp only [Act.put, List.setIfInBounds_toArray, List.set_cons_zero, List.set_cons_succ, i64_w, i32_w]
         rfl
        refine pure_ (i := 7) (N := some 20) (v := ?_) (a' := ?_) #[true, true, true, true, true, true, true, true, false, false, false, false, false, false, false, false, false, false, false, false, false, false, false, false, false, false, false, false, false, false, false, false, false, false, false, false] rfl rfl (any_of HT_.out (by kernel_rfl)) (fun _ _ _ h => h) (Or.inl ⟨by rfl, ?_⟩) ?_ ?_
        rotate_left
        ·intro w'
         go_simp
         with_reducible rfl
        rotate_left
        ·simp only [Act.put, List.setIfInBounds_toArray, List.set_cons_zero, List.set_cons_succ, i64_w, i32_w]
         rfl
        refine pure_ (i := 8) (N := some 21) (v := ?_) (a' := ?_) #[true, true, true, true, true, true, true, true, true, false, false, false, false, false, false, false, false, false, false, false, false, false, false, false, false, false, false, false, false, false, false, false, false, false, false, false] rfl rfl (any_of HT_.out (by kernel_rfl)) (fun _ _ _ h => h) (Or.inl ⟨by rfl, ?_⟩) ?_ ?_
        rotate_left
        ·intro w'
         go_simp
         with_reducible rfl
        rotate_left
        ·simp only [Act.put, List.setIfInBounds_toArray, List.set_cons_zero, List.set_cons_succ, i64_w, i32_w]
         rfl
        refine pure_ (i := 10) (N := some 23) (v := ?_) (a' := ?_) #[true, true, true, true, true, true, true, true, true, false, true, false, false, false, false, false, false, false, false, false, false, false, false, false, false, false, false, false, false, false, false, false, false, false, false, false] rfl rfl (any_of HT_.out (by kernel_rfl)) (fun _ _ _ h => h) (Or.inl ⟨by rfl, ?_⟩) ?_ ?_
        rotate_left
        ·intro w'
         go_simp
         with_reducible rfl
        rotate_left
        ·simp only [Act.put, List.setIfInBounds_toArray, List.set_cons_zero, List.set_cons_succ, i64_w, i32_w]
         rfl
        refine pure_ (i := 14) (N := some 27) (v := ?_) (a' := ?_) #[true, true, true, true, true, true, true, true, true, false, true, false, false, false, true, false, false, false, false, false, false, false, false, false, false, false, false, false, false, false, false, false, false, false, false, false] rfl rfl (any_of HT_.out (by kernel_rfl)) (fun _ _ _ h => h) (Or.inl ⟨by rfl, ?_⟩) ?_ ?_
        rotate_left
        ·intro w'
         go_simp
         with_reducible rfl
        rotate_left
        ·simp only [Act.put, List.setIfInBounds_toArray, List.set_cons_zero, List.set_cons_succ, i64_w, i32_w]
         rfl
        refine take_ (i := 9) (N := some 22) (v := ?_) (a' := ?_) #[true, true, true, true, true, true, true, true, true, true, true, false, false, false, true, false, false, false, false, false, false, false, false, false, false, false, false, false, false, false, false, false, false, false, false, false] rfl rfl (take_ofW HT_.out HW_.out (by kernel_rfl)) (fun _ _ _ h => h) (Or.inl ⟨by rfl, ?_⟩) hHeld ?_ ?_
        rotate_left
        ·rintro w' ⟨s0, s1, s2, s3, s4, s5, s6, s7, s8, s9, s10, s11, s12⟩
         go_simp
         with_reducible rfl
        rotate_left
        ·simp only [Act.put, List.setIfInBounds_toArray, List.set_cons_zero, List.set_cons_succ, i64_w, i32_w]
         rfl
        refine pure_ (i := 11) (N := some 24) (v := ?_) (a' := ?_) #[true, true, true, true, true, true, true, true, true, true, true, true, false, false, true, false, false, false, false, false, false, false, false, false, false, false, false, false, false, false, false, false, false, false, false, false] rfl rfl (any_of HT_.out (by kernel_rfl)) (fun _ _ _ h => h) (Or.inl ⟨by rfl, ?_⟩) ?_ ?_
        rotate_left
        ·intro w'
         go_simp
         with_reducible rfl
        rotate_left
        ·simp only [Act.put, List.setIfInBounds_toArray, List.set_cons_zero, List.set_cons_succ, i64_w, i32_w]
         rfl
        refine pure_ (i := 12) (N := some 25) (v := ?_) (a' := ?_) #[true, true, true, true, true, true, true, true, true, true, true, true, true, false, true, false, false, false, false, false, false, false, false, false, false, false, false, false, false, false, false, false, false, false, false, false] rfl rfl (any_of HT_.out (by kernel_rfl)) (fun _ _ _ h => h) (Or.inl ⟨by rfl, ?_⟩) ?_ ?_
        rotate_left
        ·intro w'
         go_simp
         with_reducible rfl
        rotate_left
        ·simp only [Act.put, List.setIfInBounds_toArray, List.set_cons_zero, List.set_cons_succ, i64_w, i32_w]
         rfl
        refine take_ (i := 13) (N := some 26) (v := ?_) (a' := ?_) #[true, true, true, true, true, true, true, true, true, true, true, true, true, true, true, false, false, false, false, false, false, false, false, false, false, false, false, false, false, false, false, false, false, false, false, false] rfl rfl (take_ofW HT_.out HW_.out (by kernel_rfl)) (fun _ _ _ h => h) (Or.inl ⟨by rfl, ?_⟩) hHeld ?_ ?_
        rotate_left
        ·rintro w' ⟨s0, s1, s2, s3, s4, s5, s6, s7, s8, s9, s10, s11, s12⟩
         go_simp
         with_reducible rfl
        rotate_left
        ·simp only [Act.put, List.setIfInBounds_toArray, List.set_cons_zero, List.set_cons_succ, i64_w, i32_w]
         rfl
        refine pure_ (i := 15) (N := some 28) (v := ?_) (a' := ?_) #[true, true, true, true, true, true, true, true, true, true, true, true, true, true, true, true, false, false, false, false, false, false, false, false, false, false, false, false, false, false, false, false, false, false, false, false] rfl rfl (any_of HT_.out (by kernel_rfl)) (fun _ _ _ h => h) (Or.inl ⟨by rfl, ?_⟩) ?_ ?_
        rotate_left
        ·intro w'
         go_simp
         with_reducible rfl
        rotate_left
        ·simp only [Act.put, List.setIfInBounds_toArray, List.set_cons_zero, List.set_cons_succ, i64_w, i32_w]
         rfl
        refine pure_ (i := 16) (N := some 29) (v := ?_) (a' := ?_) #[true, true, true, true, true, true, true, true, true, true, true, true, true, true, true, true, true, false, false, false, false, false, false, false, false, false, false, false, false, false, false, false, false, false, false, false] rfl rfl (any_of HT_.out (by kernel_rfl)) (fun _ _ _ h => h) (Or.inl ⟨by rfl, ?_⟩) ?_ ?_
        rotate_left
        ·intro w'
         go_simp
         with_reducible rfl
        rotate_left
        ·simp only [Act.put, List.setIfInBounds_toArray, List.set_cons_zero, List.set_cons_succ, i64_w, i32_w]
         rfl
        refine pure_ (i := 17) (N := some 30) (v := ?_) (a' := ?_) #[true, true, true, true, true, true, true, true, true, true, true, true, true, true, true, true, true, true, false, false, false, false, false, false, false, false, false, false, false, false, false, false, false, false, false, false] rfl rfl (any_of HT_.out (by kernel_rfl)) (fun _ _ _ h => h) (Or.inl ⟨by rfl, ?_⟩) ?_ ?_
        rotate_left
        ·intro w'
         go_simp
         with_reducible rfl
        rotate_left
        ·simp only [Act.put, List.setIfInBounds_toArray, List.set_cons_zero, List.set_cons_succ, i64_w, i32_w]
         rfl
        refine pure_ (i := 18) (N := some 31) (v := ?_) (a' := ?_) #[true, true, true, true, true, true, true, true, true, true, true, true, true, true, true, true, true, true, true, false, false, false, false, false, false, false, false, false, false, false, false, false, false, false, false, false] rfl rfl (any_of HT_.out (by kernel_rfl)) (fun _ _ _ h => h) (Or.inl ⟨by rfl, ?_⟩) ?_ ?_
        rotate_left
        ·intro w'
         go_simp
         with_reducible rfl
        rotate_left
        ·simp only [Act.put, List.setIfInBounds_toArray, List.set_cons_zero, List.set_cons_succ, i64_w, i32_w]
         rfl
        refine pure_ (i := 19) (N := some 32) (v := ?_) (a' := ?_) #[true, true, true, true, true, true, true, true, true, true, true, true, true, true, true, true, true, true, true, true, false, false, false, false, false, false, false, false, false, false, false, false, false, false, false, false] rfl rfl (any_of HT_.out (by kernel_rfl)) (fun _ _ _ h => h) (Or.inl ⟨by rfl, ?_⟩) ?_ ?_
        rotate_left
        ·intro w'
         go_simp
         with_reducible rfl
        rotate_left
        ·simp only [Act.put, List.setIfInBounds_toArray, List.set_cons_zero, List.set_cons_succ, i64_w, i32_w]
         rfl
        refine pure_ (i := 20) (N := some 33) (v := ?_) (a' := ?_) #[true, true, true, true, true, true, true, true, true, true, true, true, true, true, true, true, true, true, true, true, true, false, false, false, false, false, false, false, false, false, false, false, false, false, false, false] rfl rfl (any_of HT_.out (by kernel_rfl)) (fun _ _ _ h => h) (Or.inl ⟨by rfl, ?_⟩) ?_ ?_
        rotate_left
        ·intro w'
         go_simp
         with_reducible rfl
        rotate_left
        ·simp only [Act.put, List.setIfInBounds_toArray, List.set_cons_zero, List.set_cons_succ, i64_w, i32_w]
         rfl
        refine pure_ (i := 21) (N := some 34) (v := undef) (a' := ?_) #[true, true, true, true, true, true, true, true, true, true, true, true, true, true, true, true, true, true, true, true, true, true, false, false, false, false, false, false, false, false, false, false, false, false, false, false] rfl rfl (any_of HT_.out (by kernel_rfl)) (fun _ _ _ h => h) (Or.inr ⟨by rfl, rfl⟩) ?_ ?_
        rotate_left
        ·simp only [Act.put, List.setIfInBounds_toArray, List.set_cons_zero, List.set_cons_succ, i64_w, i32_w]
         rfl
        refine pure_ (i := 22) (N := some 35) (v := undef) (a' := ?_) #[true, true, true, true, true, true, true, true, true, true, true, true, true, true, true, true, true, true, true, true, true, true, true, false, false, false, false, false, false, false, false, false, false, false, false, false] rfl rfl (any_of HT_.out (by kernel_rfl)) (fun _ _ _ h => h) (Or.inr ⟨by rfl, rfl⟩) ?_ ?_
        rotate_left
        ·simp only [Act.put, List.setIfInBounds_toArray, List.set_cons_zero, List.set_cons_succ, i64_w, i32_w]
         rfl
        refine pure_ (i := 23) (N := some 36) (v := undef) (a' := ?_) #[true, true, true, true, true, true, true, true, true, true, true, true, true, true, true, true, true, true, true, true, true, true, true, true, false, false, false, false, false, false, false, false, false, false, false, false] rfl rfl (any_of HT_.out (by kernel_rfl)) (fun _ _ _ h => h) (Or.inr ⟨by rfl, rfl⟩) ?_ ?_
        rotate_left
        ·simp only [Act.put, List.setIfInBounds_toArray, List.set_cons_zero, List.set_cons_succ, i64_w, i32_w]
         rfl
        refine pure_ (i := 24) (N := some 37) (v := undef) (a' := ?_) #[true, true, true, true, true, true, true, true, true, true, true, true, true, true, true, true, true, true, true, true, true, true, true, true, true, false, false, false, false, false, false, false, false, false, false, false] rfl rfl (any_of HT_.out (by kernel_rfl)) (fun _ _ _ h => h) (Or.inr ⟨by rfl, rfl⟩) ?_ ?_
        rotate_left
        ·simp only [Act.put, List.setIfInBounds_toArray, List.set_cons_zero, List.set_cons_succ, i64_w, i32_w]
         rfl
        refine pure_ (i := 25) (N := some 38) (v := undef) (a' := ?_) #[true, true, true, true, true, true, true, true, true, true, true, true, true, true, true, true, true, true, true, true, true, true, true, true, true, true, false, false, false, false, false, false, false, false, false, false] rfl rfl (any_of HT_.out (by kernel_rfl)) (fun _ _ _ h => h) (Or.inr ⟨by rfl, rfl⟩) ?_ ?_
        rotate_left
        ·simp only [Act.put, List.setIfInBounds_toArray, List.set_cons_zero, List.set_cons_succ, i64_w, i32_w]
         rfl
        refine pure_ (i := 26) (N := some 39) (v := undef) (a' := ?_) #[true, true, true, true, true, true, true, true, true, true, true, true, true, true, true, true, true, true, true, true, true, true, true, true, true, true, true, false, false, false, false, false, false, false, false, false] rfl rfl (any_of HT_.out (by kernel_rfl)) (fun _ _ _ h => h) (Or.inr ⟨by rfl, rfl⟩) ?_ ?_
        rotate_left
        ·simp only [Act.put, List.setIfInBounds_toArray, List.set_cons_zero, List.set_cons_succ, i64_w, i32_w]
         rfl
        refine pure_ (i := 27) (N := some 40) (v := undef) (a' := ?_) #[true, true, true, true, true, true, true, true, true, true, true, true, true, true, true, true, true, true, true, true, true, true, true, true, true, true, true, true, false, false, false, false, false, false, false, false] rfl rfl (any_of HT_.out (by kernel_rfl)) (fun _ _ _ h => h) (Or.inr ⟨by rfl, rfl⟩) ?_ ?_
        rotate_left
        ·simp only [Act.put, List.setIfInBounds_toArray, List.set_cons_zero, List.set_cons_succ, i64_w, i32_w]
         rfl
        refine pure_ (i := 28) (N := some 41) (v := undef) (a' := ?_) #[true, true, true, true, true, true, true, true, true, true, true, true, true, true, true, true, true, true, true, true, true, true, true, true, true, true, true, true, true, false, false, false, false, false, false, false] rfl rfl (any_of HT_.out (by kernel_rfl)) (fun _ _ _ h => h) (Or.inr ⟨by rfl, rfl⟩) ?_ ?_
        rotate_left
        ·simp only [Act.put, List.setIfInBounds_toArray, List.set_cons_zero, List.set_cons_succ, i64_w, i32_w]
         rfl
        refine pure_ (i := 29) (N := some 42) (v := undef) (a' := ?_) #[true, true, true, true, true, true, true, true, true, true, true, true, true, true, true, true, true, true, true, true, true, true, true, true, true, true, true, true, true, true, false, false, false, false, false, false] rfl rfl (any_of HT_.out (by kernel_rfl)) (fun _ _ _ h => h) (Or.inr ⟨by rfl, rfl⟩) ?_ ?_
        rotate_left
        ·simp only [Act.put, List.setIfInBounds_toArray, List.set_cons_zero, List.set_cons_succ, i64_w, i32_w]
         rfl
        refine pure_ (i := 30) (N := some 43) (v := undef) (a' := ?_) #[true, true, true, true, true, true, true, true, true, true, true, true, true, true, true, true, true, true, true, true, true, true, true, true, true, true, true, true, true, true, true, false, false, false, false, false] rfl rfl (any_of HT_.out (by kernel_rfl)) (fun _ _ _ h => h) (Or.inr ⟨by rfl, rfl⟩) ?_ ?_
        rotate_left
        ·simp only [Act.put, List.setIfInBounds_toArray, List.set_cons_zero, List.set_cons_succ, i64_w, i32_w]
         rfl
        refine pure_ (i := 31) (N := some 44) (v := undef) (a' := ?_) #[true, true, true, true, true, true, true, true, true, true, true, true, true, true, true, true, true, true, true, true, true, true, true, true, true, true, true, true, true, true, true, true, false, false, false, false] rfl rfl (any_of HT_.out (by kernel_rfl)) (fun _ _ _ h => h) (Or.inr ⟨by rfl, rfl⟩) ?_ ?_
        rotate_left
        ·simp only [Act.put, List.setIfInBounds_toArray, List.set_cons_zero, List.set_cons_succ, i64_w, i32_w]
         rfl
        refine pure_ (i := 32) (N := some 45) (v := undef) (a' := ?_) #[true, true, true, true, true, true, true, true, true, true, true, true, true, true, true, true, true, true, true, true, true, true, true, true, true, true, true, true, true, true, true, true, true, false, false, false] rfl rfl (any_of HT_.out (by kernel_rfl)) (fun _ _ _ h => h) (Or.inr ⟨by rfl, rfl⟩) ?_ ?_
        rotate_left
        ·simp only [Act.put, List.setIfInBounds_toArray, List.set_cons_zero, List.set_cons_succ, i64_w, i32_w]
         rfl
        refine pure_ (i := 33) (N := some 46) (v := undef) (a' := ?_) #[true, true, true, true, true, true, true, true, true, true, true, true, true, true, true, true, true, true, true, true, true, true, true, true, true, true, true, true, true, true, true, true, true, true, false, false] rfl rfl (any_of HT_.out (by kernel_rfl)) (fun _ _ _ h => h) (Or.inr ⟨by rfl, rfl⟩) ?_ ?_
        rotate_left
        ·simp only [Act.put, List.setIfInBounds_toArray, List.set_cons_zero, List.set_cons_succ, i64_w, i32_w]
         rfl
        refine pure_ (i := 34) (N := some 47) (v := ?_) (a' := ?_) #[true, true, true, true, true, true, true, true, true, true, true, true, true, true, true, true, true, true, true, true, true, true, true, true, true, true, true, true, true, true, true, true, true, true, true, false] rfl rfl (any_of HT_.out (by kernel_rfl)) (fun _ _ _ h => h) (Or.inl ⟨by rfl, ?_⟩) ?_ ?_
        rotate_left
        ·intro w'
         go_simp
         with_reducible rfl
        rotate_left
        ·simp only [Act.put, List.setIfInBounds_toArray, List.set_cons_zero, List.set_cons_succ, i64_w, i32_w]
         rfl
        refine pure_ (i := 35) (N := some 48) (v := ?_) (a' := ?_) #[true, true, true, true, true, true, true, true, true, true, true, true, true, true, true, true, true, true, true, true, true, true, true, true, true, true, true, true, true, true, true, true, true, true, true, true] rfl rfl (any_of HT_.out (by kernel_rfl)) (fun _ _ _ h => h) (Or.inl ⟨by rfl, ?_⟩) ?_ ?_
        rotate_left
        ·intro w'
         go_simp
         with_reducible rfl
        rotate_left
        ·simp only [Act.put, List.setIfInBounds_toArray, List.set_cons_zero, List.set_cons_succ, i64_w, i32_w]
         rfl
        refine done_ (done_of HT_.out (by kernel_rfl)) ?_
        try go_wp2
        go_roundg k1
        case measure => have := HK1.out; omega
        case rel => exact ⟨(wrap64 (x5_1 + 1)), (by first | rfl | (simp; done) | (simp [*]; done)), H', ⟨by have := HK1.out; omega⟩, ⟨by (with_reducible repeat (first | refine blk_drewN ?_ _ | refine blk_drew ?_ | refine blk_alloc ?_ _)); exact BK272.out⟩, ⟨by repeat (first | (with_reducible first | exact HB.out | apply below_alloc | apply pw_below_drewN | apply below_drew1 | refine below_set ?_ GE272.out) | exact HB.out)⟩⟩
    ·rw [if_neg c5] at H
     exact absurd H (by simp)
   ·rw [if_neg c4] at H
    have c4b0 : decide (x5_1 < (l0_0.length : Int)) = false := decide_eq_false c4
    clear c4
    obtain rfl := Option.some.inj H
    have hcz26_0 : wr.cell? ⟨gb272, 0, none⟩ = some (.slice A0_0 l0_0.length c0_0) := (blk_cell BK272.out 0).trans rfl
    have hfz26_0 := blk_frozen BK272.out 0
    go_wp2
    go_ret
    exact ⟨by first | rfl | (simp [errW_none, errW_some] <;> rfl) | (simp [*, errW_none, errW_some] <;> rfl), by repeat (first | (with_reducible first | exact HB.out | apply below_alloc | apply pw_below_drewN | apply below_drew1 | refine below_set ?_ GE272.out) | exact HB.out)⟩
end Go.Proofs.Ytodmmckieoakjaa.P
namespace Go.Proofs.Ytodmmckieoakjaa.P
open Go.RowKit Go.Proofs.YtodmmckieoakjaaW.PrintWords Go.Proofs.YtodmmckieoakjaaW.PrintLast Go.Proofs.YtodmmckieoakjaaW.PrintMore
theorem Ev.mono {α : Type} {f : Nat → Option α} {r : α} {K : Nat} (h : f K = some r) (hm : ∀ k, LeO (f k) (f (k + 1))) : Ev f r :=
  ⟨K, fun k hk => by
    induction k with
    | zero => have : K = 0 := by omega
              subst this; exact h
    | succ k ih =>
      rcases Nat.lt_or_ge k K with h1 | h1
      · have : K = k + 1 := by omega
        subst this; exact h
      · exact hm k _ (ih h1)⟩
theorem compare_ev (x y : S49) : Ev (fun k => index_compare.f k x.f0.f0.f0 x.f0.f0.f1 x.f0.f0.f2 x.f0.f1 x.f0.f2 x.f1 y.f0.f0.f0 y.f0.f0.f1 y.f0.f0.f2 y.f0.f1 y.f0.f2 y.f1) (cfL x y) :=
  Ev.mono (K := 10) (index_compare_f x y) (fun k => index_compare.mono _ _ _ _ _ _ _ _ _ _ _ _ k)
/-- Every number within 0..n-1, every link behind the one ahead of it. -/
def chk (n : Int) : Option S49 → List S49 → Int
  | _, [] => 0
  | p, x :: r => if x.f1 < 0 then 350 else if x.f1 ≥ n then 350 else
    match p with
    | none => chk n (some x) r
    | some q => if LtL q x then chk n (some x) r else 350
def prevOf (l : List S49) (i : Nat) : Option S49 := if i = 0 then none else l[i - 1]?
theorem chk_step (n : Int) (l : List S49) (i : Nat) (hi : i < l.length) : chk n (prevOf l i) (l.drop i) =
    if l[i].f1 < 0 then 350 else if l[i].f1 ≥ n then 350 else if h : 0 < i then (if LtL (l[i - 1]'(by omega)) l[i] then chk n (prevOf l (i + 1)) (l.drop (i + 1)) else 350) else chk n (prevOf l (i + 1)) (l.drop (i + 1)) := by
  rw [List.drop_eq_getElem_cons hi]
  have hp : prevOf l (i + 1) = some l[i] := by simp [prevOf, hi]
  rw [hp]
  by_cases h0 : i = 0
  · subst h0
    simp [prevOf, chk]
  · have hq : prevOf l i = some (l[i - 1]'(by omega)) := by simp only [prevOf, if_neg h0]; exact List.getElem?_eq_getElem (by omega)
    rw [hq, dif_pos (by omega)]
    simp [chk]
set_option maxHeartbeats 1000000 in
theorem index_check_ev (l : List S49) (hl : l.length ≤ 1000000000000000) (n : Int) : Ev (fun k => index_Check.f k l n) (chk n none l) := by
  have key : ∀ (d i : Nat), i + d = l.length → Ev (fun k => index_Check.l0 k n l (l.length : Int) (i : Int) l) (chk n (prevOf l i) (l.drop i)) := by
    intro d
    induction d with
    | zero =>
      intro i hi
      refine Ev.first fun k => ?_
      simp only [index_Check.l0]
      rw [if_neg (by omega), List.drop_eq_nil_of_le (by omega)]
      cases prevOf l i <;> rfl
    | succ d ih =>
      intro i hi
      have hil : i < l.length := by omega
      have hr := rd49 l i hil
      have hn := ih (i + 1) (by omega)
      rw [chk_step n l i hil]
      by_cases h1 : l[i].f1 < 0
      · rw [if_pos h1]
        refine Ev.first fun k => ?_
        simp only [index_Check.l0]
        rw [if_pos (by omega), if_pos (by omega), if_pos (by omega), hr, if_pos h1]
      · rw [if_neg h1]
        by_cases h2 : l[i].f1 ≥ n
        · rw [if_pos h2]
          refine Ev.first fun k => ?_
          simp only [index_Check.l0]
          rw [if_pos (by omega), if_pos (by omega), if_pos (by omega), hr, if_neg h1, if_pos h2]
        · rw [if_neg h2]
          by_cases h3 : 0 < i
          · rw [dif_pos h3]
            have hw : wrap64 ((i : Int) - 1) = ((i - 1 : Nat) : Int) := by unfold wrap64; omega
            have hr2 := rd49 l (i - 1) (by omega)
            have hc := cfL_lt (l[i - 1]'(by omega)) l[i]
            by_cases h4 : LtL (l[i - 1]'(by omega)) l[i]
            · rw [if_pos h4]
              have hb := Ev.bind (c := fun k t => if t ≥ 0 then some 350 else index_Check.l0 k n l (l.length : Int) ((i + 1 : Nat) : Int) l) (compare_ev (l[i - 1]'(by omega)) l[i]) (hn.congr fun k => by rw [if_neg (by have := hc.2 h4; omega)])
              refine Ev.next hb fun k => ?_
              simp only [index_Check.l0]
              rw [if_pos (by omega), if_pos (by omega), if_pos (by omega), hr, if_neg h1, if_neg h2, if_pos (by omega), hw, if_pos (by omega), if_pos (by omega), hr2, w64 i (by omega)]
            · rw [if_neg h4]
              have hb := Ev.bind (c := fun k t => if t ≥ 0 then some 350 else index_Check.l0 k n l (l.length : Int) ((i + 1 : Nat) : Int) l) (compare_ev (l[i - 1]'(by omega)) l[i]) (b := 350) (Ev.now fun k => by rw [if_pos (by have := mt hc.1 h4; omega)])
              refine Ev.next hb fun k => ?_
              simp only [index_Check.l0]
              rw [if_pos (by omega), if_pos (by omega), if_pos (by omega), hr, if_neg h1, if_neg h2, if_pos (by omega), hw, if_pos (by omega), if_pos (by omega), hr2, w64 i (by omega)]
          · rw [dif_neg h3]
            refine Ev.next hn fun k => ?_
            simp only [index_Check.l0]
            rw [if_pos (by omega), if_pos (by omega), if_pos (by omega), hr, if_neg h1, if_neg h2, if_neg (by omega), w64 i (by omega)]
  have h := key l.length 0 (by omega)
  rw [List.drop_zero] at h
  exact h.congr fun k => rfl
set_option maxHeartbeats 1000000 in
theorem ref_check_ev (l : List S49) (hl : l.length ≤ 1000000000000000) (n : Int) : Ev (fun k => sizarref35_Check.f k l n) (chk n none l) := by
  have key : ∀ (d i : Nat), i + d = l.length → Ev (fun k => sizarref35_Check.l0 k n (i : Int) l) (chk n (prevOf l i) (l.drop i)) := by
    intro d
    induction d with
    | zero =>
      intro i hi
      refine Ev.first fun k => ?_
      simp only [sizarref35_Check.l0]
      rw [if_neg (by omega), List.drop_eq_nil_of_le (by omega)]
      cases prevOf l i <;> rfl
    | succ d ih =>
      intro i hi
      have hil : i < l.length := by omega
      have hr := rd49 l i hil
      have hn := ih (i + 1) (by omega)
      rw [chk_step n l i hil]
      by_cases h1 : l[i].f1 < 0
      · rw [if_pos h1]
        refine Ev.first fun k => ?_
        simp only [sizarref35_Check.l0]
        rw [if_pos (by omega), if_pos (by omega), hr, if_pos h1]
      · rw [if_neg h1]
        by_cases h2 : l[i].f1 ≥ n
        · rw [if_pos h2]
          refine Ev.first fun k => ?_
          simp only [sizarref35_Check.l0]
          rw [if_pos (by omega), if_pos (by omega), hr, if_neg h1, if_pos h2]
        · rw [if_neg h2]
          by_cases h3 : 0 < i
          · rw [dif_pos h3]
            have hw : wrap64 ((i : Int) - 1) = ((i - 1 : Nat) : Int) := by unfold wrap64; omega
            have hr2 := rd49 l (i - 1) (by omega)
            have hb := before_f (l[i - 1]'(by omega)) l[i]
            by_cases h4 : LtL (l[i - 1]'(by omega)) l[i]
            · rw [if_pos h4]
              refine Ev.next hn fun k => ?_
              simp only [sizarref35_Check.l0]
              rw [if_pos (by omega), if_pos (by omega), hr, if_neg h1, if_neg h2, if_pos (by omega), hw, if_pos (by omega), if_pos (by omega), hr2, hb, Option.bind_some, if_pos (by simpa using h4), w64 i (by omega)]
            · rw [if_neg h4]
              refine Ev.first fun k => ?_
              simp only [sizarref35_Check.l0]
              rw [if_pos (by omega), if_pos (by omega), hr, if_neg h1, if_neg h2, if_pos (by omega), hw, if_pos (by omega), if_pos (by omega), hr2, hb, Option.bind_some, if_neg (by simpa using h4)]
          · rw [dif_neg h3]
            refine Ev.next hn fun k => ?_
            simp only [sizarref35_Check.l0]
            rw [if_pos (by omega), if_pos (by omega), hr, if_neg h1, if_neg h2, if_neg (by omega), w64 i (by omega)]
  have h := key l.length 0 (by omega)
  rw [List.drop_zero] at h
  exact h.congr fun k => rfl
theorem sameInts_ev (a b : List Int) (ha : a.length ≤ 1000000000000000) : Ev (fun k => sizarref35_SameInts.f k a b) (decide (a = b)) := by
  by_cases hl : a.length = b.length
  · have key : ∀ (d i : Nat), i + d = a.length → Ev (fun k => sizarref35_SameInts.l0 k a b (i : Int)) (decide (a.drop i = b.drop i)) := by
      intro d
      induction d with
      | zero =>
        intro i hi
        refine Ev.first fun k => ?_
        simp only [sizarref35_SameInts.l0]
        rw [if_neg (by omega), List.drop_eq_nil_of_le (by omega), List.drop_eq_nil_of_le (by omega)]
        simp
      | succ d ih =>
        intro i hi
        have hia : i < a.length := by omega
        have hib : i < b.length := by omega
        have hra : rd a (i : Int) = a[i] := by simp [rd, hia]
        have hrb : rd b (i : Int) = b[i] := by simp [rd, hib]
        have hdrop : (a.drop i = b.drop i) ↔ (a[i] = b[i] ∧ a.drop (i + 1) = b.drop (i + 1)) := by
          rw [List.drop_eq_getElem_cons hia, List.drop_eq_getElem_cons hib, List.cons.injEq]
        by_cases hab : a[i] = b[i]
        · have hd : decide (a.drop (i + 1) = b.drop (i + 1)) = decide (a.drop i = b.drop i) := decide_eq_decide.2 (by rw [hdrop]; simp [hab])
          rw [← hd]
          refine Ev.next (ih (i + 1) (by omega)) fun k => ?_
          simp only [sizarref35_SameInts.l0]
          rw [if_pos (by omega), if_pos (by omega), if_pos (by omega), hra, hrb, if_pos hab, w64 i (by omega)]
        · refine Ev.first fun k => ?_
          simp only [sizarref35_SameInts.l0]
          rw [if_pos (by omega), if_pos (by omega), if_pos (by omega), hra, hrb, if_neg hab, decide_eq_false (fun h => hab (hdrop.1 h).1)]
    have h := key a.length 0 (by omega)
    simp only [List.drop_zero] at h
    refine h.congr fun k => ?_
    unfold sizarref35_SameInts.f
    rw [if_pos (by omega)]
    rfl
  · refine Ev.now fun k => ?_
    unfold sizarref35_SameInts.f
    rw [if_neg (by omega), decide_eq_false (fun h => hl (by rw [h]))]
theorem rd63 (l : List S63) (i : Nat) (h : i < l.length) : rd_T63 l (i : Int) = l[i] := by simp [rd_T63, List.getD_eq_getElem?_getD, h]
/-- 'few' tells; where it tells 'true' links and changes are few. -/
theorem fewL_ev (l : List S49) (cs : List S63) (hc : cs.length ≤ 1000000000000000) : ∃ b, Ev (fun k => sizarlaw35_few.f k l cs) b ∧ (b = true → l.length ≤ 60 ∧ cs.length ≤ 12 ∧ ∀ c ∈ cs, c.f1.length ≤ 12) := by
  have key : ∀ (d i : Nat), i + d = cs.length → ∃ b, Ev (fun k => sizarlaw35_few.l0 k cs (i : Int) l) b ∧ (b = true → l.length ≤ 60 ∧ cs.length ≤ 12 ∧ ∀ c ∈ cs.drop i, c.f1.length ≤ 12) := by
    intro d
    induction d with
    | zero =>
      intro i hi
      by_cases h : l.length ≤ 60
      · refine ⟨decide ((cs.length : Int) ≤ 12), Ev.first fun k => ?_, fun hb => ⟨h, by have := of_decide_eq_true hb; omega, fun c hc => ?_⟩⟩
        · simp only [sizarlaw35_few.l0]
          rw [if_neg (by omega), if_pos (by omega)]
        · rw [List.drop_eq_nil_of_le (by omega)] at hc; simp at hc
      · refine ⟨false, Ev.first fun k => ?_, fun hb => by cases hb⟩
        simp only [sizarlaw35_few.l0]
        rw [if_neg (by omega), if_neg (by omega)]
    | succ d ih =>
      intro i hi
      have hil : i < cs.length := by omega
      have hr := rd63 cs i hil
      by_cases h : (cs[i].f1.length : Int) > 12
      · refine ⟨false, Ev.first fun k => ?_, fun hb => by cases hb⟩
        simp only [sizarlaw35_few.l0]
        rw [if_pos (by omega), if_pos (by omega), hr, if_pos h]
      · obtain ⟨b, h1, h2⟩ := ih (i + 1) (by omega)
        refine ⟨b, Ev.next h1 fun k => ?_, fun hb => ⟨(h2 hb).1, (h2 hb).2.1, fun c hc => ?_⟩⟩
        · simp only [sizarlaw35_few.l0]
          rw [if_pos (by omega), if_pos (by omega), hr, if_neg h, w64 i (by omega)]
        · rw [List.drop_eq_getElem_cons hil] at hc
          rcases List.mem_cons.1 hc with rfl | hc
          · omega
          · exact (h2 hb).2.2 c hc
  obtain ⟨b, h1, h2⟩ := key cs.length 0 (by omega)
  exact ⟨b, h1.congr fun k => rfl, fun hb => by simpa using h2 hb⟩
end Go.Proofs.Ytodmmckieoakjaa.P
namespace Go.Proofs.Ytodmmckieoakjaa.P
open Go.RowKit Go.Proofs.YtodmmckieoakjaaW.PrintWords Go.Proofs.YtodmmckieoakjaaW.PrintLast Go.Proofs.YtodmmckieoakjaaW.PrintMore
/-- A number put into a list in order. -/
def insI : List Int → Int → List Int
  | [], a => [a]
  | y :: r, a => if y < a then y :: insI r a else if y = a then y :: r else a :: y :: r
/-- Does the change touch the link? -/
def hit (x : S49) (c : S63) : Bool := atKey c.f0 x && touches x.f0.f1 x.f0.f2 c.f1
/-- The numbers of the touched links, in order. -/
def affR (l : List S49) (cs : List S63) : List Int := ((l.filter fun x => cs.any (hit x)).map (·.f1)).foldl insI []
end Go.Proofs.Ytodmmckieoakjaa.P
namespace Go.Proofs.Ytodmmckieoakjaa.P
open Go.RowKit Go.Maps Go.Proofs.YtodmmckieoakjaaW.PrintWords Go.Proofs.YtodmmckieoakjaaW.PrintLast Go.Proofs.YtodmmckieoakjaaW.PrintMore
abbrev SI (l : List Int) : Prop := l.Pairwise (· < ·)
theorem SI.ext : ∀ {l m : List Int}, SI l → SI m → (∀ x, x ∈ l ↔ x ∈ m) → l = m
  | [], [], _, _, _ => rfl
  | [], y :: m, _, _, h => by have := (h y).2 (by simp); simp at this
  | x :: l, [], _, _, h => by have := (h x).1 (by simp); simp at this
  | x :: l, y :: m, hl, hm, h => by
    obtain ⟨h1, h2⟩ := List.pairwise_cons.1 hl
    obtain ⟨k1, k2⟩ := List.pairwise_cons.1 hm
    have hxy : x = y := by
      rcases List.mem_cons.1 ((h x).1 (by simp)) with e | e
      · exact e
      · rcases List.mem_cons.1 ((h y).2 (by simp)) with e' | e'
        · exact e'.symm
        · have := k1 x e; have := h1 y e'; omega
    subst hxy
    have : l = m := SI.ext h2 k2 (fun z => by
      constructor
      · intro hz
        rcases List.mem_cons.1 ((h z).1 (List.mem_cons_of_mem _ hz)) with e | e
        · subst e; have := h1 _ hz; omega
        · exact e
      · intro hz
        rcases List.mem_cons.1 ((h z).2 (List.mem_cons_of_mem _ hz)) with e | e
        · subst e; have := k1 _ hz; omega
        · exact e)
    rw [this]
theorem mem_insI (a : Int) : ∀ (l : List Int) (z : Int), z ∈ insI l a ↔ z = a ∨ z ∈ l
  | [], z => by simp [insI]
  | y :: r, z => by
    unfold insI
    split
    · rw [List.mem_cons, mem_insI a r z, List.mem_cons]; exact ⟨fun h => by rcases h with h | h | h <;> simp [h], fun h => by rcases h with h | h | h <;> simp [h]⟩
    · split
      · rename_i h; subst h; simp
      · simp
theorem si_insI (a : Int) : ∀ l : List Int, SI l → SI (insI l a)
  | [], _ => by simp [insI]
  | y :: r, h => by
    obtain ⟨h1, h2⟩ := List.pairwise_cons.1 h
    unfold insI
    split
    · rename_i hl
      refine List.pairwise_cons.2 ⟨fun z hz => ?_, si_insI a r h2⟩
      rcases (mem_insI a r z).1 hz with rfl | hz
      · exact hl
      · exact h1 z hz
    · split
      · exact h
      · refine List.pairwise_cons.2 ⟨fun z hz => ?_, h⟩
        rcases List.mem_cons.1 hz with rfl | hz
        · omega
        · have := h1 z hz; omega
theorem foldl_insI : ∀ (xs l : List Int), SI l → SI (xs.foldl insI l) ∧ ∀ z, z ∈ xs.foldl insI l ↔ z ∈ l ∨ z ∈ xs
  | [], l, h => ⟨h, fun z => by simp⟩
  | x :: xs, l, h => by
    obtain ⟨h1, h2⟩ := foldl_insI xs (insI l x) (si_insI x l h)
    refine ⟨h1, fun z => ?_⟩
    rw [List.foldl_cons, h2 z, mem_insI, List.mem_cons]
    exact ⟨fun h => by rcases h with (h | h) | h <;> simp [h], fun h => by rcases h with h | h | h <;> simp [h]⟩
theorem insert_perm {H : Type} (x : Lit × DataW H) : ∀ l : List (Lit × DataW H), (DataW.insert x l).Perm (x :: l)
  | [] => List.Perm.refl _
  | y :: r => by
    unfold DataW.insert
    split
    · exact List.Perm.refl _
    · exact ((insert_perm x r).cons y).trans (List.Perm.swap x y r)
/-- The set holds just the numbers S, each once. -/
def SetI (D : DataW Unit) (S : Int → Prop) : Prop := ∃ es, D = .map es ∧ (∀ p ∈ es, ∃ x, p.1 = .int .i64 x) ∧ (intKeys D).Nodup ∧ ∀ a, a ∈ intKeys D ↔ S a
theorem SetI.empty : SetI (.map []) fun _ => False := ⟨[], rfl, fun p h => by simp at h, by simp [intKeys], fun a => by simp [intKeys]⟩
theorem SetI.put {D : DataW Unit} {S : Int → Prop} (h : SetI D S) (a : Int) (v : DataW Unit) : SetI (D.put (.int .i64 a) v) fun z => z = a ∨ S z := by
  obtain ⟨es, rfl, h1, h2, h3⟩ := h
  have hp := insert_perm (Lit.int .i64 a, v) (es.filter fun p => !p.1.sameKey (.int .i64 a))
  have hk : (intKeys (DataW.put (.map es) (.int .i64 a) v)).Perm (a :: (es.filter fun p => !p.1.sameKey (.int .i64 a)).map fun p => Go.intOf p.1) := hp.map _
  have hmem : ∀ z, z ∈ (es.filter fun p => !p.1.sameKey (.int .i64 a)).map (fun p => Go.intOf p.1) ↔ z ∈ intKeys (.map es) ∧ z ≠ a := by
    intro z
    simp only [intKeys, List.mem_map, List.mem_filter]
    constructor
    · rintro ⟨p, ⟨hp, hs⟩, rfl⟩
      refine ⟨⟨p, hp, rfl⟩, fun e => ?_⟩
      obtain ⟨x, hx⟩ := h1 p hp
      rw [hx] at hs e
      have e' : x = a := e
      subst e'
      simp [Lit.sameKey] at hs
    · rintro ⟨⟨p, hp, rfl⟩, hne⟩
      refine ⟨p, ⟨hp, ?_⟩, rfl⟩
      obtain ⟨x, hx⟩ := h1 p hp
      rw [hx] at hne ⊢
      have hne' : x ≠ a := hne
      simp [Lit.sameKey, hne']
  refine ⟨_, rfl, fun p hp' => ?_, hk.nodup_iff.2 (List.nodup_cons.2 ⟨fun h => ((hmem a).1 h).2 rfl, ?_⟩), fun z => ?_⟩
  · rcases List.mem_cons.1 (hp.mem_iff.1 hp') with rfl | hp'
    · exact ⟨a, rfl⟩
    · exact h1 p (List.mem_filter.1 hp').1
  · exact h2.sublist (List.filter_sublist.map _)
  · rw [hk.mem_iff, List.mem_cons, hmem z, h3 z]
    constructor
    · rintro (h | h)
      · exact .inl h
      · exact .inr h.1
    · rintro (h | h)
      · exact .inl h
      · by_cases e : z = a
        · exact .inl e
        · exact .inr ⟨h, e⟩
theorem SetI.congr {D : DataW Unit} {S S' : Int → Prop} (h : SetI D S) (hS : ∀ a, S a ↔ S' a) : SetI D S' := by
  obtain ⟨es, h0, h1, h2, h3⟩ := h
  exact ⟨es, h0, h1, h2, fun a => (h3 a).trans (hS a)⟩
theorem affIn_set (c : S63) : ∀ (ys : List Lw) {D : DataW Unit} {S : Int → Prop}, SetI D S → SetI (affIn c D ys) fun a => S a ∨ ∃ y ∈ ys, touches y.1.f0.f1 y.1.f0.f2 c.f1 = true ∧ y.1.f1 = a
  | [], D, S, h => h.congr fun a => by simp
  | y :: ys, D, S, h => by
    have e : affIn c D (y :: ys) = affIn c (affPut c D y) ys := rfl
    rw [e]
    by_cases ht : touches y.1.f0.f1 y.1.f0.f2 c.f1 = true
    · have h1 : SetI (affPut c D y) fun z => z = y.1.f1 ∨ S z := by unfold affPut; rw [if_pos ht]; exact h.put _ _
      refine (affIn_set c ys h1).congr fun a => ?_
      constructor
      · rintro ((rfl | h) | ⟨z, hz, h2⟩)
        · exact .inr ⟨y, by simp, ht, rfl⟩
        · exact .inl h
        · exact .inr ⟨z, by simp [hz], h2⟩
      · rintro (h | ⟨z, hz, h2, h3⟩)
        · exact .inl (.inr h)
        · rcases List.mem_cons.1 hz with rfl | hz
          · exact .inl (.inl h3.symm)
          · exact .inr ⟨z, hz, h2, h3⟩
    · have h1 : SetI (affPut c D y) S := by unfold affPut; rw [if_neg ht]; exact h
      refine (affIn_set c ys h1).congr fun a => ?_
      constructor
      · rintro (h | ⟨z, hz, h2⟩)
        · exact .inl h
        · exact .inr ⟨z, by simp [hz], h2⟩
      · rintro (h | ⟨z, hz, h2, h3⟩)
        · exact .inl h
        · rcases List.mem_cons.1 hz with rfl | hz
          · exact absurd h2 ht
          · exact .inr ⟨z, hz, h2, h3⟩
theorem affAll_set (xs : List Lw) : ∀ (cs : List S63) {D : DataW Unit} {S : Int → Prop}, SetI D S → SetI (affAll xs D cs) fun a => S a ∨ ∃ c ∈ cs, ∃ y ∈ xs, hit y.1 c = true ∧ y.1.f1 = a
  | [], D, S, h => h.congr fun a => by simp
  | c :: cs, D, S, h => by
    have e : affAll xs D (c :: cs) = affAll xs (affIn c D (ofKey c.f0 xs)) cs := rfl
    rw [e]
    refine (affAll_set xs cs (affIn_set c (ofKey c.f0 xs) h)).congr fun a => ?_
    have hm : (∃ y ∈ ofKey c.f0 xs, touches y.1.f0.f1 y.1.f0.f2 c.f1 = true ∧ y.1.f1 = a) ↔ ∃ y ∈ xs, hit y.1 c = true ∧ y.1.f1 = a := by
      constructor
      · rintro ⟨y, hy, h1, h2⟩
        obtain ⟨h3, h4⟩ := List.mem_filter.1 hy
        exact ⟨y, h3, by unfold hit; rw [h4, h1]; rfl, h2⟩
      · rintro ⟨y, hy, h1, h2⟩
        unfold hit at h1
        rw [Bool.and_eq_true] at h1
        exact ⟨y, List.mem_filter.2 ⟨hy, h1.1⟩, h1.2, h2⟩
    rw [hm]
    constructor
    · rintro ((h | h) | ⟨c', hc, h⟩)
      · exact .inl h
      · exact .inr ⟨c, by simp, h⟩
      · exact .inr ⟨c', by simp [hc], h⟩
    · rintro (h | ⟨c', hc, h⟩)
      · exact .inl (.inl h)
      · rcases List.mem_cons.1 hc with rfl | hc
        · exact .inl (.inr h)
        · exact .inr ⟨c', hc, h⟩
theorem index_affected_f (l : List S49) (cs : List S63) (hl : l.length ≤ 100000) (hc : cs.length ≤ 100000) (hw : ∀ x ∈ l, (Lit.int .i64 x.f1).wf = true) : index_Affected.f l cs = some (affR l cs) := by
  unfold index_Affected.f
  rw [dif_pos ⟨hl, hc, hw⟩]
  refine congrArg some ?_
  obtain ⟨es, h0, _, h2, h3⟩ := affAll_set (l.attachWith _ hw) cs SetI.empty
  obtain ⟨k1, k2⟩ := foldl_insI ((l.filter fun x => cs.any (hit x)).map (·.f1)) [] List.Pairwise.nil
  refine SI.ext ?_ k1 fun z => ?_
  · have hs := List.pairwise_mergeSort (le := leI) (fun a b c h1 h2 => by simp only [decide_eq_true_eq] at *; omega) (fun a b => by simp only [Bool.or_eq_true, decide_eq_true_eq]; omega) (intKeys (affAll (l.attachWith _ hw) (.map []) cs))
    have hn := (List.mergeSort_perm (intKeys (affAll (l.attachWith _ hw) (.map []) cs)) leI).nodup_iff.2 h2
    have hn' := List.nodup_iff_pairwise_ne.1 hn
    refine (hs.and hn').imp ?_
    rintro a b ⟨h1, h2⟩
    simp only [decide_eq_true_eq] at h1
    omega
  · have e1 := (List.mergeSort_perm (intKeys (affAll (l.attachWith _ hw) (.map []) cs)) leI).mem_iff (a := z)
    rw [e1, h3 z]
    unfold affR
    rw [k2 z]
    simp only [List.mem_map, List.mem_filter, List.any_eq_true, List.not_mem_nil, false_or]
    constructor
    · rintro ⟨c, hc, y, hy, h1, h2⟩
      exact ⟨y.1, ⟨by simpa using hy, c, hc, h1⟩, h2⟩
    · rintro ⟨x, ⟨hx, c, hc, h1⟩, h2⟩
      exact ⟨c, hc, ⟨x, hw x hx⟩, by simpa using hx, h1, h2⟩
end Go.Proofs.Ytodmmckieoakjaa.P
namespace Go.Proofs.Ytodmmckieoakjaa.P
open Go.RowKit Go.Proofs.YtodmmckieoakjaaW.PrintWords Go.Proofs.YtodmmckieoakjaaW.PrintLast Go.Proofs.YtodmmckieoakjaaW.PrintMore
def sA : S49 := ⟨⟨⟨5, 4, 6⟩, 0, 9⟩, 1⟩
def sB : S49 := ⟨⟨⟨5, 4, 7⟩, 0, 5⟩, 0⟩
def sD : List S35 := [⟨⟨0, 0, 0, 0⟩, 0, 0, 0, [], [⟨⟨5, 4, 7⟩, 0, 5⟩, ⟨⟨5, 4, 7⟩, 0, 5⟩], []⟩, ⟨⟨0, 0, 0, 0⟩, 0, 0, 0, [], [⟨⟨5, 4, 6⟩, 0, 9⟩], []⟩]
theorem read_f (a b c : Int) : sizarlaw35_read.f a b c = some (5, 4, a, b, c) := rfl
theorem sane_build : index_Build.f sD = some [sA, sB] := by
  unfold index_Build.f
  rw [if_pos (by decide), normL_eq]
  exact congrArg some (by decide +kernel)
theorem sane_build0 : index_Build.f [] = some [] := by
  unfold index_Build.f
  rw [if_pos (by decide), normL_eq]
  exact congrArg some (by decide +kernel)
theorem sane_replace : index_Replace.f [sA, sB] 0 0 0 0 0 0 0 0 [] [] [] = some [sA] := by
  unfold index_Replace.f
  rw [if_pos (by decide), normL_eq]
  exact congrArg some (by decide +kernel)
theorem sane_aff (t : Int) : sizarlaw35_sane_1.f t = some [⟨⟨5, 4, 7⟩, [⟨t, wrap64 (t + 1)⟩]⟩] := rfl
theorem sane_aff5 : index_Affected.f [sA, sB] [⟨⟨5, 4, 7⟩, [⟨5, wrap64 (5 + 1)⟩]⟩] = some [] := by
  rw [index_affected_f _ _ (by decide) (by decide) (by decide +kernel)]
  exact congrArg some (by decide +kernel)
theorem sane_aff4 : index_Affected.f [sA, sB] [⟨⟨5, 4, 7⟩, [⟨4, wrap64 (4 + 1)⟩]⟩] = some [0] := by
  rw [index_affected_f _ _ (by decide) (by decide) (by decide +kernel)]
  exact congrArg some (by decide +kernel)
theorem sane_aff0 : index_Affected.f [] [⟨⟨5, 4, 7⟩, [⟨4, wrap64 (4 + 1)⟩]⟩] = some [] := by
  rw [index_affected_f _ _ (by decide) (by decide) (by decide +kernel)]
  exact congrArg some (by decide +kernel)
theorem sane_ev : Ev (fun k => sizarlaw35_sane.f k) true := by
  have s1 := same_ev [sA, sB] [sA, sB] (by decide)
  have s2 := same_ev [sA] [sA] (by decide)
  have c1 := index_check_ev [sA, sB] (by decide) 2
  have c2 := index_check_ev [sA, sB] (by decide) 1
  have c3 := index_check_ev [] (by decide) 0
  have i1 := sameInts_ev [0] [0] (by decide)
  have e1 : chk 2 none [sA, sB] = 0 := by decide +kernel
  have e2 : chk 1 none [sA, sB] = 350 := by decide +kernel
  have e3 : chk 0 none [] = 0 := rfl
  rw [e1] at c1
  rw [e2] at c2
  rw [e3] at c3
  rw [decide_eq_true rfl] at s1 s2 i1
  have h6 := Ev.bind (c := fun k t => if t = true then (sizarlaw35_sane_1.f 4).bind fun t241 => (index_Affected.f [] t241).bind fun t244 => some ((t244.length : Int) == 0) else none) i1 (b := true) (Ev.now fun k => by rw [if_pos rfl, sane_aff, Option.bind_some, sane_aff0]; rfl)
  have h5 := Ev.bind (c := fun k (t : Int) => if t = 0 then (sizarlaw35_sane_1.f 5).bind fun t225 => (index_Affected.f [sA, sB] t225).bind fun t228 => if (t228.length : Int) = 0 then (sizarlaw35_sane_1.f 4).bind fun t231 => (index_Affected.f [sA, sB] t231).bind fun t234 => (sizarref35_SameInts.f k t234 [0]).bind fun t240 => if t240 = true then (sizarlaw35_sane_1.f 4).bind fun t241 => (index_Affected.f [] t241).bind fun t244 => some ((t244.length : Int) == 0) else none else none else none) c3
    (h6.congr fun k => by rw [if_pos rfl, sane_aff, Option.bind_some, sane_aff5, Option.bind_some, if_pos (show (([] : List Int).length : Int) = 0 from rfl), sane_aff, Option.bind_some, sane_aff4, Option.bind_some])
  have h4 := Ev.bind (c := fun k (t : Int) => if t = 350 then (index_Check.f k [] 0).bind fun t224 => if t224 = 0 then (sizarlaw35_sane_1.f 5).bind fun t225 => (index_Affected.f [sA, sB] t225).bind fun t228 => if (t228.length : Int) = 0 then (sizarlaw35_sane_1.f 4).bind fun t231 => (index_Affected.f [sA, sB] t231).bind fun t234 => (sizarref35_SameInts.f k t234 [0]).bind fun t240 => if t240 = true then (sizarlaw35_sane_1.f 4).bind fun t241 => (index_Affected.f [] t241).bind fun t244 => some ((t244.length : Int) == 0) else none else none else none else none) c2
    (h5.congr fun k => by rw [if_pos rfl])
  have h3 := Ev.bind (c := fun k (t : Int) => if t = 0 then (index_Check.f k [sA, sB] 1).bind fun t223 => if t223 = 350 then (index_Check.f k [] 0).bind fun t224 => if t224 = 0 then (sizarlaw35_sane_1.f 5).bind fun t225 => (index_Affected.f [sA, sB] t225).bind fun t228 => if (t228.length : Int) = 0 then (sizarlaw35_sane_1.f 4).bind fun t231 => (index_Affected.f [sA, sB] t231).bind fun t234 => (sizarref35_SameInts.f k t234 [0]).bind fun t240 => if t240 = true then (sizarlaw35_sane_1.f 4).bind fun t241 => (index_Affected.f [] t241).bind fun t244 => some ((t244.length : Int) == 0) else none else none else none else none else none) c1
    (h4.congr fun k => by rw [if_pos rfl])
  obtain ⟨K1, hK1⟩ := s1
  obtain ⟨K2, hK2⟩ := s2
  obtain ⟨K3, hK3⟩ := h3
  refine ⟨max K1 (max K2 K3), fun k hk => ?_⟩
  have r1 := hK1 k (by omega)
  have r2 := hK2 k (by omega)
  have r3 := hK3 k (by omega)
  show sizarlaw35_sane.f k = some true
  unfold sizarlaw35_sane.f
  simp only [read_f, Option.bind_some]
  have b1 : index_Build.f [(⟨(⟨0, 0, 0, 0⟩ : S31), 0, 0, 0, ([] : List Int), [(⟨(⟨5, 4, 7⟩ : S45), 0, 5⟩ : S47), (⟨(⟨5, 4, 7⟩ : S45), 0, 5⟩ : S47)], ([] : List Int)⟩ : S35), (⟨(⟨0, 0, 0, 0⟩ : S31), 0, 0, 0, ([] : List Int), [(⟨(⟨5, 4, 6⟩ : S45), 0, 9⟩ : S47)], ([] : List Int)⟩ : S35)] = some [sA, sB] := sane_build
  rw [b1, Option.bind_some, sane_replace, Option.bind_some]
  have r1' : sizarref35_Same.f k [sA, sB] [(⟨(⟨(⟨5, 4, 6⟩ : S45), 0, 9⟩ : S47), 1⟩ : S49), (⟨(⟨(⟨5, 4, 7⟩ : S45), 0, 5⟩ : S47), 0⟩ : S49)] = some true := r1
  rw [r1', Option.bind_some, if_pos rfl, if_pos (by simp)]
  have r2' : sizarref35_Same.f k [sA] ([(⟨(⟨(⟨5, 4, 6⟩ : S45), 0, 9⟩ : S47), 1⟩ : S49), (⟨(⟨(⟨5, 4, 7⟩ : S45), 0, 5⟩ : S47), 0⟩ : S49)].take 1) = some true := r2
  rw [r2', Option.bind_some, if_pos rfl, sane_build0, Option.bind_some, if_pos (show (([] : List S49).length : Int) = 0 from rfl)]
  exact r3
end Go.Proofs.Ytodmmckieoakjaa.P
namespace Go.Proofs.Ytodmmckieoakjaa.P
open Go.RowKit Go.ChangeShapes Go.WideShapes Go.Deep Go.Proofs.YtodmmckieoakjaaW.PrintWords Go.Proofs.YtodmmckieoakjaaW.PrintLast Go.Proofs.YtodmmckieoakjaaW.PrintMore
set_option linter.unusedVariables false
set_option linter.unusedSimpArgs false
section
variable {H : Type} {P : Program}
def light (P : Program) (t : TypeId) (d : DataW H) : Prop := (DataW.weights P t d).all (· ≤ reachBytes) = true
theorem light_each : ∀ (ts : List TypeId) (ds : List (DataW H)), (DataW.weightsEach P ts ds).all (· ≤ reachBytes) = true → ∀ (i : Nat) t d, ts[i]? = some t → ds[i]? = some d → light P t d
  | [], _, _, i, t, d, ht, _ => by simp at ht
  | _ :: _, [], _, i, t, d, _, hd => by simp at hd
  | t0 :: ts, d0 :: ds, h, i, t, d, ht, hd => by
    unfold DataW.weightsEach at h
    rw [List.all_append, Bool.and_eq_true] at h
    cases i with
    | zero =>
      have e1 : t0 = t := by simpa using ht
      have e2 : d0 = d := by simpa using hd
      subst e1 e2
      exact h.1
    | succ i => exact light_each ts ds h.2 i t d (by simpa using ht) (by simpa using hd)
theorem light_all {e : TypeId} : ∀ (ds : List (DataW H)), (DataW.weightsAll P e ds).all (· ≤ reachBytes) = true → ∀ d ∈ ds, light P e d
  | [], _, d, hd => by simp at hd
  | d0 :: ds, h, d, hd => by
    unfold DataW.weightsAll at h
    rw [List.all_append, Bool.and_eq_true] at h
    rcases List.mem_cons.1 hd with rfl | hd
    · exact h.1
    · exact light_all ds h.2 d hd
/-- Whatever reads as a datum of type t is an element of kind d; G holds of it. -/
def Opn {α : Type} (P : Program) (d : Kd α) (t : TypeId) (G : α → Prop) : Prop :=
  ∀ (H : Type) (enc : TypeId × Value → H) (W : World) (base : Nat) (spare : Nat → Bool) (held : Bool) (fuel : Nat) (cs : List Value) (x : DataW H × List MemPlace), DataW.trod enc P W base spare held fuel t cs = some x → light P t x.1 → ∃ y, d.K W y cs ∧ G y
theorem opn_struct {enc : TypeId × Value → H} {W : World} {base : Nat} {spare : Nat → Bool} {held : Bool} {fuel : Nat} {t : TypeId} {fs : Array Field} {cs : List Value} {x : DataW H × List MemPlace} (ht : P.underlying t = some (.struct fs)) (h : DataW.trod enc P W base spare held fuel t cs = some x) (hw : light P t x.1) :
    cs.length = P.cellsOf t ∧ ∃ n, ∀ (i : Nat) (f : Field), fs[i]? = some f → ∃ y, DataW.trod enc P W base spare held n f.type ((cs.drop f.offset).take (P.cellsOf f.type)) = some y ∧ light P f.type y.1 := by
  obtain ⟨xs, n, _, rfl, hl, hlen, hf⟩ := DataW.trod_struct ht h
  refine ⟨hl, n, fun i f hi => ?_⟩
  have hil : i < fs.size := (Array.getElem?_eq_some_iff.1 hi).1
  have hx : xs[i]? = some (xs[i]'(by omega)) := List.getElem?_eq_getElem (by omega)
  refine ⟨_, (hf i f hi).trans hx, ?_⟩
  unfold light at hw
  simp only [DataW.weights, ht] at hw
  exact light_each _ _ hw i _ _ (by simp [hi]) (by simp [hx])
theorem list_of {α : Type} {p : Nat → α → Prop} : ∀ (n : Nat), (∀ i, i < n → ∃ y, p i y) → ∃ ys : List α, ys.length = n ∧ ∀ i y, ys[i]? = some y → p i y
  | 0, _ => ⟨[], rfl, fun i y h => by simp at h⟩
  | n + 1, h => by
    obtain ⟨ys, hl, hy⟩ := list_of n (fun i hi => h i (by omega))
    obtain ⟨y, hp⟩ := h n (by omega)
    refine ⟨ys ++ [y], by simp [hl], fun i z hz => ?_⟩
    rcases Nat.lt_or_ge i n with hi | hi
    · rw [List.getElem?_append_left (by omega)] at hz
      exact hy i z hz
    · have : i = n := by
        have := (List.getElem?_eq_some_iff.1 hz).1
        simp at this; omega
      subst this
      rw [List.getElem?_append_right (by omega)] at hz
      have : y = z := by simpa [hl] using hz
      subst this
      exact hp
theorem opn_slice {α : Type} {d : Kd α} {t e : TypeId} {G : α → Prop} (ht : P.underlying t = some (.slice e)) (hd : Opn P d e G) (hsz : P.cellsOf e = d.sz) (h0 : 0 < d.sz) :
    Opn P (Kd.slice e d) t (fun xs => (∀ x ∈ xs, G x) ∧ xs.length * P.bytesOf e ≤ reachBytes) := by
  intro H enc W base spare held fuel cs x h hw
  rcases open_slice ht h with ⟨rfl, rfl⟩ | ⟨a, len, cap, m, n, D, Pl, rfl, hb, hl, hm, hmm, rfl, hi⟩
  · refine ⟨[], ⟨none, 0, rfl, Nat.le_refl _, rfl, Nat.zero_le _, fun h => absurd h (by simp)⟩, fun x hx => by simp at hx, by simp⟩
  · have hlm : len ≤ m := by rw [hmm]; split <;> omega
    unfold light at hw
    simp only [DataW.weights, ht, List.all_cons, List.all_append, Bool.and_eq_true, List.length_map, List.length_range, decide_eq_true_eq] at hw
    obtain ⟨hw0, hw1, hw2⟩ := hw
    obtain ⟨ys, hyl, hy⟩ := list_of (p := fun i y => (∃ c, c.length = d.sz ∧ d.K W y c ∧ ∀ j u, c[j]? = some u → W.cell? (a.add (i * d.sz + j)) = some u) ∧ G y) len (fun i hil => by
      obtain ⟨cs', hc, htr⟩ := hi i (by omega)
      obtain ⟨_, hcl, hat⟩ := World.cells?_some hc
      obtain ⟨y, hk, hg⟩ := hd H enc W base spare held n cs' _ htr (light_all _ hw1 _ (List.mem_map.2 ⟨i, List.mem_range.2 hil, rfl⟩))
      refine ⟨y, ⟨cs', hcl.trans hsz, hk, fun j u hj => ?_⟩, hg⟩
      have hjl := (List.getElem?_eq_some_iff.1 hj).1
      have := hat j (by omega)
      rw [hsz, Go.Deep.add_add] at this
      rw [this]; exact hj)
    refine ⟨ys, ⟨some a, cap, by rw [hyl], by omega, hyl ▸ rfl, ?_, fun _ => ⟨a, rfl, fun j p hj => (hy j p hj).1⟩⟩, fun x hx => ?_, ?_⟩
    · rw [hyl]; simp only [maxLen] at hm; omega
    · obtain ⟨i, hi', rfl⟩ := List.getElem_of_mem hx
      exact (hy i _ (List.getElem?_eq_getElem hi')).2
    · rw [hyl]
      exact Nat.le_trans (Nat.mul_le_mul_right _ (by omega)) hw0
end
def wfI (n : Int) : Prop := (Lit.int .i64 n).wf = true
theorem opn_int : Opn Try.prog (Kd.int .i64) 3 wfI := by
  intro H enc W base spare held fuel cs x h hw
  obtain ⟨n, rfl, _, hwf⟩ := DataW.trod_int Try.underlying3 h
  exact ⟨n, rfl, hwf⟩
end Go.Proofs.Ytodmmckieoakjaa.P
namespace Go.Proofs.Ytodmmckieoakjaa.P
open Go.RowKit Go.ChangeShapes Go.WideShapes Go.Deep Go.Proofs.YtodmmckieoakjaaW.PrintWords Go.Proofs.YtodmmckieoakjaaW.PrintLast Go.Proofs.YtodmmckieoakjaaW.PrintMore
set_option linter.unusedVariables false
set_option linter.unusedSimpArgs false
def ok45 (x : S45) : Prop := (wfI x.f0) ∧ (wfI x.f1) ∧ (wfI x.f2)
theorem len_3 (cs : List Value) (h : cs.length = 3) : ∃ c0 c1 c2, cs = [c0, c1, c2] := by match cs, h with | [c0, c1, c2], _ => exact ⟨c0, c1, c2, rfl⟩
theorem opn45 : Opn Try.prog k45 45 ok45 := by
  intro H enc W base spare held fuel cs x h hw
  obtain ⟨hl, n, hf⟩ := opn_struct Try.underlying45 h hw
  have hl' : cs.length = 3 := hl.trans (by kernel_rfl)
  obtain ⟨c0, c1, c2, rfl⟩ := len_3 cs hl'
  have e0 : Try.prog.cellsOf 3 = 1 := by kernel_rfl
  obtain ⟨y0, t0, w0⟩ := hf 0 _ rfl
  replace t0 : DataW.trod enc Try.prog W base spare held n 3 (([c0, c1, c2].drop 0).take (Try.prog.cellsOf 3)) = some y0 := t0
  replace w0 : light Try.prog 3 y0.1 := w0
  rw [e0] at t0
  replace t0 : DataW.trod enc Try.prog W base spare held n 3 [c0] = some y0 := t0
  obtain ⟨z0, q0, g0⟩ := opn_int H enc W base spare held n _ _ t0 w0
  replace q0 : [c0] = [Value.int .i64 z0] := q0
  have e1 : Try.prog.cellsOf 3 = 1 := by kernel_rfl
  obtain ⟨y1, t1, w1⟩ := hf 1 _ rfl
  replace t1 : DataW.trod enc Try.prog W base spare held n 3 (([c0, c1, c2].drop 1).take (Try.prog.cellsOf 3)) = some y1 := t1
  replace w1 : light Try.prog 3 y1.1 := w1
  rw [e1] at t1
  replace t1 : DataW.trod enc Try.prog W base spare held n 3 [c1] = some y1 := t1
  obtain ⟨z1, q1, g1⟩ := opn_int H enc W base spare held n _ _ t1 w1
  replace q1 : [c1] = [Value.int .i64 z1] := q1
  have e2 : Try.prog.cellsOf 3 = 1 := by kernel_rfl
  obtain ⟨y2, t2, w2⟩ := hf 2 _ rfl
  replace t2 : DataW.trod enc Try.prog W base spare held n 3 (([c0, c1, c2].drop 2).take (Try.prog.cellsOf 3)) = some y2 := t2
  replace w2 : light Try.prog 3 y2.1 := w2
  rw [e2] at t2
  replace t2 : DataW.trod enc Try.prog W base spare held n 3 [c2] = some y2 := t2
  obtain ⟨z2, q2, g2⟩ := opn_int H enc W base spare held n _ _ t2 w2
  replace q2 : [c2] = [Value.int .i64 z2] := q2
  simp only [List.cons.injEq, and_true] at q0 q1 q2
  obtain rfl := q0
  obtain rfl := q1
  obtain rfl := q2
  exact ⟨(⟨z0, z1, z2⟩ : S45), k45_mk W (⟨z0, z1, z2⟩ : S45) , g0, g1, g2⟩
def ok31 (x : S31) : Prop := (wfI x.f0) ∧ (wfI x.f1) ∧ (wfI x.f2) ∧ (wfI x.f3)
theorem len_4 (cs : List Value) (h : cs.length = 4) : ∃ c0 c1 c2 c3, cs = [c0, c1, c2, c3] := by match cs, h with | [c0, c1, c2, c3], _ => exact ⟨c0, c1, c2, c3, rfl⟩
theorem opn31 : Opn Try.prog k31 31 ok31 := by
  intro H enc W base spare held fuel cs x h hw
  obtain ⟨hl, n, hf⟩ := opn_struct Try.underlying31 h hw
  have hl' : cs.length = 4 := hl.trans (by kernel_rfl)
  obtain ⟨c0, c1, c2, c3, rfl⟩ := len_4 cs hl'
  have e0 : Try.prog.cellsOf 3 = 1 := by kernel_rfl
  obtain ⟨y0, t0, w0⟩ := hf 0 _ rfl
  replace t0 : DataW.trod enc Try.prog W base spare held n 3 (([c0, c1, c2, c3].drop 0).take (Try.prog.cellsOf 3)) = some y0 := t0
  replace w0 : light Try.prog 3 y0.1 := w0
  rw [e0] at t0
  replace t0 : DataW.trod enc Try.prog W base spare held n 3 [c0] = some y0 := t0
  obtain ⟨z0, q0, g0⟩ := opn_int H enc W base spare held n _ _ t0 w0
  replace q0 : [c0] = [Value.int .i64 z0] := q0
  have e1 : Try.prog.cellsOf 3 = 1 := by kernel_rfl
  obtain ⟨y1, t1, w1⟩ := hf 1 _ rfl
  replace t1 : DataW.trod enc Try.prog W base spare held n 3 (([c0, c1, c2, c3].drop 1).take (Try.prog.cellsOf 3)) = some y1 := t1
  replace w1 : light Try.prog 3 y1.1 := w1
  rw [e1] at t1
  replace t1 : DataW.trod enc Try.prog W base spare held n 3 [c1] = some y1 := t1
  obtain ⟨z1, q1, g1⟩ := opn_int H enc W base spare held n _ _ t1 w1
  replace q1 : [c1] = [Value.int .i64 z1] := q1
  have e2 : Try.prog.cellsOf 3 = 1 := by kernel_rfl
  obtain ⟨y2, t2, w2⟩ := hf 2 _ rfl
  replace t2 : DataW.trod enc Try.prog W base spare held n 3 (([c0, c1, c2, c3].drop 2).take (Try.prog.cellsOf 3)) = some y2 := t2
  replace w2 : light Try.prog 3 y2.1 := w2
  rw [e2] at t2
  replace t2 : DataW.trod enc Try.prog W base spare held n 3 [c2] = some y2 := t2
  obtain ⟨z2, q2, g2⟩ := opn_int H enc W base spare held n _ _ t2 w2
  replace q2 : [c2] = [Value.int .i64 z2] := q2
  have e3 : Try.prog.cellsOf 3 = 1 := by kernel_rfl
  obtain ⟨y3, t3, w3⟩ := hf 3 _ rfl
  replace t3 : DataW.trod enc Try.prog W base spare held n 3 (([c0, c1, c2, c3].drop 3).take (Try.prog.cellsOf 3)) = some y3 := t3
  replace w3 : light Try.prog 3 y3.1 := w3
  rw [e3] at t3
  replace t3 : DataW.trod enc Try.prog W base spare held n 3 [c3] = some y3 := t3
  obtain ⟨z3, q3, g3⟩ := opn_int H enc W base spare held n _ _ t3 w3
  replace q3 : [c3] = [Value.int .i64 z3] := q3
  simp only [List.cons.injEq, and_true] at q0 q1 q2 q3
  obtain rfl := q0
  obtain rfl := q1
  obtain rfl := q2
  obtain rfl := q3
  exact ⟨(⟨z0, z1, z2, z3⟩ : S31), k31_mk W (⟨z0, z1, z2, z3⟩ : S31) , g0, g1, g2, g3⟩
def ok47 (x : S47) : Prop := (ok45 x.f0) ∧ (wfI x.f1) ∧ (wfI x.f2)
theorem len_5 (cs : List Value) (h : cs.length = 5) : ∃ c0 c1 c2 c3 c4, cs = [c0, c1, c2, c3, c4] := by match cs, h with | [c0, c1, c2, c3, c4], _ => exact ⟨c0, c1, c2, c3, c4, rfl⟩
theorem opn47 : Opn Try.prog k47 47 ok47 := by
  intro H enc W base spare held fuel cs x h hw
  obtain ⟨hl, n, hf⟩ := opn_struct Try.underlying47 h hw
  have hl' : cs.length = 5 := hl.trans (by kernel_rfl)
  obtain ⟨c0, c1, c2, c3, c4, rfl⟩ := len_5 cs hl'
  have e0 : Try.prog.cellsOf 45 = 3 := by kernel_rfl
  obtain ⟨y0, t0, w0⟩ := hf 0 _ rfl
  replace t0 : DataW.trod enc Try.prog W base spare held n 45 (([c0, c1, c2, c3, c4].drop 0).take (Try.prog.cellsOf 45)) = some y0 := t0
  replace w0 : light Try.prog 45 y0.1 := w0
  rw [e0] at t0
  replace t0 : DataW.trod enc Try.prog W base spare held n 45 [c0, c1, c2] = some y0 := t0
  obtain ⟨z0, q0, g0⟩ := opn45 H enc W base spare held n _ _ t0 w0
  replace q0 := k45_open q0
  have e1 : Try.prog.cellsOf 3 = 1 := by kernel_rfl
  obtain ⟨y1, t1, w1⟩ := hf 1 _ rfl
  replace t1 : DataW.trod enc Try.prog W base spare held n 3 (([c0, c1, c2, c3, c4].drop 3).take (Try.prog.cellsOf 3)) = some y1 := t1
  replace w1 : light Try.prog 3 y1.1 := w1
  rw [e1] at t1
  replace t1 : DataW.trod enc Try.prog W base spare held n 3 [c3] = some y1 := t1
  obtain ⟨z1, q1, g1⟩ := opn_int H enc W base spare held n _ _ t1 w1
  replace q1 : [c3] = [Value.int .i64 z1] := q1
  have e2 : Try.prog.cellsOf 3 = 1 := by kernel_rfl
  obtain ⟨y2, t2, w2⟩ := hf 2 _ rfl
  replace t2 : DataW.trod enc Try.prog W base spare held n 3 (([c0, c1, c2, c3, c4].drop 4).take (Try.prog.cellsOf 3)) = some y2 := t2
  replace w2 : light Try.prog 3 y2.1 := w2
  rw [e2] at t2
  replace t2 : DataW.trod enc Try.prog W base spare held n 3 [c4] = some y2 := t2
  obtain ⟨z2, q2, g2⟩ := opn_int H enc W base spare held n _ _ t2 w2
  replace q2 : [c4] = [Value.int .i64 z2] := q2
  simp only [List.cons.injEq, and_true] at q0 q1 q2
  obtain ⟨rfl, rfl, rfl⟩ := q0
  obtain rfl := q1
  obtain rfl := q2
  exact ⟨(⟨z0, z1, z2⟩ : S47), k47_mk W (⟨z0, z1, z2⟩ : S47) , g0, g1, g2⟩
def ok49 (x : S49) : Prop := (ok47 x.f0) ∧ (wfI x.f1)
theorem len_6 (cs : List Value) (h : cs.length = 6) : ∃ c0 c1 c2 c3 c4 c5, cs = [c0, c1, c2, c3, c4, c5] := by match cs, h with | [c0, c1, c2, c3, c4, c5], _ => exact ⟨c0, c1, c2, c3, c4, c5, rfl⟩
theorem opn49 : Opn Try.prog k49 49 ok49 := by
  intro H enc W base spare held fuel cs x h hw
  obtain ⟨hl, n, hf⟩ := opn_struct Try.underlying49 h hw
  have hl' : cs.length = 6 := hl.trans (by kernel_rfl)
  obtain ⟨c0, c1, c2, c3, c4, c5, rfl⟩ := len_6 cs hl'
  have e0 : Try.prog.cellsOf 47 = 5 := by kernel_rfl
  obtain ⟨y0, t0, w0⟩ := hf 0 _ rfl
  replace t0 : DataW.trod enc Try.prog W base spare held n 47 (([c0, c1, c2, c3, c4, c5].drop 0).take (Try.prog.cellsOf 47)) = some y0 := t0
  replace w0 : light Try.prog 47 y0.1 := w0
  rw [e0] at t0
  replace t0 : DataW.trod enc Try.prog W base spare held n 47 [c0, c1, c2, c3, c4] = some y0 := t0
  obtain ⟨z0, q0, g0⟩ := opn47 H enc W base spare held n _ _ t0 w0
  replace q0 := k47_open q0
  have e1 : Try.prog.cellsOf 3 = 1 := by kernel_rfl
  obtain ⟨y1, t1, w1⟩ := hf 1 _ rfl
  replace t1 : DataW.trod enc Try.prog W base spare held n 3 (([c0, c1, c2, c3, c4, c5].drop 5).take (Try.prog.cellsOf 3)) = some y1 := t1
  replace w1 : light Try.prog 3 y1.1 := w1
  rw [e1] at t1
  replace t1 : DataW.trod enc Try.prog W base spare held n 3 [c5] = some y1 := t1
  obtain ⟨z1, q1, g1⟩ := opn_int H enc W base spare held n _ _ t1 w1
  replace q1 : [c5] = [Value.int .i64 z1] := q1
  simp only [List.cons.injEq, and_true] at q0 q1
  obtain ⟨rfl, rfl, rfl, rfl, rfl⟩ := q0
  obtain rfl := q1
  exact ⟨(⟨z0, z1⟩ : S49), k49_mk W (⟨z0, z1⟩ : S49) , g0, g1⟩
def ok35 (x : S35) : Prop := (ok31 x.f0) ∧ (wfI x.f1) ∧ (wfI x.f2) ∧ (wfI x.f3) ∧ ((∀ z ∈ x.f4, wfI z) ∧ x.f4.length * Try.prog.bytesOf 3 ≤ reachBytes) ∧ ((∀ z ∈ x.f5, ok47 z) ∧ x.f5.length * Try.prog.bytesOf 47 ≤ reachBytes) ∧ ((∀ z ∈ x.f6, wfI z) ∧ x.f6.length * Try.prog.bytesOf 3 ≤ reachBytes)
theorem len_10 (cs : List Value) (h : cs.length = 10) : ∃ c0 c1 c2 c3 c4 c5 c6 c7 c8 c9, cs = [c0, c1, c2, c3, c4, c5, c6, c7, c8, c9] := by match cs, h with | [c0, c1, c2, c3, c4, c5, c6, c7, c8, c9], _ => exact ⟨c0, c1, c2, c3, c4, c5, c6, c7, c8, c9, rfl⟩
theorem opn35 : Opn Try.prog k35 35 ok35 := by
  intro H enc W base spare held fuel cs x h hw
  obtain ⟨hl, n, hf⟩ := opn_struct Try.underlying35 h hw
  have hl' : cs.length = 10 := hl.trans (by kernel_rfl)
  obtain ⟨c0, c1, c2, c3, c4, c5, c6, c7, c8, c9, rfl⟩ := len_10 cs hl'
  have e0 : Try.prog.cellsOf 31 = 4 := by kernel_rfl
  obtain ⟨y0, t0, w0⟩ := hf 0 _ rfl
  replace t0 : DataW.trod enc Try.prog W base spare held n 31 (([c0, c1, c2, c3, c4, c5, c6, c7, c8, c9].drop 0).take (Try.prog.cellsOf 31)) = some y0 := t0
  replace w0 : light Try.prog 31 y0.1 := w0
  rw [e0] at t0
  replace t0 : DataW.trod enc Try.prog W base spare held n 31 [c0, c1, c2, c3] = some y0 := t0
  obtain ⟨z0, q0, g0⟩ := opn31 H enc W base spare held n _ _ t0 w0
  replace q0 := k31_open q0
  have e1 : Try.prog.cellsOf 3 = 1 := by kernel_rfl
  obtain ⟨y1, t1, w1⟩ := hf 1 _ rfl
  replace t1 : DataW.trod enc Try.prog W base spare held n 3 (([c0, c1, c2, c3, c4, c5, c6, c7, c8, c9].drop 4).take (Try.prog.cellsOf 3)) = some y1 := t1
  replace w1 : light Try.prog 3 y1.1 := w1
  rw [e1] at t1
  replace t1 : DataW.trod enc Try.prog W base spare held n 3 [c4] = some y1 := t1
  obtain ⟨z1, q1, g1⟩ := opn_int H enc W base spare held n _ _ t1 w1
  replace q1 : [c4] = [Value.int .i64 z1] := q1
  have e2 : Try.prog.cellsOf 3 = 1 := by kernel_rfl
  obtain ⟨y2, t2, w2⟩ := hf 2 _ rfl
  replace t2 : DataW.trod enc Try.prog W base spare held n 3 (([c0, c1, c2, c3, c4, c5, c6, c7, c8, c9].drop 5).take (Try.prog.cellsOf 3)) = some y2 := t2
  replace w2 : light Try.prog 3 y2.1 := w2
  rw [e2] at t2
  replace t2 : DataW.trod enc Try.prog W base spare held n 3 [c5] = some y2 := t2
  obtain ⟨z2, q2, g2⟩ := opn_int H enc W base spare held n _ _ t2 w2
  replace q2 : [c5] = [Value.int .i64 z2] := q2
  have e3 : Try.prog.cellsOf 3 = 1 := by kernel_rfl
  obtain ⟨y3, t3, w3⟩ := hf 3 _ rfl
  replace t3 : DataW.trod enc Try.prog W base spare held n 3 (([c0, c1, c2, c3, c4, c5, c6, c7, c8, c9].drop 6).take (Try.prog.cellsOf 3)) = some y3 := t3
  replace w3 : light Try.prog 3 y3.1 := w3
  rw [e3] at t3
  replace t3 : DataW.trod enc Try.prog W base spare held n 3 [c6] = some y3 := t3
  obtain ⟨z3, q3, g3⟩ := opn_int H enc W base spare held n _ _ t3 w3
  replace q3 : [c6] = [Value.int .i64 z3] := q3
  have e4 : Try.prog.cellsOf 32 = 1 := by kernel_rfl
  obtain ⟨y4, t4, w4⟩ := hf 4 _ rfl
  replace t4 : DataW.trod enc Try.prog W base spare held n 32 (([c0, c1, c2, c3, c4, c5, c6, c7, c8, c9].drop 7).take (Try.prog.cellsOf 32)) = some y4 := t4
  replace w4 : light Try.prog 32 y4.1 := w4
  rw [e4] at t4
  replace t4 : DataW.trod enc Try.prog W base spare held n 32 [c7] = some y4 := t4
  obtain ⟨z4, ⟨A4, b4, q4, l4, r4⟩, g4⟩ := opn_slice Try.underlying32 opn_int (by kernel_rfl) (by decide) H enc W base spare held n _ _ t4 w4
  have e5 : Try.prog.cellsOf 33 = 1 := by kernel_rfl
  obtain ⟨y5, t5, w5⟩ := hf 5 _ rfl
  replace t5 : DataW.trod enc Try.prog W base spare held n 33 (([c0, c1, c2, c3, c4, c5, c6, c7, c8, c9].drop 8).take (Try.prog.cellsOf 33)) = some y5 := t5
  replace w5 : light Try.prog 33 y5.1 := w5
  rw [e5] at t5
  replace t5 : DataW.trod enc Try.prog W base spare held n 33 [c8] = some y5 := t5
  obtain ⟨z5, ⟨A5, b5, q5, l5, r5⟩, g5⟩ := opn_slice Try.underlying33 opn47 (by kernel_rfl) (by decide) H enc W base spare held n _ _ t5 w5
  have e6 : Try.prog.cellsOf 32 = 1 := by kernel_rfl
  obtain ⟨y6, t6, w6⟩ := hf 6 _ rfl
  replace t6 : DataW.trod enc Try.prog W base spare held n 32 (([c0, c1, c2, c3, c4, c5, c6, c7, c8, c9].drop 9).take (Try.prog.cellsOf 32)) = some y6 := t6
  replace w6 : light Try.prog 32 y6.1 := w6
  rw [e6] at t6
  replace t6 : DataW.trod enc Try.prog W base spare held n 32 [c9] = some y6 := t6
  obtain ⟨z6, ⟨A6, b6, q6, l6, r6⟩, g6⟩ := opn_slice Try.underlying32 opn_int (by kernel_rfl) (by decide) H enc W base spare held n _ _ t6 w6
  simp only [List.cons.injEq, and_true] at q0 q1 q2 q3 q4 q5 q6
  obtain ⟨rfl, rfl, rfl, rfl⟩ := q0
  obtain rfl := q1
  obtain rfl := q2
  obtain rfl := q3
  obtain rfl := q4
  obtain rfl := q5
  obtain rfl := q6
  exact ⟨(⟨z0, z1, z2, z3, z4, z5, z6⟩ : S35), k35_mk W (⟨z0, z1, z2, z3, z4, z5, z6⟩ : S35) l4 r4 l5 r5 l6 r6, g0, g1, g2, g3, g4, g5, g6⟩
def ok28 (x : S28) : Prop := ((∀ z ∈ x.f0, ok49 z) ∧ x.f0.length * Try.prog.bytesOf 49 ≤ reachBytes)
theorem len_1 (cs : List Value) (h : cs.length = 1) : ∃ c0, cs = [c0] := by match cs, h with | [c0], _ => exact ⟨c0, rfl⟩
theorem opn28 : Opn Try.prog k28 28 ok28 := by
  intro H enc W base spare held fuel cs x h hw
  obtain ⟨hl, n, hf⟩ := opn_struct Try.underlying28 h hw
  have hl' : cs.length = 1 := hl.trans (by kernel_rfl)
  obtain ⟨c0, rfl⟩ := len_1 cs hl'
  have e0 : Try.prog.cellsOf 26 = 1 := by kernel_rfl
  obtain ⟨y0, t0, w0⟩ := hf 0 _ rfl
  replace t0 : DataW.trod enc Try.prog W base spare held n 26 (([c0].drop 0).take (Try.prog.cellsOf 26)) = some y0 := t0
  replace w0 : light Try.prog 26 y0.1 := w0
  rw [e0] at t0
  replace t0 : DataW.trod enc Try.prog W base spare held n 26 [c0] = some y0 := t0
  obtain ⟨z0, ⟨A0, b0, q0, l0, r0⟩, g0⟩ := opn_slice Try.underlying26 opn49 (by kernel_rfl) (by decide) H enc W base spare held n _ _ t0 w0
  simp only [List.cons.injEq, and_true] at q0
  obtain rfl := q0
  exact ⟨(⟨z0⟩ : S28), k28_mk W (⟨z0⟩ : S28) l0 r0, g0⟩
end Go.Proofs.Ytodmmckieoakjaa.P
namespace Go.Proofs.Ytodmmckieoakjaa.P
open Go.RowKit Go.Proofs.YtodmmckieoakjaaW.PrintWords Go.Proofs.YtodmmckieoakjaaW.PrintLast Go.Proofs.YtodmmckieoakjaaW.PrintMore
theorem bytes49 : Try.prog.bytesOf 49 = 48 := by kernel_rfl
end Go.Proofs.Ytodmmckieoakjaa.P
namespace Go.Proofs.Ytodmmckieoakjaa.P
open Go.RowKit Go.Proofs.YtodmmckieoakjaaW.PrintWords Go.Proofs.YtodmmckieoakjaaW.PrintLast Go.Proofs.YtodmmckieoakjaaW.PrintMore
attribute [local go_sem] max2_int min2_int max_two min_two max_three min_three max_four min_four   -- for this text's walks alone
set_option linter.unusedVariables false
set_option linter.unusedSimpArgs false
mutual
def sizarref35_Replace.l0 : Nat → Int → Int → List (S49) → Int → Int → Int → Int → Int → Int → Int → List Int → List (S47) → List Int → List (S49) → Option ((List (S49)))
 | 0, _, _, _, _, _, _, _, _, _, _, _, _, _, _ => none
 | k + 1, x1, x8, x279000, x280000, x280001, x280002, x280003, x280004, x280005, x280006, x280007, x280008, x280009, x282000 => if x8 < (x279000.length : Int) then (if 0 ≤ x8 then (if ((rd_T49 x279000 x8).f1) = x1 then (sizarref35_Replace.l0 k x1 (wrap64 (x8 + 1)) x279000 x280000 x280001 x280002 x280003 x280004 x280005 x280006 x280007 x280008 x280009 x282000) else ((sizarref35_with.f k x282000 ((rd_T49 x279000 x8).f0.f0.f0) ((rd_T49 x279000 x8).f0.f0.f1) ((rd_T49 x279000 x8).f0.f0.f2) ((rd_T49 x279000 x8).f0.f1) ((rd_T49 x279000 x8).f0.f2) ((rd_T49 x279000 x8).f1)).bind fun t284 => (sizarref35_Replace.l0 k x1 (wrap64 (x8 + 1)) x279000 x280000 x280001 x280002 x280003 x280004 x280005 x280006 x280007 x280008 x280009 t284))) else (none)) else (sizarref35_Replace.l1 k x1 0 x280000 x280001 x280002 x280003 x280004 x280005 x280006 x280007 x280008 x280009 x282000)
def sizarref35_Replace.l1 : Nat → Int → Int → Int → Int → Int → Int → Int → Int → Int → List Int → List (S47) → List Int → List (S49) → Option ((List (S49)))
 | 0, _, _, _, _, _, _, _, _, _, _, _, _, _ => none
 | k + 1, x1, x9, x280000, x280001, x280002, x280003, x280004, x280005, x280006, x280007, x280008, x280009, x282000 => if x9 < (x280008.length : Int) then (if 0 ≤ x9 then ((sizarref35_with.f k x282000 ((rd_T47 x280008 x9).f0.f0) ((rd_T47 x280008 x9).f0.f1) ((rd_T47 x280008 x9).f0.f2) ((rd_T47 x280008 x9).f1) ((rd_T47 x280008 x9).f2) x1).bind fun t288 => (sizarref35_Replace.l1 k x1 (wrap64 (x9 + 1)) x280000 x280001 x280002 x280003 x280004 x280005 x280006 x280007 x280008 x280009 t288)) else (none)) else (some x282000)
end
def sizarref35_Replace.f (k : Nat) (l0_0 : List (S49)) (a1 : Int) (a2_0 : Int) (a2_1 : Int) (a2_2 : Int) (a2_3 : Int) (a2_4 : Int) (a2_5 : Int) (a2_6 : Int) (l2_7 : List Int) (l2_8 : List (S47)) (l2_9 : List Int) : Option ((List (S49))) := sizarref35_Replace.l0 k a1 0 l0_0 a2_0 a2_1 a2_2 a2_3 a2_4 a2_5 a2_6 l2_7 l2_8 l2_9 ([] : List (S49))
def sizarref35_Replace.T6 : Bool × List (List Nat × List Nat) := (true, [([], []), ([0], [0]), ([], []), ([2], [2]), ([], []), ([3, 4], [3, 4]), ([5], [5]), ([1, 6], [1, 6]), ([0, 1, 2, 3, 4, 5, 6, 7], []), ([8, 7, 7, 0, 1, 2, 3, 4, 5, 6, 7], [7, 8])])
def sizarref35_Replace.B6 : List Nat := [0, 1, 0, 4, 0, 28, 60, 127, 255, 511]
theorem sizarref35_Replace.tab6 : rtab .any (opsOf Try.f19 6) = sizarref35_Replace.T6 := by kernel_rfl
theorem sizarref35_Replace.bits6 : waitsOk sizarref35_Replace.T6.2 sizarref35_Replace.B6 = true := by kernel_rfl
def sizarref35_Replace.T10 : Bool × List (List Nat × List Nat) := (true, [([], []), ([0], [0]), ([], []), ([2], [2]), ([], []), ([3, 4], [3, 4]), ([5], [5]), ([], []), ([6, 7], [6, 7]), ([1, 8], [1, 8]), ([0, 1, 2, 3, 4, 5, 6, 7, 8, 9], []), ([10, 9, 9, 0, 1, 2, 3, 4, 5, 6, 7, 8, 9], [9, 10])])
def sizarref35_Replace.B10 : List Nat := [0, 1, 0, 4, 0, 28, 60, 0, 252, 511, 1023, 2047]
theorem sizarref35_Replace.tab10 : rtab .any (opsOf Try.f19 10) = sizarref35_Replace.T10 := by kernel_rfl
theorem sizarref35_Replace.bits10 : waitsOk sizarref35_Replace.T10.2 sizarref35_Replace.B10 = true := by kernel_rfl
set_option maxHeartbeats 8000000 in
set_option maxRecDepth 100000 in
theorem sizarref35_Replace.calls (k : Nat) (A0_0 : Option Addr) (c0_0 : Nat) (l0_0 : List (S49)) (a1 : Int) (a2_0 : Int) (a2_1 : Int) (a2_2 : Int) (a2_3 : Int) (a2_4 : Int) (a2_5 : Int) (a2_6 : Int) (A2_7 : Option Addr) (c2_7 : Nat) (l2_7 : List Int) (A2_8 : Option Addr) (c2_8 : Nat) (l2_8 : List (S47)) (A2_9 : Option Addr) (c2_9 : Nat) (l2_9 : List Int) (r : List (S49)) (w : World) (hr0_0 : Kd.C k49 w A0_0 l0_0.length l0_0) (hc0_0 : l0_0.length ≤ c0_0) (hr2_7 : Kd.C (Kd.int .i64) w A2_7 l2_7.length l2_7) (hc2_7 : l2_7.length ≤ c2_7) (hr2_8 : Kd.C k47 w A2_8 l2_8.length l2_8) (hc2_8 : l2_8.length ≤ c2_8) (hr2_9 : Kd.C (Kd.int .i64) w A2_9 l2_9.length l2_9) (hc2_9 : l2_9.length ≤ c2_9) (h : sizarref35_Replace.f k l0_0 a1 a2_0 a2_1 a2_2 a2_3 a2_4 a2_5 a2_6 l2_7 l2_8 l2_9 = some r) :
  Calls Try.prog 19 #[.agg #[.slice A0_0 l0_0.length c0_0], .int .i64 a1, .agg #[.int .i64 a2_0, .int .i64 a2_1, .int .i64 a2_2, .int .i64 a2_3, .int .i64 a2_4, .int .i64 a2_5, .int .i64 a2_6, .slice A2_7 l2_7.length c2_7, .slice A2_8 l2_8.length c2_8, .slice A2_9 l2_9.length c2_9]] w fun e w' => ∃ v0_ : Value, e = .returned (.agg #[v0_]) ∧ Kd.R k49 49 w' w.heap.size (fun _ => True) v0_ r ∧ Below w.heap.size w w' := by
 have hu28 := Try.underlying28
 have hu35 := Try.underlying35
 have hu49 := Try.underlying49
 have hu47 := Try.underlying47
 have HR0_0 := Aside0.mk hr0_0
 have HC0_0 := Aside0.mk hc0_0
 clear hr0_0 hc0_0
 have HR2_7 := Aside0.mk hr2_7
 have HC2_7 := Aside0.mk hc2_7
 clear hr2_7 hc2_7
 have HR2_8 := Aside0.mk hr2_8
 have HC2_8 := Aside0.mk hc2_8
 clear hr2_8 hc2_8
 have HR2_9 := Aside0.mk hr2_9
 have HC2_9 := Aside0.mk hc2_9
 clear hr2_9 hc2_9
 have HB := Aside0.mk (Below.refl w.heap.size w)
 have H : (sizarref35_Replace.l0 k a1 0 l0_0 a2_0 a2_1 a2_2 a2_3 a2_4 a2_5 a2_6 l2_7 l2_8 l2_9 ([] : List (S49))) = some r := h
 clear h
 have H' := Aside0.mk H
 clear H
 go_enter Try.func19, Try.ntmps19
 go_wp2_with (first | ((with_reducible refine gate_dst (N := 3) rfl ?_); refine box_event ?hg (N := 3) ?hd (cs := #[.slice A0_0 l0_0.length c0_0]) (t := 28) ?hr ?_; (case hd => rfl); (case hg => rfl); (case hr => first | (go_simp; done) | (go_simp; rfl)); intro gb278 hg w4 hbox hb; have n0_ := Aside0.mk (below_step (by repeat (first | (with_reducible first | exact HB.out | apply below_alloc | apply pw_below_drewN | apply below_drew1) | exact HB.out)) hb); have n1_ := Aside0.mk (hbox); have n2_ := Aside0.mk ((by rw [hg]; exact (below_size (by repeat (first | (with_reducible first | exact HB.out | apply below_alloc | apply pw_below_drewN | apply below_drew1) | exact HB.out))) : w.heap.size ≤ gb278)); have n3_ := Aside0.mk ((by rw [hg]; exact (below_size (by repeat (first | (with_reducible first | exact HB.out | apply below_alloc | apply pw_below_drewN | apply below_drew1) | exact HB.out))) : w.heap.size ≤ gb278)); clear HB; have HB := n0_; have BK278 := n1_; have GW278 := n2_; have GE278 := n3_; clear n0_ n1_ n2_ n3_; clear hb hbox hg) | ((with_reducible refine gate_dst (N := 5) rfl ?_); refine box_event ?hg (N := 5) ?hd (cs := #[.int .i64 a2_0, .int .i64 a2_1, .int .i64 a2_2, .int .i64 a2_3, .int .i64 a2_4, .int .i64 a2_5, .int .i64 a2_6, .slice A2_7 l2_7.length c2_7, .slice A2_8 l2_8.length c2_8, .slice A2_9 l2_9.length c2_9]) (t := 35) ?hr ?_; (case hd => rfl); (case hg => rfl); (case hr => first | (go_simp; done) | (go_simp; rfl)); intro gb279 hg w5 hbox hb; have n0_ := Aside0.mk (blk_below (g := gb278) (o := .cells #[.slice A0_0 l0_0.length c0_0] 28 (0, 0)) (by (with_reducible repeat (first | refine blk_drewN ?_ _ | refine blk_drew ?_ | refine blk_alloc ?_ _)); exact BK278.out) hb); have n1_ := Aside0.mk (below_step (by repeat (first | (with_reducible first | exact HB.out | apply below_alloc | apply pw_below_drewN | apply below_drew1 | refine below_set ?_ GE278.out) | exact HB.out)) hb); have n2_ := Aside0.mk (hbox); have n3_ := Aside0.mk ((by rw [hg]; exact (below_size (by repeat (first | (with_reducible first | exact HB.out | apply below_alloc | apply pw_below_drewN | apply below_drew1 | refine below_set ?_ GE278.out) | exact HB.out))) : w.heap.size ≤ gb279)); have n4_ := Aside0.mk ((by rw [hg]; exact (below_size (by repeat (first | (with_reducible first | exact HB.out | apply below_alloc | apply pw_below_drewN | apply below_drew1 | refine below_set ?_ GE278.out) | exact HB.out))) : w.heap.size ≤ gb279)); have n5_ := Aside0.mk ((by rw [hg]; exact Nat.ne_of_lt (blk_lt (g := gb278) (o := .cells #[.slice A0_0 l0_0.length c0_0] 28 (0, 0)) (by (with_reducible repeat (first | refine blk_drewN ?_ _ | refine blk_drew ?_ | refine blk_alloc ?_ _)); exact BK278.out)) : gb278 ≠ gb279)); have n6_ := Aside0.mk ((by rw [hg]; exact Nat.ne_of_gt (blk_lt (g := gb278) (o := .cells #[.slice A0_0 l0_0.length c0_0] 28 (0, 0)) (by (with_reducible repeat (first | refine blk_drewN ?_ _ | refine blk_drew ?_ | refine blk_alloc ?_ _)); exact BK278.out)) : gb279 ≠ gb278)); clear BK278; clear HB; have BK278 := n0_; have HB := n1_; have BK279 := n2_; have GW279 := n3_; have GE279 := n4_; have NB278_279 := n5_; have NB279_278 := n6_; clear n0_ n1_ n2_ n3_ n4_ n5_ n6_; clear hb hbox hg) | ((with_reducible refine gate_dst (N := 6) rfl ?_); refine box_event ?hg (N := 6) ?hd (cs := #[.slice none 0 0]) (t := 28) ?hr ?_; (case hd => rfl); (case hg => rfl); (case hr => first | (go_simp; done) | (go_simp; rfl)); intro gb280 hg w6 hbox hb; have n0_ := Aside0.mk (blk_below (g := gb278) (o := .cells #[.slice A0_0 l0_0.length c0_0] 28 (0, 0)) (by (with_reducible repeat (first | refine blk_drewN ?_ _ | refine blk_drew ?_ | refine blk_alloc ?_ _)); exact BK278.out) hb); have n1_ := Aside0.mk (blk_below (g := gb279) (o := .cells #[.int .i64 a2_0, .int .i64 a2_1, .int .i64 a2_2, .int .i64 a2_3, .int .i64 a2_4, .int .i64 a2_5, .int .i64 a2_6, .slice A2_7 l2_7.length c2_7, .slice A2_8 l2_8.length c2_8, .slice A2_9 l2_9.length c2_9] 35 (0, 0)) (by (with_reducible repeat (first | refine blk_drewN ?_ _ | refine blk_drew ?_ | refine blk_alloc ?_ _)); exact BK279.out) hb); have n2_ := Aside0.mk (below_step (by repeat (first | (with_reducible first | exact HB.out | apply below_alloc | apply pw_below_drewN | apply below_drew1 | refine below_set ?_ GE278.out | refine below_set ?_ GE279.out) | exact HB.out)) hb); have n3_ := Aside0.mk (hbox); have n4_ := Aside0.mk ((by rw [hg]; exact (below_size (by repeat (first | (with_reducible first | exact HB.out | apply below_alloc | apply pw_below_drewN | apply below_drew1 | refine below_set ?_ GE278.out | refine below_set ?_ GE279.out) | exact HB.out))) : w.heap.size ≤ gb280)); have n5_ := Aside0.mk ((by rw [hg]; exact (below_size (by repeat (first | (with_reducible first | exact HB.out | apply below_alloc | apply pw_below_drewN | apply below_drew1 | refine below_set ?_ GE278.out | refine below_set ?_ GE279.out) | exact HB.out))) : w.heap.size ≤ gb280)); have n6_ := Aside0.mk ((by rw [hg]; exact Nat.ne_of_lt (blk_lt (g := gb278) (o := .cells #[.slice A0_0 l0_0.length c0_0] 28 (0, 0)) (by (with_reducible repeat (first | refine blk_drewN ?_ _ | refine blk_drew ?_ | refine blk_alloc ?_ _)); exact BK278.out)) : gb278 ≠ gb280)); have n7_ := Aside0.mk ((by rw [hg]; exact Nat.ne_of_gt (blk_lt (g := gb278) (o := .cells #[.slice A0_0 l0_0.length c0_0] 28 (0, 0)) (by (with_reducible repeat (first | refine blk_drewN ?_ _ | refine blk_drew ?_ | refine blk_alloc ?_ _)); exact BK278.out)) : gb280 ≠ gb278)); have n8_ := Aside0.mk ((by rw [hg]; exact Nat.ne_of_lt (blk_lt (g := gb279) (o := .cells #[.int .i64 a2_0, .int .i64 a2_1, .int .i64 a2_2, .int .i64 a2_3, .int .i64 a2_4, .int .i64 a2_5, .int .i64 a2_6, .slice A2_7 l2_7.length c2_7, .slice A2_8 l2_8.length c2_8, .slice A2_9 l2_9.length c2_9] 35 (0, 0)) (by (with_reducible repeat (first | refine blk_drewN ?_ _ | refine blk_drew ?_ | refine blk_alloc ?_ _)); exact BK279.out)) : gb279 ≠ gb280)); have n9_ := Aside0.mk ((by rw [hg]; exact Nat.ne_of_gt (blk_lt (g := gb279) (o := .cells #[.int .i64 a2_0, .int .i64 a2_1, .int .i64 a2_2, .int .i64 a2_3, .int .i64 a2_4, .int .i64 a2_5, .int .i64 a2_6, .slice A2_7 l2_7.length c2_7, .slice A2_8 l2_8.length c2_8, .slice A2_9 l2_9.length c2_9] 35 (0, 0)) (by (with_reducible repeat (first | refine blk_drewN ?_ _ | refine blk_drew ?_ | refine blk_alloc ?_ _)); exact BK279.out)) : gb280 ≠ gb279)); clear BK278; clear BK279; clear HB; have BK278 := n0_; have BK279 := n1_; have HB := n2_; have BK280 := n3_; have GW280 := n4_; have GE280 := n5_; have NB278_280 := n6_; have NB280_278 := n7_; have NB279_280 := n8_; have NB280_279 := n9_; clear n0_ n1_ n2_ n3_ n4_ n5_ n6_ n7_ n8_ n9_; clear hb hbox hg) | ((with_reducible refine gate_dst (N := 7) rfl ?_); refine box_event ?hg (N := 7) ?hd (cs := #[.slice none 0 0]) (t := 28) ?hr ?_; (case hd => rfl); (case hg => rfl); (case hr => first | (go_simp; done) | (go_simp; rfl)); intro gb281 hg w7 hbox hb; have n0_ := Aside0.mk (blk_below (g := gb278) (o := .cells #[.slice A0_0 l0_0.length c0_0] 28 (0, 0)) (by (with_reducible repeat (first | refine blk_drewN ?_ _ | refine blk_drew ?_ | refine blk_alloc ?_ _)); exact BK278.out) hb); have n1_ := Aside0.mk (blk_below (g := gb279) (o := .cells #[.int .i64 a2_0, .int .i64 a2_1, .int .i64 a2_2, .int .i64 a2_3, .int .i64 a2_4, .int .i64 a2_5, .int .i64 a2_6, .slice A2_7 l2_7.length c2_7, .slice A2_8 l2_8.length c2_8, .slice A2_9 l2_9.length c2_9] 35 (0, 0)) (by (with_reducible repeat (first | refine blk_drewN ?_ _ | refine blk_drew ?_ | refine blk_alloc ?_ _)); exact BK279.out) hb); have n2_ := Aside0.mk (blk_below (g := gb280) (o := .cells #[.slice none 0 0] 28 (0, 0)) (by (with_reducible repeat (first | refine blk_drewN ?_ _ | refine blk_drew ?_ | refine blk_alloc ?_ _)); exact BK280.out) hb); have n3_ := Aside0.mk (below_step (by repeat (first | (with_reducible first | exact HB.out | apply below_alloc | apply pw_below_drewN | apply below_drew1 | refine below_set ?_ GE278.out | refine below_set ?_ GE279.out | refine below_set ?_ GE280.out) | exact HB.out)) hb); have n4_ := Aside0.mk (hbox); have n5_ := Aside0.mk ((by rw [hg]; exact (below_size (by repeat (first | (with_reducible first | exact HB.out | apply below_alloc | apply pw_below_drewN | apply below_drew1 | refine below_set ?_ GE278.out | refine below_set ?_ GE279.out | refine below_set ?_ GE280.out) | exact HB.out))) : w.heap.size ≤ gb281)); have n6_ := Aside0.mk ((by rw [hg]; exact (below_size (by repeat (first | (with_reducible first | exact HB.out | apply below_alloc | apply pw_below_drewN | apply below_drew1 | refine below_set ?_ GE278.out | refine below_set ?_ GE279.out | refine below_set ?_ GE280.out) | exact HB.out))) : w.heap.size ≤ gb281)); have n7_ := Aside0.mk ((by rw [hg]; exact Nat.ne_of_lt (blk_lt (g := gb278) (o := .cells #[.slice A0_0 l0_0.length c0_0] 28 (0, 0)) (by (with_reducible repeat (first | refine blk_drewN ?_ _ | refine blk_drew ?_ | refine blk_alloc ?_ _)); exact BK278.out)) : gb278 ≠ gb281)); have n8_ := Aside0.mk ((by rw [hg]; exact Nat.ne_of_gt (blk_lt (g := gb278) (o := .cells #[.slice A0_0 l0_0.length c0_0] 28 (0, 0)) (by (with_reducible repeat (first | refine blk_drewN ?_ _ | refine blk_drew ?_ | refine blk_alloc ?_ _)); exact BK278.out)) : gb281 ≠ gb278)); have n9_ := Aside0.mk ((by rw [hg]; exact Nat.ne_of_lt (blk_lt (g := gb279) (o := .cells #[.int .i64 a2_0, .int .i64 a2_1, .int .i64 a2_2, .int .i64 a2_3, .int .i64 a2_4, .int .i64 a2_5, .int .i64 a2_6, .slice A2_7 l2_7.length c2_7, .slice A2_8 l2_8.length c2_8, .slice A2_9 l2_9.length c2_9] 35 (0, 0)) (by (with_reducible repeat (first | refine blk_drewN ?_ _ | refine blk_drew ?_ | refine blk_alloc ?_ _)); exact BK279.out)) : gb279 ≠ gb281)); have n10_ := Aside0.mk ((by rw [hg]; exact Nat.ne_of_gt (blk_lt (g := gb279) (o := .cells #[.int .i64 a2_0, .int .i64 a2_1, .int .i64 a2_2, .int .i64 a2_3, .int .i64 a2_4, .int .i64 a2_5, .int .i64 a2_6, .slice A2_7 l2_7.length c2_7, .slice A2_8 l2_8.length c2_8, .slice A2_9 l2_9.length c2_9] 35 (0, 0)) (by (with_reducible repeat (first | refine blk_drewN ?_ _ | refine blk_drew ?_ | refine blk_alloc ?_ _)); exact BK279.out)) : gb281 ≠ gb279)); have n11_ := Aside0.mk ((by rw [hg]; exact Nat.ne_of_lt (blk_lt (g := gb280) (o := .cells #[.slice none 0 0] 28 (0, 0)) (by (with_reducible repeat (first | refine blk_drewN ?_ _ | refine blk_drew ?_ | refine blk_alloc ?_ _)); exact BK280.out)) : gb280 ≠ gb281)); have n12_ := Aside0.mk ((by rw [hg]; exact Nat.ne_of_gt (blk_lt (g := gb280) (o := .cells #[.slice none 0 0] 28 (0, 0)) (by (with_reducible repeat (first | refine blk_drewN ?_ _ | refine blk_drew ?_ | refine blk_alloc ?_ _)); exact BK280.out)) : gb281 ≠ gb280)); clear BK278; clear BK279; clear BK280; clear HB; have BK278 := n0_; have BK279 := n1_; have BK280 := n2_; have HB := n3_; have BK281 := n4_; have GW281 := n5_; have GE281 := n6_; have NB278_281 := n7_; have NB281_278 := n8_; have NB279_281 := n9_; have NB281_279 := n10_; have NB280_281 := n11_; have NB281_280 := n12_; clear n0_ n1_ n2_ n3_ n4_ n5_ n6_ n7_ n8_ n9_ n10_ n11_ n12_; clear hb hbox hg; have hnb8 := NB281_278.out; have hnc8 := NB278_281.out; have hnb9 := NB281_279.out; have hnc9 := NB279_281.out; have hnb10 := NB281_280.out; have hnc10 := NB280_281.out; have hcz11_0 : w7.cell? ⟨gb281, 0, none⟩ = some (.slice none 0 0) := (blk_cell BK281.out 0).trans rfl; have hfz11_0 := blk_frozen BK281.out 0))
 go_loopg [8] k (fun kq v8 w' => ∃ (x8_1 : Int) (x282000_1 : List (S49)) (u282000 : Value), v8 = .int .i64 x8_1 ∧ Aside0 (sizarref35_Replace.l0 kq a1 x8_1 l0_0 a2_0 a2_1 a2_2 a2_3 a2_4 a2_5 a2_6 l2_7 l2_8 l2_9 x282000_1 = some r) ∧ Aside0 (kq ≤ k) ∧ Aside0 (Kd.R k49 49 w' w.heap.size (fun _ => True) u282000 x282000_1) ∧ Aside0 (w'.heap[gb278]? = some (.cells #[(.slice A0_0 l0_0.length c0_0)] 28 (0, 0))) ∧ Aside0 (w'.heap[gb279]? = some (.cells #[.int .i64 a2_0, .int .i64 a2_1, .int .i64 a2_2, .int .i64 a2_3, .int .i64 a2_4, .int .i64 a2_5, .int .i64 a2_6, (.slice A2_7 l2_7.length c2_7), (.slice A2_8 l2_8.length c2_8), (.slice A2_9 l2_9.length c2_9)] 35 (0, 0))) ∧ Aside0 (w'.heap[gb280]? = some (.cells #[(.slice none 0 0)] 28 (0, 0))) ∧ Aside0 (w'.heap[gb281]? = some (.cells #[u282000] 28 (0, 0))) ∧ Aside0 (Below w.heap.size w w'))
 case atStart => exact ⟨(0), (([] : List (S49))), (.slice none 0 0), (by first | rfl | (simp; done) | (simp [*]; done)), H', ⟨Nat.le_refl _⟩, ⟨by first | exact Kd.R_nil _ _ _ _ _ | exact Kd.N_nil _ _ _ _ _ | exact Kd.V_nil _ _ _ _ _ | exact Kd.Q_nil _ _ _ _ _ | exact Kd.S_nil _ _ _ _ _⟩, ⟨by (with_reducible repeat (first | refine blk_drewN ?_ _ | refine blk_drew ?_ | refine blk_alloc ?_ _)); refine blk_far ?_ NB278_281.out _; (with_reducible repeat (first | refine blk_drewN ?_ _ | refine blk_drew ?_ | refine blk_alloc ?_ _)); exact BK278.out⟩, ⟨by (with_reducible repeat (first | refine blk_drewN ?_ _ | refine blk_drew ?_ | refine blk_alloc ?_ _)); refine blk_far ?_ NB279_281.out _; (with_reducible repeat (first | refine blk_drewN ?_ _ | refine blk_drew ?_ | refine blk_alloc ?_ _)); exact BK279.out⟩, ⟨by (with_reducible repeat (first | refine blk_drewN ?_ _ | refine blk_drew ?_ | refine blk_alloc ?_ _)); refine blk_far ?_ NB280_281.out _; (with_reducible repeat (first | refine blk_drewN ?_ _ | refine blk_drew ?_ | refine blk_alloc ?_ _)); exact BK280.out⟩, ⟨by (with_reducible repeat (first | refine blk_drewN ?_ _ | refine blk_drew ?_ | refine blk_alloc ?_ _)); refine blk_put (cs := #[.slice none 0 0]) ?_ 0 _ rfl; (with_reducible repeat (first | refine blk_drewN ?_ _ | refine blk_drew ?_ | refine blk_alloc ?_ _)); exact BK281.out⟩, ⟨by repeat (first | (with_reducible first | exact HB.out | apply below_alloc | apply pw_below_drewN | apply below_drew1 | refine below_set ?_ GE278.out | refine below_set ?_ GE279.out | refine below_set ?_ GE280.out | refine below_set ?_ GE281.out) | exact HB.out)⟩⟩
 case round =>
  clear H'
  try clear c1
  try clear c2
  try clear p2
  try clear c8
  try clear c9
  try clear c10
  try clear hcz11_0
  try clear hfz11_0
  obtain ⟨x8_1, x282000_1, u282000, rfl, HA, HK1, HO_282000, BK278, BK279, BK280, BK281, HB⟩ := hrel
  cases gk with
  | zero => exact absurd HA.out (by simp [sizarref35_Replace.l0])
  | succ k1 =>
   have H := HA.out
   clear HA
   simp only [sizarref35_Replace.l0] at H
   by_cases c12 : x8_1 < (l0_0.length : Int)
   ·rw [if_pos c12] at H
    have c12b0 : decide (x8_1 < (l0_0.length : Int)) = true := decide_eq_true c12
    clear c12
    by_cases c13 : 0 ≤ x8_1
    ·rw [if_pos c13] at H
     have c13b0 : decide (0 ≤ x8_1) = true := decide_eq_true c13
     clear c13
     by_cases c14 : ((rd_T49 l0_0 x8_1).f1) = a1
     ·rw [if_pos c14] at H
      have c14b0 : (((rd_T49 l0_0 x8_1).f1) == a1) = true := beq_iff_eq.mpr c14
      have c14b1 : (((rd_T49 l0_0 x8_1).f1) != a1) = false := bne_eq_false_iff_eq.mpr c14
      clear c14
      have H' := Aside0.mk H
      clear H
      have hnb15 := NB278_279.out
      have hnc15 := NB279_278.out
      have hnb16 := NB278_280.out
      have hnc16 := NB280_278.out
      have hnb17 := NB278_281.out
      have hnc17 := NB281_278.out
      have hcz18_0 : wr.cell? ⟨gb278, 0, none⟩ = some (.slice A0_0 l0_0.length c0_0) := (blk_cell BK278.out 0).trans rfl
      have hfz18_0 := blk_frozen BK278.out 0
      have p282 : 0 ≤ (x8_1 : Int) := of_decide_eq_true (by first | (with_reducible assumption) | assumption)
      have q282 : x8_1 < (l0_0.length : Int) := of_decide_eq_true (by first | (with_reducible assumption) | assumption)
      obtain ⟨ad282, e282, hx282_0, hx282_1, hx282_2, hx282_3, hx282_4, hx282_5⟩ := at_T49 HR0_0.out x8_1 p282 q282
      cases e282
      replace hx282_0 := (HB.out.cell (World.block_lt_of_cell? w _ hx282_0)).trans hx282_0
      replace hx282_1 := (HB.out.cell (World.block_lt_of_cell? w _ hx282_1)).trans hx282_1
      replace hx282_2 := (HB.out.cell (World.block_lt_of_cell? w _ hx282_2)).trans hx282_2
      replace hx282_3 := (HB.out.cell (World.block_lt_of_cell? w _ hx282_3)).trans hx282_3
      replace hx282_4 := (HB.out.cell (World.block_lt_of_cell? w _ hx282_4)).trans hx282_4
      replace hx282_5 := (HB.out.cell (World.block_lt_of_cell? w _ hx282_5)).trans hx282_5
      replace p282 := eq_true p282
      replace q282 := eq_true q282
      go_wp2
      go_roundg k1
      case measure => have := HK1.out; omega
      case rel => exact ⟨(wrap64 (x8_1 + 1)), (x282000_1), (u282000), (by first | rfl | (simp; done) | (simp [*]; done)), H', ⟨by have := HK1.out; omega⟩, ⟨by (with_reducible repeat (first | apply Kd.R_alloc | apply Kd.R_drewN | apply Kd.R_drew)); exact HO_282000.out⟩, ⟨by (with_reducible repeat (first | refine blk_drewN ?_ _ | refine blk_drew ?_ | refine blk_alloc ?_ _)); exact BK278.out⟩, ⟨by (with_reducible repeat (first | refine blk_drewN ?_ _ | refine blk_drew ?_ | refine blk_alloc ?_ _)); exact BK279.out⟩, ⟨by (with_reducible repeat (first | refine blk_drewN ?_ _ | refine blk_drew ?_ | refine blk_alloc ?_ _)); exact BK280.out⟩, ⟨by (with_reducible repeat (first | refine blk_drewN ?_ _ | refine blk_drew ?_ | refine blk_alloc ?_ _)); exact BK281.out⟩, ⟨by repeat (first | (with_reducible first | exact HB.out | apply below_alloc | apply pw_below_drewN | apply below_drew1 | refine below_set ?_ GE278.out | refine below_set ?_ GE279.out | refine below_set ?_ GE280.out | refine below_set ?_ GE281.out) | exact HB.out)⟩⟩
     ·rw [if_neg c14] at H
      have c14b0 : (((rd_T49 l0_0 x8_1).f1) == a1) = false := beq_eq_false_iff_ne.mpr c14
      have c14b1 : (((rd_T49 l0_0 x8_1).f1) != a1) = true := bne_iff_ne.mpr c14
      replace H := Option.bind_eq_some_iff.mp H
      obtain ⟨t284, A190, H⟩ := H
      replace H : (sizarref35_Replace.l0 k1 a1 (wrap64 (x8_1 + 1)) l0_0 a2_0 a2_1 a2_2 a2_3 a2_4 a2_5 a2_6 l2_7 l2_8 l2_9 t284) = some r := H
      have A19 := Aside0.mk A190
      clear A190
      have H' := Aside0.mk H
      clear H
      have hnb20 := NB278_279.out
      have hnc20 := NB279_278.out
      have hnb21 := NB278_280.out
      have hnc21 := NB280_278.out
      have hnb22 := NB278_281.out
      have hnc22 := NB281_278.out
      have hcz23_0 : wr.cell? ⟨gb278, 0, none⟩ = some (.slice A0_0 l0_0.length c0_0) := (blk_cell BK278.out 0).trans rfl
      have hfz23_0 := blk_frozen BK278.out 0
      have p282 : 0 ≤ (x8_1 : Int) := of_decide_eq_true (by first | (with_reducible assumption) | assumption)
      have q282 : x8_1 < (l0_0.length : Int) := of_decide_eq_true (by first | (with_reducible assumption) | assumption)
      obtain ⟨ad282, e282, hx282_0, hx282_1, hx282_2, hx282_3, hx282_4, hx282_5⟩ := at_T49 HR0_0.out x8_1 p282 q282
      cases e282
      replace hx282_0 := (HB.out.cell (World.block_lt_of_cell? w _ hx282_0)).trans hx282_0
      replace hx282_1 := (HB.out.cell (World.block_lt_of_cell? w _ hx282_1)).trans hx282_1
      replace hx282_2 := (HB.out.cell (World.block_lt_of_cell? w _ hx282_2)).trans hx282_2
      replace hx282_3 := (HB.out.cell (World.block_lt_of_cell? w _ hx282_3)).trans hx282_3
      replace hx282_4 := (HB.out.cell (World.block_lt_of_cell? w _ hx282_4)).trans hx282_4
      replace hx282_5 := (HB.out.cell (World.block_lt_of_cell? w _ hx282_5)).trans hx282_5
      replace p282 := eq_true p282
      replace q282 := eq_true q282
      try go_wp2
      have n0_ := Aside0.mk (Kd.R_drew HO_282000.out)
      have n1_ := Aside0.mk (blk_drew BK278.out)
      have n2_ := Aside0.mk (blk_drew BK279.out)
      have n3_ := Aside0.mk (blk_drew BK280.out)
      have n4_ := Aside0.mk (blk_drew BK281.out)
      have n5_ := Aside0.mk (below_drew1 HB.out)
      clear HO_282000
      clear BK278
      clear BK279
      clear BK280
      clear BK281
      clear HB
      have HO_282000 := n0_
      have BK278 := n1_
      have BK279 := n2_
      have BK280 := n3_
      have BK281 := n4_
      have HB := n5_
      clear n0_ n1_ n2_ n3_ n4_ n5_
      have p283 : 0 ≤ (x8_1 : Int) := of_decide_eq_true (by first | (with_reducible assumption) | assumption)
      have q283 : x8_1 < (l0_0.length : Int) := of_decide_eq_true (by first | (with_reducible assumption) | assumption)
      obtain ⟨ad283, e283, hx283_0, hx283_1, hx283_2, hx283_3, hx283_4, hx283_5⟩ := at_T49 HR0_0.out x8_1 p283 q283
      have hw283_5 := hx283_5
      have hw283_4 := hx283_4
      have hw283_3 := hx283_3
      have hw283_2 := hx283_2
      have hw283_1 := hx283_1
      have hw283_0 := hx283_0
      obtain rfl : ad282 = ad283 := (by injection e283)
      replace hx283_0 := (HB.out.cell (World.block_lt_of_cell? w _ hx283_0)).trans hx283_0
      replace hx283_1 := (HB.out.cell (World.block_lt_of_cell? w _ hx283_1)).trans hx283_1
      replace hx283_2 := (HB.out.cell (World.block_lt_of_cell? w _ hx283_2)).trans hx283_2
      replace hx283_3 := (HB.out.cell (World.block_lt_of_cell? w _ hx283_3)).trans hx283_3
      replace hx283_4 := (HB.out.cell (World.block_lt_of_cell? w _ hx283_4)).trans hx283_4
      replace hx283_5 := (HB.out.cell (World.block_lt_of_cell? w _ hx283_5)).trans hx283_5
      replace p283 := eq_true p283
      replace q283 := eq_true q283
      obtain ⟨Ao25, co25, eo25⟩ := Kd.R_slice HO_282000.out
      (first | subst eo25 | (injection eo25 with f1_ f2_ f3_; have f4_ := f1_.symm; have f5_ := f3_.symm; clear f1_ f2_ f3_; subst f4_; subst f5_))
      refine start_ (n := 10) (S := fun w' => w'.cell? ⟨gb281, 0, none⟩ = some (.slice Ao25 x282000_1.length co25) ∧ w'.cell? ⟨gb278, 0, none⟩ = some (.slice (some ad282) l0_0.length c0_0) ∧ w'.cell? (ad282.add ((x8_1).toNat * 6)) = some (.int .i64 ((rd_T49 l0_0 x8_1).f0.f0.f0)) ∧ w'.cell? ⟨(ad282.add ((x8_1).toNat * 6)).block, (ad282.add ((x8_1).toNat * 6)).off + 1, none⟩ = some (.int .i64 ((rd_T49 l0_0 x8_1).f0.f0.f1)) ∧ w'.cell? ⟨(ad282.add ((x8_1).toNat * 6)).block, (ad282.add ((x8_1).toNat * 6)).off + 2, none⟩ = some (.int .i64 ((rd_T49 l0_0 x8_1).f0.f0.f2)) ∧ w'.cell? ⟨(ad282.add ((x8_1).toNat * 6)).block, (ad282.add ((x8_1).toNat * 6)).off + 3, none⟩ = some (.int .i64 ((rd_T49 l0_0 x8_1).f0.f1)) ∧ w'.cell? ⟨(ad282.add ((x8_1).toNat * 6)).block, (ad282.add ((x8_1).toNat * 6)).off + 4, none⟩ = some (.int .i64 ((rd_T49 l0_0 x8_1).f0.f2)) ∧ w'.cell? ⟨(ad282.add ((x8_1).toNat * 6)).block, (ad282.add ((x8_1).toNat * 6)).off + 5, none⟩ = some (.int .i64 ((rd_T49 l0_0 x8_1).f1))) (ds := [9]) #[false, false, false, false, false, false, false, false, false, false] (by kernel_rfl) rfl rfl ⟨(blk_cell BK281.out 0).trans rfl, (blk_cell BK278.out 0).trans rfl, ((HB.out.cell (World.block_lt_of_cell? w _ hw283_0)).trans hw283_0), ((HB.out.cell (World.block_lt_of_cell? w _ hw283_1)).trans hw283_1), ((HB.out.cell (World.block_lt_of_cell? w _ hw283_2)).trans hw283_2), ((HB.out.cell (World.block_lt_of_cell? w _ hw283_3)).trans hw283_3), ((HB.out.cell (World.block_lt_of_cell? w _ hw283_4)).trans hw283_4), ((HB.out.cell (World.block_lt_of_cell? w _ hw283_5)).trans hw283_5)⟩ (fun hHeld => ?_); refine with_tabW sizarref35_Replace.tab6 sizarref35_Replace.bits6 (fun HT_ HW_ => ?_)
      generalize wr.drew = w24 at HO_282000 BK278 BK279 BK280 BK281 HB hx283_0 hx283_1 hx283_2 hx283_3 hx283_4 hx283_5 hHeld ⊢
      refine pure_ (i := 0) (N := some 26) (v := ?_) (a' := ?_) #[true, false, false, false, false, false, false, false, false, false] rfl rfl (any_of HT_.out (by kernel_rfl)) (fun _ _ _ h => h) (Or.inl ⟨by rfl, ?_⟩) ?_ ?_
      rotate_left
      ·intro w'
       go_simp
       with_reducible rfl
      rotate_left
      ·simp only [Act.put, List.setIfInBounds_toArray, List.set_cons_zero, List.set_cons_succ, i64_w, i32_w]
       rfl
      refine pure_ (i := 2) (N := some 28) (v := ?_) (a' := ?_) #[true, false, true, false, false, false, false, false, false, false] rfl rfl (any_of HT_.out (by kernel_rfl)) (fun _ _ _ h => h) (Or.inl ⟨by rfl, ?_⟩) ?_ ?_
      rotate_left
      ·intro w'
       go_simp
       with_reducible rfl
      rotate_left
      ·simp only [Act.put, List.setIfInBounds_toArray, List.set_cons_zero, List.set_cons_succ, i64_w, i32_w]
       rfl
      refine pure_ (i := 4) (N := some 30) (v := ?_) (a' := ?_) #[true, false, true, false, true, false, false, false, false, false] rfl rfl (any_of HT_.out (by kernel_rfl)) (fun _ _ _ h => h) (Or.inl ⟨by rfl, ?_⟩) ?_ ?_
      rotate_left
      ·intro w'
       go_simp
       with_reducible rfl
      rotate_left
      ·simp only [Act.put, List.setIfInBounds_toArray, List.set_cons_zero, List.set_cons_succ, i64_w, i32_w]
       rfl
      refine take_ (i := 1) (N := some 27) (v := ?_) (a' := ?_) #[true, true, true, false, true, false, false, false, false, false] rfl rfl (take_ofW HT_.out HW_.out (by kernel_rfl)) (fun _ _ _ h => h) (Or.inl ⟨by rfl, ?_⟩) hHeld ?_ ?_
      rotate_left
      ·rintro w' ⟨s0, s1, s2, s3, s4, s5, s6, s7⟩
       go_simp
       with_reducible rfl
      rotate_left
      ·simp only [Act.put, List.setIfInBounds_toArray, List.set_cons_zero, List.set_cons_succ, i64_w, i32_w]
       rfl
      refine take_ (i := 3) (N := some 29) (v := ?_) (a' := ?_) #[true, true, true, true, true, false, false, false, false, false] rfl rfl (take_ofW HT_.out HW_.out (by kernel_rfl)) (fun _ _ _ h => h) (Or.inl ⟨by rfl, ?_⟩) hHeld ?_ ?_
      rotate_left
      ·rintro w' ⟨s0, s1, s2, s3, s4, s5, s6, s7⟩
       go_simp
       with_reducible rfl
      rotate_left
      ·simp only [Act.put, List.setIfInBounds_toArray, List.set_cons_zero, List.set_cons_succ, i64_w, i32_w]
       rfl
      refine pure_ (i := 5) (N := some 31) (v := ?_) (a' := ?_) #[true, true, true, true, true, true, false, false, false, false] rfl rfl (any_of HT_.out (by kernel_rfl)) (fun _ _ _ h => h) (Or.inl ⟨by rfl, ?_⟩) ?_ ?_
      rotate_left
      ·intro w'
       go_simp
       with_reducible rfl
      rotate_left
      ·simp only [Act.put, List.setIfInBounds_toArray, List.set_cons_zero, List.set_cons_succ, i64_w, i32_w]
       rfl
      refine take_ (i := 6) (N := some 32) (v := ?_) (a' := ?_) #[true, true, true, true, true, true, true, false, false, false] rfl rfl (take_ofW HT_.out HW_.out (by kernel_rfl)) (fun _ _ _ h => h) (Or.inl ⟨by rfl, ?_⟩) hHeld ?_ ?_
      rotate_left
      ·rintro w' ⟨s0, s1, s2, s3, s4, s5, s6, s7⟩
       go_simp
       with_reducible rfl
      rotate_left
      ·simp only [Act.put, List.setIfInBounds_toArray, List.set_cons_zero, List.set_cons_succ, i64_w, i32_w]
       rfl
      refine one_ (i := 7) (N := some 33) #[true, true, true, true, true, true, true, true, false, false] rfl rfl (one_of HT_.out (by kernel_rfl)) (by decide) (fun K hK => ?_)
      refine goes_ Try.func31 (by kernel_rfl) rfl #[.slice Ao25 x282000_1.length co25, .agg #[.int .i64 ((rd_T49 l0_0 x8_1).f0.f0.f0), .int .i64 ((rd_T49 l0_0 x8_1).f0.f0.f1), .int .i64 ((rd_T49 l0_0 x8_1).f0.f0.f2), .int .i64 ((rd_T49 l0_0 x8_1).f0.f1), .int .i64 ((rd_T49 l0_0 x8_1).f0.f2), .int .i64 ((rd_T49 l0_0 x8_1).f1)]] (by rfl) rfl rfl (by (try simp only [List.map_toArray, List.map_cons, List.map_nil]); first | done | rfl | (simp only [List.length_drop, List.length_take]; rfl)) ?_
      with_reducible refine (sizarref35_with.calls k1 (fun k_ => some k_ = (.slice Ao25 x282000_1.length co25 : Value).ownBlock) (.slice Ao25 x282000_1.length co25) x282000_1 ((rd_T49 l0_0 x8_1).f0.f0.f0) ((rd_T49 l0_0 x8_1).f0.f0.f1) ((rd_T49 l0_0 x8_1).f0.f0.f2) ((rd_T49 l0_0 x8_1).f0.f1) ((rd_T49 l0_0 x8_1).f0.f2) ((rd_T49 l0_0 x8_1).f1) t284 w _ ?side1 ?side2 A19.out).mono ?_
      (case side1 => repeat (first | (with_reducible first | exact HB.out | apply below_alloc | apply pw_below_drewN | apply below_drew1 | refine below_set ?_ GE278.out | refine below_set ?_ GE279.out | refine below_set ?_ GE280.out | refine below_set ?_ GE281.out) | exact HB.out))
      (case side2 => exact Kd.R_tight rfl HO_282000.out)
      rintro e w26 ⟨v285, rfl, ho0, hb, hkp⟩
      refine ⟨_, rfl, ?_⟩
      have n0_ := Aside0.mk (blk_kept (by (with_reducible repeat (first | refine blk_drewN ?_ _ | refine blk_drew ?_ | refine blk_alloc ?_ _)); exact BK278.out) hkp (fun hs_ => (fun e_ => (Kd.R_ne HO_282000.out BK278.out (by decide)) e_) hs_))
      have n1_ := Aside0.mk (blk_kept (by (with_reducible repeat (first | refine blk_drewN ?_ _ | refine blk_drew ?_ | refine blk_alloc ?_ _)); exact BK279.out) hkp (fun hs_ => (fun e_ => (Kd.R_ne HO_282000.out BK279.out (by decide)) e_) hs_))
      have n2_ := Aside0.mk (blk_kept (by (with_reducible repeat (first | refine blk_drewN ?_ _ | refine blk_drew ?_ | refine blk_alloc ?_ _)); exact BK280.out) hkp (fun hs_ => (fun e_ => (Kd.R_ne HO_282000.out BK280.out (by decide)) e_) hs_))
      have n3_ := Aside0.mk (blk_kept (by (with_reducible repeat (first | refine blk_drewN ?_ _ | refine blk_drew ?_ | refine blk_alloc ?_ _)); exact BK281.out) hkp (fun hs_ => (fun e_ => (Kd.R_ne HO_282000.out BK281.out (by decide)) e_) hs_))
      have n4_ := Aside0.mk (Kd.R_mono (ok' := fun k_ => True) ho0 (fun k_ hk_ => trivial))
      have n5_ := Aside0.mk (hb)
      clear BK278
      clear BK279
      clear BK280
      clear BK281
      clear HB
      clear HO_282000
      have BK278 := n0_
      have BK279 := n1_
      have BK280 := n2_
      have BK281 := n3_
      have HO286 := n4_
      have HB := n5_
      clear n0_ n1_ n2_ n3_ n4_ n5_
      (try clear hb)
      (try clear hkp)
      (try clear ho0)
      obtain ⟨Ao27, co27, eo27⟩ := Kd.R_slice HO286.out
      (first | subst eo27 | (injection eo27 with f1_ f2_ f3_; have f4_ := f1_.symm; have f5_ := f3_.symm; clear f1_ f2_ f3_; subst f4_; subst f5_))
      refine hK.out _ _ ⟨(blk_cell BK281.out 0).trans rfl, (blk_cell BK278.out 0).trans rfl, ((HB.out.cell (World.block_lt_of_cell? w _ hw283_0)).trans hw283_0), ((HB.out.cell (World.block_lt_of_cell? w _ hw283_1)).trans hw283_1), ((HB.out.cell (World.block_lt_of_cell? w _ hw283_2)).trans hw283_2), ((HB.out.cell (World.block_lt_of_cell? w _ hw283_3)).trans hw283_3), ((HB.out.cell (World.block_lt_of_cell? w _ hw283_4)).trans hw283_4), ((HB.out.cell (World.block_lt_of_cell? w _ hw283_5)).trans hw283_5)⟩ (fun hHeld => ?_)
      clear hK K
      refine norm_ (a' := ?_) ?_ ?_
      rotate_left
      ·show Act.put _ (some 33) _ = _
       simp only [Act.put, List.setIfInBounds_toArray, List.set_cons_zero, List.set_cons_succ, i64_w, i32_w]
       rfl
      refine pure_ (i := 8) (N := some 34) (v := ?_) (a' := ?_) #[true, true, true, true, true, true, true, true, true, false] rfl rfl (any_of HT_.out (by kernel_rfl)) (fun _ _ _ h => h) (Or.inl ⟨by rfl, ?_⟩) ?_ ?_
      rotate_left
      ·intro w'
       go_simp
       with_reducible rfl
      rotate_left
      ·simp only [Act.put, List.setIfInBounds_toArray, List.set_cons_zero, List.set_cons_succ, i64_w, i32_w]
       rfl
      refine last_ (i := 9) (N := none) #[true, true, true, true, true, true, true, true, true, true] rfl rfl (one_of HT_.out (by kernel_rfl)) (by decide) (fun K hK => ?_)
      have hs28 : w26.cell? ⟨gb281, 0, none⟩ = some (.slice Ao25 x282000_1.length co25) := (blk_cell BK281.out 0).trans rfl
      have hfs28 := blk_frozen BK281.out 0
      have hns28_0 := NB278_281.out
      have hns28_1 := NB279_281.out
      have hns28_2 := NB280_281.out
      have hms28_0 := NB281_278.out
      have hms28_1 := NB281_279.out
      have hms28_2 := NB281_280.out
      refine skip_ (w1 := ?_) (by rfl) rfl ?_ ?_
      rotate_left
      ·go_simp
       rfl
      refine hK.out _ _ ?_
      clear hK K
      refine done_ (done_of HT_.out (by kernel_rfl)) ?_
      try go_wp2
      go_roundg k1
      case measure => have := HK1.out; omega
      case rel => exact ⟨(wrap64 (x8_1 + 1)), (t284), (.slice Ao27 t284.length co27), (by first | rfl | (simp; done) | (simp [*]; done)), H', ⟨by have := HK1.out; omega⟩, ⟨by (with_reducible repeat (first | apply Kd.R_alloc | apply Kd.R_drewN | apply Kd.R_drew)); exact Kd.R_mono (Kd.R_far (p := ⟨gb281, 0, none⟩) (Kd.R_types HO286.out BK281.out (by decide)) (fun _ hk => hk.2) (.slice Ao27 t284.length co27)) (fun _ hk => trivial)⟩, ⟨by (with_reducible repeat (first | refine blk_drewN ?_ _ | refine blk_drew ?_ | refine blk_alloc ?_ _)); refine blk_far ?_ NB278_281.out _; (with_reducible repeat (first | refine blk_drewN ?_ _ | refine blk_drew ?_ | refine blk_alloc ?_ _)); exact BK278.out⟩, ⟨by (with_reducible repeat (first | refine blk_drewN ?_ _ | refine blk_drew ?_ | refine blk_alloc ?_ _)); refine blk_far ?_ NB279_281.out _; (with_reducible repeat (first | refine blk_drewN ?_ _ | refine blk_drew ?_ | refine blk_alloc ?_ _)); exact BK279.out⟩, ⟨by (with_reducible repeat (first | refine blk_drewN ?_ _ | refine blk_drew ?_ | refine blk_alloc ?_ _)); refine blk_far ?_ NB280_281.out _; (with_reducible repeat (first | refine blk_drewN ?_ _ | refine blk_drew ?_ | refine blk_alloc ?_ _)); exact BK280.out⟩, ⟨by (with_reducible repeat (first | refine blk_drewN ?_ _ | refine blk_drew ?_ | refine blk_alloc ?_ _)); refine blk_put (cs := #[.slice Ao25 x282000_1.length co25]) ?_ 0 _ rfl; (with_reducible repeat (first | refine blk_drewN ?_ _ | refine blk_drew ?_ | refine blk_alloc ?_ _)); exact BK281.out⟩, ⟨by repeat (first | (with_reducible first | exact HB.out | apply below_alloc | apply pw_below_drewN | apply below_drew1 | refine below_set ?_ GE278.out | refine below_set ?_ GE279.out | refine below_set ?_ GE280.out | refine below_set ?_ GE281.out) | exact HB.out)⟩⟩
    ·rw [if_neg c13] at H
     exact absurd H (by simp)
   ·rw [if_neg c12] at H
    have c12b0 : decide (x8_1 < (l0_0.length : Int)) = false := decide_eq_false c12
    clear c12
    have H' := Aside0.mk H
    clear H
    have hnb29 := NB278_279.out
    have hnc29 := NB279_278.out
    have hnb30 := NB278_280.out
    have hnc30 := NB280_278.out
    have hnb31 := NB278_281.out
    have hnc31 := NB281_278.out
    have hcz32_0 : wr.cell? ⟨gb278, 0, none⟩ = some (.slice A0_0 l0_0.length c0_0) := (blk_cell BK278.out 0).trans rfl
    have hfz32_0 := blk_frozen BK278.out 0
    go_wp2
    go_loopg [9] k1 (fun kq v9 w' => ∃ (x9_2 : Int) (x282000_2 : List (S49)) (u282000 : Value), v9 = .int .i64 x9_2 ∧ Aside0 (sizarref35_Replace.l1 kq a1 x9_2 a2_0 a2_1 a2_2 a2_3 a2_4 a2_5 a2_6 l2_7 l2_8 l2_9 x282000_2 = some r) ∧ Aside0 (kq ≤ k1) ∧ Aside0 (Kd.R k49 49 w' w.heap.size (fun _ => True) u282000 x282000_2) ∧ Aside0 (w'.heap[gb278]? = some (.cells #[(.slice A0_0 l0_0.length c0_0)] 28 (0, 0))) ∧ Aside0 (w'.heap[gb279]? = some (.cells #[.int .i64 a2_0, .int .i64 a2_1, .int .i64 a2_2, .int .i64 a2_3, .int .i64 a2_4, .int .i64 a2_5, .int .i64 a2_6, (.slice A2_7 l2_7.length c2_7), (.slice A2_8 l2_8.length c2_8), (.slice A2_9 l2_9.length c2_9)] 35 (0, 0))) ∧ Aside0 (w'.heap[gb280]? = some (.cells #[(.slice none 0 0)] 28 (0, 0))) ∧ Aside0 (w'.heap[gb281]? = some (.cells #[u282000] 28 (0, 0))) ∧ Aside0 (Below w.heap.size w w'))
    case atStart => exact ⟨(0), (x282000_1), (u282000), (by first | rfl | (simp; done) | (simp [*]; done)), H', ⟨Nat.le_refl _⟩, ⟨by (with_reducible repeat (first | apply Kd.R_alloc | apply Kd.R_drewN | apply Kd.R_drew)); exact HO_282000.out⟩, ⟨by (with_reducible repeat (first | refine blk_drewN ?_ _ | refine blk_drew ?_ | refine blk_alloc ?_ _)); exact BK278.out⟩, ⟨by (with_reducible repeat (first | refine blk_drewN ?_ _ | refine blk_drew ?_ | refine blk_alloc ?_ _)); exact BK279.out⟩, ⟨by (with_reducible repeat (first | refine blk_drewN ?_ _ | refine blk_drew ?_ | refine blk_alloc ?_ _)); exact BK280.out⟩, ⟨by (with_reducible repeat (first | refine blk_drewN ?_ _ | refine blk_drew ?_ | refine blk_alloc ?_ _)); exact BK281.out⟩, ⟨by repeat (first | (with_reducible first | exact HB.out | apply below_alloc | apply pw_below_drewN | apply below_drew1 | refine below_set ?_ GE278.out | refine below_set ?_ GE279.out | refine below_set ?_ GE280.out | refine below_set ?_ GE281.out) | exact HB.out)⟩⟩
    case round =>
     clear H'
     try clear c1
     try clear c2
     try clear p2
     try clear q2
     try clear hx2
     try clear c3
     try clear p6
     try clear c8
     try clear c9
     try clear c10
     try clear c12
     try clear c12b0
     try clear c13
     try clear c13b0
     try clear c14
     try clear c14b0
     try clear c14b1
     try clear c15
     try clear c16
     try clear c17
     try clear c19
     try clear c20
     try clear c21
     try clear c22
     try clear p28
     try clear q28
     try clear hx28
     try clear c29
     try clear c30
     try clear c31
     try clear hcz11_0
     try clear hcz18_0
     try clear hcz23_0
     try clear hcz32_0
     try clear hfz11_0
     try clear hfz18_0
     try clear hfz23_0
     try clear hfz32_0
     try clear hx282_0
     try clear hx282_1
     try clear hx282_2
     try clear hx282_3
     try clear hx282_4
     try clear hx282_5
     try clear hx283_0
     try clear hx283_1
     try clear hx283_2
     try clear hx283_3
     try clear hx283_4
     try clear hx283_5
     try clear p2
     try clear p282
     try clear p283
     try clear q282
     try clear q283
     obtain ⟨x9_2, x282000_2, u282000, rfl, HA, HK2, HO_282000, BK278, BK279, BK280, BK281, HB⟩ := hrel
     cases gk with
     | zero => exact absurd HA.out (by simp [sizarref35_Replace.l1])
     | succ k2 =>
      have H := HA.out
      clear HA
      simp only [sizarref35_Replace.l1] at H
      by_cases c33 : x9_2 < (l2_8.length : Int)
      ·rw [if_pos c33] at H
       have c33b0 : decide (x9_2 < (l2_8.length : Int)) = true := decide_eq_true c33
       clear c33
       by_cases c34 : 0 ≤ x9_2
       ·rw [if_pos c34] at H
        have c34b0 : decide (0 ≤ x9_2) = true := decide_eq_true c34
        clear c34
        replace H := Option.bind_eq_some_iff.mp H
        obtain ⟨t288, A350, H⟩ := H
        replace H : (sizarref35_Replace.l1 k2 a1 (wrap64 (x9_2 + 1)) a2_0 a2_1 a2_2 a2_3 a2_4 a2_5 a2_6 l2_7 l2_8 l2_9 t288) = some r := H
        have A35 := Aside0.mk A350
        clear A350
        have H' := Aside0.mk H
        clear H
        have hnb36 := NB279_278.out
        have hnc36 := NB278_279.out
        have hnb37 := NB279_280.out
        have hnc37 := NB280_279.out
        have hnb38 := NB279_281.out
        have hnc38 := NB281_279.out
        have hcz39_0 : wr.cell? ⟨gb279, 0, none⟩ = some (.int .i64 a2_0) := (blk_cell BK279.out 0).trans rfl
        have hcz39_1 : wr.cell? ⟨gb279, 1, none⟩ = some (.int .i64 a2_1) := (blk_cell BK279.out 1).trans rfl
        have hcz39_2 : wr.cell? ⟨gb279, 2, none⟩ = some (.int .i64 a2_2) := (blk_cell BK279.out 2).trans rfl
        have hcz39_3 : wr.cell? ⟨gb279, 3, none⟩ = some (.int .i64 a2_3) := (blk_cell BK279.out 3).trans rfl
        have hcz39_4 : wr.cell? ⟨gb279, 4, none⟩ = some (.int .i64 a2_4) := (blk_cell BK279.out 4).trans rfl
        have hcz39_5 : wr.cell? ⟨gb279, 5, none⟩ = some (.int .i64 a2_5) := (blk_cell BK279.out 5).trans rfl
        have hcz39_6 : wr.cell? ⟨gb279, 6, none⟩ = some (.int .i64 a2_6) := (blk_cell BK279.out 6).trans rfl
        have hcz39_7 : wr.cell? ⟨gb279, 7, none⟩ = some (.slice A2_7 l2_7.length c2_7) := (blk_cell BK279.out 7).trans rfl
        have hcz39_8 : wr.cell? ⟨gb279, 8, none⟩ = some (.slice A2_8 l2_8.length c2_8) := (blk_cell BK279.out 8).trans rfl
        have hcz39_9 : wr.cell? ⟨gb279, 9, none⟩ = some (.slice A2_9 l2_9.length c2_9) := (blk_cell BK279.out 9).trans rfl
        have hfz39_0 := blk_frozen BK279.out 0
        have hfz39_1 := blk_frozen BK279.out 1
        have hfz39_2 := blk_frozen BK279.out 2
        have hfz39_3 := blk_frozen BK279.out 3
        have hfz39_4 := blk_frozen BK279.out 4
        have hfz39_5 := blk_frozen BK279.out 5
        have hfz39_6 := blk_frozen BK279.out 6
        have hfz39_7 := blk_frozen BK279.out 7
        have hfz39_8 := blk_frozen BK279.out 8
        have hfz39_9 := blk_frozen BK279.out 9
        try go_wp2
        have n0_ := Aside0.mk (Kd.R_drew HO_282000.out)
        have n1_ := Aside0.mk (blk_drew BK278.out)
        have n2_ := Aside0.mk (blk_drew BK279.out)
        have n3_ := Aside0.mk (blk_drew BK280.out)
        have n4_ := Aside0.mk (blk_drew BK281.out)
        have n5_ := Aside0.mk (below_drew1 HB.out)
        clear HO_282000
        clear BK278
        clear BK279
        clear BK280
        clear BK281
        clear HB
        have HO_282000 := n0_
        have BK278 := n1_
        have BK279 := n2_
        have BK280 := n3_
        have BK281 := n4_
        have HB := n5_
        clear n0_ n1_ n2_ n3_ n4_ n5_
        have p287 : 0 ≤ (x9_2 : Int) := of_decide_eq_true (by first | (with_reducible assumption) | assumption)
        have q287 : x9_2 < (l2_8.length : Int) := of_decide_eq_true (by first | (with_reducible assumption) | assumption)
        obtain ⟨ad287, e287, hx287_0, hx287_1, hx287_2, hx287_3, hx287_4⟩ := at_T47 HR2_8.out x9_2 p287 q287
        have hw287_4 := hx287_4
        have hw287_3 := hx287_3
        have hw287_2 := hx287_2
        have hw287_1 := hx287_1
        have hw287_0 := hx287_0
        cases e287
        replace hx287_0 := (HB.out.cell (World.block_lt_of_cell? w _ hx287_0)).trans hx287_0
        replace hx287_1 := (HB.out.cell (World.block_lt_of_cell? w _ hx287_1)).trans hx287_1
        replace hx287_2 := (HB.out.cell (World.block_lt_of_cell? w _ hx287_2)).trans hx287_2
        replace hx287_3 := (HB.out.cell (World.block_lt_of_cell? w _ hx287_3)).trans hx287_3
        replace hx287_4 := (HB.out.cell (World.block_lt_of_cell? w _ hx287_4)).trans hx287_4
        replace p287 := eq_true p287
        replace q287 := eq_true q287
        obtain ⟨Ao41, co41, eo41⟩ := Kd.R_slice HO_282000.out
        (first | subst eo41 | (injection eo41 with f1_ f2_ f3_; have f4_ := f1_.symm; have f5_ := f3_.symm; clear f1_ f2_ f3_; subst f4_; subst f5_))
        refine start_ (n := 12) (S := fun w' => w'.cell? ⟨gb281, 0, none⟩ = some (.slice Ao41 x282000_2.length co41) ∧ w'.cell? ⟨gb279, 0, none⟩ = some (.int .i64 a2_0) ∧ w'.cell? ⟨gb279, 1, none⟩ = some (.int .i64 a2_1) ∧ w'.cell? ⟨gb279, 2, none⟩ = some (.int .i64 a2_2) ∧ w'.cell? ⟨gb279, 3, none⟩ = some (.int .i64 a2_3) ∧ w'.cell? ⟨gb279, 4, none⟩ = some (.int .i64 a2_4) ∧ w'.cell? ⟨gb279, 5, none⟩ = some (.int .i64 a2_5) ∧ w'.cell? ⟨gb279, 6, none⟩ = some (.int .i64 a2_6) ∧ w'.cell? ⟨gb279, 7, none⟩ = some (.slice A2_7 l2_7.length c2_7) ∧ w'.cell? ⟨gb279, 8, none⟩ = some (.slice (some ad287) l2_8.length c2_8) ∧ w'.cell? ⟨gb279, 9, none⟩ = some (.slice A2_9 l2_9.length c2_9) ∧ w'.cell? (ad287.add ((x9_2).toNat * 5)) = some (.int .i64 ((rd_T47 l2_8 x9_2).f0.f0)) ∧ w'.cell? ⟨(ad287.add ((x9_2).toNat * 5)).block, (ad287.add ((x9_2).toNat * 5)).off + 1, none⟩ = some (.int .i64 ((rd_T47 l2_8 x9_2).f0.f1)) ∧ w'.cell? ⟨(ad287.add ((x9_2).toNat * 5)).block, (ad287.add ((x9_2).toNat * 5)).off + 2, none⟩ = some (.int .i64 ((rd_T47 l2_8 x9_2).f0.f2)) ∧ w'.cell? ⟨(ad287.add ((x9_2).toNat * 5)).block, (ad287.add ((x9_2).toNat * 5)).off + 3, none⟩ = some (.int .i64 ((rd_T47 l2_8 x9_2).f1)) ∧ w'.cell? ⟨(ad287.add ((x9_2).toNat * 5)).block, (ad287.add ((x9_2).toNat * 5)).off + 4, none⟩ = some (.int .i64 ((rd_T47 l2_8 x9_2).f2))) (ds := [11]) #[false, false, false, false, false, false, false, false, false, false, false, false] (by kernel_rfl) rfl rfl ⟨(blk_cell BK281.out 0).trans rfl, (blk_cell BK279.out 0).trans rfl, (blk_cell BK279.out 1).trans rfl, (blk_cell BK279.out 2).trans rfl, (blk_cell BK279.out 3).trans rfl, (blk_cell BK279.out 4).trans rfl, (blk_cell BK279.out 5).trans rfl, (blk_cell BK279.out 6).trans rfl, (blk_cell BK279.out 7).trans rfl, (blk_cell BK279.out 8).trans rfl, (blk_cell BK279.out 9).trans rfl, ((HB.out.cell (World.block_lt_of_cell? w _ hw287_0)).trans hw287_0), ((HB.out.cell (World.block_lt_of_cell? w _ hw287_1)).trans hw287_1), ((HB.out.cell (World.block_lt_of_cell? w _ hw287_2)).trans hw287_2), ((HB.out.cell (World.block_lt_of_cell? w _ hw287_3)).trans hw287_3), ((HB.out.cell (World.block_lt_of_cell? w _ hw287_4)).trans hw287_4)⟩ (fun hHeld => ?_); refine with_tabW sizarref35_Replace.tab10 sizarref35_Replace.bits10 (fun HT_ HW_ => ?_)
        generalize wr.drew = w40 at HO_282000 BK278 BK279 BK280 BK281 HB hx287_0 hx287_1 hx287_2 hx287_3 hx287_4 hHeld ⊢
        refine pure_ (i := 0) (N := some 42) (v := ?_) (a' := ?_) #[true, false, false, false, false, false, false, false, false, false, false, false] rfl rfl (any_of HT_.out (by kernel_rfl)) (fun _ _ _ h => h) (Or.inl ⟨by rfl, ?_⟩) ?_ ?_
        rotate_left
        ·intro w'
         go_simp
         with_reducible rfl
        rotate_left
        ·simp only [Act.put, List.setIfInBounds_toArray, List.set_cons_zero, List.set_cons_succ, i64_w, i32_w]
         rfl
        refine pure_ (i := 2) (N := some 44) (v := ?_) (a' := ?_) #[true, false, true, false, false, false, false, false, false, false, false, false] rfl rfl (any_of HT_.out (by kernel_rfl)) (fun _ _ _ h => h) (Or.inl ⟨by rfl, ?_⟩) ?_ ?_
        rotate_left
        ·intro w'
         go_simp
         with_reducible rfl
        rotate_left
        ·simp only [Act.put, List.setIfInBounds_toArray, List.set_cons_zero, List.set_cons_succ, i64_w, i32_w]
         rfl
        refine pure_ (i := 4) (N := some 46) (v := ?_) (a' := ?_) #[true, false, true, false, true, false, false, false, false, false, false, false] rfl rfl (any_of HT_.out (by kernel_rfl)) (fun _ _ _ h => h) (Or.inl ⟨by rfl, ?_⟩) ?_ ?_
        rotate_left
        ·intro w'
         go_simp
         with_reducible rfl
        rotate_left
        ·simp only [Act.put, List.setIfInBounds_toArray, List.set_cons_zero, List.set_cons_succ, i64_w, i32_w]
         rfl
        refine pure_ (i := 7) (N := some 49) (v := ?_) (a' := ?_) #[true, false, true, false, true, false, false, true, false, false, false, false] rfl rfl (any_of HT_.out (by kernel_rfl)) (fun _ _ _ h => h) (Or.inl ⟨by rfl, ?_⟩) ?_ ?_
        rotate_left
        ·intro w'
         go_simp
         with_reducible rfl
        rotate_left
        ·simp only [Act.put, List.setIfInBounds_toArray, List.set_cons_zero, List.set_cons_succ, i64_w, i32_w]
         rfl
        refine take_ (i := 1) (N := some 43) (v := ?_) (a' := ?_) #[true, true, true, false, true, false, false, true, false, false, false, false] rfl rfl (take_ofW HT_.out HW_.out (by kernel_rfl)) (fun _ _ _ h => h) (Or.inl ⟨by rfl, ?_⟩) hHeld ?_ ?_
        rotate_left
        ·rintro w' ⟨s0, s1, s2, s3, s4, s5, s6, s7, s8, s9, s10, s11, s12, s13, s14, s15⟩
         go_simp
         with_reducible rfl
        rotate_left
        ·simp only [Act.put, List.setIfInBounds_toArray, List.set_cons_zero, List.set_cons_succ, i64_w, i32_w]
         rfl
        refine take_ (i := 3) (N := some 45) (v := ?_) (a' := ?_) #[true, true, true, true, true, false, false, true, false, false, false, false] rfl rfl (take_ofW HT_.out HW_.out (by kernel_rfl)) (fun _ _ _ h => h) (Or.inl ⟨by rfl, ?_⟩) hHeld ?_ ?_
        rotate_left
        ·rintro w' ⟨s0, s1, s2, s3, s4, s5, s6, s7, s8, s9, s10, s11, s12, s13, s14, s15⟩
         go_simp
         with_reducible rfl
        rotate_left
        ·simp only [Act.put, List.setIfInBounds_toArray, List.set_cons_zero, List.set_cons_succ, i64_w, i32_w]
         rfl
        refine pure_ (i := 5) (N := some 47) (v := ?_) (a' := ?_) #[true, true, true, true, true, true, false, true, false, false, false, false] rfl rfl (any_of HT_.out (by kernel_rfl)) (fun _ _ _ h => h) (Or.inl ⟨by rfl, ?_⟩) ?_ ?_
        rotate_left
        ·intro w'
         go_simp
         with_reducible rfl
        rotate_left
        ·simp only [Act.put, List.setIfInBounds_toArray, List.set_cons_zero, List.set_cons_succ, i64_w, i32_w]
         rfl
        refine take_ (i := 6) (N := some 48) (v := ?_) (a' := ?_) #[true, true, true, true, true, true, true, true, false, false, false, false] rfl rfl (take_ofW HT_.out HW_.out (by kernel_rfl)) (fun _ _ _ h => h) (Or.inl ⟨by rfl, ?_⟩) hHeld ?_ ?_
        rotate_left
        ·rintro w' ⟨s0, s1, s2, s3, s4, s5, s6, s7, s8, s9, s10, s11, s12, s13, s14, s15⟩
         go_simp
         with_reducible rfl
        rotate_left
        ·simp only [Act.put, List.setIfInBounds_toArray, List.set_cons_zero, List.set_cons_succ, i64_w, i32_w]
         rfl
        refine pure_ (i := 8) (N := some 50) (v := ?_) (a' := ?_) #[true, true, true, true, true, true, true, true, true, false, false, false] rfl rfl (any_of HT_.out (by kernel_rfl)) (fun _ _ _ h => h) (Or.inl ⟨by rfl, ?_⟩) ?_ ?_
        rotate_left
        ·intro w'
         go_simp
         with_reducible rfl
        rotate_left
        ·simp only [Act.put, List.setIfInBounds_toArray, List.set_cons_zero, List.set_cons_succ, i64_w, i32_w]
         rfl
        refine one_ (i := 9) (N := some 51) #[true, true, true, true, true, true, true, true, true, true, false, false] rfl rfl (one_of HT_.out (by kernel_rfl)) (by decide) (fun K hK => ?_)
        refine goes_ Try.func31 (by kernel_rfl) rfl #[.slice Ao41 x282000_2.length co41, .agg #[.int .i64 ((rd_T47 l2_8 x9_2).f0.f0), .int .i64 ((rd_T47 l2_8 x9_2).f0.f1), .int .i64 ((rd_T47 l2_8 x9_2).f0.f2), .int .i64 ((rd_T47 l2_8 x9_2).f1), .int .i64 ((rd_T47 l2_8 x9_2).f2), .int .i64 a1]] (by rfl) rfl rfl (by (try simp only [List.map_toArray, List.map_cons, List.map_nil]); first | done | rfl | (simp only [List.length_drop, List.length_take]; rfl)) ?_
        with_reducible refine (sizarref35_with.calls k2 (fun k_ => some k_ = (.slice Ao41 x282000_2.length co41 : Value).ownBlock) (.slice Ao41 x282000_2.length co41) x282000_2 ((rd_T47 l2_8 x9_2).f0.f0) ((rd_T47 l2_8 x9_2).f0.f1) ((rd_T47 l2_8 x9_2).f0.f2) ((rd_T47 l2_8 x9_2).f1) ((rd_T47 l2_8 x9_2).f2) a1 t288 w _ ?side1 ?side2 A35.out).mono ?_
        (case side1 => repeat (first | (with_reducible first | exact HB.out | apply below_alloc | apply pw_below_drewN | apply below_drew1 | refine below_set ?_ GE278.out | refine below_set ?_ GE279.out | refine below_set ?_ GE280.out | refine below_set ?_ GE281.out) | exact HB.out))
        (case side2 => exact Kd.R_tight rfl HO_282000.out)
        rintro e w42 ⟨v289, rfl, ho0, hb, hkp⟩
        refine ⟨_, rfl, ?_⟩
        have n0_ := Aside0.mk (blk_kept (by (with_reducible repeat (first | refine blk_drewN ?_ _ | refine blk_drew ?_ | refine blk_alloc ?_ _)); exact BK278.out) hkp (fun hs_ => (fun e_ => (Kd.R_ne HO_282000.out BK278.out (by decide)) e_) hs_))
        have n1_ := Aside0.mk (blk_kept (by (with_reducible repeat (first | refine blk_drewN ?_ _ | refine blk_drew ?_ | refine blk_alloc ?_ _)); exact BK279.out) hkp (fun hs_ => (fun e_ => (Kd.R_ne HO_282000.out BK279.out (by decide)) e_) hs_))
        have n2_ := Aside0.mk (blk_kept (by (with_reducible repeat (first | refine blk_drewN ?_ _ | refine blk_drew ?_ | refine blk_alloc ?_ _)); exact BK280.out) hkp (fun hs_ => (fun e_ => (Kd.R_ne HO_282000.out BK280.out (by decide)) e_) hs_))
        have n3_ := Aside0.mk (blk_kept (by (with_reducible repeat (first | refine blk_drewN ?_ _ | refine blk_drew ?_ | refine blk_alloc ?_ _)); exact BK281.out) hkp (fun hs_ => (fun e_ => (Kd.R_ne HO_282000.out BK281.out (by decide)) e_) hs_))
        have n4_ := Aside0.mk (Kd.R_mono (ok' := fun k_ => True) ho0 (fun k_ hk_ => trivial))
        have n5_ := Aside0.mk (hb)
        clear BK278
        clear BK279
        clear BK280
        clear BK281
        clear HB
        clear HO_282000
        have BK278 := n0_
        have BK279 := n1_
        have BK280 := n2_
        have BK281 := n3_
        have HO290 := n4_
        have HB := n5_
        clear n0_ n1_ n2_ n3_ n4_ n5_
        (try clear hb)
        (try clear hkp)
        (try clear ho0)
        obtain ⟨Ao43, co43, eo43⟩ := Kd.R_slice HO290.out
        (first | subst eo43 | (injection eo43 with f1_ f2_ f3_; have f4_ := f1_.symm; have f5_ := f3_.symm; clear f1_ f2_ f3_; subst f4_; subst f5_))
        refine hK.out _ _ ⟨(blk_cell BK281.out 0).trans rfl, (blk_cell BK279.out 0).trans rfl, (blk_cell BK279.out 1).trans rfl, (blk_cell BK279.out 2).trans rfl, (blk_cell BK279.out 3).trans rfl, (blk_cell BK279.out 4).trans rfl, (blk_cell BK279.out 5).trans rfl, (blk_cell BK279.out 6).trans rfl, (blk_cell BK279.out 7).trans rfl, (blk_cell BK279.out 8).trans rfl, (blk_cell BK279.out 9).trans rfl, ((HB.out.cell (World.block_lt_of_cell? w _ hw287_0)).trans hw287_0), ((HB.out.cell (World.block_lt_of_cell? w _ hw287_1)).trans hw287_1), ((HB.out.cell (World.block_lt_of_cell? w _ hw287_2)).trans hw287_2), ((HB.out.cell (World.block_lt_of_cell? w _ hw287_3)).trans hw287_3), ((HB.out.cell (World.block_lt_of_cell? w _ hw287_4)).trans hw287_4)⟩ (fun hHeld => ?_)
        clear hK K
        refine norm_ (a' := ?_) ?_ ?_
        rotate_left
        ·show Act.put _ (some 51) _ = _
         simp only [Act.put, List.setIfInBounds_toArray, List.set_cons_zero, List.set_cons_succ, i64_w, i32_w]
         rfl
        refine pure_ (i := 10) (N := some 52) (v := ?_) (a' := ?_) #[true, true, true, true, true, true, true, true, true, true, true, false] rfl rfl (any_of HT_.out (by kernel_rfl)) (fun _ _ _ h => h) (Or.inl ⟨by rfl, ?_⟩) ?_ ?_
        rotate_left
        ·intro w'
         go_simp
         with_reducible rfl
        rotate_left
        ·simp only [Act.put, List.setIfInBounds_toArray, List.set_cons_zero, List.set_cons_succ, i64_w, i32_w]
         rfl
        refine last_ (i := 11) (N := none) #[true, true, true, true, true, true, true, true, true, true, true, true] rfl rfl (one_of HT_.out (by kernel_rfl)) (by decide) (fun K hK => ?_)
        have hs44 : w42.cell? ⟨gb281, 0, none⟩ = some (.slice Ao41 x282000_2.length co41) := (blk_cell BK281.out 0).trans rfl
        have hfs44 := blk_frozen BK281.out 0
        have hns44_0 := NB278_281.out
        have hns44_1 := NB279_281.out
        have hns44_2 := NB280_281.out
        have hms44_0 := NB281_278.out
        have hms44_1 := NB281_279.out
        have hms44_2 := NB281_280.out
        refine skip_ (w1 := ?_) (by rfl) rfl ?_ ?_
        rotate_left
        ·go_simp
         rfl
        refine hK.out _ _ ?_
        clear hK K
        refine done_ (done_of HT_.out (by kernel_rfl)) ?_
        try go_wp2
        go_roundg k2
        case measure => have := HK1.out; have := HK2.out; omega
        case rel => exact ⟨(wrap64 (x9_2 + 1)), (t288), (.slice Ao43 t288.length co43), (by first | rfl | (simp; done) | (simp [*]; done)), H', ⟨by have := HK1.out; have := HK2.out; omega⟩, ⟨by (with_reducible repeat (first | apply Kd.R_alloc | apply Kd.R_drewN | apply Kd.R_drew)); exact Kd.R_mono (Kd.R_far (p := ⟨gb281, 0, none⟩) (Kd.R_types HO290.out BK281.out (by decide)) (fun _ hk => hk.2) (.slice Ao43 t288.length co43)) (fun _ hk => trivial)⟩, ⟨by (with_reducible repeat (first | refine blk_drewN ?_ _ | refine blk_drew ?_ | refine blk_alloc ?_ _)); refine blk_far ?_ NB278_281.out _; (with_reducible repeat (first | refine blk_drewN ?_ _ | refine blk_drew ?_ | refine blk_alloc ?_ _)); exact BK278.out⟩, ⟨by (with_reducible repeat (first | refine blk_drewN ?_ _ | refine blk_drew ?_ | refine blk_alloc ?_ _)); refine blk_far ?_ NB279_281.out _; (with_reducible repeat (first | refine blk_drewN ?_ _ | refine blk_drew ?_ | refine blk_alloc ?_ _)); exact BK279.out⟩, ⟨by (with_reducible repeat (first | refine blk_drewN ?_ _ | refine blk_drew ?_ | refine blk_alloc ?_ _)); refine blk_far ?_ NB280_281.out _; (with_reducible repeat (first | refine blk_drewN ?_ _ | refine blk_drew ?_ | refine blk_alloc ?_ _)); exact BK280.out⟩, ⟨by (with_reducible repeat (first | refine blk_drewN ?_ _ | refine blk_drew ?_ | refine blk_alloc ?_ _)); refine blk_put (cs := #[.slice Ao41 x282000_2.length co41]) ?_ 0 _ rfl; (with_reducible repeat (first | refine blk_drewN ?_ _ | refine blk_drew ?_ | refine blk_alloc ?_ _)); exact BK281.out⟩, ⟨by repeat (first | (with_reducible first | exact HB.out | apply below_alloc | apply pw_below_drewN | apply below_drew1 | refine below_set ?_ GE278.out | refine below_set ?_ GE279.out | refine below_set ?_ GE280.out | refine below_set ?_ GE281.out) | exact HB.out)⟩⟩
       ·rw [if_neg c34] at H
        exact absurd H (by simp)
      ·rw [if_neg c33] at H
       have c33b0 : decide (x9_2 < (l2_8.length : Int)) = false := decide_eq_false c33
       clear c33
       obtain rfl := Option.some.inj H
       have hnb45 := NB279_278.out
       have hnc45 := NB278_279.out
       have hnb46 := NB279_280.out
       have hnc46 := NB280_279.out
       have hnb47 := NB279_281.out
       have hnc47 := NB281_279.out
       have hcz48_0 : wr.cell? ⟨gb279, 0, none⟩ = some (.int .i64 a2_0) := (blk_cell BK279.out 0).trans rfl
       have hcz48_1 : wr.cell? ⟨gb279, 1, none⟩ = some (.int .i64 a2_1) := (blk_cell BK279.out 1).trans rfl
       have hcz48_2 : wr.cell? ⟨gb279, 2, none⟩ = some (.int .i64 a2_2) := (blk_cell BK279.out 2).trans rfl
       have hcz48_3 : wr.cell? ⟨gb279, 3, none⟩ = some (.int .i64 a2_3) := (blk_cell BK279.out 3).trans rfl
       have hcz48_4 : wr.cell? ⟨gb279, 4, none⟩ = some (.int .i64 a2_4) := (blk_cell BK279.out 4).trans rfl
       have hcz48_5 : wr.cell? ⟨gb279, 5, none⟩ = some (.int .i64 a2_5) := (blk_cell BK279.out 5).trans rfl
       have hcz48_6 : wr.cell? ⟨gb279, 6, none⟩ = some (.int .i64 a2_6) := (blk_cell BK279.out 6).trans rfl
       have hcz48_7 : wr.cell? ⟨gb279, 7, none⟩ = some (.slice A2_7 l2_7.length c2_7) := (blk_cell BK279.out 7).trans rfl
       have hcz48_8 : wr.cell? ⟨gb279, 8, none⟩ = some (.slice A2_8 l2_8.length c2_8) := (blk_cell BK279.out 8).trans rfl
       have hcz48_9 : wr.cell? ⟨gb279, 9, none⟩ = some (.slice A2_9 l2_9.length c2_9) := (blk_cell BK279.out 9).trans rfl
       have hfz48_0 := blk_frozen BK279.out 0
       have hfz48_1 := blk_frozen BK279.out 1
       have hfz48_2 := blk_frozen BK279.out 2
       have hfz48_3 := blk_frozen BK279.out 3
       have hfz48_4 := blk_frozen BK279.out 4
       have hfz48_5 := blk_frozen BK279.out 5
       have hfz48_6 := blk_frozen BK279.out 6
       have hfz48_7 := blk_frozen BK279.out 7
       have hfz48_8 := blk_frozen BK279.out 8
       have hfz48_9 := blk_frozen BK279.out 9
       have hnb49 := NB281_278.out
       have hnc49 := NB278_281.out
       have hnb50 := NB281_280.out
       have hnc50 := NB280_281.out
       have hcz51_0 : wr.cell? ⟨gb281, 0, none⟩ = some (u282000) := (blk_cell BK281.out 0).trans rfl
       have hfz51_0 := blk_frozen BK281.out 0
       obtain ⟨Ao52, co52, eo52⟩ := Kd.R_slice HO_282000.out
       subst eo52
       have hnb53 := NB280_278.out
       have hnc53 := NB278_280.out
       have hcz54_0 : wr.cell? ⟨gb280, 0, none⟩ = some (.slice none 0 0) := (blk_cell BK280.out 0).trans rfl
       have hfz54_0 := blk_frozen BK280.out 0
       go_wp2
       refine bodyPost_ret (results_cell_row rfl _ _ gb280 28 #[.slice Ao52 x282000_2.length co52] (0, 0) _ rfl (by (with_reducible repeat (first | refine blk_drewN ?_ _ | refine blk_drew ?_ | refine blk_alloc ?_ _)); refine blk_put (cs := #[.slice none 0 0]) ?_ 0 _ rfl; (with_reducible repeat (first | refine blk_drewN ?_ _ | refine blk_drew ?_ | refine blk_alloc ?_ _)); exact BK280.out) Try.underlying28 rfl (by kernel_rfl)) rfl ?_
       exact ⟨_, by first | rfl | (simp [errW_none, errW_some] <;> rfl) | (simp [*, errW_none, errW_some] <;> rfl), by (with_reducible repeat (first | apply Kd.R_alloc | apply Kd.R_drewN | apply Kd.R_drew)); exact Kd.R_mono (Kd.R_far (p := ⟨gb280, 0, none⟩) (Kd.R_types HO_282000.out BK280.out (by decide)) (fun _ hk => hk.2) (.slice Ao52 x282000_2.length co52)) (fun _ hk => trivial), by repeat (first | (with_reducible first | exact HB.out | apply below_alloc | apply pw_below_drewN | apply below_drew1 | refine below_set ?_ GE278.out | refine below_set ?_ GE279.out | refine below_set ?_ GE280.out | refine below_set ?_ GE281.out) | exact HB.out)⟩
end Go.Proofs.Ytodmmckieoakjaa.P
