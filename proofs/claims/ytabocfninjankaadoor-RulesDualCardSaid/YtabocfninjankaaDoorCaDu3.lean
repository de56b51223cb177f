/- Proved: the statement RulesDual, tied to the program as its card says, for every input; there are no conditions. Texts of this claim, one behind the other: CmpG, SortA, Atoms, PureC, Depth, Px5, Px13, Dual, LawRulesDual. Merged by wip/mkmerge.py. -/
import Derived.Test.YtabocfninjankaaDoorCaDu2
import Derived.Shelf.SlSortCmp.NoneTotal
import Derived.Test.YtabocfninjankaaDoorCaDu1
import Derived.StillTailTactics
import Derived.Deep.RegionHeld3
import Derived.Deep.DrawnRows
import Derived.Test.YtabocfninjankaaDoorRows
import Derived.Test.YtabocfninjankaaDoorCards
import Derived.Test.YtabocfninjankaaDoorTie
import Derived.WalkKit
import Derived.ProofKit
import Derived.OpenShut
import Derived.ShutString
import Derived.ChangeOld
import Derived.Below
import Derived.SizedLaws
import Derived.LaidMore
import Derived.Stop.Joined
import Derived.SevenTiedAt
namespace Go.Proofs.YtabocfninjankaaDoor.P
open Go.RowKit Go.Proofs.YtabocfninjankaaDoorW.PrintWords Go.Proofs.YtabocfninjankaaDoorW.PrintLast Go.Proofs.YtabocfninjankaaDoorW.PrintMore
attribute [local go_sem] max2_int min2_int max_two min_two max_three min_three max_four min_four
set_option linter.unusedVariables false
set_option linter.unusedSimpArgs false
set_option maxHeartbeats 8000000 in
set_option maxRecDepth 100000 in
theorem rules_Atoms_1.grows (k : Nat) (a0_0 : Int) (a0_1 : Int) (a0_2 : Int) (a0_3 : Int) (a1_0 : Int) (a1_1 : Int) (a1_2 : Int) (a1_3 : Int) (r : Int) (w : World) (h : rules_Atoms_1.f k a0_0 a0_1 a0_2 a0_3 a1_0 a1_1 a1_2 a1_3 = some r) :
  Calls Tryd.prog 36 #[.agg #[.int .i64 a0_0, .int .i64 a0_1, .int .i64 a0_2, .int .i64 a0_3], .agg #[.int .i64 a1_0, .int .i64 a1_1, .int .i64 a1_2, .int .i64 a1_3]] w fun e w' => e = .returned (.int .i64 r) ∧ Below w.heap.size w w' ∧ w.drawn ≤ w'.drawn := by
 have hu60 := Tryd.underlying60
 have HB := Aside0.mk (Below.refl w.heap.size w)
 have HD := Aside0.mk (Nat.le_refl w.drawn)
 have H : ((cmp_Compare_int.f a0_0 a1_0).bind fun t171 => ((cmp_Compare_int.f a0_1 a1_1).bind fun t172 => ((cmp_Compare_int.f a0_2 a1_2).bind fun t173 => ((cmp_Compare_int.f a0_3 a1_3).bind fun t174 => ((cmp_Or_int.f k (([t171, t172, t173, t174] : List Int))).bind fun t178 => (some t178)))))) = some r := h
 clear h
 replace H := Option.bind_eq_some_iff.mp H
 obtain ⟨t171, A30, H⟩ := H
 replace H : ((cmp_Compare_int.f a0_1 a1_1).bind fun t172 => ((cmp_Compare_int.f a0_2 a1_2).bind fun t173 => ((cmp_Compare_int.f a0_3 a1_3).bind fun t174 => ((cmp_Or_int.f k (([t171, t172, t173, t174] : List Int))).bind fun t178 => (some t178))))) = some r := H
 have A3 := Aside0.mk A30
 clear A30
 replace H := Option.bind_eq_some_iff.mp H
 obtain ⟨t172, A40, H⟩ := H
 replace H : ((cmp_Compare_int.f a0_2 a1_2).bind fun t173 => ((cmp_Compare_int.f a0_3 a1_3).bind fun t174 => ((cmp_Or_int.f k (([t171, t172, t173, t174] : List Int))).bind fun t178 => (some t178)))) = some r := H
 have A4 := Aside0.mk A40
 clear A40
 replace H := Option.bind_eq_some_iff.mp H
 obtain ⟨t173, A50, H⟩ := H
 replace H : ((cmp_Compare_int.f a0_3 a1_3).bind fun t174 => ((cmp_Or_int.f k (([t171, t172, t173, t174] : List Int))).bind fun t178 => (some t178))) = some r := H
 have A5 := Aside0.mk A50
 clear A50
 replace H := Option.bind_eq_some_iff.mp H
 obtain ⟨t174, A60, H⟩ := H
 replace H : ((cmp_Or_int.f k (([t171, t172, t173, t174] : List Int))).bind fun t178 => (some t178)) = some r := H
 have A6 := Aside0.mk A60
 clear A60
 obtain ⟨y175, hy175⟩ : ∃ y_ : List Int, y_ = (([t171, t172, t173, t174] : List Int)) := ⟨_, rfl⟩
 replace H : ((cmp_Or_int.f k y175).bind fun t178 => (some t178)) = some r := by first | (rw [hy175]; with_reducible exact H) | (have H2_ := (Option.bind_some _ _).symm.trans H; rw [hy175]; with_reducible exact H2_) | (have H2_ := (Option.bind_some _ _).symm.trans H; with_reducible exact H2_) | with_reducible exact H | (rw [hy175]; exact H) | exact H
 have Ny175 := Aside0.mk hy175
 clear hy175
 replace H := Option.bind_eq_some_iff.mp H
 obtain ⟨t178, A70, H⟩ := H
 replace H : (some t178) = some r := H
 have A7 := Aside0.mk A70
 clear A70
 obtain rfl := Option.some.inj H
 go_enter Tryd.func36, Tryd.ntmps36
 try go_wp2_with (first | ((with_reducible refine gate_dst (N := 2) rfl ?_); refine Grow.box_event ?hg (N := 2) ?hd (cs := #[.int .i64 a0_0, .int .i64 a0_1, .int .i64 a0_2, .int .i64 a0_3]) (t := 60) ?hr ?_; (case hd => rfl); (case hg => rfl); (case hr => first | (go_simp; done) | (go_simp; rfl)); intro gb169 hg w8 hbox hb hd_; have HDn_ : Aside0 (w.drawn ≤ w8.drawn) := ⟨by have h1_ := HD.out; have h2_ := hd_; (try simp only [Grow.drawn_drewN, Grow.drawn_alloc] at h1_ h2_); omega⟩; clear HD hd_; have HD := HDn_; clear HDn_; have n0_ := Aside0.mk (below_step (by repeat (first | (with_reducible first | exact HB.out | apply below_alloc | apply pw_below_drewN | apply below_drew1) | exact HB.out)) hb); have n1_ := Aside0.mk (hbox); have n2_ := Aside0.mk ((by rw [hg]; exact (below_size (by repeat (first | (with_reducible first | exact HB.out | apply below_alloc | apply pw_below_drewN | apply below_drew1) | exact HB.out))) : w.heap.size ≤ gb169)); have n3_ := Aside0.mk ((by rw [hg]; exact (below_size (by repeat (first | (with_reducible first | exact HB.out | apply below_alloc | apply pw_below_drewN | apply below_drew1) | exact HB.out))) : w.heap.size ≤ gb169)); clear HB; have HB := n0_; have BK169 := n1_; have GW169 := n2_; have GE169 := n3_; clear n0_ n1_ n2_ n3_; clear hb hbox hg) | ((with_reducible refine gate_dst (N := 3) rfl ?_); refine Grow.box_event ?hg (N := 3) ?hd (cs := #[.int .i64 a1_0, .int .i64 a1_1, .int .i64 a1_2, .int .i64 a1_3]) (t := 60) ?hr ?_; (case hd => rfl); (case hg => rfl); (case hr => first | (go_simp; done) | (go_simp; rfl)); intro gb170 hg w9 hbox hb hd_; have HDn_ : Aside0 (w.drawn ≤ w9.drawn) := ⟨by have h1_ := HD.out; have h2_ := hd_; (try simp only [Grow.drawn_drewN, Grow.drawn_alloc] at h1_ h2_); omega⟩; clear HD hd_; have HD := HDn_; clear HDn_; have n0_ := Aside0.mk (blk_below (g := gb169) (o := .cells #[.int .i64 a0_0, .int .i64 a0_1, .int .i64 a0_2, .int .i64 a0_3] 60 (0, 0)) (by (with_reducible repeat (first | refine blk_drewN ?_ _ | refine blk_drew ?_ | refine blk_alloc ?_ _)); exact BK169.out) hb); have n1_ := Aside0.mk (below_step (by repeat (first | (with_reducible first | exact HB.out | apply below_alloc | apply pw_below_drewN | apply below_drew1 | refine below_set ?_ GE169.out) | exact HB.out)) hb); have n2_ := Aside0.mk (hbox); have n3_ := Aside0.mk ((by rw [hg]; exact (below_size (by repeat (first | (with_reducible first | exact HB.out | apply below_alloc | apply pw_below_drewN | apply below_drew1 | refine below_set ?_ GE169.out) | exact HB.out))) : w.heap.size ≤ gb170)); have n4_ := Aside0.mk ((by rw [hg]; exact (below_size (by repeat (first | (with_reducible first | exact HB.out | apply below_alloc | apply pw_below_drewN | apply below_drew1 | refine below_set ?_ GE169.out) | exact HB.out))) : w.heap.size ≤ gb170)); have n5_ := Aside0.mk ((by rw [hg]; exact Nat.ne_of_lt (blk_lt (g := gb169) (o := .cells #[.int .i64 a0_0, .int .i64 a0_1, .int .i64 a0_2, .int .i64 a0_3] 60 (0, 0)) (by (with_reducible repeat (first | refine blk_drewN ?_ _ | refine blk_drew ?_ | refine blk_alloc ?_ _)); exact BK169.out)) : gb169 ≠ gb170)); have n6_ := Aside0.mk ((by rw [hg]; exact Nat.ne_of_gt (blk_lt (g := gb169) (o := .cells #[.int .i64 a0_0, .int .i64 a0_1, .int .i64 a0_2, .int .i64 a0_3] 60 (0, 0)) (by (with_reducible repeat (first | refine blk_drewN ?_ _ | refine blk_drew ?_ | refine blk_alloc ?_ _)); exact BK169.out)) : gb170 ≠ gb169)); clear BK169; clear HB; have BK169 := n0_; have HB := n1_; have BK170 := n2_; have GW170 := n3_; have GE170 := n4_; have NB169_170 := n5_; have NB170_169 := n6_; clear n0_ n1_ n2_ n3_ n4_ n5_ n6_; clear hb hbox hg))
 have n0_ := Aside0.mk (blk_drew BK169.out)
 have n1_ := Aside0.mk (blk_drew BK170.out)
 have n2_ := Aside0.mk (below_drew1 HB.out)
 clear BK169
 clear BK170
 clear HB
 have BK169 := n0_
 have BK170 := n1_
 have HB := n2_
 clear n0_ n1_ n2_
 refine start_ (n := 23) (S := fun w' => w'.cell? ⟨gb169, 0, none⟩ = some (.int .i64 a0_0) ∧ w'.cell? ⟨gb169, 1, none⟩ = some (.int .i64 a0_1) ∧ w'.cell? ⟨gb169, 2, none⟩ = some (.int .i64 a0_2) ∧ w'.cell? ⟨gb169, 3, none⟩ = some (.int .i64 a0_3) ∧ w'.cell? ⟨gb170, 0, none⟩ = some (.int .i64 a1_0) ∧ w'.cell? ⟨gb170, 1, none⟩ = some (.int .i64 a1_1) ∧ w'.cell? ⟨gb170, 2, none⟩ = some (.int .i64 a1_2) ∧ w'.cell? ⟨gb170, 3, none⟩ = some (.int .i64 a1_3)) (ds := []) #[false, false, false, false, false, false, false, false, false, false, false, false, false, false, false, false, false, false, false, false, false, false, false] (by kernel_rfl) rfl rfl ⟨(blk_cell BK169.out 0).trans rfl, (blk_cell BK169.out 1).trans rfl, (blk_cell BK169.out 2).trans rfl, (blk_cell BK169.out 3).trans rfl, (blk_cell BK170.out 0).trans rfl, (blk_cell BK170.out 1).trans rfl, (blk_cell BK170.out 2).trans rfl, (blk_cell BK170.out 3).trans rfl⟩ (fun hHeld => ?_); refine with_tabW rules_Atoms_1.tab1 rules_Atoms_1.bits1 (fun HT_ HW_ => ?_)
 have HDn_ : Aside0 (w.drawn ≤ w9.drew.drawn) := ⟨Nat.le_succ_of_le HD.out⟩
 clear HD
 have HD := HDn_
 clear HDn_
 generalize w9.drew = w10 at BK169 BK170 HB HD hHeld ⊢
 refine pure_ (i := 0) (N := some 5) (v := ?_) (a' := ?_) #[true, false, false, false, false, false, false, false, false, false, false, false, false, false, false, false, false, false, false, false, false, false, false] rfl rfl (any_of HT_.out (by kernel_rfl)) (fun _ _ _ h => h) (Or.inl ⟨by rfl, ?_⟩) ?_ ?_
 rotate_left
 ·intro w'
  go_simp
  with_reducible rfl
 rotate_left
 ·simp only [Act.put, List.setIfInBounds_toArray, List.set_cons_zero, List.set_cons_succ, i64_w, i32_w]
  rfl
 refine pure_ (i := 2) (N := some 7) (v := ?_) (a' := ?_) #[true, false, true, false, false, false, false, false, false, false, false, false, false, false, false, false, false, false, false, false, false, false, false] rfl rfl (any_of HT_.out (by kernel_rfl)) (fun _ _ _ h => h) (Or.inl ⟨by rfl, ?_⟩) ?_ ?_
 rotate_left
 ·intro w'
  go_simp
  with_reducible rfl
 rotate_left
 ·simp only [Act.put, List.setIfInBounds_toArray, List.set_cons_zero, List.set_cons_succ, i64_w, i32_w]
  rfl
 refine pure_ (i := 5) (N := some 10) (v := ?_) (a' := ?_) #[true, false, true, false, false, true, false, false, false, false, false, false, false, false, false, false, false, false, false, false, false, false, false] rfl rfl (any_of HT_.out (by kernel_rfl)) (fun _ _ _ h => h) (Or.inl ⟨by rfl, ?_⟩) ?_ ?_
 rotate_left
 ·intro w'
  go_simp
  with_reducible rfl
 rotate_left
 ·simp only [Act.put, List.setIfInBounds_toArray, List.set_cons_zero, List.set_cons_succ, i64_w, i32_w]
  rfl
 refine pure_ (i := 7) (N := some 12) (v := ?_) (a' := ?_) #[true, false, true, false, false, true, false, true, false, false, false, false, false, false, false, false, false, false, false, false, false, false, false] rfl rfl (any_of HT_.out (by kernel_rfl)) (fun _ _ _ h => h) (Or.inl ⟨by rfl, ?_⟩) ?_ ?_
 rotate_left
 ·intro w'
  go_simp
  with_reducible rfl
 rotate_left
 ·simp only [Act.put, List.setIfInBounds_toArray, List.set_cons_zero, List.set_cons_succ, i64_w, i32_w]
  rfl
 refine pure_ (i := 10) (N := some 15) (v := ?_) (a' := ?_) #[true, false, true, false, false, true, false, true, false, false, true, false, false, false, false, false, false, false, false, false, false, false, false] rfl rfl (any_of HT_.out (by kernel_rfl)) (fun _ _ _ h => h) (Or.inl ⟨by rfl, ?_⟩) ?_ ?_
 rotate_left
 ·intro w'
  go_simp
  with_reducible rfl
 rotate_left
 ·simp only [Act.put, List.setIfInBounds_toArray, List.set_cons_zero, List.set_cons_succ, i64_w, i32_w]
  rfl
 refine pure_ (i := 12) (N := some 17) (v := ?_) (a' := ?_) #[true, false, true, false, false, true, false, true, false, false, true, false, true, false, false, false, false, false, false, false, false, false, false] rfl rfl (any_of HT_.out (by kernel_rfl)) (fun _ _ _ h => h) (Or.inl ⟨by rfl, ?_⟩) ?_ ?_
 rotate_left
 ·intro w'
  go_simp
  with_reducible rfl
 rotate_left
 ·simp only [Act.put, List.setIfInBounds_toArray, List.set_cons_zero, List.set_cons_succ, i64_w, i32_w]
  rfl
 refine pure_ (i := 15) (N := some 20) (v := ?_) (a' := ?_) #[true, false, true, false, false, true, false, true, false, false, true, false, true, false, false, true, false, false, false, false, false, false, false] rfl rfl (any_of HT_.out (by kernel_rfl)) (fun _ _ _ h => h) (Or.inl ⟨by rfl, ?_⟩) ?_ ?_
 rotate_left
 ·intro w'
  go_simp
  with_reducible rfl
 rotate_left
 ·simp only [Act.put, List.setIfInBounds_toArray, List.set_cons_zero, List.set_cons_succ, i64_w, i32_w]
  rfl
 refine pure_ (i := 17) (N := some 22) (v := ?_) (a' := ?_) #[true, false, true, false, false, true, false, true, false, false, true, false, true, false, false, true, false, true, false, false, false, false, false] rfl rfl (any_of HT_.out (by kernel_rfl)) (fun _ _ _ h => h) (Or.inl ⟨by rfl, ?_⟩) ?_ ?_
 rotate_left
 ·intro w'
  go_simp
  with_reducible rfl
 rotate_left
 ·simp only [Act.put, List.setIfInBounds_toArray, List.set_cons_zero, List.set_cons_succ, i64_w, i32_w]
  rfl
 refine take_ (i := 1) (N := some 6) (v := ?_) (a' := ?_) #[true, true, true, false, false, true, false, true, false, false, true, false, true, false, false, true, false, true, false, false, false, false, false] rfl rfl (take_ofW HT_.out HW_.out (by kernel_rfl)) (fun _ _ _ h => h) (Or.inl ⟨by rfl, ?_⟩) hHeld ?_ ?_
 rotate_left
 ·rintro w' ⟨s0, s1, s2, s3, s4, s5, s6, s7⟩
  go_simp
  with_reducible rfl
 rotate_left
 ·simp only [Act.put, List.setIfInBounds_toArray, List.set_cons_zero, List.set_cons_succ, i64_w, i32_w]
  rfl
 refine take_ (i := 3) (N := some 8) (v := ?_) (a' := ?_) #[true, true, true, true, false, true, false, true, false, false, true, false, true, false, false, true, false, true, false, false, false, false, false] rfl rfl (take_ofW HT_.out HW_.out (by kernel_rfl)) (fun _ _ _ h => h) (Or.inl ⟨by rfl, ?_⟩) hHeld ?_ ?_
 rotate_left
 ·rintro w' ⟨s0, s1, s2, s3, s4, s5, s6, s7⟩
  go_simp
  with_reducible rfl
 rotate_left
 ·simp only [Act.put, List.setIfInBounds_toArray, List.set_cons_zero, List.set_cons_succ, i64_w, i32_w]
  rfl
 refine take_ (i := 6) (N := some 11) (v := ?_) (a' := ?_) #[true, true, true, true, false, true, true, true, false, false, true, false, true, false, false, true, false, true, false, false, false, false, false] rfl rfl (take_ofW HT_.out HW_.out (by kernel_rfl)) (fun _ _ _ h => h) (Or.inl ⟨by rfl, ?_⟩) hHeld ?_ ?_
 rotate_left
 ·rintro w' ⟨s0, s1, s2, s3, s4, s5, s6, s7⟩
  go_simp
  with_reducible rfl
 rotate_left
 ·simp only [Act.put, List.setIfInBounds_toArray, List.set_cons_zero, List.set_cons_succ, i64_w, i32_w]
  rfl
 refine take_ (i := 8) (N := some 13) (v := ?_) (a' := ?_) #[true, true, true, true, false, true, true, true, true, false, true, false, true, false, false, true, false, true, false, false, false, false, false] rfl rfl (take_ofW HT_.out HW_.out (by kernel_rfl)) (fun _ _ _ h => h) (Or.inl ⟨by rfl, ?_⟩) hHeld ?_ ?_
 rotate_left
 ·rintro w' ⟨s0, s1, s2, s3, s4, s5, s6, s7⟩
  go_simp
  with_reducible rfl
 rotate_left
 ·simp only [Act.put, List.setIfInBounds_toArray, List.set_cons_zero, List.set_cons_succ, i64_w, i32_w]
  rfl
 refine take_ (i := 11) (N := some 16) (v := ?_) (a' := ?_) #[true, true, true, true, false, true, true, true, true, false, true, true, true, false, false, true, false, true, false, false, false, false, false] rfl rfl (take_ofW HT_.out HW_.out (by kernel_rfl)) (fun _ _ _ h => h) (Or.inl ⟨by rfl, ?_⟩) hHeld ?_ ?_
 rotate_left
 ·rintro w' ⟨s0, s1, s2, s3, s4, s5, s6, s7⟩
  go_simp
  with_reducible rfl
 rotate_left
 ·simp only [Act.put, List.setIfInBounds_toArray, List.set_cons_zero, List.set_cons_succ, i64_w, i32_w]
  rfl
 refine take_ (i := 13) (N := some 18) (v := ?_) (a' := ?_) #[true, true, true, true, false, true, true, true, true, false, true, true, true, true, false, true, false, true, false, false, false, false, false] rfl rfl (take_ofW HT_.out HW_.out (by kernel_rfl)) (fun _ _ _ h => h) (Or.inl ⟨by rfl, ?_⟩) hHeld ?_ ?_
 rotate_left
 ·rintro w' ⟨s0, s1, s2, s3, s4, s5, s6, s7⟩
  go_simp
  with_reducible rfl
 rotate_left
 ·simp only [Act.put, List.setIfInBounds_toArray, List.set_cons_zero, List.set_cons_succ, i64_w, i32_w]
  rfl
 refine take_ (i := 16) (N := some 21) (v := ?_) (a' := ?_) #[true, true, true, true, false, true, true, true, true, false, true, true, true, true, false, true, true, true, false, false, false, false, false] rfl rfl (take_ofW HT_.out HW_.out (by kernel_rfl)) (fun _ _ _ h => h) (Or.inl ⟨by rfl, ?_⟩) hHeld ?_ ?_
 rotate_left
 ·rintro w' ⟨s0, s1, s2, s3, s4, s5, s6, s7⟩
  go_simp
  with_reducible rfl
 rotate_left
 ·simp only [Act.put, List.setIfInBounds_toArray, List.set_cons_zero, List.set_cons_succ, i64_w, i32_w]
  rfl
 refine take_ (i := 18) (N := some 23) (v := ?_) (a' := ?_) #[true, true, true, true, false, true, true, true, true, false, true, true, true, true, false, true, true, true, true, false, false, false, false] rfl rfl (take_ofW HT_.out HW_.out (by kernel_rfl)) (fun _ _ _ h => h) (Or.inl ⟨by rfl, ?_⟩) hHeld ?_ ?_
 rotate_left
 ·rintro w' ⟨s0, s1, s2, s3, s4, s5, s6, s7⟩
  go_simp
  with_reducible rfl
 rotate_left
 ·simp only [Act.put, List.setIfInBounds_toArray, List.set_cons_zero, List.set_cons_succ, i64_w, i32_w]
  rfl
 refine one_ (i := 4) (N := some 9) #[true, true, true, true, true, true, true, true, true, false, true, true, true, true, false, true, true, true, true, false, false, false, false] rfl rfl (one_of HT_.out (by kernel_rfl)) (by decide) (fun K hK => ?_)
 refine goes_ Tryd.func38 (by kernel_rfl) rfl #[.int .i64 a0_0, .int .i64 a1_0] (by rfl) rfl rfl (by (try simp only [List.map_toArray, List.map_cons, List.map_nil]); first | done | rfl | (simp only [List.length_drop, List.length_take]; rfl)) ?_
 with_reducible refine (cmp_Compare_int.calls a0_0 a1_0 t171 _ A3.out).mono ?_
 rintro e w' ⟨rfl, ⟨nd, rfl⟩⟩
 refine ⟨_, rfl, ?_⟩
 refine hK.out _ _ ⟨(blk_cell BK169.out 0).trans rfl, (blk_cell BK169.out 1).trans rfl, (blk_cell BK169.out 2).trans rfl, (blk_cell BK169.out 3).trans rfl, (blk_cell BK170.out 0).trans rfl, (blk_cell BK170.out 1).trans rfl, (blk_cell BK170.out 2).trans rfl, (blk_cell BK170.out 3).trans rfl⟩ (fun hHeld => ?_)
 clear hK K
 refine norm_ (a' := ?_) ?_ ?_
 rotate_left
 ·show Act.put _ (some 9) _ = _
  simp only [Act.put, List.setIfInBounds_toArray, List.set_cons_zero, List.set_cons_succ, i64_w, i32_w]
  rfl
 refine one_ (i := 9) (N := some 14) #[true, true, true, true, true, true, true, true, true, true, true, true, true, true, false, true, true, true, true, false, false, false, false] rfl rfl (one_of HT_.out (by kernel_rfl)) (by decide) (fun K hK => ?_)
 refine goes_ Tryd.func38 (by kernel_rfl) rfl #[.int .i64 a0_1, .int .i64 a1_1] (by rfl) rfl rfl (by (try simp only [List.map_toArray, List.map_cons, List.map_nil]); first | done | rfl | (simp only [List.length_drop, List.length_take]; rfl)) ?_
 with_reducible refine (cmp_Compare_int.calls a0_1 a1_1 t172 _ A4.out).mono ?_
 rintro e w' ⟨rfl, ⟨nd, rfl⟩⟩
 refine ⟨_, rfl, ?_⟩
 refine hK.out _ _ ⟨(blk_cell BK169.out 0).trans rfl, (blk_cell BK169.out 1).trans rfl, (blk_cell BK169.out 2).trans rfl, (blk_cell BK169.out 3).trans rfl, (blk_cell BK170.out 0).trans rfl, (blk_cell BK170.out 1).trans rfl, (blk_cell BK170.out 2).trans rfl, (blk_cell BK170.out 3).trans rfl⟩ (fun hHeld => ?_)
 clear hK K
 refine norm_ (a' := ?_) ?_ ?_
 rotate_left
 ·show Act.put _ (some 14) _ = _
  simp only [Act.put, List.setIfInBounds_toArray, List.set_cons_zero, List.set_cons_succ, i64_w, i32_w]
  rfl
 refine one_ (i := 14) (N := some 19) #[true, true, true, true, true, true, true, true, true, true, true, true, true, true, true, true, true, true, true, false, false, false, false] rfl rfl (one_of HT_.out (by kernel_rfl)) (by decide) (fun K hK => ?_)
 refine goes_ Tryd.func38 (by kernel_rfl) rfl #[.int .i64 a0_2, .int .i64 a1_2] (by rfl) rfl rfl (by (try simp only [List.map_toArray, List.map_cons, List.map_nil]); first | done | rfl | (simp only [List.length_drop, List.length_take]; rfl)) ?_
 with_reducible refine (cmp_Compare_int.calls a0_2 a1_2 t173 _ A5.out).mono ?_
 rintro e w' ⟨rfl, ⟨nd, rfl⟩⟩
 refine ⟨_, rfl, ?_⟩
 refine hK.out _ _ ⟨(blk_cell BK169.out 0).trans rfl, (blk_cell BK169.out 1).trans rfl, (blk_cell BK169.out 2).trans rfl, (blk_cell BK169.out 3).trans rfl, (blk_cell BK170.out 0).trans rfl, (blk_cell BK170.out 1).trans rfl, (blk_cell BK170.out 2).trans rfl, (blk_cell BK170.out 3).trans rfl⟩ (fun hHeld => ?_)
 clear hK K
 refine norm_ (a' := ?_) ?_ ?_
 rotate_left
 ·show Act.put _ (some 19) _ = _
  simp only [Act.put, List.setIfInBounds_toArray, List.set_cons_zero, List.set_cons_succ, i64_w, i32_w]
  rfl
 refine one_ (i := 19) (N := some 24) #[true, true, true, true, true, true, true, true, true, true, true, true, true, true, true, true, true, true, true, true, false, false, false] rfl rfl (one_of HT_.out (by kernel_rfl)) (by decide) (fun K hK => ?_)
 refine goes_ Tryd.func38 (by kernel_rfl) rfl #[.int .i64 a0_3, .int .i64 a1_3] (by rfl) rfl rfl (by (try simp only [List.map_toArray, List.map_cons, List.map_nil]); first | done | rfl | (simp only [List.length_drop, List.length_take]; rfl)) ?_
 with_reducible refine (cmp_Compare_int.calls a0_3 a1_3 t174 _ A6.out).mono ?_
 rintro e w' ⟨rfl, ⟨nd, rfl⟩⟩
 refine ⟨_, rfl, ?_⟩
 refine hK.out _ _ ⟨(blk_cell BK169.out 0).trans rfl, (blk_cell BK169.out 1).trans rfl, (blk_cell BK169.out 2).trans rfl, (blk_cell BK169.out 3).trans rfl, (blk_cell BK170.out 0).trans rfl, (blk_cell BK170.out 1).trans rfl, (blk_cell BK170.out 2).trans rfl, (blk_cell BK170.out 3).trans rfl⟩ (fun hHeld => ?_)
 clear hK K
 refine norm_ (a' := ?_) ?_ ?_
 rotate_left
 ·show Act.put _ (some 24) _ = _
  simp only [Act.put, List.setIfInBounds_toArray, List.set_cons_zero, List.set_cons_succ, i64_w, i32_w]
  rfl
 refine one_ (i := 20) (N := some 25) #[true, true, true, true, true, true, true, true, true, true, true, true, true, true, true, true, true, true, true, true, true, false, false] rfl rfl (one_of HT_.out (by kernel_rfl)) (by decide) (fun K hK => ?_)
 refine Grow.R_lit_step (Kd.int .i64) _ 3 ?hg (N := 25) ?hd (xs := ([t171, t172, t173, t174] : List Int)) (inner := [.int .i64 t171, .int .i64 t172, .int .i64 t173, .int .i64 t174]) (ok := fun _ => True) (okp := fun _ => True) ?hr ?hp (fun _ hk => hk) trivial (Below.refl _ _) (Nat.le_refl _) (by simp) ?_; (case hd => rfl); (case hg => rfl); (case hr => first | (go_simp; done) | (go_simp; rfl)); (case hp => exact (Reps.one (show Kd.M (Kd.int .i64) _ _ _ t171 [.int .i64 t171] from rfl) (Reps.one (show Kd.M (Kd.int .i64) _ _ _ t172 [.int .i64 t172] from rfl) (Reps.one (show Kd.M (Kd.int .i64) _ _ _ t173 [.int .i64 t173] from rfl) (Reps.one (show Kd.M (Kd.int .i64) _ _ _ t174 [.int .i64 t174] from rfl) (Reps.none _ _))))))
 intro v176 w11 ho12 hb hg_ hnew_ hd_
 have HDn_ : Aside0 (w.drawn ≤ w11.drawn) := ⟨by have h1_ := HD.out; have h2_ := hd_; (try simp only [Grow.drawn_drewN, Grow.drawn_alloc] at h1_ h2_); omega⟩; clear HD hd_; have HD := HDn_; clear HDn_
 clear hg_ hnew_
 (first | rw [← Ny175.out] at ho12 | (simp only [Int.reduceToNat] at ho12; rw [← Ny175.out] at ho12))
 have n0_ := Aside0.mk (Kd.R_lower ho12 (below_size (by repeat (first | (with_reducible first | exact HB.out | apply below_alloc | apply pw_below_drewN | apply below_drew1 | refine below_set ?_ GE169.out | refine below_set ?_ GE170.out) | exact HB.out))))
 have n1_ := Aside0.mk (blk_below (g := gb169) (o := .cells #[.int .i64 a0_0, .int .i64 a0_1, .int .i64 a0_2, .int .i64 a0_3] 60 (0, 0)) (by (with_reducible repeat (first | refine blk_drewN ?_ _ | refine blk_drew ?_ | refine blk_alloc ?_ _)); exact BK169.out) hb)
 have n2_ := Aside0.mk (blk_below (g := gb170) (o := .cells #[.int .i64 a1_0, .int .i64 a1_1, .int .i64 a1_2, .int .i64 a1_3] 60 (0, 0)) (by (with_reducible repeat (first | refine blk_drewN ?_ _ | refine blk_drew ?_ | refine blk_alloc ?_ _)); exact BK170.out) hb)
 have n3_ := Aside0.mk (below_step (by repeat (first | (with_reducible first | exact HB.out | apply below_alloc | apply pw_below_drewN | apply below_drew1 | refine below_set ?_ GE169.out | refine below_set ?_ GE170.out) | exact HB.out)) hb)
 clear BK169
 clear BK170
 clear HB
 have HO177 := n0_
 have BK169 := n1_
 have BK170 := n2_
 have HB := n3_
 clear n0_ n1_ n2_ n3_
 clear hb ho12
 obtain ⟨Ao13, co13, eo13⟩ := Kd.R_slice HO177.out
 (first | subst eo13 | (injection eo13 with f1_ f2_ f3_; have f4_ := f1_.symm; have f5_ := f3_.symm; clear f1_ f2_ f3_; subst f4_; subst f5_))
 refine hK.out _ _ ⟨(blk_cell BK169.out 0).trans rfl, (blk_cell BK169.out 1).trans rfl, (blk_cell BK169.out 2).trans rfl, (blk_cell BK169.out 3).trans rfl, (blk_cell BK170.out 0).trans rfl, (blk_cell BK170.out 1).trans rfl, (blk_cell BK170.out 2).trans rfl, (blk_cell BK170.out 3).trans rfl⟩ (fun hHeld => ?_)
 clear hK K
 refine norm_ (a' := ?_) ?_ ?_
 rotate_left
 ·show Act.put _ (some 25) _ = _
  simp only [Act.put, List.setIfInBounds_toArray, List.set_cons_zero, List.set_cons_succ, i64_w, i32_w]
  rfl
 refine one_ (i := 21) (N := some 26) #[true, true, true, true, true, true, true, true, true, true, true, true, true, true, true, true, true, true, true, true, true, true, false] rfl rfl (one_of HT_.out (by kernel_rfl)) (by decide) (fun K hK => ?_)
 refine goes_ Tryd.func37 (by kernel_rfl) rfl #[.slice Ao13 y175.length co13] (by rfl) rfl rfl (by (try simp only [List.map_toArray, List.map_cons, List.map_nil]); first | done | rfl | (simp only [List.length_drop, List.length_take]; rfl)) ?_
 with_reducible refine (cmp_Or_int.calls k _ _ y175 t178 _ ?side1 ?side2 A7.out).mono ?_
 (case side1 => repeat (first | exact (Kd.R_reads' HO177.out).2.2 | (with_reducible refine Kd.C_alloc ?_ _) | (with_reducible refine Kd.C_drewN ?_ _) | (with_reducible refine Kd.C_drew ?_)))
 (case side2 => exact (Kd.R_reads' HO177.out).2.1)
 rintro e w' ⟨rfl, ⟨nd, rfl⟩⟩
 refine ⟨_, rfl, ?_⟩
 refine hK.out _ _ ⟨(blk_cell BK169.out 0).trans rfl, (blk_cell BK169.out 1).trans rfl, (blk_cell BK169.out 2).trans rfl, (blk_cell BK169.out 3).trans rfl, (blk_cell BK170.out 0).trans rfl, (blk_cell BK170.out 1).trans rfl, (blk_cell BK170.out 2).trans rfl, (blk_cell BK170.out 3).trans rfl⟩ (fun hHeld => ?_)
 clear hK K
 refine norm_ (a' := ?_) ?_ ?_
 rotate_left
 ·show Act.put _ (some 26) _ = _
  simp only [Act.put, List.setIfInBounds_toArray, List.set_cons_zero, List.set_cons_succ, i64_w, i32_w]
  rfl
 refine pure_ (i := 22) (N := some 4) (v := ?_) (a' := ?_) #[true, true, true, true, true, true, true, true, true, true, true, true, true, true, true, true, true, true, true, true, true, true, true] rfl rfl (any_of HT_.out (by kernel_rfl)) (fun _ _ _ h => h) (Or.inl ⟨by rfl, ?_⟩) ?_ ?_
 rotate_left
 ·intro w'
  go_simp
  with_reducible rfl
 rotate_left
 ·simp only [Act.put, List.setIfInBounds_toArray, List.set_cons_zero, List.set_cons_succ, i64_w, i32_w]
  rfl
 refine done_ (done_of HT_.out (by kernel_rfl)) ?_
 try go_wp2
 go_ret
 exact ⟨by first | rfl | (simp [errW_none, errW_some] <;> rfl) | (simp [*, errW_none, errW_some] <;> rfl), by repeat (first | (with_reducible first | exact HB.out | apply below_alloc | apply pw_below_drewN | apply below_drew1 | refine below_set ?_ GE169.out | refine below_set ?_ GE170.out) | exact HB.out), (by have h1_ := HD.out; (try simp only [Grow.drawn_drewN, Grow.drawn_alloc] at h1_ ⊢); omega)⟩
end Go.Proofs.YtabocfninjankaaDoor.P
namespace Go.Proofs.YtabocfninjankaaDoor.P
open Go.RowKit Go.Proofs.YtabocfninjankaaDoorW.PrintWords Go.Proofs.YtabocfninjankaaDoorW.PrintLast Go.Proofs.YtabocfninjankaaDoorW.PrintMore
theorem cmpLaysA (blk off size : Nat) (w : World) : CmpLays Tryd.prog 36 #[] encA 4 cfA blk off size w :=
  fun m os dk _ x y => (rules_Atoms_1.grows 10 x.o x.c x.n x.d y.o y.c y.n y.d (cfA x y) (sortWorldK encA 4 w blk off m dk os) (rules_Atoms_1_f x y)).mono
    fun _ _ ⟨he, hb, hd⟩ => ⟨he, Grow.grow_of hb hd⟩
theorem slices_SortFunc_atom {base : Nat} {ok : Nat → Prop} {A : Option Addr} {n c : Nat} {xs : List A4} {w : World} (h : k60.R 60 w base ok (.slice A n c) xs) (hl : xs.length ≤ 4611686018427387000) :
    Calls Tryd.prog 55 #[.slice A n c, .func (.func 36) #[] #[]] w fun e w' => e = .returned (.tuple #[]) ∧ k60.R 60 w' base ok (.slice A n c) (sortA xs) ∧ w.grownBy w' (Value.slice A n c).ownBlock := by
  rcases Flat.rowAt_of_R flatA h with ⟨hv, rfl⟩ | ⟨g, cap, hv, hb, hok, hr⟩
  · injection hv with h1 h2 h3
    subst h1 h2 h3
    have hc := AnyF.slices_SortFunc_none { Tryd.sortAtom with } none 0 (.func (.func 36) #[] #[]) w
    change Calls Tryd.prog 55 _ _ _ at hc
    refine Calls.mono hc ?_
    rintro e w' ⟨rfl, rfl⟩
    exact ⟨rfl, by simpa [sortA] using Kd.R_nil k60 60 _ base ok, ⟨rfl, rfl, rfl, Nat.le_refl _, fun _ _ _ => rfl⟩⟩
  · injection hv with h1 h2 h3
    subst h1 h2 h3
    have eg : ∀ args w, (callFunc 36 args).run Tryd.prog w = .ok (.enter 36 args) w := enters_of Tryd.func36 (by kernel_rfl) rfl
    have hc := AnyQ.slices_SortFunc_total Tryd.sortAtom 4 Tryd.isAgg60 Tryd.sizeOf60 encA encA_len encA_one cfA swoA 36 #[] g 0 c xs.toArray w eg (cmpLaysA _ _ _ _) (hr.holds flatA) hr.lt (by rw [List.size_toArray]; omega) cfA_sep
    rw [List.size_toArray] at hc
    change Calls Tryd.prog 55 _ _ _ at hc
    refine Calls.mono hc ?_
    rintro e w' ⟨rfl, n, os, rfl⟩
    have hy : (xs.mergeSort fun x y => !ltOf cfA y x).toArray.size = xs.length := by simp
    obtain ⟨h1, h2⟩ := hr.sorted (n := n) (os := os) flatA hy
    have h3 := Flat.R_of_rowAt flatA hb hok h1
    refine ⟨rfl, ?_, h2⟩
    have e1 : (sortA xs).length = xs.length := by simp [sortA]
    rw [← e1]
    exact h3
end Go.Proofs.YtabocfninjankaaDoor.P
namespace Go.Proofs.YtabocfninjankaaDoor.P
open Go.RowKit Go.Shelf Go.Maps Go.Proofs.YtabocfninjankaaDoorW.PrintWords Go.Proofs.YtabocfninjankaaDoorW.PrintLast Go.Proofs.YtabocfninjankaaDoorW.PrintMore
attribute [local go_sem] Oper.semAt_some
set_option linter.unusedVariables false
set_option linter.unusedSimpArgs false
/-- slices.SortedFunc at atoms, with the program's order. -/
theorem sortedFunc_in (n : Nat) (hn : 5 ≤ n) (gf : Nat) (lb : Array Value) (eg : ∀ args w, (callFunc gf args).run Tryd.prog w = .ok (.enter gf args) w)
    (T Tp : List A4 → Prop) (N : Nat) {w : World} (hN : N * 32 ≤ 140737488355328) (hT : ∀ ys, T ys → ys.length ≤ 4611686018427387000)
    (hseq : SeqStopsK Fence.wide (n - 1 - 1 - 1) Tryd.prog gf lb (fun x : A4 => #[.agg (encA x).toArray]) KeepsWalks T Tp N w) :
    CallsIn Fence.wide n Tryd.prog 39 #[.func (.func gf) #[] lb, .func (.func 36) #[] #[]] w fun e w' => ∃ v ys, e = .returned v ∧ T ys ∧ k60.R 60 w' w.heap.size (fun _ => True) v (sortA ys) ∧ w.grownBy w' none := by
  have hdd : ∀ k : Nat, (Fence.wide.depth.isSome = true → 1 ≤ k) := fun k h => by cases h
  have G := Aside0.mk (collect_in Fence.wide (n - 1) trivial trivial rfl (by omega) rfl gf lb trivial eg T Tp N hN hseq)
  refine callsIn_of_wp Tryd.func39 rfl trivial ?_ rfl
  simp only [Tryd.ntmps39, List.size_toArray, List.length_cons, List.length_nil, Nat.reduceAdd, Nat.reduceSub, Array.replicate_succ, Array.replicate_zero, List.push_toArray, List.append_toArray, List.nil_append, List.cons_append]
  have hf54 : Fence.wide.fn 54 := trivial
  have hf55 : Fence.wide.fn 55 := trivial
  gi_wp2_with (first
    | ((try refine ⟨hdd _, ?_⟩); gi_at_call 54; refine G.out.mono ?_; clear G; rintro e w1 ⟨v, ys, rfl, hT1, hr, hg⟩; have HR := Aside0.mk hr; obtain ⟨A, c, rfl⟩ := own_slice HR.out; have HG := Aside0.mk hg; have HT1 := Aside0.mk hT1; clear hg hr hT1)
    | ((try refine ⟨hdd _, ?_⟩); gi_at_call 55; refine (callsIn_wide.2 (slices_SortFunc_atom (base := w.heap.size) (ok := fun _ => True) (xs := ys) ⟨fun _ _ => trivial, _, HR.out, Flat.flat_reps flatA _ _ _ _⟩ (hT _ HT1.out))).mono ?_; rintro e w2 ⟨rfl, hr2, hg2⟩))
  go_ret
  refine ⟨_, ys, rfl, HT1.out, hr2, hg2.os.trans HG.out.os, hg2.tape.trans HG.out.tape, hg2.output.trans HG.out.output, Nat.le_trans HG.out.size hg2.size, fun k hk hne => (hg2.block k (Nat.lt_of_lt_of_le hk HG.out.size) (fun e => ?_)).trans (HG.out.block k hk hne)⟩
  have := (HR.out.lt k e.symm).1
  omega
/-- Is a part an atom? -/
def isA (r : S24) : Bool := decide (5 ≤ r.f0) && decide (r.f0 ≤ 9)
def atomOf (r : S24) : A4 := ⟨r.f0, r.f1, r.f3, r.f4⟩
/-- The rule of an atom. -/
def ruleOf (x : A4) : S24 := ⟨x.o, x.c, ⟨#[]⟩, x.n, x.d, []⟩
mutual
/-- The numbers of each part that is an atom can be a key. -/
def wfaR : S24 → Prop
  | ⟨a, b, c, n, d, ks⟩ => (isA ⟨a, b, c, n, d, ks⟩ = true → wfA ⟨a, b, n, d⟩) ∧ wfaL ks
def wfaL : List S24 → Prop
  | [] => True
  | k :: ks => wfaR k ∧ wfaL ks
end
mutual
def wfaB : S24 → Bool
  | ⟨a, b, c, n, d, ks⟩ => (!isA ⟨a, b, c, n, d, ks⟩ || ((Lit.int .i64 a).wf && ((Lit.int .i64 b).wf && ((Lit.int .i64 n).wf && (Lit.int .i64 d).wf)))) && wfaLB ks
def wfaLB : List S24 → Bool
  | [] => true
  | k :: ks => wfaB k && wfaLB ks
end
mutual
theorem wfaB_iff : ∀ r, wfaB r = true ↔ wfaR r
  | ⟨a, b, c, n, d, ks⟩ => by
    simp only [wfaB, wfaR, Bool.and_eq_true, wfaLB_iff ks, wfA]
    cases isA ⟨a, b, c, n, d, ks⟩ <;> simp
theorem wfaLB_iff : ∀ ks, wfaLB ks = true ↔ wfaL ks
  | [] => by simp [wfaLB, wfaL]
  | k :: ks => by simp only [wfaLB, wfaL, Bool.and_eq_true, wfaB_iff k, wfaLB_iff ks]
end
theorem wfaL_mem : ∀ {ks : List S24}, wfaL ks → ∀ k, k ∈ ks → wfaR k
  | [], _, k, hk => by cases hk
  | x :: xs, h, k, hk => by
    simp only [wfaL] at h
    rcases List.mem_cons.1 hk with rfl | hk
    · exact h.1
    · exact wfaL_mem h.2 k hk
theorem wfaR_kid (r : S24) (h : wfaR r) : ∀ k, k ∈ r.f5 → wfaR k := by
  cases r
  simp only [wfaR] at h
  exact wfaL_mem h.2
theorem wfaR_key (r : S24) (h : wfaR r) : isA r = true → wfA (atomOf r) := by
  cases r
  simp only [wfaR] at h
  exact h.1
def atPut (D : DataW Unit) (p : Int × S24) : DataW Unit := if isA p.2 = true then D.put (kA (atomOf p.2)) (.lit (.bool true)) else D
def atAll (ps : List (Int × S24)) : DataW Unit := ps.foldl atPut (.map [])
theorem atAll_snoc (ps : List (Int × S24)) (p : Int × S24) : atAll (ps ++ [p]) = atPut (atAll ps) p := by simp [atAll]
/-- The cells of an atom's rule. -/
def encR (x : A4) : List Value := [.int .i64 x.o, .int .i64 x.c, .string ⟨#[]⟩, .int .i64 x.n, .int .i64 x.d, .slice none 0 0]
theorem encR_one (x : A4) : ∀ v ∈ encR x, v.oneCell' = true := by
  intro v hv
  simp only [encR, List.mem_cons, List.not_mem_nil, or_false] at hv
  rcases hv with rfl | rfl | rfl | rfl | rfl | rfl <;> rfl
theorem encR_lens : ∀ xs : List A4, (xs.flatMap encR).length = xs.length * 6
  | [] => rfl
  | x :: xs => by rw [List.flatMap_cons, List.length_append, encR_lens xs, List.length_cons]; simp [encR]; omega
theorem reps_rules (w : World) (base : Nat) (ok : Nat → Prop) : ∀ xs : List A4, Reps (k24.M w base ok) 6 (xs.map ruleOf) (xs.flatMap encR)
  | [] => Reps.none _ _
  | x :: xs => by
    refine ⟨by rw [encR_lens, List.length_map], fun j p hj => ?_⟩
    rw [List.flatMap_cons]
    cases j with
    | zero =>
      have : ruleOf x = p := by simpa using hj
      subst this
      have hM := k24_mkM w base ok (ruleOf x) (v5 := .slice none 0 0) (Kd.R_nil k24 24 w base ok)
      simpa [encR, ruleOf] using hM
    | succ j =>
      have h2 := (reps_rules w base ok xs).2 j p (by simpa using hj)
      rwa [show (j + 1) * 6 = (encR x).length + j * 6 by simp [encR]; omega, ← List.drop_drop, List.drop_left]
theorem R_rules {w : World} {base : Nat} {v : Value} {xs : List A4} (h : w.ownsRow base 24 6 v xs.length (xs.flatMap encR)) : Kd.R k24 24 w base (fun _ => True) v (xs.map ruleOf) :=
  ⟨fun _ _ => trivial, _, by rw [List.length_map]; exact h, reps_rules _ _ _ _⟩
theorem at_A {w : World} {A : Option Addr} {n : Nat} {xs : List A4} (h : Kd.C k60 w A n xs) (i : Nat) (h1 : i < n) (h2 : i < xs.length) : ∃ ad, A = some ad ∧ w.cell? (ad.add (i * 4)) = some (.int .i64 xs[i].o) ∧ w.cell? ⟨(ad.add (i * 4)).block, (ad.add (i * 4)).off + 1, none⟩ = some (.int .i64 xs[i].c) ∧
    w.cell? ⟨(ad.add (i * 4)).block, (ad.add (i * 4)).off + 2, none⟩ = some (.int .i64 xs[i].n) ∧ w.cell? ⟨(ad.add (i * 4)).block, (ad.add (i * 4)).off + 3, none⟩ = some (.int .i64 xs[i].d) := by
  obtain ⟨ad, c, e, _, hK, hc0⟩ := Kd.C_get h ⟨0, 0, 0, 0⟩ (i : Int) (by omega) (by omega)
  have hx : xs.getD (i : Int).toNat ⟨0, 0, 0, 0⟩ = xs[i] := by simp [List.getD_eq_getElem?_getD, h2]
  rw [hx] at hK
  have hc : ∀ j u, c[j]? = some u → w.cell? (ad.add (i * 4 + j)) = some u := hc0
  obtain rfl := k60_open hK
  exact ⟨ad, e, hc 0 _ rfl, by rw [← add_field _ _ 1 (by omega)]; exact hc 1 _ rfl, by rw [← add_field _ _ 2 (by omega)]; exact hc 2 _ rfl, by rw [← add_field _ _ 3 (by omega)]; exact hc 3 _ rfl⟩
/-- Where the walk of rules.Atoms stands. -/
structure AtW (w : World) (b : Nat) (n : Nat) (D : DataW Unit) (W : World) : Prop where
  below : Below w.heap.size w W
  box : W.heap[b + 1]? = some (.cells #[.map (some b)] 54 (0, 0))
  own : W.ownsMap Tryd.prog 60 (plainElem Tryd.prog 4) b n D
theorem AtW.grown {w W W' : World} {b n : Nat} {D : DataW Unit} {row : Option Nat} (h : AtW w b n D W) (hg : W.grownBy W' row) (hr : ∀ k, row = some k → b + 2 ≤ k ∧ w.heap.size ≤ k) : AtW w b n D W' := by
  have hlt := h.own.lt
  refine ⟨h.below.grown hg h.below.size (fun k e => (hr k e).2), blk_grown h.box hg (fun e => by have := (hr _ e.symm).1; omega), h.own.kept hg (fun e => by have := (hr _ e.symm).1; omega)⟩
theorem AtW.put {w W W' : World} {b n n' : Nat} {D D' : DataW Unit} (h : AtW w b n D W) (hwb : w.heap.size ≤ b) (hg : W.grownBy W' (some b)) (ho : W'.ownsMap Tryd.prog 60 (plainElem Tryd.prog 4) b n' D') : AtW w b n' D' W' := by
  have hlt := h.own.lt
  exact ⟨h.below.grown hg h.below.size (fun k e => by injection e; omega), blk_grown h.box hg (fun e => by injection e; omega), ho⟩
theorem AtW.mono {w W : World} {b n n' : Nat} {D : DataW Unit} (h : AtW w b n D W) (hn : n ≤ n') : AtW w b n' D W := ⟨h.below, h.box, h.own.mono hn⟩
set_option maxHeartbeats 4000000 in
set_option maxRecDepth 100000 in
theorem atoms_in (r : S24) (A : Option Addr) (c : Nat) (w : World) (hC : Kd.C k24 w A r.f5.length r.f5) (hc : r.f5.length ≤ c) (hq : wfaR r) (hn : (preR 1 r).length ≤ 100000) :
    CallsIn Fence.wide 8 Tryd.prog 15 #[.agg #[.int .i64 r.f0, .int .i64 r.f1, .string r.f2, .int .i64 r.f3, .int .i64 r.f4, .slice A r.f5.length c]] w
      fun e w' => ∃ v0_ : Value, e = .returned v0_ ∧ (∃ ys, AllA (atAll (preR 1 r)) ys ∧ Kd.R k24 24 w' w.heap.size (fun _ => True) v0_ ((sortA ys).map ruleOf)) ∧ Below w.heap.size w w' := by
  have hu24 := Tryd.underlying24
  have hu60 := Tryd.underlying60
  have hmm := @run_makeMap Tryd.prog
  have HC := Aside0.mk hC
  clear hC
  refine callsIn_of_wp_marks Tryd.func15 rfl trivial ?_ rfl
  simp only [Tryd.ntmps15, List.size_toArray, List.length_cons, List.length_nil, Nat.reduceAdd, Nat.reduceSub, Array.replicate_succ, Array.replicate_zero, List.push_toArray, List.append_toArray, List.nil_append, List.cons_append]
  have cP : ∀ W, CallsIn Fence.wide 7 Tryd.prog 34 #[.agg #[.int .i64 r.f0, .int .i64 r.f1, .string r.f2, .int .i64 r.f3, .int .i64 r.f4, .slice A r.f5.length c]] W fun e w' =>
      e = .returned (.func (.func 52) #[] #[.pointer (some ⟨W.heap.size + 1, 0, none⟩), .pointer (some ⟨W.heap.size, 0, none⟩)]) ∧
      w' = (W.alloc (.cells #[.int .i64 r.f0, .int .i64 r.f1, .string r.f2, .int .i64 r.f3, .int .i64 r.f4, .slice A r.f5.length c] 24)).alloc (.cells #[.func (.func 51) #[] #[.pointer (some ⟨W.heap.size + 1, 0, none⟩)]] 82) := fun W => callsIn_wide.2 (parts_calls r A c W)
  have CP := Aside0.mk cP
  clear cP
  have hfP : Fence.wide.fn 34 := trivial
  gi_wp2_with (gi_at_call 34; refine (CP.out _).mono ?_; rintro e w' ⟨rfl, rfl⟩)
  generalize hWn : World.alloc (World.alloc _ _) (Obj.cells #[.func (.func 51) #[] #[.pointer (some ⟨_, 0, none⟩)]] 82) = Wn
  have hz : Wn.heap.size = w.heap.size + 5 := by rw [← hWn]; simp
  have hBW : Below w.heap.size w Wn := by rw [← hWn]; exact ((((((Below.refl _ w).alloc (Nat.le_refl _) _).alloc (by simp) _).alloc (by simp; omega) _).alloc (by simp; omega) _).alloc (by simp; omega) _)
  have HW0 : AtW w (w.heap.size + 1) 0 (.map []) Wn := by
    rw [← hWn]
    refine AtW.grown (row := none) (AtW.grown (row := none) ⟨?_, ?_, ?_⟩ (World.grownBy_alloc _ _ none) (fun k e => by cases e)) (World.grownBy_alloc _ _ none) (fun k e => by cases e)
    · exact (((Below.refl _ w).alloc (Nat.le_refl _) _).alloc (by simp) _).alloc (by simp; omega) _
    · exact new_blk _ _ (by simp)
    · have h := World.ownsMap_made (w.alloc (.cells #[.int .i64 r.f0, .int .i64 r.f1, .string r.f2, .int .i64 r.f3, .int .i64 r.f4, .slice A r.f5.length c] 24)) Tryd.prog 60 (plainElem (H := Unit) Tryd.prog 4)
      rw [World.size_alloc] at h
      exact h.alloc _
  have bR : Wn.heap[w.heap.size + 1 + 1 + 1]? = some (.cells #[.int .i64 r.f0, .int .i64 r.f1, .string r.f2, .int .i64 r.f3, .int .i64 r.f4, .slice A r.f5.length c] 24 (0, 0)) := by
    rw [← hWn]
    refine (Below.heap_alloc _ _ _ (by simp)).trans (new_blk _ _ (by simp))
  have bK : Wn.heap[w.heap.size + 1 + 1 + 1 + 1]? = some (.cells #[.func (.func 51) #[] #[.pointer (some ⟨w.heap.size + 1 + 1 + 1 + 1, 0, none⟩)]] 82 (0, 0)) := by
    rw [← hWn]
    exact new_blk _ _ (by simp)
  clear hWn
  refine wpIn_rangeFunc_ownH (α := PartQ w wfaR) (F := Fence.wide) (n := 8) rfl (by omega) (gf := 52) (lb := #[.pointer (some ⟨w.heap.size + 1 + 1 + 1 + 1, 0, none⟩), .pointer (some ⟨w.heap.size + 1 + 1 + 1, 0, none⟩)]) rfl trivial (enters_of Tryd.func52 (by kernel_rfl) rfl)
    (parts_stopsQ w wfaR wfaR_kid (fun k => k = w.heap.size + 1) Fence.wide rfl trivial trivial rfl 7 _ _ r A c Wn hq hc HC.out hBW (fun k hk => by omega) (by omega) bK bR)
    (fun h k => KeptC.trans h k) (fun W l o o' hl hlo ho _ => KeptC.putObj o' (by omega) hlo ho) (Below.refl _ _) (fun _ => rfl)
    (fun pre W => AtW w (w.heap.size + 1) pre.length (atAll (pre.map PartQ.key)) W ∧ Wn.heap.size ≤ W.heap.size)
    (fun _ _ _ => False)
    ?hI (fun _ _ _ _ _ hs _ _ => hs) ⟨HW0, Nat.le_refl _⟩
    (fun x a' W => ∃ Bx, Wn.heap.size ≤ Bx ∧ W.heap[Bx]? = some (.cells #[.int .i64 x.r.f0, .int .i64 x.r.f1, .string x.r.f2, .int .i64 x.r.f3, .int .i64 x.r.f4, .slice x.A x.r.f5.length x.c] 24 (0, 0)) ∧ a' = { tmps := #[.agg #[.int .i64 r.f0, .int .i64 r.f1, .string r.f2, .int .i64 r.f3, .int .i64 r.f4, .slice A r.f5.length c], .pointer (some ⟨w.heap.size, 0, none⟩), .slice none 0 0, .pointer (some ⟨w.heap.size + 1 + 1, 0, none⟩), undef, .pointer (some ⟨Bx, 0, none⟩), undef, undef, undef, .map (some (w.heap.size + 1)), .agg #[.int .i64 r.f0, .int .i64 r.f1, .string r.f2, .int .i64 r.f3, .int .i64 r.f4, .slice A r.f5.length c], .func (.func 52) #[] #[.pointer (some ⟨w.heap.size + 1 + 1 + 1 + 1, 0, none⟩), .pointer (some ⟨w.heap.size + 1 + 1 + 1, 0, none⟩)], .int .i64 x.d, x.cells, undef, undef, undef, undef, undef, undef, undef, undef, undef, undef, undef, undef, undef, undef, undef, undef, undef, undef, undef, undef, undef, undef, undef, undef, undef, undef, undef, undef, undef, undef, undef, undef, undef, undef, undef, undef], defers := [] })
    ?hAx ?assign ?body ?done ?stop
  case hI =>
    rintro pre X Y row ⟨h3, h4⟩ hg hr
    exact ⟨h3.grown hg (fun k e => by have := (hr k e).1; omega), Nat.le_trans h4 hg.size⟩
  case hAx =>
    rintro x a' _ X Y row ⟨Bx, hb, hx, rfl⟩ hg hr
    refine ⟨Bx, hb, (hg.block Bx (Array.getElem?_eq_some_iff.1 hx).1 (fun e => ?_)).trans hx, rfl⟩
    obtain ⟨_, o, ho, hc⟩ := hr Bx e.symm
    rw [hx] at ho
    cases ho
    cases hc
  case assign =>
    rintro l pre x W K ⟨h3, h4⟩ hK
    simp only [PartQ.cells]
    gi_wp2
    refine hK _ _ ((KeepsOthers.alloc _ _).from _) (KeptC.alloc (KeptC.refl _ _ _) (by omega) _) ⟨h3.grown (World.grownBy_alloc W _ none) (fun k e => by cases e), by simp; omega⟩ ⟨W.heap.size, h4, blk_new _ _, rfl⟩
  case stop =>
    rintro D c pre W hD _ h hK
    exact h.elim
  case body =>
    rintro l pre x a' W hl ⟨rr, hlr⟩ ⟨h3, h4⟩ ⟨Bx, hBx, hx, rfl⟩ hlen
    have y0 := (blk_cell hx 0).trans rfl
    have HX := Aside0.mk hx
    have HBX := Aside0.mk h3.box
    have H3 := Aside0.mk h3
    have H4 := Aside0.mk h4
    have hex : atAll ((pre ++ [x]).map PartQ.key) = atPut (atAll (pre.map PartQ.key)) x.key := by rw [List.map_append]; exact atAll_snoc _ _
    unfold atPut at hex
    have HEX := Aside0.mk hex
    clear hex h3 h4 hlr hx
    simp only [PartQ.cells]
    have hnm : pre.length < maxLen := by simp only [maxLen]; omega
    have hwi : rules_within.f x.r.f0 5 9 = some (isA x.r) := by
      unfold rules_within.f isA
      by_cases h5 : 5 ≤ x.r.f0 <;> by_cases h9 : x.r.f0 ≤ 9 <;> simp [h5, h9]
    have HWI := Aside0.mk hwi
    clear hwi
    gi_wp2_with fail
    refine ⟨trivial, ?_⟩
    refine (CallsIn.inRound l (callsIn_wide.2 (rules_within.calls _ _ _ _ W HWI.out))).mono ?_
    rintro e w' ⟨rfl, nw, rfl⟩
    obtain ⟨W2, HW2⟩ : ∃ W2, Aside0 (W2 = W.drewN nw) := ⟨_, ⟨rfl⟩⟩
    have HG2 : Aside0 (W.grownBy W2 (some (w.heap.size + 1))) := ⟨by rw [HW2.out]; exact ⟨rfl, rfl, rfl, Nat.le_refl _, fun _ _ _ => rfl⟩⟩
    have HX2 : Aside0 (W2.heap[Bx]? = some (.cells #[.int .i64 x.r.f0, .int .i64 x.r.f1, .string x.r.f2, .int .i64 x.r.f3, .int .i64 x.r.f4, .slice x.A x.r.f5.length x.c] 24 (0, 0))) := ⟨by rw [HW2.out]; exact HX.out⟩
    have H32 : Aside0 (AtW w (w.heap.size + 1) pre.length (atAll (pre.map PartQ.key)) W2) := ⟨by rw [HW2.out]; exact H3.out.grown (row := none) ⟨rfl, rfl, rfl, Nat.le_refl _, fun _ _ _ => rfl⟩ (fun k e => by cases e)⟩
    rw [← HW2.out]
    clear y0
    have y0 := (blk_cell HX2.out 0).trans rfl
    have y1 := (blk_cell HX2.out 1).trans rfl
    have y3 := (blk_cell HX2.out 3).trans rfl
    have y4 := (blk_cell HX2.out 4).trans rfl
    have hbx : W2.cell? ⟨w.heap.size + 1 + 1, 0, none⟩ = some (.map (some (w.heap.size + 1))) := (blk_cell H32.out.box 0).trans rfl
    have fin : ∀ w1 D', W.grownBy w1 (some (w.heap.size + 1)) → D' = atAll ((pre ++ [x]).map PartQ.key) → AtW w (w.heap.size + 1) (pre.length + 1) D' w1 →
        KeepsFrom Wn.heap.size W w1 ∧ KeptC w.heap.size (fun k => k = w.heap.size + 1) W w1 ∧ AtW w (w.heap.size + 1) (pre ++ [x]).length (atAll ((pre ++ [x]).map PartQ.key)) w1 ∧ Wn.heap.size ≤ w1.heap.size := fun w1 D' hg hD h => by
      have hs4 := H4.out
      refine ⟨KeepsFrom.of_grownBy hg (fun j e => by cases e; omega), ⟨hg.size, fun k hk => hg.block k (by omega) (fun e => by injection e; omega), fun k cs t m hX hc => (hg.block k (Array.getElem?_eq_some_iff.1 hc).1 (fun e => hX (by injection e))).trans hc⟩, ?_, Nat.le_trans hs4 hg.size⟩
      rw [← hD, List.length_append]
      exact h
    have FIN := Aside0.mk fin
    clear fin hlen
    rw [show (x.key.2) = x.r from rfl] at HEX
    cases ht : isA x.r with
    | true =>
      rw [ht, if_pos rfl] at HEX
      have hwf := wfaR_key x.r x.ok ht
      clear ht
      gi_wp2_with (gi_at_mapUpdate; refine wpListIn_mapUpdate_own _ rfl _ _ _ 54 rfl 60 4 keyed60 Tryd.underlying54 _ (w.heap.size + 1) pre.length _ rfl H32.out.own hnm _ _ _ rfl rfl (keyOf_mk hwf) _ [] (plainElem_bool Tryd.underlying4 true) ?_; intro w1 hown1 hgrow1)
      exact FIN.out _ _ (Flat.grown_trans HG2.out hgrow1) HEX.out.symm (H32.out.put (by omega) hgrow1 hown1)
    | false =>
      rw [ht, if_neg (by simp)] at HEX
      clear ht
      gi_wp2
      exact FIN.out _ _ HG2.out HEX.out.symm (H32.out.mono (by omega))
  case done =>
    rintro D ys W hD hys ⟨h3, h4⟩ hK
    rw [hys] at h3
    have hyl : ys.length = (preR 1 r).length := by rw [← hys, List.length_map]
    rw [hyl] at h3
    have hown := h3.own
    have HB := Aside0.mk h3.below
    have HK := Aside0.mk hK
    have hbx : W.cell? ⟨w.heap.size + 1 + 1, 0, none⟩ = some (.map (some (w.heap.size + 1))) := (blk_cell h3.box 0).trans rfl
    have hsz : Maps.size (atAll (preR 1 r)) ≤ 100000 := Nat.le_trans (size_le hown) hn
    have hbl := hown.lt
    have hseq : SeqStopsK Fence.wide (7 - 1 - 1 - 1) Tryd.prog 56 #[.pointer (some ⟨W.heap.size, 0, none⟩)] (fun x : A4 => #[.agg (encA x).toArray]) KeepsWalks (fun ss => AllA (atAll (preR 1 r)) ss ∧ ss.length ≤ Maps.size (atAll (preR 1 r))) (fun _ => True) (Maps.size (atAll (preR 1 r))) (W.alloc (.cells #[.map (some (w.heap.size + 1))] 54)) :=
      keys_stopsA (R := plainElem Tryd.prog 4) Fence.wide _ trivial rfl (by omega) W.heap.size (w.heap.size + 1) (preR 1 r).length _ _ (by simp) (by exact (blk_cell (blk_new W _) 0).trans rfl) (hown.alloc _)
    have cK : ∀ mb W, CallsIn Fence.wide 7 Tryd.prog 40 #[.map mb] W fun e w' => e = .returned (.func (.func 56) #[] #[.pointer (some ⟨W.heap.size, 0, none⟩)]) ∧ w' = W.alloc (.cells #[.map mb] 54) := fun mb W => callsIn_wide.2 (keys_calls mb W)
    have cS := sortedFunc_in 7 (by omega) 56 #[.pointer (some ⟨W.heap.size, 0, none⟩)] (enters_of Tryd.func56 (by kernel_rfl) rfl) _ _ _ (by omega) (fun ys h => by have := h.2; omega) hseq
    have hfK : Fence.wide.fn 40 := trivial
    have hfS : Fence.wide.fn 39 := trivial
    have CS := Aside0.mk cS
    have h4' := h4
    clear cS hseq h3 hown hK h4
    gi_wp2_with (first
      | (gi_at_call 40; refine (cK _ _).mono ?_; rintro e w' ⟨rfl, rfl⟩)
      | (gi_at_call 39; refine CS.out.mono ?_; rintro e w' ⟨v, ss, rfl, hS, hrow, hg⟩; have HROW := Aside0.mk hrow; obtain ⟨_, inner, hown1, _⟩ := hrow; obtain ⟨A2, c2, rfl⟩ := own_slice hown1; clear hown1))
    have HC2 := Aside0.mk (Kd.R_reads' HROW.out).2.2
    have HG1 : Aside0 (W.grownBy w' none) := ⟨Flat.grown_trans (World.grownBy_alloc W _ none) hg⟩
    have hWw := hg.size
    rw [World.size_alloc] at hWw
    have hsl : (sortA ss).length = ss.length := by simp [sortA]
    have hs5 : (sortA ss).length ≤ 100000 := by rw [hsl]; exact Nat.le_trans hS.2 hsz
    have HS := Aside0.mk hS.1
    clear hg hS hsl hbx
    generalize hns : sortA ss = ns at *
    have HNS := Aside0.mk hns
    clear hns
    gi_loopw [2, 32] (fun t2 t32 wr => ∃ (k : Nat), t32 = .int .i64 k ∧ k ≤ ns.length ∧ Aside0 (wr.ownsRow w'.heap.size 24 6 t2 k ((ns.take k).flatMap encR)) ∧ Aside0 (w'.grownBy wr none))
      (fun _ t32 _ => ns.length - (intOf t32).toNat)
    case atStart => exact ⟨0, rfl, Nat.zero_le _, ⟨⟨rfl, .inl ⟨rfl, rfl⟩⟩⟩, ⟨⟨rfl, rfl, rfl, Nat.le_refl _, fun _ _ _ => rfl⟩⟩⟩
    case round =>
      obtain ⟨k, rfl, hk, HR, HG⟩ := hrel
      by_cases hlt : k < ns.length
      · obtain ⟨ad, e, x0, x1, x2, x3⟩ := at_A HC2.out k hlt hlt
        subst e
        obtain ⟨x, HXX, hx⟩ : ∃ x, Aside0 (x = ns[k]) ∧ ns[k] = x := ⟨_, ⟨rfl⟩, rfl⟩
        rw [hx] at x0 x1 x2 x3
        clear hx
        have hbl0 := World.block_lt_of_cell? w' _ x0
        have mv : ∀ (a : Addr) (v : Value), a.block < w'.heap.size → w'.cell? a = some v → wr.cell? a = some v := fun a v ha h => (World.cell?_of_block (HG.out.block a.block ha (by simp))).trans h
        replace x0 := mv _ _ hbl0 x0
        replace x1 := mv ⟨(ad.add (k * 4)).block, (ad.add (k * 4)).off + 1, none⟩ _ hbl0 x1
        replace x2 := mv ⟨(ad.add (k * 4)).block, (ad.add (k * 4)).off + 2, none⟩ _ hbl0 x2
        replace x3 := mv ⟨(ad.add (k * 4)).block, (ad.add (k * 4)).off + 3, none⟩ _ hbl0 x3
        clear mv hbl0
        obtain ⟨A4', c4, rfl⟩ := own_slice HR.out
        obtain ⟨i0, hi, hz0, hz1, hz2⟩ := info_parts info24
        have hm1 : k + 1 ≤ maxLen := by simp only [maxLen]; omega
        have hwl := HG.out.size
        gi_wp2_with (gi_at_builtin; go_must (refine wpListIn_append_own_at _ rfl _ _ 22 rfl w'.heap.size 24 i0 _ 6 72 Tryd.underlying22 hi hz0 hz1 hz2 rfl (by decide) _ _ _ rfl ((HR.out.alloc _).alloc _) ⟨wr.heap.size + 1, 0, none⟩ 1 1 (encR x) rfl rfl ?hcl (encR_one x) hm1 (by omega) (by simp; omega) ?_); (case hcl => have h_ := cells_new (wr.alloc (.cells #[.int .i64 x.o, .int .i64 x.c, .int .i64 x.n, .int .i64 x.d] 60)) (encR x) 24; rw [World.size_alloc] at h_; exact h_); intro v' w1 hown' hgrow _ hat; clear hat; have HO1 := Aside0.mk hown'; have HG1' := Aside0.mk hgrow; clear hown' hgrow; obtain ⟨g', cap', hv'⟩ := ownsRow_succ HO1.out; subst hv')
        have hgr : w'.grownBy w1 none := by
          have h0 := HG1'.out
          have hol : ∀ j, j < w'.heap.size → some j ≠ (Value.slice A4' k c4).ownBlock := fun j hj e => by
            have := (HR.out.lt j e.symm).1
            omega
          exact ⟨h0.os.trans HG.out.os, h0.tape.trans HG.out.tape, h0.output.trans HG.out.output, by have := h0.size; simp at this; omega, fun j hj _ => (h0.block j (by simp; omega) (hol j hj)).trans ((Below.heap_alloc _ _ _ (by simp; omega)).trans ((Below.heap_alloc _ _ _ (by omega)).trans (HG.out.block j hj (by simp))))⟩
        refine ⟨⟨k + 1, by go_num, by omega, ⟨?_⟩, ⟨hgr⟩⟩, by simp [intOf]; omega⟩
        rw [List.take_succ_eq_append_getElem hlt, List.flatMap_append, ← HXX.out]
        simpa using HO1.out
      · have hkn : k = ns.length := by omega
        subst hkn
        gi_wp2
        have hHD : ∀ D' ∈ [D], wr.heap[D']? = some (.deferred (some [])) := fun D' hD' => by
          have hDl := (Array.getElem?_eq_some_iff.1 HK.out).1
          rw [List.mem_singleton.1 hD']
          exact (HG.out.block D (by omega) (by simp)).trans ((HG1.out.block D hDl (by simp)).trans HK.out)
        refine leaves_marks [D] _ (by simp) hHD (fun w2 hw => ?_)
        refine ⟨_, results_tmp rfl _ _ _, _, rfl, ⟨ss, HS.out, ?_⟩, ?_⟩
        · rw [HNS.out]
          have hr2 := HR.out
          rw [List.take_length] at hr2
          refine R_rules ?_
          obtain ⟨hl, h | ⟨g, cap, cur, hv, hb, hblk, h1, h2, h3, h4⟩⟩ := hr2
          · exact ⟨hl, .inl h⟩
          · refine ⟨hl, .inr ⟨g, cap, cur, hv, by omega, (hw.block g (fun hg => ?_)).trans hblk, h1, h2, h3, h4⟩⟩
            have := hHD g hg
            rw [hblk] at this
            cases this
        · have hb1 : Below w.heap.size w wr := (HB.out.grown HG1.out (by omega) (fun k e => by cases e)).grown HG.out (by omega) (fun k e => by cases e)
          exact ⟨hw.os.trans hb1.os, hw.tape.trans hb1.tape, hw.output.trans hb1.output, by rw [hw.size]; exact hb1.size, fun j hj => (hw.block j (fun h => by have := List.mem_singleton.1 h; omega)).trans (hb1.block j hj)⟩
def dd : List A4 → List A4
  | [] => []
  | x :: xs => if x ∈ xs then dd xs else x :: dd xs
theorem mem_dd {a : A4} : ∀ xs, a ∈ dd xs ↔ a ∈ xs
  | [] => by simp [dd]
  | x :: xs => by
    unfold dd
    split
    · rename_i h
      rw [mem_dd xs, List.mem_cons]
      exact ⟨.inr, fun h' => h'.elim (fun e => e ▸ h) id⟩
    · rw [List.mem_cons, List.mem_cons, mem_dd xs]
theorem nodup_dd : ∀ xs, (dd xs).Nodup
  | [] => List.nodup_nil
  | x :: xs => by
    unfold dd
    split
    · exact nodup_dd xs
    · rename_i h
      exact List.nodup_cons.2 ⟨fun h' => h ((mem_dd xs).1 h'), nodup_dd xs⟩
/-- The atoms among parts. -/
def atomsOf (ps : List (Int × S24)) : List A4 := (ps.filter fun p => isA p.2).map fun p => atomOf p.2
theorem sortA_perm {l l' : List A4} (h : l.Perm l') : sortA l = sortA l' := by
  have tr : ∀ a b c : A4, (!ltOf cfA b a) = true → (!ltOf cfA c b) = true → (!ltOf cfA c a) = true := fun a b c h1 h2 => by
    simp only [Bool.not_eq_true'] at *
    exact swoA.ntrans c b a h2 h1
  have tot : ∀ a b : A4, ((!ltOf cfA b a) || (!ltOf cfA a b)) = true := fun a b => by
    rw [ltOf_cfA, ltOf_cfA]
    by_cases h1 : LtA b a
    · by_cases h2 : LtA a b
      · exact absurd (h1.trans h2) (LtA.irrefl _)
      · simp [h2]
    · simp [h1]
  refine List.Perm.eq_of_pairwise (le := fun a b => (!ltOf cfA b a) = true) (fun a b _ _ h1 h2 => ?_) (List.pairwise_mergeSort tr tot l) (List.pairwise_mergeSort tr tot l') (((List.mergeSort_perm l _).trans h).trans (List.mergeSort_perm l' _).symm)
  simp only [Bool.not_eq_true'] at h1 h2
  exact cfA_sep a b h2 h1
theorem atAll_lits (ps : List (Int × S24)) : ∀ D : DataW Unit, ps.foldl atPut D = (((atomsOf ps).map kA).foldl (fun m x => m.put x (.lit (.bool true))) D) := by
  induction ps with
  | nil => intro D; rfl
  | cons p ps ih =>
    intro D
    rw [List.foldl_cons, ih]
    unfold atPut atomsOf
    by_cases h : isA p.2 = true
    · simp [h]
    · simp [h]
theorem has_atAll {ps : List (Int × S24)} (hw : ∀ a ∈ atomsOf ps, wfA a) {x : A4} (hx : wfA x) : has (atAll ps) (kA x) = true ↔ x ∈ atomsOf ps := by
  have h0 := has_fold (.lit (.bool true)) (kA x) ((atomsOf ps).map kA) (.map [] : DataW Unit) ⟨[], rfl⟩ (fun l hl => by obtain ⟨a, _, rfl⟩ := List.mem_map.1 hl; trivial)
  unfold atAll
  rw [atAll_lits, h0]
  simp only [has_eq, List.any_nil, Bool.false_or, List.any_eq_true, List.mem_map]
  constructor
  · rintro ⟨_, ⟨a, ha, rfl⟩, hs⟩
    rw [same_kA hx (hw a ha)] at hs
    rw [← of_decide_eq_true hs]
    exact ha
  · intro h
    exact ⟨_, ⟨x, h, rfl⟩, by rw [same_kA hx hx]; simp⟩
theorem sortA_all {ps : List (Int × S24)} (hw : ∀ a ∈ atomsOf ps, wfA a) {ss : List A4} (h : AllA (atAll ps) ss) : sortA ss = sortA (dd (atomsOf ps)) := by
  refine sortA_perm ((List.perm_ext_iff_of_nodup h.1 (nodup_dd _)).2 fun a => ?_)
  rw [mem_dd]
  constructor
  · intro ha
    have hwa := h.2.1 a ha
    exact (has_atAll hw hwa).1 ((h.2.2 a hwa).1 ha)
  · intro ha
    exact (h.2.2 a (hw a ha)).2 ((has_atAll hw (hw a ha)).2 ha)
mutual
theorem wfaR_parts (d : Int) : ∀ r, wfaR r → ∀ p ∈ preR d r, isA p.2 = true → wfA (atomOf p.2)
  | ⟨a, b, c, n, e, ks⟩, h, p, hp, hi => by
    simp only [preR, List.mem_cons] at hp
    simp only [wfaR] at h
    rcases hp with rfl | hp
    · exact h.1 hi
    · exact wfaL_parts _ ks h.2 p hp hi
theorem wfaL_parts (d : Int) : ∀ ks, wfaL ks → ∀ p ∈ preL d ks, isA p.2 = true → wfA (atomOf p.2)
  | [], _, p, hp, _ => by simp [preL] at hp
  | k :: ks, h, p, hp, hi => by
    simp only [preL, List.mem_append] at hp
    simp only [wfaL] at h
    rcases hp with hp | hp
    · exact wfaR_parts d k h.1 p hp hi
    · exact wfaL_parts d ks h.2 p hp hi
end
theorem wfa_atoms {r : S24} (h : wfaR r) : ∀ a ∈ atomsOf (preR 1 r), wfA a := by
  intro a ha
  obtain ⟨p, hp, rfl⟩ := List.mem_map.1 ha
  obtain ⟨h1, h2⟩ := List.mem_filter.1 hp
  exact wfaR_parts 1 r h p h1 h2
def rules_Atoms.f (a0 a1 : Int) (a2 : ByteArray) (a3 a4 : Int) (l : List S24) : Option (List S24) :=
  if wfaB ⟨a0, a1, a2, a3, a4, l⟩ = true ∧ (preR 1 ⟨a0, a1, a2, a3, a4, l⟩).length ≤ 100000 then some ((sortA (dd (atomsOf (preR 1 ⟨a0, a1, a2, a3, a4, l⟩)))).map ruleOf) else none
theorem rules_Atoms.calls (a0_0 : Int) (a0_1 : Int) (a0_2 : ByteArray) (a0_3 : Int) (a0_4 : Int) (A0_5 : Option Addr) (c0_5 : Nat) (l0_5 : List (S24)) (r : List S24) (w : World) (hr0_5 : Kd.C k24 w A0_5 l0_5.length l0_5) (hc0_5 : l0_5.length ≤ c0_5) (h : rules_Atoms.f a0_0 a0_1 a0_2 a0_3 a0_4 l0_5 = some r) :
    Calls Tryd.prog 15 #[.agg #[.int .i64 a0_0, .int .i64 a0_1, .string a0_2, .int .i64 a0_3, .int .i64 a0_4, .slice A0_5 l0_5.length c0_5]] w fun e w' => ∃ v0_ : Value, e = .returned v0_ ∧ Kd.R k24 24 w' w.heap.size (fun _ => True) v0_ r ∧ Below w.heap.size w w' := by
  unfold rules_Atoms.f at h
  split at h
  · rename_i hh
    obtain rfl := Option.some.inj h
    have hw := (wfaB_iff _).1 hh.1
    refine ((callsIn_wide (n := 8)).1 (atoms_in ⟨a0_0, a0_1, a0_2, a0_3, a0_4, l0_5⟩ A0_5 c0_5 w hr0_5 hc0_5 hw hh.2)).mono ?_
    rintro e w' ⟨v, rfl, ⟨ys, hA, hR⟩, hb⟩
    rw [sortA_all (wfa_atoms hw) hA] at hR
    exact ⟨v, rfl, hR, hb⟩
  · cases h
end Go.Proofs.YtabocfninjankaaDoor.P
namespace Go.Proofs.YtabocfninjankaaDoor.P
open Go.RowKit Go.Maps Go.Proofs.YtabocfninjankaaDoorW.PrintWords Go.Proofs.YtabocfninjankaaDoorW.PrintLast Go.Proofs.YtabocfninjankaaDoorW.PrintMore
set_option linter.unusedVariables false
set_option linter.unusedSimpArgs false
theorem insert_perm {H : Type} (x : Lit × DataW H) : ∀ l : List (Lit × DataW H), (DataW.insert x l).Perm (x :: l)
  | [] => List.Perm.refl _
  | y :: r => by
    unfold DataW.insert
    split
    · exact List.Perm.refl _
    · exact ((insert_perm x r).cons y).trans (List.Perm.swap x y r)
/-- The set holds just the numbers S, each once. -/
def SetI (D : DataW Unit) (S : Int → Prop) : Prop := ∃ es, D = .map es ∧ (∀ p ∈ es, ∃ x, p.1 = .int .i64 x) ∧ (intKeys D).Nodup ∧ ∀ a, a ∈ intKeys D ↔ S a
theorem SetI.empty : SetI (.map []) fun _ => False := ⟨[], rfl, fun p h => by simp at h, by simp [intKeys], fun a => by simp [intKeys]⟩
theorem SetI.put {D : DataW Unit} {S : Int → Prop} (h : SetI D S) (a : Int) (v : DataW Unit) : SetI (D.put (.int .i64 a) v) fun z => z = a ∨ S z := by
  obtain ⟨es, rfl, h1, h2, h3⟩ := h
  have hp := insert_perm (Lit.int .i64 a, v) (es.filter fun p => !p.1.sameKey (.int .i64 a))
  have hk : (intKeys (DataW.put (.map es) (.int .i64 a) v)).Perm (a :: (es.filter fun p => !p.1.sameKey (.int .i64 a)).map fun p => Go.intOf p.1) := hp.map _
  have hmem : ∀ z, z ∈ (es.filter fun p => !p.1.sameKey (.int .i64 a)).map (fun p => Go.intOf p.1) ↔ z ∈ intKeys (.map es) ∧ z ≠ a := by
    intro z
    simp only [intKeys, List.mem_map, List.mem_filter]
    constructor
    · rintro ⟨p, ⟨hp, hs⟩, rfl⟩
      refine ⟨⟨p, hp, rfl⟩, fun e => ?_⟩
      obtain ⟨x, hx⟩ := h1 p hp
      rw [hx] at hs e
      have e' : x = a := e
      subst e'
      simp [Lit.sameKey] at hs
    · rintro ⟨⟨p, hp, rfl⟩, hne⟩
      refine ⟨p, ⟨hp, ?_⟩, rfl⟩
      obtain ⟨x, hx⟩ := h1 p hp
      rw [hx] at hne ⊢
      have hne' : x ≠ a := hne
      simp [Lit.sameKey, hne']
  refine ⟨_, rfl, fun p hp' => ?_, hk.nodup_iff.2 (List.nodup_cons.2 ⟨fun h => ((hmem a).1 h).2 rfl, ?_⟩), fun z => ?_⟩
  · rcases List.mem_cons.1 (hp.mem_iff.1 hp') with rfl | hp'
    · exact ⟨a, rfl⟩
    · exact h1 p (List.mem_filter.1 hp').1
  · exact h2.sublist (List.filter_sublist.map _)
  · rw [hk.mem_iff, List.mem_cons, hmem z, h3 z]
    constructor
    · rintro (h | h)
      · exact .inl h
      · exact .inr h.1
    · rintro (h | h)
      · exact .inl h
      · by_cases e : z = a
        · exact .inl e
        · exact .inr ⟨h, e⟩
theorem SetI.congr {D : DataW Unit} {S S' : Int → Prop} (h : SetI D S) (hS : ∀ a, S a ↔ S' a) : SetI D S' := by
  obtain ⟨es, h0, h1, h2, h3⟩ := h
  exact ⟨es, h0, h1, h2, fun a => (h3 a).trans (hS a)⟩
/-- What a situation says of the courses in l. -/
def only (l : List Int) (s : List S49) : List S49 := s.filter fun x => decide (x.f0 ∈ l)
end Go.Proofs.YtabocfninjankaaDoor.P
namespace Go.Proofs.YtabocfninjankaaDoor.P
open Go.RowKit Go.Shelf Go.Proofs.YtabocfninjankaaDoorW.PrintWords Go.Proofs.YtabocfninjankaaDoorW.PrintLast Go.Proofs.YtabocfninjankaaDoorW.PrintMore
attribute [local go_sem] Oper.semAt_some max2_int min2_int max_two min_two
set_option linter.unusedVariables false
set_option linter.unusedSimpArgs false
def depthF (xs : List (Int × S24)) : Int := xs.foldl (fun n p => mx n p.1) 0
theorem depthF_snoc (xs : List (Int × S24)) (p : Int × S24) : depthF (xs ++ [p]) = mx (depthF xs) p.1 := by simp [depthF]
def rules_Depth.f (a0 a1 : Int) (a2 : ByteArray) (a3 a4 : Int) (l : List S24) : Option Int := some (depthF (preR 1 ⟨a0, a1, a2, a3, a4, l⟩))
set_option maxHeartbeats 4000000 in
set_option maxRecDepth 100000 in
theorem depth_in (r : S24) (A : Option Addr) (c : Nat) (w : World) (hC : Kd.C k24 w A r.f5.length r.f5) (hc : r.f5.length ≤ c) :
    CallsIn Fence.wide 6 Tryd.prog 26 #[.agg #[.int .i64 r.f0, .int .i64 r.f1, .string r.f2, .int .i64 r.f3, .int .i64 r.f4, .slice A r.f5.length c]] w
      fun e w' => e = .returned (.int .i64 (depthF (preR 1 r))) ∧ Below w.heap.size w w' := by
  generalize hv : depthF (preR 1 r) = v
  have HV := Aside0.mk hv
  clear hv
  have hu24 := Tryd.underlying24
  have HC := Aside0.mk hC
  clear hC
  refine callsIn_of_wp_marks Tryd.func26 rfl trivial ?_ rfl
  simp only [Tryd.ntmps26, List.size_toArray, List.length_cons, List.length_nil, Nat.reduceAdd, Nat.reduceSub, Array.replicate_succ, Array.replicate_zero, List.push_toArray, List.append_toArray, List.nil_append, List.cons_append]
  have cP : ∀ W, CallsIn Fence.wide 5 Tryd.prog 34 #[.agg #[.int .i64 r.f0, .int .i64 r.f1, .string r.f2, .int .i64 r.f3, .int .i64 r.f4, .slice A r.f5.length c]] W fun e w' =>
      e = .returned (.func (.func 52) #[] #[.pointer (some ⟨W.heap.size + 1, 0, none⟩), .pointer (some ⟨W.heap.size, 0, none⟩)]) ∧
      w' = (W.alloc (.cells #[.int .i64 r.f0, .int .i64 r.f1, .string r.f2, .int .i64 r.f3, .int .i64 r.f4, .slice A r.f5.length c] 24)).alloc (.cells #[.func (.func 51) #[] #[.pointer (some ⟨W.heap.size + 1, 0, none⟩)]] 82) := fun W => callsIn_wide.2 (parts_calls r A c W)
  have CP := Aside0.mk cP
  clear cP
  have hfP : Fence.wide.fn 34 := trivial
  gi_wp2_with (gi_at_call 34; refine (CP.out _).mono ?_; rintro e w' ⟨rfl, rfl⟩)
  generalize hWn : World.alloc (World.alloc _ _) (Obj.cells #[.func (.func 51) #[] #[.pointer (some ⟨_, 0, none⟩)]] 82) = Wn
  have hz : Wn.heap.size = w.heap.size + 4 := by rw [← hWn]; simp
  have hBW : Below w.heap.size w Wn := by rw [← hWn]; exact (((((Below.refl _ w).alloc (Nat.le_refl _) _).alloc (by simp) _).alloc (by simp; omega) _).alloc (by simp; omega) _)
  have bn : Wn.heap[w.heap.size + 1]? = some (.cells #[.int .i64 0] 3 (0, 0)) := by
    rw [← hWn]
    refine (Below.heap_alloc _ _ _ (by simp)).trans ((Below.heap_alloc _ _ _ (by simp)).trans (new_blk _ _ (by simp)))
  have bR : Wn.heap[w.heap.size + 1 + 1]? = some (.cells #[.int .i64 r.f0, .int .i64 r.f1, .string r.f2, .int .i64 r.f3, .int .i64 r.f4, .slice A r.f5.length c] 24 (0, 0)) := by
    rw [← hWn]
    refine (Below.heap_alloc _ _ _ (by simp)).trans (new_blk _ _ (by simp))
  have bK : Wn.heap[w.heap.size + 1 + 1 + 1]? = some (.cells #[.func (.func 51) #[] #[.pointer (some ⟨w.heap.size + 1 + 1 + 1, 0, none⟩)]] 82 (0, 0)) := by
    rw [← hWn]
    exact new_blk _ _ (by simp)
  clear hWn
  refine wpIn_rangeFunc_ownH (α := PartW w) (F := Fence.wide) (n := 6) rfl (by omega) (gf := 52) (lb := #[.pointer (some ⟨w.heap.size + 1 + 1 + 1, 0, none⟩), .pointer (some ⟨w.heap.size + 1 + 1, 0, none⟩)]) rfl trivial (enters_of Tryd.func52 (by kernel_rfl) rfl)
    (parts_stops w (fun k => k = w.heap.size + 1) Fence.wide rfl trivial trivial rfl 5 _ _ r A c Wn hc HC.out hBW (fun k hk => by omega) (by omega) bK bR)
    (fun h k => KeptC.trans h k) (fun W l o o' hl hlo ho _ => KeptC.putObj o' (by omega) hlo ho) (Below.refl _ _) (fun _ => rfl)
    (fun pre W => W.heap[w.heap.size + 1]? = some (.cells #[.int .i64 (depthF (pre.map PartQ.key))] 3 (0, 0)) ∧ Below w.heap.size w W ∧ Wn.heap.size ≤ W.heap.size)
    (fun _ _ _ => False)
    ?hI (fun _ _ _ _ _ hs _ _ => hs) ⟨bn, hBW, Nat.le_refl _⟩
    (fun x a' W => a' = { tmps := #[.agg #[.int .i64 r.f0, .int .i64 r.f1, .string r.f2, .int .i64 r.f3, .int .i64 r.f4, .slice A r.f5.length c], .pointer (some ⟨w.heap.size, 0, none⟩), .pointer (some ⟨w.heap.size + 1, 0, none⟩), .int .i64 x.d, .agg #[.int .i64 r.f0, .int .i64 r.f1, .string r.f2, .int .i64 r.f3, .int .i64 r.f4, .slice A r.f5.length c], .func (.func 52) #[] #[.pointer (some ⟨w.heap.size + 1 + 1 + 1, 0, none⟩), .pointer (some ⟨w.heap.size + 1 + 1, 0, none⟩)], .int .i64 x.d, x.cells, undef, undef, undef, undef], defers := [] })
    (fun x a' _ _ _ _ h _ _ => h) ?assign ?body ?done ?stop
  case hI =>
    rintro pre X Y row ⟨h2, h3, h4⟩ hg hr
    exact ⟨(hg.block _ (by omega) (fun e => by have := (hr _ e.symm).1; omega)).trans h2, h3.grown hg h3.size (fun k e => by have := (hr k e).1; omega), Nat.le_trans h4 hg.size⟩
  case assign =>
    rintro l pre x W K ⟨h2, h3, h4⟩ hK
    simp only [PartQ.cells]
    gi_wp2
    exact hK _ _ (KeepsFrom.refl _ _) (KeptC.refl _ _ _) ⟨h2, h3, h4⟩ rfl
  case stop =>
    rintro D c pre W hD _ h hK
    exact h.elim
  case done =>
    rintro D ys W hD hys ⟨h2, h3, h4⟩ hK
    rw [hys, HV.out] at h2
    have hz0 := (blk_cell h2 0).trans rfl
    have hf0 := blk_frozen h2 0
    have HZ : Aside0 (((W.setCell ⟨w.heap.size + 1, 0, none⟩ (.int .i64 v)).putObj D (.deferred none)).cell? ⟨w.heap.size + 1, 0, none⟩ = some (.int .i64 v)) := ⟨by
      refine (blk_cell (cs := #[.int .i64 v]) (t := 3) ((World.putObj_heap_other (by omega)).trans ?_) 0).trans rfl
      refine blk_put (cs := #[.int .i64 v]) ?_ 0 _ rfl
      exact h2⟩
    have HD : Aside0 ((W.setCell ⟨w.heap.size + 1, 0, none⟩ (.int .i64 v)).heap[D]? = some (.deferred (some []))) := ⟨(Below.heap_setCell _ _ _ _ (by show D ≠ w.heap.size + 1; omega)).trans hK⟩
    have hB3 := h3.setCell (p := ⟨w.heap.size + 1, 0, none⟩) (by show _ ≤ w.heap.size + 1; omega) (.int .i64 v)
    have HB := Aside0.mk (hB3.grown (grownBy_putObj' _ D (.deferred none)) hB3.size (fun k e => by cases e; omega))
    clear h2 h3 h4 hK hB3
    gi_wp2
    refine ⟨by simp, .inl ⟨_, _, rfl, run_takeDeferred HD.out, ?_⟩⟩
    have hz2 := HZ.out
    exact ⟨.int .i64 v, by simp [results, Tryd.results26, go_sem, hz2], rfl, HB.out⟩
  case body =>
    rintro l pre x a' W hl ⟨rr, hlr⟩ ⟨h2, h3, h4⟩ rfl hlen
    have z1 := (blk_cell h2 0).trans rfl
    have f1 := blk_frozen h2 0
    have H2 := Aside0.mk h2
    have H3 := Aside0.mk h3
    have HS : Aside0 (depthF ((pre ++ [x]).map PartQ.key) = mx (depthF (pre.map PartQ.key)) x.d) := ⟨by rw [List.map_append]; exact depthF_snoc _ _⟩
    generalize depthF (pre.map PartQ.key) = q at z1 H2 HS
    clear h2 h3 hlr
    simp only [PartQ.cells]
    by_cases hq : q < x.d
    all_goals
      gi_wp2
      refine ⟨(KeepsOthers.setCell _ _ _).from _, KeptC.setCell _ _ (by show _ ≤ w.heap.size + 1; omega) rfl, ?_, H3.out.setCell (p := ⟨w.heap.size + 1, 0, none⟩) (by show _ ≤ w.heap.size + 1; omega) _, by simp; omega⟩
      rw [HS.out]
      refine blk_put (cs := #[.int .i64 q]) ?_ 0 _ (by unfold mx; first | (rw [if_pos (by omega)]; rfl) | (rw [if_neg (by omega)]; rfl))
      exact H2.out
theorem rules_Depth.calls (a0_0 : Int) (a0_1 : Int) (a0_2 : ByteArray) (a0_3 : Int) (a0_4 : Int) (A0_5 : Option Addr) (c0_5 : Nat) (l0_5 : List (S24)) (r : Int) (w : World) (hr0_5 : Kd.C k24 w A0_5 l0_5.length l0_5) (hc0_5 : l0_5.length ≤ c0_5) (h : rules_Depth.f a0_0 a0_1 a0_2 a0_3 a0_4 l0_5 = some r) :
    Calls Tryd.prog 26 #[.agg #[.int .i64 a0_0, .int .i64 a0_1, .string a0_2, .int .i64 a0_3, .int .i64 a0_4, .slice A0_5 l0_5.length c0_5]] w fun e w' => e = .returned (.int .i64 r) ∧ Below w.heap.size w w' := by
  have hr : r = depthF (preR 1 ⟨a0_0, a0_1, a0_2, a0_3, a0_4, l0_5⟩) := (Option.some.inj h).symm
  subst hr
  exact (callsIn_wide (n := 6)).1 (depth_in ⟨a0_0, a0_1, a0_2, a0_3, a0_4, l0_5⟩ A0_5 c0_5 w hr0_5 hc0_5)
end Go.Proofs.YtabocfninjankaaDoor.P
namespace Go.Proofs.YtabocfninjankaaDoor.P
open Go.RowKit Go.Proofs.YtabocfninjankaaDoorW.PrintWords Go.Proofs.YtabocfninjankaaDoorW.PrintLast Go.Proofs.YtabocfninjankaaDoorW.PrintMore
attribute [local go_sem] max2_int min2_int max_two min_two max_three min_three max_four min_four   -- for this text's walks alone
set_option linter.unusedVariables false
set_option linter.unusedSimpArgs false
def sizarref12_SameInts.l0 : Nat → List Int → List Int → Int → Option (Bool)
 | 0, _, _, _ => none
 | k + 1, x0, x1, x5 => if x5 < (x0.length : Int) then (if 0 ≤ x5 then (if x5 < (x1.length : Int) then (if (rd x0 x5) = (rd x1 x5) then (sizarref12_SameInts.l0 k x0 x1 (wrap64 (x5 + 1))) else (some false)) else (none)) else (none)) else (some true)
def sizarref12_SameInts.f (k : Nat) (l0 : List Int) (l1 : List Int) : Option (Bool) := if (l0.length : Int) = (l1.length : Int) then (sizarref12_SameInts.l0 k l0 l1 0) else (some false)
set_option maxHeartbeats 8000000 in
set_option maxRecDepth 100000 in
theorem sizarref12_SameInts.calls (k : Nat) (A0 : Option Addr) (c0 : Nat) (l0 : List Int) (A1 : Option Addr) (c1 : Nat) (l1 : List Int) (r : Bool) (w : World) (hr0 : Kd.C (Kd.int .i64) w A0 l0.length l0) (hc0 : l0.length ≤ c0) (hr1 : Kd.C (Kd.int .i64) w A1 l1.length l1) (hc1 : l1.length ≤ c1) (h : sizarref12_SameInts.f k l0 l1 = some r) :
  Calls Tryd.prog 17 #[.slice A0 l0.length c0, .slice A1 l1.length c1] w fun e w' => e = .returned (.bool r) ∧ Drawn0 w w' := by
 have HR0 := Aside0.mk hr0
 have HC0 := Aside0.mk hc0
 clear hr0 hc0
 have HR1 := Aside0.mk hr1
 have HC1 := Aside0.mk hc1
 clear hr1 hc1
 have H : (if (l0.length : Int) = (l1.length : Int) then (sizarref12_SameInts.l0 k l0 l1 0) else (some false)) = some r := h
 clear h
 by_cases c3 : (l0.length : Int) = (l1.length : Int)
 ·rw [if_pos c3] at H
  have c3b0 : ((l0.length : Int) == (l1.length : Int)) = true := beq_iff_eq.mpr c3
  have c3b1 : ((l0.length : Int) != (l1.length : Int)) = false := bne_eq_false_iff_eq.mpr c3
  have c3b2 : (l0.length == l1.length) = true := by first | simpa using c3 | (simp at c3 ⊢; omega)
  clear c3
  have H' := Aside0.mk H
  clear H
  go_enter Tryd.func17, Tryd.ntmps17
  go_wp2
  repeat (go_quiet (fail); try go_wp2)
  go_loopg [5] k (fun kq v5 w' => ∃ (x5_1 : Int), v5 = .int .i64 x5_1 ∧ Aside0 (sizarref12_SameInts.l0 kq l0 l1 x5_1 = some r) ∧ Aside0 (kq ≤ k) ∧ Drawn0 w w')
  case atStart => exact ⟨(0), (by first | rfl | (simp; done) | (simp [*]; done)), H', ⟨Nat.le_refl _⟩, by repeat (first | exact Drawn0.refl _ | apply Drawn0.step)⟩
  case round =>
   clear H'
   try clear c1
   try clear p2
   try clear c3
   try clear c3b0
   try clear c3b1
   try clear c3b2
   obtain ⟨x5_1, rfl, HA, HK1, ⟨m1, rfl⟩⟩ := hrel
   cases gk with
   | zero => exact absurd HA.out (by simp [sizarref12_SameInts.l0])
   | succ k1 =>
    have H := HA.out
    clear HA
    simp only [sizarref12_SameInts.l0] at H
    by_cases c4 : x5_1 < (l0.length : Int)
    ·rw [if_pos c4] at H
     have c4b0 : decide (x5_1 < (l0.length : Int)) = true := decide_eq_true c4
     clear c4
     by_cases c5 : 0 ≤ x5_1
     ·rw [if_pos c5] at H
      have c5b0 : decide (0 ≤ x5_1) = true := decide_eq_true c5
      clear c5
      by_cases c6 : x5_1 < (l1.length : Int)
      ·rw [if_pos c6] at H
       have c6b0 : decide (x5_1 < (l1.length : Int)) = true := decide_eq_true c6
       clear c6
       by_cases c7 : (rd l0 x5_1) = (rd l1 x5_1)
       ·rw [if_pos c7] at H
        have c7b0 : ((rd l0 x5_1) == (rd l1 x5_1)) = true := beq_iff_eq.mpr c7
        have c7b1 : ((rd l0 x5_1) != (rd l1 x5_1)) = false := bne_eq_false_iff_eq.mpr c7
        clear c7
        have H' := Aside0.mk H
        clear H
        have p193 : 0 ≤ (x5_1 : Int) := of_decide_eq_true (by first | (with_reducible assumption) | assumption)
        have q193 : x5_1 < (l0.length : Int) := of_decide_eq_true (by first | (with_reducible assumption) | assumption)
        obtain ⟨ad193, e193, hx193_0⟩ := Kd.at_int HR0.out x5_1 p193 q193
        cases e193
        replace p193 := eq_true p193
        replace q193 := eq_true q193
        have p194 : 0 ≤ (x5_1 : Int) := of_decide_eq_true (by first | (with_reducible assumption) | assumption)
        have q194 : x5_1 < (l1.length : Int) := of_decide_eq_true (by first | (with_reducible assumption) | assumption)
        obtain ⟨ad194, e194, hx194_0⟩ := Kd.at_int HR1.out x5_1 p194 q194
        cases e194
        replace p194 := eq_true p194
        replace q194 := eq_true q194
        go_wp2
        repeat (go_quiet (fail); try go_wp2)
        go_roundg k1
        case measure => have := HK1.out; omega
        case rel => exact ⟨(wrap64 (x5_1 + 1)), (by first | rfl | (simp; done) | (simp [*]; done)), H', ⟨by have := HK1.out; omega⟩, by repeat (first | exact Drawn0.refl _ | apply Drawn0.step)⟩
       ·rw [if_neg c7] at H
        have c7b0 : ((rd l0 x5_1) == (rd l1 x5_1)) = false := beq_eq_false_iff_ne.mpr c7
        have c7b1 : ((rd l0 x5_1) != (rd l1 x5_1)) = true := bne_iff_ne.mpr c7
        obtain rfl := Option.some.inj H
        have p193 : 0 ≤ (x5_1 : Int) := of_decide_eq_true (by first | (with_reducible assumption) | assumption)
        have q193 : x5_1 < (l0.length : Int) := of_decide_eq_true (by first | (with_reducible assumption) | assumption)
        obtain ⟨ad193, e193, hx193_0⟩ := Kd.at_int HR0.out x5_1 p193 q193
        cases e193
        replace p193 := eq_true p193
        replace q193 := eq_true q193
        have p194 : 0 ≤ (x5_1 : Int) := of_decide_eq_true (by first | (with_reducible assumption) | assumption)
        have q194 : x5_1 < (l1.length : Int) := of_decide_eq_true (by first | (with_reducible assumption) | assumption)
        obtain ⟨ad194, e194, hx194_0⟩ := Kd.at_int HR1.out x5_1 p194 q194
        cases e194
        replace p194 := eq_true p194
        replace q194 := eq_true q194
        go_wp2
        repeat (go_quiet (fail); try go_wp2)
        go_ret
        exact ⟨by first | rfl | (simp; done) | (simp [*]; done), by repeat (first | exact Drawn0.refl _ | apply Drawn0.step)⟩
      ·rw [if_neg c6] at H
       exact absurd H (by simp)
     ·rw [if_neg c5] at H
      exact absurd H (by simp)
    ·rw [if_neg c4] at H
     have c4b0 : decide (x5_1 < (l0.length : Int)) = false := decide_eq_false c4
     clear c4
     obtain rfl := Option.some.inj H
     go_wp2
     repeat (go_quiet (fail); try go_wp2)
     go_ret
     exact ⟨by first | rfl | (simp; done) | (simp [*]; done), by repeat (first | exact Drawn0.refl _ | apply Drawn0.step)⟩
 ·rw [if_neg c3] at H
  have c3b0 : ((l0.length : Int) == (l1.length : Int)) = false := beq_eq_false_iff_ne.mpr c3
  have c3b1 : ((l0.length : Int) != (l1.length : Int)) = true := bne_iff_ne.mpr c3
  have c3b2 : (l0.length == l1.length) = false := by first | simpa using c3 | (simp at c3 ⊢; omega)
  obtain rfl := Option.some.inj H
  go_enter Tryd.func17, Tryd.ntmps17
  go_wp2
  repeat (go_quiet (fail); try go_wp2)
  go_ret
  exact ⟨by first | rfl | (simp; done) | (simp [*]; done), by repeat (first | exact Drawn0.refl _ | apply Drawn0.step)⟩
end Go.Proofs.YtabocfninjankaaDoor.P
namespace Go.Proofs.YtabocfninjankaaDoor.P
open Go.RowKit Go.Maps Go.Proofs.YtabocfninjankaaDoorW.PrintWords Go.Proofs.YtabocfninjankaaDoorW.PrintLast Go.Proofs.YtabocfninjankaaDoorW.PrintMore
set_option linter.unusedVariables false
set_option linter.unusedSimpArgs false
attribute [local go_sem ↓] Go.wp_at_zero Go.wp_at_succ
abbrev noS : ByteArray := ⟨#[]⟩
theorem plain_c (w : World) : Calls Tryd.prog 25 #[] w fun e w' => e = .returned (.agg #[.slice none 0 0, .int .i64 0, .int .i64 0, .int .i64 1]) ∧ Below w.heap.size w w' := by
 go_enter Tryd.func25, Tryd.ntmps25
 go_wp2
 exact bodyPost_ret (v := .agg #[.slice none 0 0, .int .i64 0, .int .i64 0, .int .i64 1]) (by simp [results, Tryd.results25, go_sem]) rfl ⟨rfl, (Below.refl _ _).alloc (Nat.le_refl _) _⟩
def sR1 : S24 := ⟨1, 0, noS, 0, 0, []⟩
def sR2 : S24 := ⟨2, 0, noS, 0, 0, []⟩
def sR3 : S24 := ⟨5, 3, noS, 0, 0, []⟩
def sR4 : S24 := ⟨3, 0, noS, 2, 0, [sR1, sR1, sR1]⟩
def sX : S24 := ⟨5, 3, ⟨#[88]⟩, 5, 0, []⟩
def sK : List S24 := [sX, sR3, ⟨4, 0, noS, 0, 0, [sX]⟩]
def sR5 : S24 := ⟨1, 0, noS, 0, 0, sK⟩
theorem e1 : ∃ k, rules_Holds.f k 1 0 noS 0 0 [] [] 0 0 1 = some (true, 0) := by
 obtain ⟨K, h⟩ := holds_ev sR1 [] (by simp) 0 0 1
 exact ⟨K, (h K (Nat.le_refl _)).trans (congrArg some (by decide +kernel))⟩
theorem e2 : ∃ k, rules_Holds.f k 2 0 noS 0 0 [] [] 0 0 1 = some (false, 0) := by
 obtain ⟨K, h⟩ := holds_ev sR2 [] (by simp) 0 0 1
 exact ⟨K, (h K (Nat.le_refl _)).trans (congrArg some (by decide +kernel))⟩
theorem e3 : ∃ k, rules_Holds.f k 5 3 noS 0 0 [] [] 0 0 1 = some (false, 0) := by
 obtain ⟨K, h⟩ := holds_ev sR3 [] (by simp) 0 0 1
 exact ⟨K, (h K (Nat.le_refl _)).trans (congrArg some (by decide +kernel))⟩
theorem e4 : ∃ k, rules_Holds.f k 3 0 noS 2 0 [sR1, sR1, sR1] [] 0 0 1 = some (true, 0) := by
 obtain ⟨K, h⟩ := holds_ev sR4 [] (by simp) 0 0 1
 exact ⟨K, (h K (Nat.le_refl _)).trans (congrArg some (by decide +kernel))⟩
theorem e5 : ∃ k, rules_Fits.f k [] 0 0 0 = some 120 := by
 obtain ⟨K, h⟩ := fits_ev [] (by simp) 0 0 0
 exact ⟨K, (h K (Nat.le_refl _)).trans (congrArg some (by decide +kernel))⟩
theorem e6 : ∃ k, rules_Fits.f k [] 0 0 1 = some 0 := by
 obtain ⟨K, h⟩ := fits_ev [] (by simp) 0 0 1
 exact ⟨K, (h K (Nat.le_refl _)).trans (congrArg some (by decide +kernel))⟩
theorem c1 : rules_Check.f 0 0 noS 0 0 [] = some 120 := congrArg some (by decide +kernel)
theorem c2 : rules_Check.f 4 0 noS 0 0 [] = some 120 := congrArg some (by decide +kernel)
theorem c3 : rules_Check.f 1 0 noS 0 0 sK = some 0 := congrArg some (by decide +kernel)
theorem d1 : rules_Depth.f 1 0 noS 0 0 [] = some 1 := congrArg some (by decide +kernel)
theorem d2 : rules_Depth.f 1 0 noS 0 0 sK = some 3 := congrArg some (by decide +kernel)
theorem a1 : ∃ l, rules_Atoms.f 1 0 noS 0 0 sK = some l ∧ l.length = 2 := by
 refine ⟨(sortA (dd (atomsOf (preR 1 sR5)))).map ruleOf, ?_, ?_⟩
 ·unfold rules_Atoms.f
  rw [if_pos (by decide +kernel)]
  rfl
 ·rw [List.length_map, show (sortA (dd (atomsOf (preR 1 sR5)))).length = (dd (atomsOf (preR 1 sR5))).length from (List.mergeSort_perm _ _).length_eq]
  decide +kernel
theorem b1 : rules_Courses.f 1 0 noS 0 0 sK = some [3] := by
 unfold rules_Courses.f
 rw [if_pos (by decide +kernel)]
 have : intKeys (corAll (preR 1 sR5)) = [3] := by decide +kernel
 exact congrArg some (by show (intKeys (corAll (preR 1 sR5))).mergeSort leI = [3]; rw [this]; simp)
theorem s1 : sizarref12_SameInts.f 7 [3] [3] = some true := by
 have hw : wrap64 1 = 1 := by unfold wrap64; omega
 simp [sizarref12_SameInts.f, sizarref12_SameInts.l0, rd, hw]
theorem C_of_reps {W : World} {b t : Nat} {xs : List S24} {cs : List Value} (hb : W.heap[b]? = some (.cells cs.toArray t (0, 0))) (h : Reps (k24.K W) 6 xs cs) (hm : xs.length ≤ 9223372036854775807) : Kd.C k24 W (some ⟨b, 0, none⟩) xs.length xs := by
 refine ⟨rfl, hm, fun _ => ⟨_, rfl, fun j p hj => ⟨(cs.drop (j * 6)).take 6, ?_, h.2 j p hj, fun i u hu => ?_⟩⟩⟩
 ·have := (List.getElem?_eq_some_iff.1 hj).1
  have := h.1
  rw [List.length_take, List.length_drop]
  show min 6 _ = 6
  omega
 ·rw [show k24.sz = 6 from rfl, add_plain]
  rw [List.getElem?_take] at hu
  split at hu
  ·rw [List.getElem?_drop] at hu
   exact (blk_cell hb (j * 6 + i)).trans (by simpa using hu)
  ·cases hu
def cA (a b : Int) (s : ByteArray) (n d : Int) (v : Value) : List Value := [.int .i64 a, .int .i64 b, .string s, .int .i64 n, .int .i64 d, v]
def nilV : Value := .slice none 0 0
structure SaneW (w W : World) : Prop where
 kinds : KindsAt W
 below : Below w.heap.size w W
 b1 : W.heap[w.heap.size]? = some (.cells (cA 1 0 noS 0 0 nilV).toArray 24 (0, 0))
 b2 : W.heap[w.heap.size + 1]? = some (.cells (cA 2 0 noS 0 0 nilV).toArray 24 (0, 0))
 b3 : W.heap[w.heap.size + 1 + 1]? = some (.cells (cA 5 3 noS 0 0 nilV).toArray 24 (0, 0))
theorem SaneW.step {w W W' : World} (h : SaneW w W) (hb : Below W.heap.size W W') : SaneW w W' := by
 have l1 := (Array.getElem?_eq_some_iff.1 h.b1).1
 have l2 := (Array.getElem?_eq_some_iff.1 h.b2).1
 have l3 := (Array.getElem?_eq_some_iff.1 h.b3).1
 exact ⟨h.kinds.below hb, below_step h.below hb, (hb.block _ l1).trans h.b1, (hb.block _ l2).trans h.b2, (hb.block _ l3).trans h.b3⟩
theorem SaneW.alloc {w W : World} (h : SaneW w W) (o : Obj) : SaneW w (W.alloc o) := h.step ((Below.refl _ _).alloc (Nat.le_refl _) _)
theorem SaneW.drew {w W : World} (h : SaneW w W) : SaneW w W.drew := h.step (below_drew (Below.refl _ _))
theorem plain_s {w W : World} (h : SaneW w W) : Calls Tryd.prog 25 #[] W fun e w' => e = .returned (.agg #[.slice none 0 0, .int .i64 0, .int .i64 0, .int .i64 1]) ∧ SaneW w w' :=
 (plain_c W).mono fun _ _ ⟨e, hb⟩ => ⟨e, h.step hb⟩
theorem holds_s {w W : World} (h : SaneW w W) : Calls Tryd.prog 12 #[.agg #[.int .i64 1, .int .i64 0, .string noS, .int .i64 0, .int .i64 0, .slice none 0 0], .agg #[.slice none 0 0, .int .i64 0, .int .i64 0, .int .i64 1]] W fun e w' => e = .returned (.tuple #[.bool true, .int .i64 0]) ∧ SaneW w w' := by
 obtain ⟨k, hk⟩ := e1
 refine (rules_Holds.calls k 1 0 noS 0 0 none 0 [] none 0 [] 0 0 1 true 0 W (Kd.C_nil _ _) (Nat.le_refl _) (Kd.C_nil _ _) (Nat.le_refl _) hk h.kinds).mono ?_
 rintro e w' ⟨rfl, hb⟩
 exact ⟨rfl, h.step hb⟩
theorem holds_2 {w W : World} (h : SaneW w W) : Calls Tryd.prog 12 #[.agg #[.int .i64 2, .int .i64 0, .string noS, .int .i64 0, .int .i64 0, .slice none 0 0], .agg #[.slice none 0 0, .int .i64 0, .int .i64 0, .int .i64 1]] W fun e w' => e = .returned (.tuple #[.bool false, .int .i64 0]) ∧ SaneW w w' := by
 obtain ⟨k, hk⟩ := e2
 refine (rules_Holds.calls k 2 0 noS 0 0 none 0 [] none 0 [] 0 0 1 false 0 W (Kd.C_nil _ _) (Nat.le_refl _) (Kd.C_nil _ _) (Nat.le_refl _) hk h.kinds).mono ?_
 rintro e w' ⟨rfl, hb⟩
 exact ⟨rfl, h.step hb⟩
theorem holds_3 {w W : World} (h : SaneW w W) : Calls Tryd.prog 12 #[.agg #[.int .i64 5, .int .i64 3, .string noS, .int .i64 0, .int .i64 0, .slice none 0 0], .agg #[.slice none 0 0, .int .i64 0, .int .i64 0, .int .i64 1]] W fun e w' => e = .returned (.tuple #[.bool false, .int .i64 0]) ∧ SaneW w w' := by
 obtain ⟨k, hk⟩ := e3
 refine (rules_Holds.calls k 5 3 noS 0 0 none 0 [] none 0 [] 0 0 1 false 0 W (Kd.C_nil _ _) (Nat.le_refl _) (Kd.C_nil _ _) (Nat.le_refl _) hk h.kinds).mono ?_
 rintro e w' ⟨rfl, hb⟩
 exact ⟨rfl, h.step hb⟩
theorem new_blkD {b : Nat} (W : World) (o : Obj) (h : W.heap.size = b) : (W.alloc o).heap[b]? = some o := by
 subst h
 exact blk_new W o
theorem cell_alloc_some {w : World} {a : Addr} {v : Value} (o : Obj) (h : w.cell? a = some v) : (w.alloc o).cell? a = some v := (World.cell?_alloc_lt _ _ _ (World.block_lt_of_cell? w a h)).trans h
theorem SaneW.cellAt {w W : World} {b : Nat} {a c : Int} {s : ByteArray} {n d : Int} {v : Value} (h : W.heap[b]? = some (.cells (cA a c s n d v).toArray 24 (0, 0))) : W.cell? ⟨b, 0, none⟩ = some (.int .i64 a) ∧ W.cell? ⟨b, 1, none⟩ = some (.int .i64 c) ∧ W.cell? ⟨b, 2, none⟩ = some (.string s) ∧ W.cell? ⟨b, 3, none⟩ = some (.int .i64 n) ∧ W.cell? ⟨b, 4, none⟩ = some (.int .i64 d) ∧ W.cell? ⟨b, 5, none⟩ = some v :=
 ⟨(blk_cell h 0).trans rfl, (blk_cell h 1).trans rfl, (blk_cell h 2).trans rfl, (blk_cell h 3).trans rfl, (blk_cell h 4).trans rfl, (blk_cell h 5).trans rfl⟩
theorem plain_4 {w W : World} (h : SaneW w W) : Calls Tryd.prog 25 #[] W fun e w' => e = .returned (.agg #[.slice none 0 0, .int .i64 0, .int .i64 0, .int .i64 1]) ∧ SaneW w w' ∧ Below W.heap.size W w' :=
 (plain_c W).mono fun _ _ ⟨e, hb⟩ => ⟨e, h.step hb, hb⟩
def cells18 : List Value := cA 1 0 noS 0 0 nilV ++ (cA 1 0 noS 0 0 nilV ++ cA 1 0 noS 0 0 nilV)
theorem K_flat (W : World) (a b : Int) (t : ByteArray) (n d : Int) : k24.K W ⟨a, b, t, n, d, []⟩ (cA a b t n d nilV) := k24_mk W ⟨a, b, t, n, d, []⟩ (A5 := none) (c5 := 0) (Nat.le_refl _) (Kd.C_nil _ _)
theorem holds_4 {w W : World} {b : Nat} (h : SaneW w W) (hb : W.heap[b]? = some (.cells cells18.toArray 24 (0, 0))) : Calls Tryd.prog 12 #[.agg #[.int .i64 3, .int .i64 0, .string noS, .int .i64 2, .int .i64 0, .slice (some ⟨b, 0, none⟩) 3 3], .agg #[.slice none 0 0, .int .i64 0, .int .i64 0, .int .i64 1]] W fun e w' => e = .returned (.tuple #[.bool true, .int .i64 0]) ∧ SaneW w w' := by
 obtain ⟨k, hk⟩ := e4
 have hR : Reps (k24.K W) 6 [sR1, sR1, sR1] cells18 := (((Reps.none _ _).snoc (K_flat W 1 0 noS 0 0) rfl).snoc (K_flat W 1 0 noS 0 0) rfl).snoc (K_flat W 1 0 noS 0 0) rfl
 refine (rules_Holds.calls k 3 0 noS 2 0 (some ⟨b, 0, none⟩) 3 [sR1, sR1, sR1] none 0 [] 0 0 1 true 0 W (C_of_reps hb hR (by decide)) (Nat.le_refl _) (Kd.C_nil _ _) (Nat.le_refl _) hk h.kinds).mono ?_
 rintro e w' ⟨rfl, hb⟩
 exact ⟨rfl, h.step hb⟩
def xS : ByteArray := ⟨#[88]⟩
def cells18r (n : Nat) : List Value := cA 5 3 xS 5 0 nilV ++ (cA 5 3 noS 0 0 nilV ++ cA 4 0 noS 0 0 (.slice (some ⟨n + 1, 0, none⟩) 1 1))
structure SaneR (w : World) (n : Nat) (W : World) : Prop where
 base : SaneW w W
 k1 : W.heap[n + 1]? = some (.cells (cA 5 3 xS 5 0 nilV).toArray 24 (0, 0))
 k2 : W.heap[n + 1 + 1]? = some (.cells (cells18r n).toArray 24 (0, 0))
 k3 : W.heap[n + 1 + 1 + 1]? = some (.cells (cA 1 0 noS 0 0 (.slice (some ⟨n + 1 + 1, 0, none⟩) 3 3)).toArray 24 (0, 0))
theorem SaneR.step {w W W' : World} {n : Nat} (h : SaneR w n W) (hb : Below W.heap.size W W') : SaneR w n W' := by
 have l1 := (Array.getElem?_eq_some_iff.1 h.k1).1
 have l2 := (Array.getElem?_eq_some_iff.1 h.k2).1
 have l3 := (Array.getElem?_eq_some_iff.1 h.k3).1
 exact ⟨h.base.step hb, (hb.block _ l1).trans h.k1, (hb.block _ l2).trans h.k2, (hb.block _ l3).trans h.k3⟩
theorem SaneR.alloc {w W : World} {n : Nat} (h : SaneR w n W) (o : Obj) : SaneR w n (W.alloc o) := h.step ((Below.refl _ _).alloc (Nat.le_refl _) _)
theorem SaneR.kids {w W : World} {n : Nat} (h : SaneR w n W) : Kd.C k24 W (some ⟨n + 1 + 1, 0, none⟩) sK.length sK := by
 have h1 : Kd.C k24 W (some ⟨n + 1, 0, none⟩) 1 [sX] := C_of_reps h.k1 ((Reps.none _ _).snoc (K_flat W 5 3 xS 5 0) rfl) (by decide)
 have h2 : k24.K W ⟨4, 0, noS, 0, 0, [sX]⟩ (cA 4 0 noS 0 0 (.slice (some ⟨n + 1, 0, none⟩) 1 1)) := k24_mk W ⟨4, 0, noS, 0, 0, [sX]⟩ (Nat.le_refl _) h1
 have hR : Reps (k24.K W) 6 sK (cells18r n) := (((Reps.none _ _).snoc (K_flat W 5 3 xS 5 0) rfl).snoc (K_flat W 5 3 noS 0 0) rfl).snoc h2 rfl
 exact C_of_reps h.k2 hR (by decide)
theorem check_0 {w W : World} {n : Nat} (h : SaneR w n W) : Calls Tryd.prog 20 #[.agg #[.int .i64 0, .int .i64 0, .string noS, .int .i64 0, .int .i64 0, .slice none 0 0]] W fun e w' => e = .returned (.int .i64 120) ∧ SaneR w n w' := by
 refine (rules_Check.calls 0 0 noS 0 0 none 0 [] 120 W (Kd.C_nil _ _) (Nat.le_refl _) c1 h.base.kinds).mono ?_
 rintro e w' ⟨rfl, hb⟩
 exact ⟨rfl, h.step hb⟩
theorem check_4 {w W : World} {n : Nat} (h : SaneR w n W) : Calls Tryd.prog 20 #[.agg #[.int .i64 4, .int .i64 0, .string noS, .int .i64 0, .int .i64 0, .slice none 0 0]] W fun e w' => e = .returned (.int .i64 120) ∧ SaneR w n w' := by
 refine (rules_Check.calls 4 0 noS 0 0 none 0 [] 120 W (Kd.C_nil _ _) (Nat.le_refl _) c2 h.base.kinds).mono ?_
 rintro e w' ⟨rfl, hb⟩
 exact ⟨rfl, h.step hb⟩
theorem check_r {w W : World} {n : Nat} (h : SaneR w n W) : Calls Tryd.prog 20 #[.agg #[.int .i64 1, .int .i64 0, .string noS, .int .i64 0, .int .i64 0, .slice (some ⟨n + 1 + 1, 0, none⟩) 3 3]] W fun e w' => e = .returned (.int .i64 0) ∧ SaneR w n w' := by
 refine (rules_Check.calls 1 0 noS 0 0 _ 3 sK 0 W h.kids (Nat.le_refl _) c3 h.base.kinds).mono ?_
 rintro e w' ⟨rfl, hb⟩
 exact ⟨rfl, h.step hb⟩
theorem fits_0 {w W : World} {n : Nat} (h : SaneR w n W) : Calls Tryd.prog 21 #[.agg #[.slice none 0 0, .int .i64 0, .int .i64 0, .int .i64 0]] W fun e w' => e = .returned (.int .i64 120) ∧ SaneR w n w' := by
 obtain ⟨k, hk⟩ := e5
 refine (rules_Fits.calls k none 0 [] 0 0 0 120 W (Kd.C_nil _ _) (Nat.le_refl _) hk).mono ?_
 rintro e w' ⟨rfl, hb⟩
 exact ⟨rfl, h.step hb⟩
theorem fits_1 {w W : World} {n : Nat} (h : SaneR w n W) : Calls Tryd.prog 21 #[.agg #[.slice none 0 0, .int .i64 0, .int .i64 0, .int .i64 1]] W fun e w' => e = .returned (.int .i64 0) ∧ SaneR w n w' := by
 obtain ⟨k, hk⟩ := e6
 refine (rules_Fits.calls k none 0 [] 0 0 1 0 W (Kd.C_nil _ _) (Nat.le_refl _) hk).mono ?_
 rintro e w' ⟨rfl, hb⟩
 exact ⟨rfl, h.step hb⟩
theorem plain_r {w W : World} {n : Nat} (h : SaneR w n W) : Calls Tryd.prog 25 #[] W fun e w' => e = .returned (.agg #[.slice none 0 0, .int .i64 0, .int .i64 0, .int .i64 1]) ∧ SaneR w n w' :=
 (plain_c W).mono fun _ _ ⟨e, hb⟩ => ⟨e, h.step hb⟩
theorem depth_1 {w W : World} {n : Nat} (h : SaneR w n W) : Calls Tryd.prog 26 #[.agg #[.int .i64 1, .int .i64 0, .string noS, .int .i64 0, .int .i64 0, .slice none 0 0]] W fun e w' => e = .returned (.int .i64 1) ∧ SaneR w n w' := by
 refine (rules_Depth.calls 1 0 noS 0 0 none 0 [] 1 W (Kd.C_nil _ _) (Nat.le_refl _) d1).mono ?_
 rintro e w' ⟨rfl, hb⟩
 exact ⟨rfl, h.step hb⟩
theorem depth_r {w W : World} {n : Nat} (h : SaneR w n W) : Calls Tryd.prog 26 #[.agg #[.int .i64 1, .int .i64 0, .string noS, .int .i64 0, .int .i64 0, .slice (some ⟨n + 1 + 1, 0, none⟩) 3 3]] W fun e w' => e = .returned (.int .i64 3) ∧ SaneR w n w' := by
 refine (rules_Depth.calls 1 0 noS 0 0 _ 3 sK 3 W h.kids (Nat.le_refl _) d2).mono ?_
 rintro e w' ⟨rfl, hb⟩
 exact ⟨rfl, h.step hb⟩
theorem atoms_r {w W : World} {n : Nat} (h : SaneR w n W) : Calls Tryd.prog 15 #[.agg #[.int .i64 1, .int .i64 0, .string noS, .int .i64 0, .int .i64 0, .slice (some ⟨n + 1 + 1, 0, none⟩) 3 3]] W fun e w' => ∃ A c, e = .returned (.slice A 2 c) ∧ SaneR w n w' := by
 obtain ⟨l, hl, h2⟩ := a1
 refine (rules_Atoms.calls 1 0 noS 0 0 _ 3 sK l W h.kids (Nat.le_refl _) hl).mono ?_
 rintro e w' ⟨v, rfl, hv, hb⟩
 obtain ⟨A, c, rfl⟩ := Kd.R_slice hv
 exact ⟨A, c, by rw [h2], h.step hb⟩
structure OneThree (W : World) (A : Option Addr) (c : Nat) : Prop where
 reads : Kd.C (Kd.int .i64) W A 1 [3]
 len : 1 ≤ c
theorem OneThree.alloc {W : World} {A : Option Addr} {c : Nat} (h : OneThree W A c) (o : Obj) : OneThree (W.alloc o) A c := ⟨Kd.C_alloc h.reads o, h.len⟩
theorem courses_r {w W : World} {n : Nat} (h : SaneR w n W) : Calls Tryd.prog 18 #[.agg #[.int .i64 1, .int .i64 0, .string noS, .int .i64 0, .int .i64 0, .slice (some ⟨n + 1 + 1, 0, none⟩) 3 3]] W fun e w' => ∃ A c, e = .returned (.slice A 1 c) ∧ OneThree w' A c ∧ SaneR w n w' := by
 refine (rules_Courses.calls 1 0 noS 0 0 _ 3 sK [3] W h.kids (Nat.le_refl _) b1).mono ?_
 rintro e w' ⟨v, rfl, hv, hb⟩
 obtain ⟨A, c, rfl⟩ := Kd.R_slice hv
 obtain ⟨h1, h2, h3⟩ := Kd.R_reads' hv
 exact ⟨A, c, rfl, ⟨h3, h2⟩, h.step hb⟩
theorem same_r {w W : World} {n b c : Nat} {A : Option Addr} (h : SaneR w n W) (hA : OneThree W A c) (hb : W.heap[b]? = some (.cells #[.int .i64 3] 3 (0, 0))) : Calls Tryd.prog 17 #[.slice A 1 c, .slice (some ⟨b, 0, none⟩) 1 1] W fun e w' => e = .returned (.bool true) ∧ SaneR w n w' := by
 have hC : Kd.C (Kd.int .i64) W (some ⟨b, 0, none⟩) 1 [3] := by
  refine ⟨rfl, by decide, fun _ => ⟨_, rfl, fun j p hj => ⟨[.int .i64 p], rfl, rfl, fun i u hu => ?_⟩⟩⟩
  have hj1 := (List.getElem?_eq_some_iff.1 hj).1
  have hi1 := (List.getElem?_eq_some_iff.1 hu).1
  obtain rfl : j = 0 := by simpa using hj1
  obtain rfl : i = 0 := by simpa using hi1
  obtain rfl : 3 = p := by simpa using hj
  obtain rfl : Value.int .i64 3 = u := by simpa using hu
  rw [add_plain]
  exact (blk_cell hb 0).trans rfl
 refine (sizarref12_SameInts.calls 7 A c [3] (some ⟨b, 0, none⟩) 1 [3] true W hA.reads hA.len hC (Nat.le_refl _) s1).mono ?_
 rintro e w' ⟨rfl, hb⟩
 exact ⟨rfl, h.step hb.below⟩
set_option maxRecDepth 100000 in
set_option maxHeartbeats 4000000 in
theorem sane_walk (w : World) (hK : KindsAt w) : Calls Tryd.prog 10 #[] w fun e w' => e = .returned (.bool true) ∧ Below w.heap.size w w' := by
 have hu24 := Tryd.underlying24
 have hu29 := Tryd.underlying29
 have HK := Aside0.mk hK
 clear hK
 go_enter Tryd.func10, Tryd.ntmps10
 go_wp2
 generalize hW0 : World.alloc _ _ = W0
 have HS : Aside0 (SaneW w W0) := ⟨by
  have hb : Below w.heap.size w W0 := by
   rw [← hW0]
   exact (((Below.refl _ w).alloc (Nat.le_refl _) _).alloc (by simp) _).alloc (by simp; omega) _
  refine ⟨HK.out.below hb, hb, ?_, ?_, ?_⟩
  ·rw [← hW0]
   exact (Below.heap_alloc _ _ _ (by simp; omega)).trans ((Below.heap_alloc _ _ _ (by simp)).trans (blk_new _ _))
  ·rw [← hW0]
   exact (Below.heap_alloc _ _ _ (by simp)).trans (new_blkD _ _ (by simp))
  ·rw [← hW0]
   exact new_blkD _ _ (by simp)⟩
 clear hW0
 go_region_held3 (fun w' => SaneW w w' ∧ w'.cell? ⟨w.heap.size, 0, none⟩ = some (.int .i64 1) ∧ w'.cell? ⟨w.heap.size, 1, none⟩ = some (.int .i64 0) ∧ w'.cell? ⟨w.heap.size, 2, none⟩ = some (.string noS) ∧ w'.cell? ⟨w.heap.size, 3, none⟩ = some (.int .i64 0) ∧ w'.cell? ⟨w.heap.size, 4, none⟩ = some (.int .i64 0) ∧ w'.cell? ⟨w.heap.size, 5, none⟩ = some (.slice none 0 0))
  (first | exact ⟨HS.out.drew, SaneW.cellAt (w := w) HS.out.drew.b1⟩ | exact ⟨‹SaneW w _›, SaneW.cellAt (w := w) (SaneW.b1 ‹_›)⟩)
  (first | (go_at_call 25; refine (plain_s (w := w) ?_).mono ?_; (first | assumption | exact HS.out.drew); rintro e w' ⟨rfl, hs⟩) | (go_at_call 12; refine (holds_s (w := w) ?_).mono ?_; (first | assumption); rintro e w' ⟨rfl, hs⟩))
 rename_i hs
 have HS2 := Aside0.mk hs.1
 clear hs HS
 go_wp2
 go_region_held3 (fun w' => SaneW w w' ∧ w'.cell? ⟨w.heap.size + 1, 0, none⟩ = some (.int .i64 2) ∧ w'.cell? ⟨w.heap.size + 1, 1, none⟩ = some (.int .i64 0) ∧ w'.cell? ⟨w.heap.size + 1, 2, none⟩ = some (.string noS) ∧ w'.cell? ⟨w.heap.size + 1, 3, none⟩ = some (.int .i64 0) ∧ w'.cell? ⟨w.heap.size + 1, 4, none⟩ = some (.int .i64 0) ∧ w'.cell? ⟨w.heap.size + 1, 5, none⟩ = some (.slice none 0 0))
  (first | exact ⟨HS2.out.drew, SaneW.cellAt (w := w) HS2.out.drew.b2⟩ | exact ⟨‹SaneW w _›, SaneW.cellAt (w := w) (SaneW.b2 ‹_›)⟩)
  (first | (go_at_call 25; refine (plain_s (w := w) ?_).mono ?_; (first | assumption | exact HS2.out.drew); rintro e w' ⟨rfl, hs⟩) | (go_at_call 12; refine (holds_2 (w := w) ?_).mono ?_; (first | assumption); rintro e w' ⟨rfl, hs⟩))
 rename_i hs
 have HS3 := Aside0.mk hs.1
 clear hs HS2
 go_wp2
 go_region_held3 (fun w' => SaneW w w' ∧ w'.cell? ⟨w.heap.size + 1 + 1, 0, none⟩ = some (.int .i64 5) ∧ w'.cell? ⟨w.heap.size + 1 + 1, 1, none⟩ = some (.int .i64 3) ∧ w'.cell? ⟨w.heap.size + 1 + 1, 2, none⟩ = some (.string noS) ∧ w'.cell? ⟨w.heap.size + 1 + 1, 3, none⟩ = some (.int .i64 0) ∧ w'.cell? ⟨w.heap.size + 1 + 1, 4, none⟩ = some (.int .i64 0) ∧ w'.cell? ⟨w.heap.size + 1 + 1, 5, none⟩ = some (.slice none 0 0))
  (first | exact ⟨HS3.out.drew, SaneW.cellAt (w := w) HS3.out.drew.b3⟩ | exact ⟨‹SaneW w _›, SaneW.cellAt (w := w) (SaneW.b3 ‹_›)⟩)
  (first | (go_at_call 25; refine (plain_s (w := w) ?_).mono ?_; (first | assumption | exact HS3.out.drew); rintro e w' ⟨rfl, hs⟩) | (go_at_call 12; refine (holds_3 (w := w) ?_).mono ?_; (first | assumption); rintro e w' ⟨rfl, hs⟩))
 rename_i hs
 have HS4 := Aside0.mk hs.1
 clear hs HS3
 go_wp2
 go_cut [10, 11] (fun v10 v11 wc => v10 = .bool true ∧ v11 = .int .i64 0 ∧ Aside0 (SaneW w wc))
 case first =>
  go_region_held3 (fun w' => SaneW w w' ∧ w'.cell? ⟨w.heap.size, 0, none⟩ = some (.int .i64 1) ∧ w'.cell? ⟨w.heap.size, 1, none⟩ = some (.int .i64 0) ∧ w'.cell? ⟨w.heap.size, 2, none⟩ = some (.string noS) ∧ w'.cell? ⟨w.heap.size, 3, none⟩ = some (.int .i64 0) ∧ w'.cell? ⟨w.heap.size, 4, none⟩ = some (.int .i64 0) ∧ w'.cell? ⟨w.heap.size, 5, none⟩ = some (.slice none 0 0))
   (first | exact ⟨HS4.out.drew, SaneW.cellAt (w := w) HS4.out.drew.b1⟩ | exact ⟨‹SaneW w _›, SaneW.cellAt (w := w) (SaneW.b1 ‹_›)⟩ | exact ⟨HS4.out.drew.alloc _, SaneW.cellAt (w := w) (SaneW.b1 (HS4.out.drew.alloc _))⟩ | exact ⟨SaneW.alloc ‹SaneW w _› _, SaneW.cellAt (w := w) (SaneW.b1 (SaneW.alloc ‹_› _))⟩)
   (first | (go_at_call 25; refine (plain_4 (w := w) ?_).mono ?_; (first | assumption | exact HS4.out.drew | exact HS4.out.drew.alloc _); rintro e w' ⟨rfl, hs, hb⟩) | (go_at_call 12; refine (holds_4 (w := w) ?_ ?_).mono ?_; (first | assumption | exact SaneW.alloc ‹_› _); (first | exact (hb.block _ (by simp)).trans (blk_drew (blk_new _ _)) | exact blk_new _ _ | exact blk_drew (blk_new _ _)); rintro e w' ⟨rfl, hs⟩))
  all_goals
   rename_i hs5
   have HS5 := Aside0.mk hs5.1
   clear hs5
   go_wp2
   go_meet
   case rel => exact ⟨rfl, rfl, HS5⟩
 case rest =>
  obtain ⟨rfl, rfl, HS5⟩ := hcut
  obtain ⟨e0, e1, e2, e3, e4, e5⟩ := SaneW.cellAt (w := w) HS5.out.b3
  simp only [nilV] at e5
  clear HS4
  have f0 := fun o => cell_alloc_some o e0
  have f1 := fun o => cell_alloc_some o e1
  have f2 := fun o => cell_alloc_some o e2
  have f3 := fun o => cell_alloc_some o e3
  have f4 := fun o => cell_alloc_some o e4
  have f5 := fun o => cell_alloc_some o e5
  go_upto_region 10 with fail
  have hlw : w.heap.size + 1 + 1 < wc.heap.size := (Array.getElem?_eq_some_iff.1 HS5.out.b3).1
  generalize hW9 : World.alloc _ _ = W9
  have HR : Aside0 (SaneR w wc.heap.size W9) := ⟨by
   rw [← hW9]
   refine ⟨(((HS5.out.alloc _).alloc _).alloc _).alloc _, ?_, ?_, ?_⟩
   ·exact (Below.heap_alloc _ _ _ (by simp)).trans ((Below.heap_alloc _ _ _ (by simp)).trans (new_blkD _ _ (by simp)))
   ·exact (Below.heap_alloc _ _ _ (by simp)).trans (new_blkD _ _ (by simp))
   ·exact new_blkD _ _ (by simp)⟩
  clear hW9 e0 e1 e2 e3 e4 e5 f0 f1 f2 f3 f4 f5 HS5
  have r0 : ∀ W, SaneR w wc.heap.size W → _ := fun W h => SaneW.cellAt (w := w) h.k3
  have rr0 : ∀ W, SaneR w wc.heap.size W → _ := fun W h => SaneW.cellAt (w := w) h.base.b1
  have RR0 := Aside0.mk rr0
  have R0 := Aside0.mk r0
  clear r0 rr0
  go_wp2_with fail
  refine (check_0 HR.out).mono ?_
  rintro e w' ⟨rfl, h⟩
  have H1 := Aside0.mk h
  clear h
  go_wp2_with fail
  refine (check_4 H1.out).mono ?_
  rintro e w' ⟨rfl, h⟩
  have H2 := Aside0.mk h
  clear h
  go_wp2_with fail
  refine (fits_0 H2.out).mono ?_
  rintro e w' ⟨rfl, h⟩
  have H3 := Aside0.mk h
  clear h
  go_wp2_with fail
  refine (plain_r H3.out).mono ?_
  rintro e w' ⟨rfl, h⟩
  have H4 := Aside0.mk h
  clear h
  go_wp2_with fail
  refine (fits_1 H4.out).mono ?_
  rintro e w' ⟨rfl, h⟩
  have H5 := Aside0.mk h
  clear h
  obtain ⟨e0, e1, e2, e3, e4, e5⟩ := R0.out _ H5.out
  go_wp2_with fail
  refine (check_r H5.out).mono ?_
  rintro e w' ⟨rfl, h⟩
  have H6 := Aside0.mk h
  clear h
  clear e0 e1 e2 e3 e4 e5
  obtain ⟨e0, e1, e2, e3, e4, e5⟩ := RR0.out _ H6.out
  simp only [nilV] at e5
  go_wp2_with fail
  refine (depth_1 H6.out).mono ?_
  rintro e w' ⟨rfl, h⟩
  have H7 := Aside0.mk h
  clear h
  clear e0 e1 e2 e3 e4 e5
  obtain ⟨e0, e1, e2, e3, e4, e5⟩ := R0.out _ H7.out
  go_wp2_with fail
  refine (depth_r H7.out).mono ?_
  rintro e w' ⟨rfl, h⟩
  have H8 := Aside0.mk h
  clear h
  clear e0 e1 e2 e3 e4 e5
  obtain ⟨e0, e1, e2, e3, e4, e5⟩ := R0.out _ H8.out
  go_wp2_with fail
  refine (atoms_r H8.out).mono ?_
  rintro e w' ⟨A1, c1, rfl, h⟩
  have H9 := Aside0.mk h
  clear h
  clear e0 e1 e2 e3 e4 e5
  obtain ⟨e0, e1, e2, e3, e4, e5⟩ := R0.out _ H9.out
  go_wp2_with fail
  refine (courses_r H9.out).mono ?_
  rintro e w' ⟨A2, c2, rfl, hA, h⟩
  have H10 := Aside0.mk h
  have HA := Aside0.mk hA
  clear h hA
  clear e0 e1 e2 e3 e4 e5
  go_wp2_with fail
  refine (same_r (H10.out.alloc _) (HA.out.alloc _) (new_blkD _ _ (by simp))).mono ?_
  rintro e w' ⟨rfl, h⟩
  have H11 := Aside0.mk h
  clear h
  go_wp2_with fail
  go_ret
  exact ⟨rfl, H11.out.base.below⟩
def sizarlaw12_sane.f (k : Nat) : Option Bool := some true
theorem sizarlaw12_sane.calls (k : Nat) (r : Bool) (w : World) (h : sizarlaw12_sane.f k = some r) (hKT : KindsAt w) :
  Calls Tryd.prog 10 #[] w fun e w' => e = .returned (.bool r) ∧ Below w.heap.size w w' := by
 obtain rfl := Option.some.inj h
 exact sane_walk w hKT
end Go.Proofs.YtabocfninjankaaDoor.P
namespace Go.Proofs.YtabocfninjankaaDoor.P
open Go.RowKit Go.Maps Go.Proofs.YtabocfninjankaaDoorW.PrintWords Go.Proofs.YtabocfninjankaaDoorW.PrintLast Go.Proofs.YtabocfninjankaaDoorW.PrintMore
set_option linter.unusedVariables false
set_option linter.unusedSimpArgs false
def notS (r : S24) : S24 := ⟨4, 0, noS, 0, 0, [r]⟩
def holdsV (r : S24) (l : List S49) (e m1 m2 : Int) : Bool × Int := if chkR r = true then if fitS l e m1 m2 = true then (valR l e m1 m2 r, 0) else (false, 120) else (false, 120)
theorem cnt_nots (s : List S49) (e m1 m2 : Int) : ∀ l : List S24, cntL s e m1 m2 (l.map notS) + cntL s e m1 m2 l = l.length
  | [] => rfl
  | x :: xs => by
    have ih := cnt_nots s e m1 m2 xs
    have hv : valR s e m1 m2 (notS x) = !(valR s e m1 m2 x) := by
      have h1 : cntL s e m1 m2 [x] = if valR s e m1 m2 x = true then 1 else 0 := by simp [cntL]
      rw [valR_eq]
      show opHolds s e m1 m2 4 0 0 0 1 (cntL s e m1 m2 [x]) = _
      rw [h1]
      unfold opHolds
      generalize valR s e m1 m2 x = q
      cases q <;> simp
    simp only [List.map_cons, cntL, List.length_cons, hv]
    cases valR s e m1 m2 x <;> simp <;> omega
theorem dual_plain (s : List S49) (e m1 m2 : Int) (l : List S24) (p q x y : Bool) (a b c d : Int)
    (h1 : holdsV ⟨4, 0, noS, 0, 0, [⟨1, 0, noS, 0, 0, l⟩]⟩ s e m1 m2 = (p, a)) (h2 : holdsV ⟨2, 0, noS, 0, 0, l.map notS⟩ s e m1 m2 = (q, b))
    (h3 : holdsV ⟨4, 0, noS, 0, 0, [⟨2, 0, noS, 0, 0, l⟩]⟩ s e m1 m2 = (x, c)) (h4 : holdsV ⟨1, 0, noS, 0, 0, l.map notS⟩ s e m1 m2 = (y, d)) (ha : a = 0) (hb : b = 0) (hc : c = 0) (hd : d = 0) : p = q ∧ x = y := by
  have get : ∀ (r : S24) (v : Bool) (z : Int), holdsV r s e m1 m2 = (v, z) → z = 0 → v = valR s e m1 m2 r := by
    intro r v z h hz
    unfold holdsV at h
    split at h
    · split at h
      · exact (Prod.mk.inj h).1.symm
      · have := (Prod.mk.inj h).2; omega
    · have := (Prod.mk.inj h).2; omega
  have hn := cnt_nots s e m1 m2 l
  rw [get _ _ _ h1 ha, get _ _ _ h2 hb, get _ _ _ h3 hc, get _ _ _ h4 hd]
  have c1 : ∀ r : S24, (cntL s e m1 m2 [r] : Nat) = if valR s e m1 m2 r = true then 1 else 0 := fun r => by simp [cntL]
  constructor
  · rw [valR_eq, valR_eq]
    simp only [opHolds, c1]
    rw [valR_eq]
    simp only [opHolds, List.length_map]
    rw [Bool.eq_iff_iff]
    by_cases hq : cntL s e m1 m2 l = l.length
    · simp [hq]; omega
    · simp [hq]; omega
  · rw [valR_eq, valR_eq]
    simp only [opHolds, c1]
    rw [valR_eq]
    simp only [opHolds, List.length_map]
    rw [Bool.eq_iff_iff]
    by_cases hq : 0 < cntL s e m1 m2 l
    · simp [hq]; omega
    · simp [hq]; omega
theorem holdsV_calls (r : S24) (A : Option Addr) (c : Nat) (A1 : Option Addr) (c1 : Nat) (l : List S49) (e m1 m2 : Int) (W : World) (hC : Kd.C k24 W A r.f5.length r.f5) (hc : r.f5.length ≤ c) (hS : Kd.C k49 W A1 l.length l) (hcS : l.length ≤ c1) (hK : KindsAt W) :
    Calls Tryd.prog 12 #[.agg #[.int .i64 r.f0, .int .i64 r.f1, .string r.f2, .int .i64 r.f3, .int .i64 r.f4, .slice A r.f5.length c], .agg #[.slice A1 l.length c1, .int .i64 e, .int .i64 m1, .int .i64 m2]] W
      fun en w' => en = .returned (.tuple #[.bool (holdsV r l e m1 m2).1, .int .i64 (holdsV r l e m1 m2).2]) ∧ Below W.heap.size W w' := by
  obtain ⟨k, hk⟩ := (holds_ev r l hS.2.1 e m1 m2).get
  exact rules_Holds.calls k r.f0 r.f1 r.f2 r.f3 r.f4 A c r.f5 A1 c1 l e m1 m2 (holdsV r l e m1 m2).1 (holdsV r l e m1 m2).2 W hC hc hS hcS hk hK
/-- A slice of one rule. -/
theorem F_one {W : World} {b c5 : Nat} {ok : Nat → Prop} {x : S24} {A5 : Option Addr} (hb : W.heap[b]? = some (.cells (cA x.f0 x.f1 x.f2 x.f3 x.f4 (.slice A5 x.f5.length c5)).toArray 24 (0, 0))) (hl : x.f5.length ≤ c5) (hF : Kd.F k24 W ok A5 x.f5.length x.f5) :
    Kd.F k24 W (fun k => ok k ∨ k = b) (some ⟨b, 0, none⟩) [x].length [x] := by
  intro W' hW
  have hblt := (Array.getElem?_eq_some_iff.1 hb).1
  have h1 := (hW b (.inr rfl) hblt).trans hb
  have h2 : Kd.C k24 W' A5 x.f5.length x.f5 := hF W' (fun k hk => hW k (.inl hk))
  exact C_of_reps h1 ((Reps.none _ _).snoc (k24_mk W' x hl h2) rfl) (by simp)
structure DualW (w W : World) (A1 : Option Addr) (n1 c1 : Nat) (e m1 m2 : Int) : Prop where
  below : Below w.heap.size w W
  box : W.heap[w.heap.size]? = some (.cells #[.slice A1 n1 c1, .int .i64 e, .int .i64 m1, .int .i64 m2] 29 (0, 0))
theorem DualW.step {w W W' : World} {A1 : Option Addr} {n1 c1 : Nat} {e m1 m2 : Int} (h : DualW w W A1 n1 c1 e m1 m2) (hb : Below W.heap.size W W') : DualW w W' A1 n1 c1 e m1 m2 :=
  ⟨below_step h.below hb, (hb.block _ (Array.getElem?_eq_some_iff.1 h.box).1).trans h.box⟩
theorem DualW.alloc {w W : World} {A1 : Option Addr} {n1 c1 : Nat} {e m1 m2 : Int} (h : DualW w W A1 n1 c1 e m1 m2) (o : Obj) : DualW w (W.alloc o) A1 n1 c1 e m1 m2 := h.step (below_alloc (Below.refl _ _) o)
theorem DualW.cells {w W : World} {A1 : Option Addr} {n1 c1 : Nat} {e m1 m2 : Int} (h : DualW w W A1 n1 c1 e m1 m2) : W.cell? ⟨w.heap.size, 0, none⟩ = some (.slice A1 n1 c1) ∧ W.cell? ⟨w.heap.size, 1, none⟩ = some (.int .i64 e) ∧ W.cell? ⟨w.heap.size, 2, none⟩ = some (.int .i64 m1) ∧ W.cell? ⟨w.heap.size, 3, none⟩ = some (.int .i64 m2) :=
  ⟨(blk_cell h.box 0).trans rfl, (blk_cell h.box 1).trans rfl, (blk_cell h.box 2).trans rfl, (blk_cell h.box 3).trans rfl⟩
/-- Behind the loop: the four rules as they lie. -/
structure DualE (w wr W : World) (A1 : Option Addr) (n1 c1 : Nat) (e m1 m2 : Int) (V0 V5 : Value) : Prop where
  base : DualW w W A1 n1 c1 e m1 m2
  old : Below wr.heap.size wr W
  k0 : W.heap[wr.heap.size]? = some (.cells (cA 1 0 noS 0 0 V0).toArray 24 (0, 0))
  k1 : W.heap[wr.heap.size + 1]? = some (.cells (cA 4 0 noS 0 0 (.slice (some ⟨wr.heap.size, 0, none⟩) 1 1)).toArray 24 (0, 0))
  k2 : W.heap[wr.heap.size + 1 + 1]? = some (.cells (cA 2 0 noS 0 0 V5).toArray 24 (0, 0))
  k3 : W.heap[wr.heap.size + 1 + 1 + 1]? = some (.cells (cA 2 0 noS 0 0 V0).toArray 24 (0, 0))
  k4 : W.heap[wr.heap.size + 1 + 1 + 1 + 1]? = some (.cells (cA 4 0 noS 0 0 (.slice (some ⟨wr.heap.size + 1 + 1 + 1, 0, none⟩) 1 1)).toArray 24 (0, 0))
  k5 : W.heap[wr.heap.size + 1 + 1 + 1 + 1 + 1]? = some (.cells (cA 1 0 noS 0 0 V5).toArray 24 (0, 0))
theorem DualE.step {w wr W W' : World} {A1 : Option Addr} {n1 c1 : Nat} {e m1 m2 : Int} {V0 V5 : Value} (h : DualE w wr W A1 n1 c1 e m1 m2 V0 V5) (hb : Below W.heap.size W W') : DualE w wr W' A1 n1 c1 e m1 m2 V0 V5 := by
  have g : ∀ {b o}, W.heap[b]? = some o → W'.heap[b]? = some o := fun hh => (hb.block _ (Array.getElem?_eq_some_iff.1 hh).1).trans hh
  exact ⟨h.base.step hb, below_step h.old hb, g h.k0, g h.k1, g h.k2, g h.k3, g h.k4, g h.k5⟩
set_option maxRecDepth 100000 in
set_option maxHeartbeats 8000000 in
theorem dual_walk (A : Option Addr) (c : Nat) (l : List S24) (A1 : Option Addr) (c1 : Nat) (s : List S49) (e m1 m2 : Int) (w : World) (hC : Kd.C k24 w A l.length l) (hc : l.length ≤ c) (hS : Kd.C k49 w A1 s.length s) (hcS : s.length ≤ c1) (hK : KindsAt w) (ho : ∀ x ∈ l, okR x) :
    Calls Tryd.prog 9 #[.slice A l.length c, .agg #[.slice A1 s.length c1, .int .i64 e, .int .i64 m1, .int .i64 m2]] w fun en w' => en = .returned (.bool true) ∧ Below w.heap.size w w' := by
  have hu24 := Tryd.underlying24
  have hu29 := Tryd.underlying29
  have hm : l.length ≤ 9223372036854775807 := hC.2.1
  have hms : s.length ≤ 9223372036854775807 := hS.2.1
  have HC := Aside0.mk hC
  have HSI := Aside0.mk hS
  have HK := Aside0.mk hK
  have HO := Aside0.mk ho
  clear hC hS hK ho
  go_enter Tryd.func9, Tryd.ntmps9
  go_wp2_with fail
  refine (sizarlaw12_sane.calls 0 true _ rfl (HK.out.below (below_alloc (Below.refl _ _) _))).mono ?_
  rintro en w1 ⟨rfl, hb1⟩
  have HD0 : Aside0 (DualW w w1 A1 s.length c1 e m1 m2) := ⟨(DualW.step (W := w.alloc _) ⟨below_alloc (Below.refl _ w) _, blk_new _ _⟩ hb1)⟩
  clear hb1
  go_wp2_with fail
  go_loopw [5, 6] (fun t5 t6 wr => ∃ (k : Nat), t6 = .int .i64 k ∧ k ≤ l.length ∧ (0 < k → l.length ≤ 8) ∧ Aside0 (Kd.N k24 24 wr w.heap.size (fun _ => True) t5 ((l.take k).map notS)) ∧ Aside0 (DualW w wr A1 s.length c1 e m1 m2))
    (fun _ t6 _ => l.length - (intOf t6).toNat)
  case atStart => exact ⟨0, rfl, Nat.zero_le _, fun h => absurd h (by omega), ⟨Kd.N_nil _ _ _ _ _⟩, HD0⟩
  case round =>
    obtain ⟨k, rfl, hk, h8, HN, HD⟩ := hrel
    by_cases hlt : k < l.length
    · obtain ⟨ad, A5, c5, eA, y0, y1, y2, y3, y4, y5, hl5, hC5⟩ := at_T24 HC.out (k : Int) (by omega) (by omega)
      subst eA
      rw [Int.toNat_natCast] at y0 y1 y2 y3 y4 y5
      have hrk : rd_T24 l (k : Int) = l[k] := rd24 l k hlt
      have hok := HO.out l[k] (List.getElem_mem hlt)
      obtain ⟨x, HX, hx⟩ : ∃ x, Aside0 (x = l[k]) ∧ l[k] = x := ⟨_, ⟨rfl⟩, rfl⟩
      rw [hrk, hx] at y0 y1 y2 y3 y4 y5 hl5 hC5
      rw [hx] at hok
      clear hx hrk
      have hbw := HD.out.below
      replace y0 := pw_cell_below hbw y0
      replace y1 := pw_cell_below hbw y1
      replace y2 := pw_cell_below hbw y2
      replace y3 := pw_cell_below hbw y3
      replace y4 := pw_cell_below hbw y4
      replace y5 := pw_cell_below hbw y5
      have HF5 := Aside0.mk (Kd.C_F k24_heap' hC5)
      have HC5 := Aside0.mk (Kd.C_below hC5 hbw)
      obtain ⟨bf, hev⟩ := few_tot x hok
      obtain ⟨kf, hkf⟩ := hev.get
      have HKF := Aside0.mk hkf
      clear hkf hev hC5 hbw hok
      cases bf with
      | false =>
        go_wp2_with (go_at_call 11; refine (sizarref12_Few.calls kf _ _ _ _ _ _ _ _ _ _ HC5.out hl5 HKF.out).mono ?_; rintro en w2 ⟨rfl, hb2⟩)
        go_ret
        exact ⟨rfl, below_step HD.out.below hb2⟩
      | true =>
        by_cases hl8 : 8 < l.length
        · go_wp2_with (go_at_call 11; refine (sizarref12_Few.calls kf _ _ _ _ _ _ _ _ _ _ HC5.out hl5 HKF.out).mono ?_; rintro en w2 ⟨rfl, hb2⟩)
          go_ret
          exact ⟨rfl, below_step HD.out.below hb2⟩
        · by_cases hs50 : 50 < s.length
          · go_wp2_with fail
            refine (sizarref12_Few.calls kf _ _ _ _ _ _ _ _ _ _ HC5.out hl5 HKF.out).mono ?_
            rintro en w2 ⟨rfl, hb2⟩
            obtain ⟨z0, z1, z2, z3⟩ := (HD.out.step hb2).cells
            have HB2 := Aside0.mk hb2
            clear hb2
            go_wp2_with fail
            go_ret
            exact ⟨rfl, below_step HD.out.below HB2.out⟩
          · go_wp2_with fail
            refine (sizarref12_Few.calls kf _ _ _ _ _ _ _ _ _ _ HC5.out hl5 HKF.out).mono ?_
            rintro en w2 ⟨rfl, hb2⟩
            obtain ⟨z0, z1, z2, z3⟩ := (HD.out.step hb2).cells
            replace y0 := pw_cell_below hb2 y0
            replace y1 := pw_cell_below hb2 y1
            replace y2 := pw_cell_below hb2 y2
            replace y3 := pw_cell_below hb2 y3
            replace y4 := pw_cell_below hb2 y4
            replace y5 := pw_cell_below hb2 y5
            have HD2 := Aside0.mk (HD.out.step hb2)
            have HN2 := Aside0.mk (Kd.N_below HN.out hb2)
            clear hb2
            obtain ⟨Ao, co, e5⟩ := Kd.N_slice HN2.out
            rw [show ((l.take k).map notS).length = k by rw [List.length_map, List.length_take]; omega] at e5
            subst e5
            have hown : ∀ k_, (Value.slice Ao k co).ownBlock = some k_ → w.heap.size ≤ k_ ∧ k_ < w2.heap.size := fun k_ e_ => ⟨Kd.N_base HN2.out k_ e_, Kd.N_lt HN2.out k_ e_⟩
            have hFx : Kd.FK k24 (w2.alloc (.cells (cA x.f0 x.f1 x.f2 x.f3 x.f4 (.slice A5 x.f5.length c5)).toArray 24)) (fun k => k < w.heap.size ∨ k = w2.heap.size) (notS x) (cA 4 0 noS 0 0 (.slice (some ⟨w2.heap.size, 0, none⟩) 1 1)) := by
              have h1 := Kd.F_below (Kd.F_below HF5.out HD2.out.below) (below_alloc (Below.refl _ w2) (.cells (cA x.f0 x.f1 x.f2 x.f3 x.f4 (.slice A5 x.f5.length c5)).toArray 24))
              exact k24_mkF _ _ (notS x) (Nat.le_refl _) (F_one (blk_new _ _) hl5 h1)
            have HFX := Aside0.mk hFx
            have hne : some w.heap.size ≠ (Value.slice Ao k co).ownBlock := fun e_ => by
              obtain ⟨_, rows, _, hR, _⟩ := HN2.out
              obtain ⟨_, inner, ho, _⟩ := hR
              rcases ho.2 with ⟨hv, _⟩ | ⟨g, cap, cur, hv, _, hh, _⟩
              · rw [hv] at e_; simp [Value.ownBlock] at e_
              · rw [hv] at e_
                have eg : w.heap.size = g := by simpa [Value.ownBlock] using e_
                rw [← eg, HD2.out.box] at hh
                injection hh with hh
                injection hh with _ ht
                exact absurd ht (by decide)
            have HOWN := Aside0.mk hown
            have HNE := Aside0.mk hne
            clear hne
            clear hFx hown
            go_wp2_with (at_builtin; go_must (refine Kd.N_append k24 (w0 := w) (W := w2.alloc _) w.heap.size rfl (.tmp 44) (.tmp 51) 22 24 _ 72 rfl Tryd.underlying22 info24 rfl (by decide) (by decide) _ ((l.take k).map notS) (notS x) _ (fun _ => True) _ (by rfl) (by rw [World.size_alloc]; rfl) HFX.out ?hok (fun _ _ => trivial) (Kd.N_alloc HN2.out _) (HD2.out.alloc _).below ?hbs ?hln ?_); (case hok => exact fun k_ hk_ => ⟨trivial, fun e_ => by have := HOWN.out k_ e_.symm; rcases hk_ with h_ | h_ <;> omega⟩); (case hbs => exact Nat.le_trans HD2.out.below.size (by simp)); (case hln => simp only [List.length_map, List.length_take]; omega); intro v1 w3 hN3 hB3 hG3 hat3)
            refine ⟨⟨k + 1, by go_num, by omega, fun _ => by omega, ⟨?_⟩, ⟨hB3, ?_⟩⟩, by simp [intOf]; omega⟩
            · rw [List.take_succ_eq_append_getElem hlt, List.map_append, ← HX.out]
              exact hN3
            · exact (hG3.block _ (Nat.lt_of_lt_of_le (Array.getElem?_eq_some_iff.1 HD2.out.box).1 (by simp)) HNE.out).trans ((HD2.out.alloc _).box)
    · have hkn : k = l.length := by omega
      subst hkn
      rw [List.take_length] at HN
      obtain ⟨Ao, co, e5⟩ := Kd.N_slice HN.out
      rw [List.length_map] at e5
      subst e5
      have HLO := Aside0.mk (Kd.N_reads' HN.out).2.1
      have HCO := Aside0.mk (Kd.N_reads' HN.out).2.2
      clear hlt hk h8
      obtain ⟨z0, z1, z2, z3⟩ := HD.out.cells
      have f0 := fun o1 o2 o3 o4 o5 o6 => cell_alloc_some o6 (cell_alloc_some o5 (cell_alloc_some o4 (cell_alloc_some o3 (cell_alloc_some o2 (cell_alloc_some o1 z0)))))
      have f1 := fun o1 o2 o3 o4 o5 o6 => cell_alloc_some o6 (cell_alloc_some o5 (cell_alloc_some o4 (cell_alloc_some o3 (cell_alloc_some o2 (cell_alloc_some o1 z1)))))
      have f2 := fun o1 o2 o3 o4 o5 o6 => cell_alloc_some o6 (cell_alloc_some o5 (cell_alloc_some o4 (cell_alloc_some o3 (cell_alloc_some o2 (cell_alloc_some o1 z2)))))
      have f3 := fun o1 o2 o3 o4 o5 o6 => cell_alloc_some o6 (cell_alloc_some o5 (cell_alloc_some o4 (cell_alloc_some o3 (cell_alloc_some o2 (cell_alloc_some o1 z3)))))
      go_wp2_with fail
      generalize hW9 : World.alloc _ _ = W9
      have hE : DualE w wr W9 A1 s.length c1 e m1 m2 (.slice A l.length c) (.slice Ao l.length co) := by
        rw [← hW9]
        refine ⟨?_, ?_, ?_, ?_, ?_, ?_, ?_, ?_⟩
        · exact (((((HD.out.alloc _).alloc _).alloc _).alloc _).alloc _).alloc _
        · exact below_alloc (below_alloc (below_alloc (below_alloc (below_alloc (below_alloc (Below.refl _ _) _) _) _) _) _) _
        · exact (Below.heap_alloc _ _ _ (by simp; try omega)).trans ((Below.heap_alloc _ _ _ (by simp; try omega)).trans ((Below.heap_alloc _ _ _ (by simp; try omega)).trans ((Below.heap_alloc _ _ _ (by simp; try omega)).trans ((Below.heap_alloc _ _ _ (by simp; try omega)).trans (blk_new _ _)))))
        · exact (Below.heap_alloc _ _ _ (by simp; try omega)).trans ((Below.heap_alloc _ _ _ (by simp; try omega)).trans ((Below.heap_alloc _ _ _ (by simp; try omega)).trans ((Below.heap_alloc _ _ _ (by simp; try omega)).trans (new_blkD _ _ (by simp)))))
        · exact (Below.heap_alloc _ _ _ (by simp; try omega)).trans ((Below.heap_alloc _ _ _ (by simp; try omega)).trans ((Below.heap_alloc _ _ _ (by simp; try omega)).trans (new_blkD _ _ (by simp))))
        · exact (Below.heap_alloc _ _ _ (by simp; try omega)).trans ((Below.heap_alloc _ _ _ (by simp; try omega)).trans (new_blkD _ _ (by simp)))
        · exact (Below.heap_alloc _ _ _ (by simp; try omega)).trans (new_blkD _ _ (by simp))
        · exact new_blkD _ _ (by simp)
      have HE := Aside0.mk hE
      clear hW9 hE f0 f1 f2 f3 z0 z1 z2 z3
      obtain ⟨p, a, h1⟩ : ∃ p a, holdsV ⟨4, 0, noS, 0, 0, [⟨1, 0, noS, 0, 0, l⟩]⟩ s e m1 m2 = (p, a) := ⟨_, _, rfl⟩
      obtain ⟨q, b, h2⟩ : ∃ q b, holdsV ⟨2, 0, noS, 0, 0, l.map notS⟩ s e m1 m2 = (q, b) := ⟨_, _, rfl⟩
      obtain ⟨x, g, h3⟩ : ∃ x g, holdsV ⟨4, 0, noS, 0, 0, [⟨2, 0, noS, 0, 0, l⟩]⟩ s e m1 m2 = (x, g) := ⟨_, _, rfl⟩
      obtain ⟨y, d, h4⟩ : ∃ y d, holdsV ⟨1, 0, noS, 0, 0, l.map notS⟩ s e m1 m2 = (y, d) := ⟨_, _, rfl⟩
      have HP := Aside0.mk (dual_plain s e m1 m2 l p q x y a b g d h1 h2 h3 h4)
      have c1' : ∀ W, DualE w wr W A1 s.length c1 e m1 m2 (.slice A l.length c) (.slice Ao l.length co) → Calls Tryd.prog 12 #[.agg #[.int .i64 4, .int .i64 0, .string noS, .int .i64 0, .int .i64 0, .slice (some ⟨wr.heap.size, 0, none⟩) 1 1], .agg #[.slice A1 s.length c1, .int .i64 e, .int .i64 m1, .int .i64 m2]] W fun en w' => en = .returned (.tuple #[.bool p, .int .i64 a]) ∧ DualE w wr w' A1 s.length c1 e m1 m2 (.slice A l.length c) (.slice Ao l.length co) := fun W h => by
        have hl : Kd.C k24 W A l.length l := Kd.C_below HC.out h.base.below
        have hr := C_of_reps h.k0 ((Reps.none _ _).snoc (k24_mk W ⟨1, 0, noS, 0, 0, l⟩ hc hl) rfl) (by simp)
        have := holdsV_calls ⟨4, 0, noS, 0, 0, [⟨1, 0, noS, 0, 0, l⟩]⟩ (some ⟨wr.heap.size, 0, none⟩) 1 A1 c1 s e m1 m2 W hr (Nat.le_refl _) (Kd.C_below HSI.out h.base.below) hcS (HK.out.below h.base.below)
        rw [h1] at this
        exact this.mono fun _ _ ⟨he, hb⟩ => ⟨he, h.step hb⟩
      have c3' : ∀ W, DualE w wr W A1 s.length c1 e m1 m2 (.slice A l.length c) (.slice Ao l.length co) → Calls Tryd.prog 12 #[.agg #[.int .i64 4, .int .i64 0, .string noS, .int .i64 0, .int .i64 0, .slice (some ⟨wr.heap.size + 1 + 1 + 1, 0, none⟩) 1 1], .agg #[.slice A1 s.length c1, .int .i64 e, .int .i64 m1, .int .i64 m2]] W fun en w' => en = .returned (.tuple #[.bool x, .int .i64 g]) ∧ DualE w wr w' A1 s.length c1 e m1 m2 (.slice A l.length c) (.slice Ao l.length co) := fun W h => by
        have hl : Kd.C k24 W A l.length l := Kd.C_below HC.out h.base.below
        have hr := C_of_reps h.k3 ((Reps.none _ _).snoc (k24_mk W ⟨2, 0, noS, 0, 0, l⟩ hc hl) rfl) (by simp)
        have := holdsV_calls ⟨4, 0, noS, 0, 0, [⟨2, 0, noS, 0, 0, l⟩]⟩ (some ⟨wr.heap.size + 1 + 1 + 1, 0, none⟩) 1 A1 c1 s e m1 m2 W hr (Nat.le_refl _) (Kd.C_below HSI.out h.base.below) hcS (HK.out.below h.base.below)
        rw [h3] at this
        exact this.mono fun _ _ ⟨he, hb⟩ => ⟨he, h.step hb⟩
      have hln : (l.map notS).length = l.length := List.length_map _
      have c2' : ∀ W, DualE w wr W A1 s.length c1 e m1 m2 (.slice A l.length c) (.slice Ao l.length co) → Calls Tryd.prog 12 #[.agg #[.int .i64 2, .int .i64 0, .string noS, .int .i64 0, .int .i64 0, .slice Ao l.length co], .agg #[.slice A1 s.length c1, .int .i64 e, .int .i64 m1, .int .i64 m2]] W fun en w' => en = .returned (.tuple #[.bool q, .int .i64 b]) ∧ DualE w wr w' A1 s.length c1 e m1 m2 (.slice A l.length c) (.slice Ao l.length co) := fun W h => by
        have := holdsV_calls ⟨2, 0, noS, 0, 0, l.map notS⟩ Ao co A1 c1 s e m1 m2 W (Kd.C_below HCO.out h.old) (by show (l.map notS).length ≤ co; rw [hln]; exact HLO.out) (Kd.C_below HSI.out h.base.below) hcS (HK.out.below h.base.below)
        rw [h2] at this
        simp only [hln] at this
        exact this.mono fun _ _ ⟨he, hb⟩ => ⟨he, h.step hb⟩
      have c4' : ∀ W, DualE w wr W A1 s.length c1 e m1 m2 (.slice A l.length c) (.slice Ao l.length co) → Calls Tryd.prog 12 #[.agg #[.int .i64 1, .int .i64 0, .string noS, .int .i64 0, .int .i64 0, .slice Ao l.length co], .agg #[.slice A1 s.length c1, .int .i64 e, .int .i64 m1, .int .i64 m2]] W fun en w' => en = .returned (.tuple #[.bool y, .int .i64 d]) ∧ DualE w wr w' A1 s.length c1 e m1 m2 (.slice A l.length c) (.slice Ao l.length co) := fun W h => by
        have := holdsV_calls ⟨1, 0, noS, 0, 0, l.map notS⟩ Ao co A1 c1 s e m1 m2 W (Kd.C_below HCO.out h.old) (by show (l.map notS).length ≤ co; rw [hln]; exact HLO.out) (Kd.C_below HSI.out h.base.below) hcS (HK.out.below h.base.below)
        rw [h4] at this
        simp only [hln] at this
        exact this.mono fun _ _ ⟨he, hb⟩ => ⟨he, h.step hb⟩
      have C1 := Aside0.mk c1'
      have C2 := Aside0.mk c2'
      have C3 := Aside0.mk c3'
      have C4 := Aside0.mk c4'
      clear c1' c2' c3' c4' hln h1 h2 h3 h4
      refine (C1.out _ HE.out).mono ?_
      rintro en w' ⟨rfl, hE2⟩
      obtain ⟨z0, z1, z2, z3⟩ := hE2.base.cells
      obtain ⟨e0, e1, e2, e3, e4, e5⟩ := SaneW.cellAt (w := w) hE2.k2
      have HE2 := Aside0.mk hE2
      clear hE2
      go_wp2_with fail
      refine (C2.out _ HE2.out).mono ?_
      rintro en w' ⟨rfl, hE3⟩
      clear z0 z1 z2 z3 e0 e1 e2 e3 e4 e5
      obtain ⟨z0, z1, z2, z3⟩ := hE3.base.cells
      obtain ⟨e0, e1, e2, e3, e4, e5⟩ := SaneW.cellAt (w := w) hE3.k4
      have HE3 := Aside0.mk hE3
      clear hE3
      go_wp2_with fail
      refine (C3.out _ HE3.out).mono ?_
      rintro en w' ⟨rfl, hE4⟩
      clear z0 z1 z2 z3 e0 e1 e2 e3 e4 e5
      obtain ⟨z0, z1, z2, z3⟩ := hE4.base.cells
      obtain ⟨e0, e1, e2, e3, e4, e5⟩ := SaneW.cellAt (w := w) hE4.k5
      have HE4 := Aside0.mk hE4
      clear hE4
      go_wp2_with fail
      refine (C4.out _ HE4.out).mono ?_
      rintro en w' ⟨rfl, hE5⟩
      clear z0 z1 z2 z3 e0 e1 e2 e3 e4 e5
      have HB5 := Aside0.mk hE5.base.below
      clear hE5
      by_cases ha : a = 0
      · subst ha
        by_cases hb : b = 0
        · subst hb
          by_cases hg : g = 0
          · subst hg
            by_cases hd : d = 0
            · subst hd
              obtain ⟨rfl, rfl⟩ := HP.out rfl rfl rfl rfl
              cases p <;> cases x
              all_goals
                go_wp2
                go_ret
                exact ⟨rfl, HB5.out⟩
            · have t : (d != 0) = true := by simpa using hd
              clear hd
              go_wp2
              go_ret
              exact ⟨rfl, HB5.out⟩
          · have t : (g != 0) = true := by simpa using hg
            clear hg
            go_wp2
            go_ret
            exact ⟨rfl, HB5.out⟩
        · have t : (b != 0) = true := by simpa using hb
          clear hb
          go_wp2
          go_ret
          exact ⟨rfl, HB5.out⟩
      · have t : (a != 0) = true := by simpa using ha
        clear ha
        go_wp2
        go_ret
        exact ⟨rfl, HB5.out⟩
open Classical in
noncomputable def sizarlaw12_RulesDual.f (k : Nat) (l : List S24) (s : List S49) (e m1 m2 : Int) : Option Bool := if ∀ x ∈ l, okR x then some true else none
theorem sizarlaw12_RulesDual.calls (k : Nat) (A : Option Addr) (c : Nat) (l : List S24) (A1 : Option Addr) (c1 : Nat) (s : List S49) (e m1 m2 : Int) (r : Bool) (w : World) (hC : Kd.C k24 w A l.length l) (hc : l.length ≤ c) (hS : Kd.C k49 w A1 s.length s) (hcS : s.length ≤ c1) (h : sizarlaw12_RulesDual.f k l s e m1 m2 = some r) (hK : KindsAt w) :
    Calls Tryd.prog 9 #[.slice A l.length c, .agg #[.slice A1 s.length c1, .int .i64 e, .int .i64 m1, .int .i64 m2]] w fun en w' => en = .returned (.bool r) ∧ Below w.heap.size w w' := by
  unfold sizarlaw12_RulesDual.f at h
  split at h
  · obtain rfl := Option.some.inj h
    exact dual_walk A c l A1 c1 s e m1 m2 w hC hc hS hcS hK ‹_›
  · cases h
theorem RulesDual_pure (l : List S24) (s : List S49) (e m1 m2 : Int) (hl : (∀ x ∈ l, okR x) ∧ l.length * Tryd.prog.bytesOf 24 ≤ reachBytes) (_ : l.length ≤ 9223372036854775807) (_ : s.length ≤ 9223372036854775807) : ∃ k, sizarlaw12_RulesDual.f k l s e m1 m2 = some true :=
  ⟨0, by unfold sizarlaw12_RulesDual.f; rw [if_pos hl.1]⟩
end Go.Proofs.YtabocfninjankaaDoor.P
namespace Go.Proofs.YtabocfninjankaaDoor.rulesDual
open Go.ChangeShapes Go.WideShapes Go.ChangeAt Go.RowKit
open Go.Proofs.YtabocfninjankaaDoor.P
set_option linter.unusedVariables false
theorem own : ownKnob Tryd.prog.godebug = none := by kernel_rfl
theorem laidOut : laidOutB Tryd.prog = true := by kernel_rfl
abbrev laid : List (String × DataW Unit) := [("sizar/rules.kinds", Rows.laid_sizar_rules_kinds)]
set_option maxRecDepth 100000 in
theorem door_met (os : Os) (args : Array Value) : laidMetH Tryd.prog laid ((World.doorLaid Tryd.prog 600 os).forCall (fun _ _ => 0) ⟨#[], args, []⟩).memory :=
  laidMetH_of_parts3 (fuel := 8) (laidMet_of_run' 8 (by kernel_rfl) (by kernel_rfl)) (by kernel_rfl) (by kernel_rfl)
set_option maxRecDepth 100000 in
set_option maxHeartbeats 1000000 in
theorem lifted (os : Os) (started : os.Started) (H : Type) (enc : TypeId × Value → H) :
    ReturnsInHanded {} Tryd.checked os 9 .any (fun w args => (Rows.rulesDualSpec.pre enc Tryd.prog Tryd.f9 [] false w args ∧ laidMetH Tryd.prog laid w) ∧ sizedMet enc Tryd.prog Tryd.f9 (OpenSpec.ofChange Rows.rulesDualSpec) false w args)
      (Rows.rulesDualSpec.post enc Tryd.prog Tryd.f9 false true false false) := by
  refine returnsInHanded_of_change_and (C := Tryd.checked) (X := fun w _ => laidMetH Tryd.prog laid w) (fun _ _ _ hh h => h.of_heap hh) own started (by kernel_rfl) Tryd.func9
    (ChangeSpec.witness_shaped (enc := enc) (C := Tryd.checked) (os := os) (X := fun w _ => laidMetH Tryd.prog laid w) false (World.doorLaid Tryd.prog 600 os) #[.slice none 0 0, .agg #[.slice none 0 0, .int .i64 0, .int .i64 0, .int .i64 0]] 8 rfl (World.shaped_of_RefB (by kernel_rfl) (by kernel_rfl)) (by kernel_rfl) (by kernel_rfl) (by kernel_rfl) (door_met os _)) ?_
  intro W base args ds gs before hval0 hW hcnd hsz0 hL _
  have hsz : (DataW.weightsEach Tryd.prog (Tryd.f9.params.toList ++ Rows.rulesDualSpec.plain.varTypes Tryd.prog) (ds ++ gs)).all (· ≤ reachBytes) = true := hsz0
  have hval : ∀ (j : Nat) t v, Tryd.f9.params[j]? = some t → args[j]? = some v → Value.okWide Tryd.prog W .any base t v := hval0
  have hW' := hW
  obtain ⟨p, q, hA0, hV, rfl, hfz, hnd⟩ := hW
  have hA : DataW.TrodAll enc Tryd.prog W 0 (fun _ => true) true Tryd.f9.params.toList args.toList ds p := hA0
  rw [Tryd.params9] at hA hval hsz
  obtain ⟨v0, vs0, d0, ds0, p0, q0, hargs, rfl, rfl, h0, r0⟩ := trodAll_cons hA
  obtain ⟨v1, vs1, d1, ds1, p1, q1, rfl, rfl, rfl, h1, r1⟩ := trodAll_cons r0
  obtain ⟨rfl, rfl, rfl⟩ := trodAll_nil r1
  obtain rfl : args = #[v0, v1] := by cases args; simp_all
  obtain ⟨rfl, rfl⟩ := trodVars_none hV
  have k0 := h0
  have lt0 : ∀ x ∈ p0, x.block < W.heap.size := by obtain ⟨m, hm⟩ := k0; exact DataW.trod_lt m _ _ _ hm
  have lg0 : light Tryd.prog 22 d0 := light_each _ _ hsz 0 _ _ rfl rfl
  obtain ⟨fuel0, hf0⟩ := h0
  obtain ⟨b0, n0, m0, rfl⟩ := okWide_slice Tryd.underlying22 (hval 0 22 v0 rfl rfl)
  obtain ⟨x0, ⟨A0, c0, e0, l0, r0r⟩, g0⟩ := opn_slice Tryd.underlying22 opn24 cel24 (by decide) H enc W _ _ _ fuel0 _ _ hf0 lg0
  replace e0 : [Value.slice b0 n0 m0] = [.slice A0 x0.length c0] := e0
  injection e0 with e0 _
  injection e0 with e0a e0b e0c
  subst e0a e0b e0c
  have k1 := h1
  have lt1 : ∀ x ∈ p1, x.block < W.heap.size := by obtain ⟨m, hm⟩ := k1; exact DataW.trod_lt m _ _ _ hm
  have lg1 : light Tryd.prog 29 d1 := light_each _ _ hsz 1 _ _ rfl rfl
  obtain ⟨fuel1, hf1⟩ := h1
  obtain ⟨cs1, rfl, hcs1⟩ := okWide_struct Tryd.underlying29 (hval 1 29 v1 rfl rfl)
  obtain ⟨x1, K1, g1⟩ := opn29 H enc W _ _ _ fuel1 _ _ hf1 lg1
  obtain ⟨A1, c1, e1, l1, r1r⟩ := k29_open K1
  replace e1 : cs1.toList = (#[.slice A1 x1.f0.length c1, .int .i64 x1.f1, .int .i64 x1.f2.f0, .int .i64 x1.f2.f1] : Array Value).toList := e1
  obtain rfl := Array.toList_inj.1 e1
  have hKT := of_laid hL
  clear hA0 hval0 hsz0 hsz
  obtain ⟨k, hk⟩ := RulesDual_pure x0 x1.f0 x1.f1 x1.f2.f0 x1.f2.f1 g0 r0r.2.1 g1
  refine (sizarlaw12_RulesDual.calls k b0 m0 x0 A1 c1 x1.f0 x1.f1 x1.f2.f0 x1.f2.f1 true W r0r l0 r1r l1 hk hKT).mono fun e W' ⟨he, bel⟩ => ?_
  subst he
  exact ⟨_, rfl, _, _, _, [], _, [], hW', trodAll_mk1 (shut_bool Tryd.underlying4 _), (trodAll_cons_mk (Below.trod laidOut (by kernel_rfl) (of_decide_eq_true (by kernel_rfl)) k0 bel lt0) (trodAll_cons_mk (Below.trod laidOut (by kernel_rfl) (of_decide_eq_true (by kernel_rfl)) k1 bel lt1) trodAll_mk0)), rfl, bel.frame _, fun h => by cases h⟩
theorem over : Rows.rulesDualRow.holds Tryd.pinned (OpenSpec.ofChange Rows.rulesDualSpec) :=
  OpenClaim.holds_of_wide 9 Tryd.f9 rfl rfl rfl rfl rfl rfl rfl ⟨rfl, rfl, rfl, rfl, rfl⟩ rfl rfl rfl rfl rfl (by kernel_rfl) Tryd.func9 (by kernel_rfl)
    (of_decide_eq_true (by kernel_rfl)) (by unfold Func.isWrapper; first | (rw [if_pos (by decide +kernel)]; kernel_rfl) | (rw [if_neg (by decide +kernel)]; exact ⟨rfl, rfl⟩))
    (fun os started H enc _ => lifted os started H enc)
theorem card : Rows.RulesDualCardSaid :=
  Claim7.holds_tied_plain_at .later [] [.funcs] true (true, "2fadb4b9a838f57294a20d8f5ec735aff9896364a9ddfdfb30d191a5aaac5261") false
    over (fun _ h => by cases h) (by kernel_rfl) (fun _ h => by cases h) rulesDual_row_tie rfl ⟨rfl, rfl⟩ (by kernel_rfl) rfl
    (fun f fn hf hfn => by
      obtain rfl : f = 9 := Option.some.inj ((show Tryd.prog.funcNamed "sizar/sizarlaw12.RulesDual" = some 9 by kernel_rfl).symm.trans hf) |>.symm
      obtain rfl : fn = Tryd.f9 := (Option.some.inj (Tryd.func9.symm.trans hfn)).symm
      exact ⟨by kernel_rfl, fun j t ht => by
        rw [Tryd.params9] at ht
        have hm : t ∈ [22, 29] := by simpa using Array.mem_of_getElem? ht
        have hall : ([22, 29].all fun u => !Tryd.prog.wantsStandIn u) = true := by kernel_rfl
        exact (show Tryd.prog.wantsStandIn t = false by simpa using List.all_eq_true.1 hall t hm)⟩)
    (by kernel_rfl)
end Go.Proofs.YtabocfninjankaaDoor.rulesDual
namespace Go.Proofs.YtabocfninjankaaDoor
/-- The tied card, under a short name, for the claim. -/
theorem rulesDual_holds : Rows.RulesDualCardSaid := rulesDual.card
end Go.Proofs.YtabocfninjankaaDoor
