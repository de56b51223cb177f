/- Texts of this claim, one behind the other: Px15, PureC, LawIndexBuilt. Merged by wip/mkmerge.py. -/
import Derived.Test.YtodmmckieoakjaaCaBt1
import Derived.Test.YtodmmckieoakjaaCaBt2
import Derived.Test.YtodmmckieoakjaaCaBt3
import Derived.Test.YtodmmckieoakjaaRows
import Derived.WalkKit
import Derived.ProofKit
import Derived.OpenShut
import Derived.ShutString
import Derived.ChangeOld
import Derived.Below
import Derived.SizedLaws
namespace Go.Proofs.Ytodmmckieoakjaa.P
open Go.RowKit Go.Proofs.YtodmmckieoakjaaW.PrintWords Go.Proofs.YtodmmckieoakjaaW.PrintLast Go.Proofs.YtodmmckieoakjaaW.PrintMore
attribute [local go_sem] max2_int min2_int max_two min_two max_three min_three max_four min_four   -- for this text's walks alone
set_option linter.unusedVariables false
set_option linter.unusedSimpArgs false
attribute [local go_sem high] eqA47 eqA49
mutual
def sizarlaw35_IndexBuilt.j0 : Nat → List (S35) → Bool → List (S49) → Option (Bool)
 | 0, _, _, _ => none
 | k + 1, x0, x34, x320000 => if x34 = true then (some false) else (sizarlaw35_IndexBuilt.l0 k x0 0 x320000)
def sizarlaw35_IndexBuilt.l0 : Nat → List (S35) → Int → List (S49) → Option (Bool)
 | 0, _, _, _ => none
 | k + 1, x0, x4, x320000 => if x4 < (x0.length : Int) then (sizarlaw35_IndexBuilt.l1 k x0 x4 0 x320000) else (sizarlaw35_IndexBuilt.l3 k x0 0 x320000)
def sizarlaw35_IndexBuilt.l1 : Nat → List (S35) → Int → Int → List (S49) → Option (Bool)
 | 0, _, _, _, _ => none
 | k + 1, x0, x4, x5, x320000 => if 0 ≤ x4 then (if x4 < (x0.length : Int) then (if x5 < (((rd_T35 x0 x4).f5).length : Int) then (sizarlaw35_IndexBuilt.l2 k x0 x4 x5 false 0 x320000) else (sizarlaw35_IndexBuilt.l0 k x0 (wrap64 (x4 + 1)) x320000)) else (none)) else (none)
def sizarlaw35_IndexBuilt.l2 : Nat → List (S35) → Int → Int → Bool → Int → List (S49) → Option (Bool)
 | 0, _, _, _, _, _, _ => none
 | k + 1, x0, x4, x5, x6, x7, x320000 => if x7 < (x320000.length : Int) then (if x6 = true then (sizarlaw35_IndexBuilt.l2 k x0 x4 x5 true (wrap64 (x7 + 1)) x320000) else (if 0 ≤ x7 then (if 0 ≤ x4 then (if x4 < (x0.length : Int) then (if 0 ≤ x5 then (if x5 < (((rd_T35 x0 x4).f5).length : Int) then (sizarlaw35_IndexBuilt.l2 k x0 x4 x5 (((((rd_T49 x320000 x7).f0.f0.f0) == ((rd_T47 ((rd_T35 x0 x4).f5) x5).f0.f0) && (((rd_T49 x320000 x7).f0.f0.f1) == ((rd_T47 ((rd_T35 x0 x4).f5) x5).f0.f1) && (((rd_T49 x320000 x7).f0.f0.f2) == ((rd_T47 ((rd_T35 x0 x4).f5) x5).f0.f2)))) && (((rd_T49 x320000 x7).f0.f1) == ((rd_T47 ((rd_T35 x0 x4).f5) x5).f1) && (((rd_T49 x320000 x7).f0.f2) == ((rd_T47 ((rd_T35 x0 x4).f5) x5).f2)))) && (((rd_T49 x320000 x7).f1) == x4)) (wrap64 (x7 + 1)) x320000) else (none)) else (none)) else (none)) else (none)) else (none))) else (if x6 = true then (sizarlaw35_IndexBuilt.l1 k x0 x4 (wrap64 (x5 + 1)) x320000) else (some false))
def sizarlaw35_IndexBuilt.l3 : Nat → List (S35) → Int → List (S49) → Option (Bool)
 | 0, _, _, _ => none
 | k + 1, x0, x8, x320000 => if x8 < (x320000.length : Int) then (if 0 ≤ x8 then (sizarlaw35_IndexBuilt.l4 k x0 x8 false ((rd_T49 x320000 x8).f1) 0 x320000) else (none)) else (some true)
def sizarlaw35_IndexBuilt.l4 : Nat → List (S35) → Int → Bool → Int → Int → List (S49) → Option (Bool)
 | 0, _, _, _, _, _, _ => none
 | k + 1, x0, x8, x9, x10, x11, x320000 => if x10 ≥ 0 then (if x10 < (x0.length : Int) then (if 0 ≤ x10 then (if x11 < (((rd_T35 x0 x10).f5).length : Int) then (if x9 = true then (sizarlaw35_IndexBuilt.l4 k x0 x8 true x10 (wrap64 (x11 + 1)) x320000) else (if 0 ≤ x11 then (if 0 ≤ x8 then (if x8 < (x320000.length : Int) then (sizarlaw35_IndexBuilt.l4 k x0 x8 ((((rd_T47 ((rd_T35 x0 x10).f5) x11).f0.f0) == ((rd_T49 x320000 x8).f0.f0.f0) && (((rd_T47 ((rd_T35 x0 x10).f5) x11).f0.f1) == ((rd_T49 x320000 x8).f0.f0.f1) && (((rd_T47 ((rd_T35 x0 x10).f5) x11).f0.f2) == ((rd_T49 x320000 x8).f0.f0.f2)))) && (((rd_T47 ((rd_T35 x0 x10).f5) x11).f1) == ((rd_T49 x320000 x8).f0.f1) && (((rd_T47 ((rd_T35 x0 x10).f5) x11).f2) == ((rd_T49 x320000 x8).f0.f2)))) x10 (wrap64 (x11 + 1)) x320000) else (none)) else (none)) else (none))) else (if x9 = true then (sizarlaw35_IndexBuilt.l3 k x0 (wrap64 (x8 + 1)) x320000) else (some false))) else (none)) else (if x9 = true then (sizarlaw35_IndexBuilt.l3 k x0 (wrap64 (x8 + 1)) x320000) else (some false))) else (if x9 = true then (sizarlaw35_IndexBuilt.l3 k x0 (wrap64 (x8 + 1)) x320000) else (some false))
end
def sizarlaw35_IndexBuilt.f (k : Nat) (l0 : List (S35)) : Option (Bool) := (sizarlaw35_sane.f k).bind fun t314 => (if t314 = true then ((sizarref35_Few.f k l0).bind fun t315 => (if t315 = true then ((index_Build.f l0).bind fun t316 => ((index_Check.f k t316 (l0.length : Int)).bind fun t320 => (if t320 = 0 then (if (l0.length : Int) = 0 then (sizarlaw35_IndexBuilt.j0 k l0 (decide ((t316.length : Int) > 0)) t316) else (sizarlaw35_IndexBuilt.j0 k l0 false t316)) else (sizarlaw35_IndexBuilt.j0 k l0 true t316)))) else (some true))) else (some false))
set_option maxHeartbeats 8000000 in
set_option maxRecDepth 100000 in
theorem sizarlaw35_IndexBuilt.calls (k : Nat) (A0 : Option Addr) (c0 : Nat) (l0 : List (S35)) (r : Bool) (w : World) (hr0 : Kd.C k35 w A0 l0.length l0) (hc0 : l0.length ≤ c0) (h : sizarlaw35_IndexBuilt.f k l0 = some r) :
  Calls Try.prog 6 #[.slice A0 l0.length c0] w fun e w' => e = .returned (.bool r) ∧ Below w.heap.size w w' := by
 have hu28 := Try.underlying28
 have hu49 := Try.underlying49
 have hu47 := Try.underlying47
 have HR0 := Aside0.mk hr0
 have HC0 := Aside0.mk hc0
 clear hr0 hc0
 have HB := Aside0.mk (Below.refl w.heap.size w)
 have H : ((sizarlaw35_sane.f k).bind fun t314 => (if t314 = true then ((sizarref35_Few.f k l0).bind fun t315 => (if t315 = true then ((index_Build.f l0).bind fun t316 => ((index_Check.f k t316 (l0.length : Int)).bind fun t320 => (if t320 = 0 then (if (l0.length : Int) = 0 then (sizarlaw35_IndexBuilt.j0 k l0 (decide ((t316.length : Int) > 0)) t316) else (sizarlaw35_IndexBuilt.j0 k l0 false t316)) else (sizarlaw35_IndexBuilt.j0 k l0 true t316)))) else (some true))) else (some false))) = some r := h
 clear h
 replace H := Option.bind_eq_some_iff.mp H
 obtain ⟨t314, A20, H⟩ := H
 replace H : (if t314 = true then ((sizarref35_Few.f k l0).bind fun t315 => (if t315 = true then ((index_Build.f l0).bind fun t316 => ((index_Check.f k t316 (l0.length : Int)).bind fun t320 => (if t320 = 0 then (if (l0.length : Int) = 0 then (sizarlaw35_IndexBuilt.j0 k l0 (decide ((t316.length : Int) > 0)) t316) else (sizarlaw35_IndexBuilt.j0 k l0 false t316)) else (sizarlaw35_IndexBuilt.j0 k l0 true t316)))) else (some true))) else (some false)) = some r := H
 have A2 := Aside0.mk A20
 clear A20
 by_cases c3 : t314 = true
 ·subst c3
  have H1 : ((sizarref35_Few.f k l0).bind fun t315 => (if t315 = true then ((index_Build.f l0).bind fun t316 => ((index_Check.f k t316 (l0.length : Int)).bind fun t320 => (if t320 = 0 then (if (l0.length : Int) = 0 then (sizarlaw35_IndexBuilt.j0 k l0 (decide ((t316.length : Int) > 0)) t316) else (sizarlaw35_IndexBuilt.j0 k l0 false t316)) else (sizarlaw35_IndexBuilt.j0 k l0 true t316)))) else (some true))) = some r := by rw [if_pos rfl] at H; exact H
  clear H
  have H := H1
  clear H1
  replace H := Option.bind_eq_some_iff.mp H
  obtain ⟨t315, A40, H⟩ := H
  replace H : (if t315 = true then ((index_Build.f l0).bind fun t316 => ((index_Check.f k t316 (l0.length : Int)).bind fun t320 => (if t320 = 0 then (if (l0.length : Int) = 0 then (sizarlaw35_IndexBuilt.j0 k l0 (decide ((t316.length : Int) > 0)) t316) else (sizarlaw35_IndexBuilt.j0 k l0 false t316)) else (sizarlaw35_IndexBuilt.j0 k l0 true t316)))) else (some true)) = some r := H
  have A4 := Aside0.mk A40
  clear A40
  by_cases c5 : t315 = true
  ·subst c5
   have H1 : ((index_Build.f l0).bind fun t316 => ((index_Check.f k t316 (l0.length : Int)).bind fun t320 => (if t320 = 0 then (if (l0.length : Int) = 0 then (sizarlaw35_IndexBuilt.j0 k l0 (decide ((t316.length : Int) > 0)) t316) else (sizarlaw35_IndexBuilt.j0 k l0 false t316)) else (sizarlaw35_IndexBuilt.j0 k l0 true t316)))) = some r := by rw [if_pos rfl] at H; exact H
   clear H
   have H := H1
   clear H1
   replace H := Option.bind_eq_some_iff.mp H
   obtain ⟨t316, A60, H⟩ := H
   replace H : ((index_Check.f k t316 (l0.length : Int)).bind fun t320 => (if t320 = 0 then (if (l0.length : Int) = 0 then (sizarlaw35_IndexBuilt.j0 k l0 (decide ((t316.length : Int) > 0)) t316) else (sizarlaw35_IndexBuilt.j0 k l0 false t316)) else (sizarlaw35_IndexBuilt.j0 k l0 true t316))) = some r := H
   have A6 := Aside0.mk A60
   clear A60
   have HC7 := Aside0.mk H
   clear H
   go_enter Try.func6, Try.ntmps6
   go_upto_region 6 with (first | (go_at_call 10; (with_reducible refine (sizarlaw35_sane.calls k  true _ A2.out).mono ?_); rintro e w8 ⟨rfl, hb⟩; have n0_ := Aside0.mk (below_step (by repeat (first | (with_reducible first | exact HB.out | apply below_alloc | apply pw_below_drewN | apply below_drew1) | exact HB.out)) hb); clear HB; have HB := n0_; clear n0_; (try clear hb); (try clear hb2); (try clear hk); (try clear hi)) | (go_at_call 11; (with_reducible refine (sizarref35_Few.calls k _ _ l0 true _ ?side1 ?side2 A4.out).mono ?_); (case side1 => repeat (first | exact (Kd.C_below HR0.out HB.out) | (with_reducible refine Kd.C_alloc ?_ _) | (with_reducible refine Kd.C_drewN ?_ _) | (with_reducible refine Kd.C_drew ?_))); (case side2 => exact HC0.out); rintro e w' ⟨rfl, ⟨nd, rfl⟩⟩; (try first | exact ⟨rfl, _, World.drewN_drewN _ _ _⟩ | exact ⟨rfl, _, Eq.trans (World.drewN_drewN _ _ _) (congrArg (World.drewN _) (Nat.add_assoc _ _ _))⟩)) | (go_at_call 13; (with_reducible refine (index_Build.calls _ _ l0 t316 _ ?side1 ?side2 A6.out).mono ?_); (case side1 => repeat (first | exact (Kd.C_below HR0.out (by repeat (first | (with_reducible first | exact HB.out | apply below_alloc | apply pw_below_drewN | apply below_drew1) | exact HB.out))) | (with_reducible refine Kd.C_alloc ?_ _) | (with_reducible refine Kd.C_drewN ?_ _) | (with_reducible refine Kd.C_drew ?_))); (case side2 => exact HC0.out); rintro e w9 ⟨v317, rfl, ho0, hb⟩; have n0_ := Aside0.mk (Kd.R_lower ho0 (below_size (by repeat (first | (with_reducible first | exact HB.out | apply below_alloc | apply pw_below_drewN | apply below_drew1) | exact HB.out)))); have n1_ := Aside0.mk (below_step (by repeat (first | (with_reducible first | exact HB.out | apply below_alloc | apply pw_below_drewN | apply below_drew1) | exact HB.out)) hb); clear HB; have HO318 := n0_; have HB := n1_; clear n0_ n1_; (try clear hb); (try clear hb2); (try clear hk); (try clear hi); (try clear ho0)) | ((with_reducible refine gate_dst (N := 3) rfl ?_); (try (refine gate_guard (by rfl) ?_; dsimp only)); refine box_event ?hg (N := 3) ?hd (cs := #[.slice none 0 0]) (t := 28) ?hr ?_; (case hd => rfl); (case hg => rfl); (case hr => first | (go_simp; done) | (go_simp; rfl)); intro gb319 hg w10 hbox hb; have n0_ := Aside0.mk (Kd.R_below (by (with_reducible repeat (first | apply Kd.R_alloc | apply Kd.R_drewN | apply Kd.R_drew)); exact HO318.out) hb); have n1_ := Aside0.mk (below_step (by repeat (first | (with_reducible first | exact HB.out | apply below_alloc | apply pw_below_drewN | apply below_drew1) | exact HB.out)) hb); have n2_ := Aside0.mk (hbox); have n3_ := Aside0.mk ((by rw [hg]; exact (below_size (by repeat (first | (with_reducible first | exact HB.out | apply below_alloc | apply pw_below_drewN | apply below_drew1) | exact HB.out))) : w.heap.size ≤ gb319)); have n4_ := Aside0.mk ((by rw [hg]; exact (below_size (by repeat (first | (with_reducible first | exact HB.out | apply below_alloc | apply pw_below_drewN | apply below_drew1) | exact HB.out))) : w.heap.size ≤ gb319)); clear HO318; clear HB; have HO318 := n0_; have HB := n1_; have BK319 := n2_; have GW319 := n3_; have GE319 := n4_; clear n0_ n1_ n2_ n3_ n4_; clear hb hbox hg; obtain ⟨Ao11, co11, eo11⟩ := Kd.R_slice HO318.out; subst eo11; have hcz12_0 : w10.cell? ⟨gb319, 0, none⟩ = some (.slice none 0 0) := (blk_cell BK319.out 0).trans rfl; have hfz12_0 := blk_frozen BK319.out 0))
   repeat (go_quiet (first | (go_at_call 10; (with_reducible refine (sizarlaw35_sane.calls k  true _ A2.out).mono ?_); rintro e w8 ⟨rfl, hb⟩; have n0_ := Aside0.mk (below_step (by repeat (first | (with_reducible first | exact HB.out | apply below_alloc | apply pw_below_drewN | apply below_drew1) | exact HB.out)) hb); clear HB; have HB := n0_; clear n0_; (try clear hb); (try clear hb2); (try clear hk); (try clear hi)) | (go_at_call 11; (with_reducible refine (sizarref35_Few.calls k _ _ l0 true _ ?side1 ?side2 A4.out).mono ?_); (case side1 => repeat (first | exact (Kd.C_below HR0.out HB.out) | (with_reducible refine Kd.C_alloc ?_ _) | (with_reducible refine Kd.C_drewN ?_ _) | (with_reducible refine Kd.C_drew ?_))); (case side2 => exact HC0.out); rintro e w' ⟨rfl, ⟨nd, rfl⟩⟩; (try first | exact ⟨rfl, _, World.drewN_drewN _ _ _⟩ | exact ⟨rfl, _, Eq.trans (World.drewN_drewN _ _ _) (congrArg (World.drewN _) (Nat.add_assoc _ _ _))⟩)) | (go_at_call 13; (with_reducible refine (index_Build.calls _ _ l0 t316 _ ?side1 ?side2 A6.out).mono ?_); (case side1 => repeat (first | exact (Kd.C_below HR0.out (by repeat (first | (with_reducible first | exact HB.out | apply below_alloc | apply pw_below_drewN | apply below_drew1) | exact HB.out))) | (with_reducible refine Kd.C_alloc ?_ _) | (with_reducible refine Kd.C_drewN ?_ _) | (with_reducible refine Kd.C_drew ?_))); (case side2 => exact HC0.out); rintro e w9 ⟨v317, rfl, ho0, hb⟩; have n0_ := Aside0.mk (Kd.R_lower ho0 (below_size (by repeat (first | (with_reducible first | exact HB.out | apply below_alloc | apply pw_below_drewN | apply below_drew1) | exact HB.out)))); have n1_ := Aside0.mk (below_step (by repeat (first | (with_reducible first | exact HB.out | apply below_alloc | apply pw_below_drewN | apply below_drew1) | exact HB.out)) hb); clear HB; have HO318 := n0_; have HB := n1_; clear n0_ n1_; (try clear hb); (try clear hb2); (try clear hk); (try clear hi); (try clear ho0)) | ((with_reducible refine gate_dst (N := 3) rfl ?_); (try (refine gate_guard (by rfl) ?_; dsimp only)); refine box_event ?hg (N := 3) ?hd (cs := #[.slice none 0 0]) (t := 28) ?hr ?_; (case hd => rfl); (case hg => rfl); (case hr => first | (go_simp; done) | (go_simp; rfl)); intro gb319 hg w10 hbox hb; have n0_ := Aside0.mk (Kd.R_below (by (with_reducible repeat (first | apply Kd.R_alloc | apply Kd.R_drewN | apply Kd.R_drew)); exact HO318.out) hb); have n1_ := Aside0.mk (below_step (by repeat (first | (with_reducible first | exact HB.out | apply below_alloc | apply pw_below_drewN | apply below_drew1) | exact HB.out)) hb); have n2_ := Aside0.mk (hbox); have n3_ := Aside0.mk ((by rw [hg]; exact (below_size (by repeat (first | (with_reducible first | exact HB.out | apply below_alloc | apply pw_below_drewN | apply below_drew1) | exact HB.out))) : w.heap.size ≤ gb319)); have n4_ := Aside0.mk ((by rw [hg]; exact (below_size (by repeat (first | (with_reducible first | exact HB.out | apply below_alloc | apply pw_below_drewN | apply below_drew1) | exact HB.out))) : w.heap.size ≤ gb319)); clear HO318; clear HB; have HO318 := n0_; have HB := n1_; have BK319 := n2_; have GW319 := n3_; have GE319 := n4_; clear n0_ n1_ n2_ n3_ n4_; clear hb hbox hg; obtain ⟨Ao11, co11, eo11⟩ := Kd.R_slice HO318.out; subst eo11; have hcz12_0 : w10.cell? ⟨gb319, 0, none⟩ = some (.slice none 0 0) := (blk_cell BK319.out 0).trans rfl; have hfz12_0 := blk_frozen BK319.out 0)); go_upto_region 6 with (first | (go_at_call 10; (with_reducible refine (sizarlaw35_sane.calls k  true _ A2.out).mono ?_); rintro e w8 ⟨rfl, hb⟩; have n0_ := Aside0.mk (below_step (by repeat (first | (with_reducible first | exact HB.out | apply below_alloc | apply pw_below_drewN | apply below_drew1) | exact HB.out)) hb); clear HB; have HB := n0_; clear n0_; (try clear hb); (try clear hb2); (try clear hk); (try clear hi)) | (go_at_call 11; (with_reducible refine (sizarref35_Few.calls k _ _ l0 true _ ?side1 ?side2 A4.out).mono ?_); (case side1 => repeat (first | exact (Kd.C_below HR0.out HB.out) | (with_reducible refine Kd.C_alloc ?_ _) | (with_reducible refine Kd.C_drewN ?_ _) | (with_reducible refine Kd.C_drew ?_))); (case side2 => exact HC0.out); rintro e w' ⟨rfl, ⟨nd, rfl⟩⟩; (try first | exact ⟨rfl, _, World.drewN_drewN _ _ _⟩ | exact ⟨rfl, _, Eq.trans (World.drewN_drewN _ _ _) (congrArg (World.drewN _) (Nat.add_assoc _ _ _))⟩)) | (go_at_call 13; (with_reducible refine (index_Build.calls _ _ l0 t316 _ ?side1 ?side2 A6.out).mono ?_); (case side1 => repeat (first | exact (Kd.C_below HR0.out (by repeat (first | (with_reducible first | exact HB.out | apply below_alloc | apply pw_below_drewN | apply below_drew1) | exact HB.out))) | (with_reducible refine Kd.C_alloc ?_ _) | (with_reducible refine Kd.C_drewN ?_ _) | (with_reducible refine Kd.C_drew ?_))); (case side2 => exact HC0.out); rintro e w9 ⟨v317, rfl, ho0, hb⟩; have n0_ := Aside0.mk (Kd.R_lower ho0 (below_size (by repeat (first | (with_reducible first | exact HB.out | apply below_alloc | apply pw_below_drewN | apply below_drew1) | exact HB.out)))); have n1_ := Aside0.mk (below_step (by repeat (first | (with_reducible first | exact HB.out | apply below_alloc | apply pw_below_drewN | apply below_drew1) | exact HB.out)) hb); clear HB; have HO318 := n0_; have HB := n1_; clear n0_ n1_; (try clear hb); (try clear hb2); (try clear hk); (try clear hi); (try clear ho0)) | ((with_reducible refine gate_dst (N := 3) rfl ?_); (try (refine gate_guard (by rfl) ?_; dsimp only)); refine box_event ?hg (N := 3) ?hd (cs := #[.slice none 0 0]) (t := 28) ?hr ?_; (case hd => rfl); (case hg => rfl); (case hr => first | (go_simp; done) | (go_simp; rfl)); intro gb319 hg w10 hbox hb; have n0_ := Aside0.mk (Kd.R_below (by (with_reducible repeat (first | apply Kd.R_alloc | apply Kd.R_drewN | apply Kd.R_drew)); exact HO318.out) hb); have n1_ := Aside0.mk (below_step (by repeat (first | (with_reducible first | exact HB.out | apply below_alloc | apply pw_below_drewN | apply below_drew1) | exact HB.out)) hb); have n2_ := Aside0.mk (hbox); have n3_ := Aside0.mk ((by rw [hg]; exact (below_size (by repeat (first | (with_reducible first | exact HB.out | apply below_alloc | apply pw_below_drewN | apply below_drew1) | exact HB.out))) : w.heap.size ≤ gb319)); have n4_ := Aside0.mk ((by rw [hg]; exact (below_size (by repeat (first | (with_reducible first | exact HB.out | apply below_alloc | apply pw_below_drewN | apply below_drew1) | exact HB.out))) : w.heap.size ≤ gb319)); clear HO318; clear HB; have HO318 := n0_; have HB := n1_; have BK319 := n2_; have GW319 := n3_; have GE319 := n4_; clear n0_ n1_ n2_ n3_ n4_; clear hb hbox hg; obtain ⟨Ao11, co11, eo11⟩ := Kd.R_slice HO318.out; subst eo11; have hcz12_0 : w10.cell? ⟨gb319, 0, none⟩ = some (.slice none 0 0) := (blk_cell BK319.out 0).trans rfl; have hfz12_0 := blk_frozen BK319.out 0)))
   (try simp only [Act.put, List.setIfInBounds_toArray, List.set_cons_zero, List.set_cons_succ])
   go_cut [34] (fun v34 wc => ∃ (kq : Nat) (x34_6 : Bool), v34 = .bool x34_6 ∧ Aside0 (sizarlaw35_IndexBuilt.j0 kq l0 x34_6 t316 = some r) ∧ Aside0 (kq ≤ k) ∧ Aside0 (Kd.R k49 49 wc w.heap.size (fun _ => True) (.slice Ao11 t316.length co11) t316) ∧ Aside0 (wc.heap[gb319]? = some (.cells #[(.slice Ao11 t316.length co11)] 28 (0, 0))) ∧ Aside0 (Below w.heap.size w wc))
   case first =>
    have H := HC7.out
    clear HC7
    replace H := Option.bind_eq_some_iff.mp H
    obtain ⟨t320, A130, H⟩ := H
    replace H : (if t320 = 0 then (if (l0.length : Int) = 0 then (sizarlaw35_IndexBuilt.j0 k l0 (decide ((t316.length : Int) > 0)) t316) else (sizarlaw35_IndexBuilt.j0 k l0 false t316)) else (sizarlaw35_IndexBuilt.j0 k l0 true t316)) = some r := H
    have A13 := Aside0.mk A130
    clear A130
    by_cases c14 : t320 = 0
    ·rw [if_pos c14] at H
     have c14b0 : (t320 == 0) = true := beq_iff_eq.mpr c14
     have c14b1 : (t320 != 0) = false := bne_eq_false_iff_eq.mpr c14
     clear c14
     (first | rw [c14b0] | (simp only [i64_w, i32_w]; rw [c14b0]) | skip)
     by_cases c15 : (l0.length : Int) = 0
     ·rw [if_pos c15] at H
      have c15b0 : ((l0.length : Int) == 0) = true := beq_iff_eq.mpr c15
      have c15b1 : ((l0.length : Int) != 0) = false := bne_eq_false_iff_eq.mpr c15
      clear c15
      have H' := Aside0.mk H
      clear H
      have hcz16_0 : w10.cell? ⟨gb319, 0, none⟩ = some (.slice none 0 0) := (blk_cell BK319.out 0).trans rfl
      have hfz16_0 := blk_frozen BK319.out 0
      go_wp2_with (first | (go_at_call 16; (with_reducible refine (index_Check.calls k _ _ t316 (l0.length : Int) t320 _ ?side1 ?side2 A13.out).mono ?_); (case side1 => refine (Kd.R_reads' (e := 49) (base := w.heap.size) (ok := fun k_ => True) (n := t316.length) (c := co11) ?_).2.2; exact (by (with_reducible repeat (first | apply Kd.R_alloc | apply Kd.R_drewN | apply Kd.R_drew)); exact (Kd.R_mono (Kd.R_far (p := ⟨gb319, 0, none⟩) (Kd.R_types HO318.out BK319.out (by decide)) (fun _ hk => hk.2) (.slice Ao11 t316.length co11)) (fun _ h_ => h_.1)))); (case side2 => exact (Kd.R_reads' HO318.out).2.1); rintro e w17 ⟨rfl, hb⟩; have n0_ := Aside0.mk (Kd.R_below (by (with_reducible repeat (first | apply Kd.R_alloc | apply Kd.R_drewN | apply Kd.R_drew)); exact (Kd.R_mono (Kd.R_far (p := ⟨gb319, 0, none⟩) (Kd.R_types HO318.out BK319.out (by decide)) (fun _ hk => hk.2) (.slice Ao11 t316.length co11)) (fun _ h_ => h_.1))) hb); have n1_ := Aside0.mk (blk_below (g := gb319) (o := .cells #[.slice Ao11 t316.length co11] 28 (0, 0)) (by (with_reducible repeat (first | refine blk_drewN ?_ _ | refine blk_drew ?_ | refine blk_alloc ?_ _)); refine blk_put (cs := #[.slice none 0 0]) ?_ 0 _ rfl; (with_reducible repeat (first | refine blk_drewN ?_ _ | refine blk_drew ?_ | refine blk_alloc ?_ _)); exact BK319.out) hb); have n2_ := Aside0.mk (below_step (by repeat (first | (with_reducible first | exact HB.out | apply below_alloc | apply pw_below_drewN | apply below_drew1 | refine below_set ?_ GE319.out) | exact HB.out)) hb); clear HO318; clear BK319; clear HB; have HO318 := n0_; have BK319 := n1_; have HB := n2_; clear n0_ n1_ n2_; (try clear hb); (try clear hb2); (try clear hk); (try clear hi); have hcz18_0 : w17.cell? ⟨gb319, 0, none⟩ = some (.slice Ao11 t316.length co11) := (blk_cell BK319.out 0).trans rfl; have hfz18_0 := blk_frozen BK319.out 0))
      repeat (go_quiet (first | (go_at_call 16; (with_reducible refine (index_Check.calls k _ _ t316 (l0.length : Int) t320 _ ?side1 ?side2 A13.out).mono ?_); (case side1 => refine (Kd.R_reads' (e := 49) (base := w.heap.size) (ok := fun k_ => True) (n := t316.length) (c := co11) ?_).2.2; exact (by (with_reducible repeat (first | apply Kd.R_alloc | apply Kd.R_drewN | apply Kd.R_drew)); exact (Kd.R_mono (Kd.R_far (p := ⟨gb319, 0, none⟩) (Kd.R_types HO318.out BK319.out (by decide)) (fun _ hk => hk.2) (.slice Ao11 t316.length co11)) (fun _ h_ => h_.1)))); (case side2 => exact (Kd.R_reads' HO318.out).2.1); rintro e w17 ⟨rfl, hb⟩; have n0_ := Aside0.mk (Kd.R_below (by (with_reducible repeat (first | apply Kd.R_alloc | apply Kd.R_drewN | apply Kd.R_drew)); exact (Kd.R_mono (Kd.R_far (p := ⟨gb319, 0, none⟩) (Kd.R_types HO318.out BK319.out (by decide)) (fun _ hk => hk.2) (.slice Ao11 t316.length co11)) (fun _ h_ => h_.1))) hb); have n1_ := Aside0.mk (blk_below (g := gb319) (o := .cells #[.slice Ao11 t316.length co11] 28 (0, 0)) (by (with_reducible repeat (first | refine blk_drewN ?_ _ | refine blk_drew ?_ | refine blk_alloc ?_ _)); refine blk_put (cs := #[.slice none 0 0]) ?_ 0 _ rfl; (with_reducible repeat (first | refine blk_drewN ?_ _ | refine blk_drew ?_ | refine blk_alloc ?_ _)); exact BK319.out) hb); have n2_ := Aside0.mk (below_step (by repeat (first | (with_reducible first | exact HB.out | apply below_alloc | apply pw_below_drewN | apply below_drew1 | refine below_set ?_ GE319.out) | exact HB.out)) hb); clear HO318; clear BK319; clear HB; have HO318 := n0_; have BK319 := n1_; have HB := n2_; clear n0_ n1_ n2_; (try clear hb); (try clear hb2); (try clear hk); (try clear hi); have hcz18_0 : w17.cell? ⟨gb319, 0, none⟩ = some (.slice Ao11 t316.length co11) := (blk_cell BK319.out 0).trans rfl; have hfz18_0 := blk_frozen BK319.out 0)); try go_wp2_with (first | (go_at_call 16; (with_reducible refine (index_Check.calls k _ _ t316 (l0.length : Int) t320 _ ?side1 ?side2 A13.out).mono ?_); (case side1 => refine (Kd.R_reads' (e := 49) (base := w.heap.size) (ok := fun k_ => True) (n := t316.length) (c := co11) ?_).2.2; exact (by (with_reducible repeat (first | apply Kd.R_alloc | apply Kd.R_drewN | apply Kd.R_drew)); exact (Kd.R_mono (Kd.R_far (p := ⟨gb319, 0, none⟩) (Kd.R_types HO318.out BK319.out (by decide)) (fun _ hk => hk.2) (.slice Ao11 t316.length co11)) (fun _ h_ => h_.1)))); (case side2 => exact (Kd.R_reads' HO318.out).2.1); rintro e w17 ⟨rfl, hb⟩; have n0_ := Aside0.mk (Kd.R_below (by (with_reducible repeat (first | apply Kd.R_alloc | apply Kd.R_drewN | apply Kd.R_drew)); exact (Kd.R_mono (Kd.R_far (p := ⟨gb319, 0, none⟩) (Kd.R_types HO318.out BK319.out (by decide)) (fun _ hk => hk.2) (.slice Ao11 t316.length co11)) (fun _ h_ => h_.1))) hb); have n1_ := Aside0.mk (blk_below (g := gb319) (o := .cells #[.slice Ao11 t316.length co11] 28 (0, 0)) (by (with_reducible repeat (first | refine blk_drewN ?_ _ | refine blk_drew ?_ | refine blk_alloc ?_ _)); refine blk_put (cs := #[.slice none 0 0]) ?_ 0 _ rfl; (with_reducible repeat (first | refine blk_drewN ?_ _ | refine blk_drew ?_ | refine blk_alloc ?_ _)); exact BK319.out) hb); have n2_ := Aside0.mk (below_step (by repeat (first | (with_reducible first | exact HB.out | apply below_alloc | apply pw_below_drewN | apply below_drew1 | refine below_set ?_ GE319.out) | exact HB.out)) hb); clear HO318; clear BK319; clear HB; have HO318 := n0_; have BK319 := n1_; have HB := n2_; clear n0_ n1_ n2_; (try clear hb); (try clear hb2); (try clear hk); (try clear hi); have hcz18_0 : w17.cell? ⟨gb319, 0, none⟩ = some (.slice Ao11 t316.length co11) := (blk_cell BK319.out 0).trans rfl; have hfz18_0 := blk_frozen BK319.out 0)))
      go_meet
      case rel => exact ⟨_, (decide ((t316.length : Int) > 0)), (by first | rfl | (simp; done) | (simp [*]; done)), H', ⟨by first | omega | exact Nat.le_refl _⟩, ⟨by (with_reducible repeat (first | apply Kd.R_alloc | apply Kd.R_drewN | apply Kd.R_drew)); exact HO318.out⟩, ⟨by (with_reducible repeat (first | refine blk_drewN ?_ _ | refine blk_drew ?_ | refine blk_alloc ?_ _)); exact BK319.out⟩, ⟨by repeat (first | (with_reducible first | exact HB.out | apply below_alloc | apply pw_below_drewN | apply below_drew1 | refine below_set ?_ GE319.out) | exact HB.out)⟩⟩
     ·rw [if_neg c15] at H
      have c15b0 : ((l0.length : Int) == 0) = false := beq_eq_false_iff_ne.mpr c15
      have c15b1 : ((l0.length : Int) != 0) = true := bne_iff_ne.mpr c15
      have c15b2 : ¬ (l0 = []) := fun h_ => c15 (by rw [h_]; rfl)
      have H' := Aside0.mk H
      clear H
      have hcz19_0 : w10.cell? ⟨gb319, 0, none⟩ = some (.slice none 0 0) := (blk_cell BK319.out 0).trans rfl
      have hfz19_0 := blk_frozen BK319.out 0
      go_wp2_with (first | (go_at_call 16; (with_reducible refine (index_Check.calls k _ _ t316 (l0.length : Int) t320 _ ?side1 ?side2 A13.out).mono ?_); (case side1 => refine (Kd.R_reads' (e := 49) (base := w.heap.size) (ok := fun k_ => True) (n := t316.length) (c := co11) ?_).2.2; exact (by (with_reducible repeat (first | apply Kd.R_alloc | apply Kd.R_drewN | apply Kd.R_drew)); exact (Kd.R_mono (Kd.R_far (p := ⟨gb319, 0, none⟩) (Kd.R_types HO318.out BK319.out (by decide)) (fun _ hk => hk.2) (.slice Ao11 t316.length co11)) (fun _ h_ => h_.1)))); (case side2 => exact (Kd.R_reads' HO318.out).2.1); rintro e w20 ⟨rfl, hb⟩; have n0_ := Aside0.mk (Kd.R_below (by (with_reducible repeat (first | apply Kd.R_alloc | apply Kd.R_drewN | apply Kd.R_drew)); exact (Kd.R_mono (Kd.R_far (p := ⟨gb319, 0, none⟩) (Kd.R_types HO318.out BK319.out (by decide)) (fun _ hk => hk.2) (.slice Ao11 t316.length co11)) (fun _ h_ => h_.1))) hb); have n1_ := Aside0.mk (blk_below (g := gb319) (o := .cells #[.slice Ao11 t316.length co11] 28 (0, 0)) (by (with_reducible repeat (first | refine blk_drewN ?_ _ | refine blk_drew ?_ | refine blk_alloc ?_ _)); refine blk_put (cs := #[.slice none 0 0]) ?_ 0 _ rfl; (with_reducible repeat (first | refine blk_drewN ?_ _ | refine blk_drew ?_ | refine blk_alloc ?_ _)); exact BK319.out) hb); have n2_ := Aside0.mk (below_step (by repeat (first | (with_reducible first | exact HB.out | apply below_alloc | apply pw_below_drewN | apply below_drew1 | refine below_set ?_ GE319.out) | exact HB.out)) hb); clear HO318; clear BK319; clear HB; have HO318 := n0_; have BK319 := n1_; have HB := n2_; clear n0_ n1_ n2_; (try clear hb); (try clear hb2); (try clear hk); (try clear hi)))
      repeat (go_quiet (first | (go_at_call 16; (with_reducible refine (index_Check.calls k _ _ t316 (l0.length : Int) t320 _ ?side1 ?side2 A13.out).mono ?_); (case side1 => refine (Kd.R_reads' (e := 49) (base := w.heap.size) (ok := fun k_ => True) (n := t316.length) (c := co11) ?_).2.2; exact (by (with_reducible repeat (first | apply Kd.R_alloc | apply Kd.R_drewN | apply Kd.R_drew)); exact (Kd.R_mono (Kd.R_far (p := ⟨gb319, 0, none⟩) (Kd.R_types HO318.out BK319.out (by decide)) (fun _ hk => hk.2) (.slice Ao11 t316.length co11)) (fun _ h_ => h_.1)))); (case side2 => exact (Kd.R_reads' HO318.out).2.1); rintro e w20 ⟨rfl, hb⟩; have n0_ := Aside0.mk (Kd.R_below (by (with_reducible repeat (first | apply Kd.R_alloc | apply Kd.R_drewN | apply Kd.R_drew)); exact (Kd.R_mono (Kd.R_far (p := ⟨gb319, 0, none⟩) (Kd.R_types HO318.out BK319.out (by decide)) (fun _ hk => hk.2) (.slice Ao11 t316.length co11)) (fun _ h_ => h_.1))) hb); have n1_ := Aside0.mk (blk_below (g := gb319) (o := .cells #[.slice Ao11 t316.length co11] 28 (0, 0)) (by (with_reducible repeat (first | refine blk_drewN ?_ _ | refine blk_drew ?_ | refine blk_alloc ?_ _)); refine blk_put (cs := #[.slice none 0 0]) ?_ 0 _ rfl; (with_reducible repeat (first | refine blk_drewN ?_ _ | refine blk_drew ?_ | refine blk_alloc ?_ _)); exact BK319.out) hb); have n2_ := Aside0.mk (below_step (by repeat (first | (with_reducible first | exact HB.out | apply below_alloc | apply pw_below_drewN | apply below_drew1 | refine below_set ?_ GE319.out) | exact HB.out)) hb); clear HO318; clear BK319; clear HB; have HO318 := n0_; have BK319 := n1_; have HB := n2_; clear n0_ n1_ n2_; (try clear hb); (try clear hb2); (try clear hk); (try clear hi))); try go_wp2_with (first | (go_at_call 16; (with_reducible refine (index_Check.calls k _ _ t316 (l0.length : Int) t320 _ ?side1 ?side2 A13.out).mono ?_); (case side1 => refine (Kd.R_reads' (e := 49) (base := w.heap.size) (ok := fun k_ => True) (n := t316.length) (c := co11) ?_).2.2; exact (by (with_reducible repeat (first | apply Kd.R_alloc | apply Kd.R_drewN | apply Kd.R_drew)); exact (Kd.R_mono (Kd.R_far (p := ⟨gb319, 0, none⟩) (Kd.R_types HO318.out BK319.out (by decide)) (fun _ hk => hk.2) (.slice Ao11 t316.length co11)) (fun _ h_ => h_.1)))); (case side2 => exact (Kd.R_reads' HO318.out).2.1); rintro e w20 ⟨rfl, hb⟩; have n0_ := Aside0.mk (Kd.R_below (by (with_reducible repeat (first | apply Kd.R_alloc | apply Kd.R_drewN | apply Kd.R_drew)); exact (Kd.R_mono (Kd.R_far (p := ⟨gb319, 0, none⟩) (Kd.R_types HO318.out BK319.out (by decide)) (fun _ hk => hk.2) (.slice Ao11 t316.length co11)) (fun _ h_ => h_.1))) hb); have n1_ := Aside0.mk (blk_below (g := gb319) (o := .cells #[.slice Ao11 t316.length co11] 28 (0, 0)) (by (with_reducible repeat (first | refine blk_drewN ?_ _ | refine blk_drew ?_ | refine blk_alloc ?_ _)); refine blk_put (cs := #[.slice none 0 0]) ?_ 0 _ rfl; (with_reducible repeat (first | refine blk_drewN ?_ _ | refine blk_drew ?_ | refine blk_alloc ?_ _)); exact BK319.out) hb); have n2_ := Aside0.mk (below_step (by repeat (first | (with_reducible first | exact HB.out | apply below_alloc | apply pw_below_drewN | apply below_drew1 | refine below_set ?_ GE319.out) | exact HB.out)) hb); clear HO318; clear BK319; clear HB; have HO318 := n0_; have BK319 := n1_; have HB := n2_; clear n0_ n1_ n2_; (try clear hb); (try clear hb2); (try clear hk); (try clear hi))))
      go_meet
      case rel => exact ⟨_, (false), (by first | rfl | (simp; done) | (simp [*]; done)), H', ⟨by first | omega | exact Nat.le_refl _⟩, ⟨by (with_reducible repeat (first | apply Kd.R_alloc | apply Kd.R_drewN | apply Kd.R_drew)); exact HO318.out⟩, ⟨by (with_reducible repeat (first | refine blk_drewN ?_ _ | refine blk_drew ?_ | refine blk_alloc ?_ _)); exact BK319.out⟩, ⟨by repeat (first | (with_reducible first | exact HB.out | apply below_alloc | apply pw_below_drewN | apply below_drew1 | refine below_set ?_ GE319.out) | exact HB.out)⟩⟩
    ·rw [if_neg c14] at H
     have c14b0 : (t320 == 0) = false := beq_eq_false_iff_ne.mpr c14
     have c14b1 : (t320 != 0) = true := bne_iff_ne.mpr c14
     (first | rw [c14b0] | (simp only [i64_w, i32_w]; rw [c14b0]) | skip)
     have H' := Aside0.mk H
     clear H
     have hcz21_0 : w10.cell? ⟨gb319, 0, none⟩ = some (.slice none 0 0) := (blk_cell BK319.out 0).trans rfl
     have hfz21_0 := blk_frozen BK319.out 0
     go_wp2_with (first | (go_at_call 16; (with_reducible refine (index_Check.calls k _ _ t316 (l0.length : Int) t320 _ ?side1 ?side2 A13.out).mono ?_); (case side1 => refine (Kd.R_reads' (e := 49) (base := w.heap.size) (ok := fun k_ => True) (n := t316.length) (c := co11) ?_).2.2; exact (by (with_reducible repeat (first | apply Kd.R_alloc | apply Kd.R_drewN | apply Kd.R_drew)); exact (Kd.R_mono (Kd.R_far (p := ⟨gb319, 0, none⟩) (Kd.R_types HO318.out BK319.out (by decide)) (fun _ hk => hk.2) (.slice Ao11 t316.length co11)) (fun _ h_ => h_.1)))); (case side2 => exact (Kd.R_reads' HO318.out).2.1); rintro e w22 ⟨rfl, hb⟩; have n0_ := Aside0.mk (Kd.R_below (by (with_reducible repeat (first | apply Kd.R_alloc | apply Kd.R_drewN | apply Kd.R_drew)); exact (Kd.R_mono (Kd.R_far (p := ⟨gb319, 0, none⟩) (Kd.R_types HO318.out BK319.out (by decide)) (fun _ hk => hk.2) (.slice Ao11 t316.length co11)) (fun _ h_ => h_.1))) hb); have n1_ := Aside0.mk (blk_below (g := gb319) (o := .cells #[.slice Ao11 t316.length co11] 28 (0, 0)) (by (with_reducible repeat (first | refine blk_drewN ?_ _ | refine blk_drew ?_ | refine blk_alloc ?_ _)); refine blk_put (cs := #[.slice none 0 0]) ?_ 0 _ rfl; (with_reducible repeat (first | refine blk_drewN ?_ _ | refine blk_drew ?_ | refine blk_alloc ?_ _)); exact BK319.out) hb); have n2_ := Aside0.mk (below_step (by repeat (first | (with_reducible first | exact HB.out | apply below_alloc | apply pw_below_drewN | apply below_drew1 | refine below_set ?_ GE319.out) | exact HB.out)) hb); clear HO318; clear BK319; clear HB; have HO318 := n0_; have BK319 := n1_; have HB := n2_; clear n0_ n1_ n2_; (try clear hb); (try clear hb2); (try clear hk); (try clear hi)))
     repeat (go_quiet (first | (go_at_call 16; (with_reducible refine (index_Check.calls k _ _ t316 (l0.length : Int) t320 _ ?side1 ?side2 A13.out).mono ?_); (case side1 => refine (Kd.R_reads' (e := 49) (base := w.heap.size) (ok := fun k_ => True) (n := t316.length) (c := co11) ?_).2.2; exact (by (with_reducible repeat (first | apply Kd.R_alloc | apply Kd.R_drewN | apply Kd.R_drew)); exact (Kd.R_mono (Kd.R_far (p := ⟨gb319, 0, none⟩) (Kd.R_types HO318.out BK319.out (by decide)) (fun _ hk => hk.2) (.slice Ao11 t316.length co11)) (fun _ h_ => h_.1)))); (case side2 => exact (Kd.R_reads' HO318.out).2.1); rintro e w22 ⟨rfl, hb⟩; have n0_ := Aside0.mk (Kd.R_below (by (with_reducible repeat (first | apply Kd.R_alloc | apply Kd.R_drewN | apply Kd.R_drew)); exact (Kd.R_mono (Kd.R_far (p := ⟨gb319, 0, none⟩) (Kd.R_types HO318.out BK319.out (by decide)) (fun _ hk => hk.2) (.slice Ao11 t316.length co11)) (fun _ h_ => h_.1))) hb); have n1_ := Aside0.mk (blk_below (g := gb319) (o := .cells #[.slice Ao11 t316.length co11] 28 (0, 0)) (by (with_reducible repeat (first | refine blk_drewN ?_ _ | refine blk_drew ?_ | refine blk_alloc ?_ _)); refine blk_put (cs := #[.slice none 0 0]) ?_ 0 _ rfl; (with_reducible repeat (first | refine blk_drewN ?_ _ | refine blk_drew ?_ | refine blk_alloc ?_ _)); exact BK319.out) hb); have n2_ := Aside0.mk (below_step (by repeat (first | (with_reducible first | exact HB.out | apply below_alloc | apply pw_below_drewN | apply below_drew1 | refine below_set ?_ GE319.out) | exact HB.out)) hb); clear HO318; clear BK319; clear HB; have HO318 := n0_; have BK319 := n1_; have HB := n2_; clear n0_ n1_ n2_; (try clear hb); (try clear hb2); (try clear hk); (try clear hi))); try go_wp2_with (first | (go_at_call 16; (with_reducible refine (index_Check.calls k _ _ t316 (l0.length : Int) t320 _ ?side1 ?side2 A13.out).mono ?_); (case side1 => refine (Kd.R_reads' (e := 49) (base := w.heap.size) (ok := fun k_ => True) (n := t316.length) (c := co11) ?_).2.2; exact (by (with_reducible repeat (first | apply Kd.R_alloc | apply Kd.R_drewN | apply Kd.R_drew)); exact (Kd.R_mono (Kd.R_far (p := ⟨gb319, 0, none⟩) (Kd.R_types HO318.out BK319.out (by decide)) (fun _ hk => hk.2) (.slice Ao11 t316.length co11)) (fun _ h_ => h_.1)))); (case side2 => exact (Kd.R_reads' HO318.out).2.1); rintro e w22 ⟨rfl, hb⟩; have n0_ := Aside0.mk (Kd.R_below (by (with_reducible repeat (first | apply Kd.R_alloc | apply Kd.R_drewN | apply Kd.R_drew)); exact (Kd.R_mono (Kd.R_far (p := ⟨gb319, 0, none⟩) (Kd.R_types HO318.out BK319.out (by decide)) (fun _ hk => hk.2) (.slice Ao11 t316.length co11)) (fun _ h_ => h_.1))) hb); have n1_ := Aside0.mk (blk_below (g := gb319) (o := .cells #[.slice Ao11 t316.length co11] 28 (0, 0)) (by (with_reducible repeat (first | refine blk_drewN ?_ _ | refine blk_drew ?_ | refine blk_alloc ?_ _)); refine blk_put (cs := #[.slice none 0 0]) ?_ 0 _ rfl; (with_reducible repeat (first | refine blk_drewN ?_ _ | refine blk_drew ?_ | refine blk_alloc ?_ _)); exact BK319.out) hb); have n2_ := Aside0.mk (below_step (by repeat (first | (with_reducible first | exact HB.out | apply below_alloc | apply pw_below_drewN | apply below_drew1 | refine below_set ?_ GE319.out) | exact HB.out)) hb); clear HO318; clear BK319; clear HB; have HO318 := n0_; have BK319 := n1_; have HB := n2_; clear n0_ n1_ n2_; (try clear hb); (try clear hb2); (try clear hk); (try clear hi))))
     go_meet
     case rel => exact ⟨_, (true), (by first | rfl | (simp; done) | (simp [*]; done)), H', ⟨by first | omega | exact Nat.le_refl _⟩, ⟨by (with_reducible repeat (first | apply Kd.R_alloc | apply Kd.R_drewN | apply Kd.R_drew)); exact HO318.out⟩, ⟨by (with_reducible repeat (first | refine blk_drewN ?_ _ | refine blk_drew ?_ | refine blk_alloc ?_ _)); exact BK319.out⟩, ⟨by repeat (first | (with_reducible first | exact HB.out | apply below_alloc | apply pw_below_drewN | apply below_drew1 | refine below_set ?_ GE319.out) | exact HB.out)⟩⟩
   case rest =>
    clear HC7
    try clear c1
    try clear p2
    try clear c3
    try clear c5
    try clear c6
    try clear c14
    try clear c14b0
    try clear c14b1
    try clear c15
    try clear c15b0
    try clear c15b1
    try clear c15b2
    try clear hcz12_0
    try clear hcz16_0
    try clear hcz18_0
    try clear hcz19_0
    try clear hcz21_0
    try clear hfz12_0
    try clear hfz16_0
    try clear hfz18_0
    try clear hfz19_0
    try clear hfz21_0
    obtain ⟨kq, x34_6, rfl, HA, HJ6, HO_320000, BK319, HB⟩ := hcut
    cases kq with
    | zero => exact absurd HA.out (by simp [sizarlaw35_IndexBuilt.j0])
    | succ kj6 =>
     have H := HA.out
     clear HA
     simp only [sizarlaw35_IndexBuilt.j0] at H
     by_cases c23 : x34_6 = true
     ·subst c23
      have H1 : (some false) = some r := by rw [if_pos rfl] at H; exact H
      clear H
      have H := H1
      clear H1
      obtain rfl := Option.some.inj H
      go_wp2
      repeat (go_quiet (fail); try go_wp2)
      go_ret
      exact ⟨by first | rfl | (simp [errW_none, errW_some] <;> rfl) | (simp [*, errW_none, errW_some] <;> rfl), by repeat (first | (with_reducible first | exact HB.out | apply below_alloc | apply pw_below_drewN | apply below_drew1 | refine below_set ?_ GE319.out) | exact HB.out)⟩
     ·replace c23 := Bool.eq_false_iff.mpr c23
      subst c23
      have H1 : (sizarlaw35_IndexBuilt.l0 kj6 l0 0 t316) = some r := by rw [if_neg (show ¬ (false = true) by decide)] at H; exact H
      clear H
      have H := H1
      clear H1
      have H' := Aside0.mk H
      clear H
      go_wp2
      repeat (go_quiet (fail); try go_wp2)
      go_loopg [4] kj6 (fun kq v4 w' => ∃ (x4_2 : Int), v4 = .int .i64 x4_2 ∧ Aside0 (sizarlaw35_IndexBuilt.l0 kq l0 x4_2 t316 = some r) ∧ Aside0 (kq ≤ kj6) ∧ Aside0 (Kd.R k49 49 w' w.heap.size (fun _ => True) (.slice Ao11 t316.length co11) t316) ∧ Aside0 (w'.heap[gb319]? = some (.cells #[(.slice Ao11 t316.length co11)] 28 (0, 0))) ∧ Aside0 (Below w.heap.size w w'))
      case atStart => exact ⟨(0), (by first | rfl | (simp; done) | (simp [*]; done)), H', ⟨Nat.le_refl _⟩, ⟨by (with_reducible repeat (first | apply Kd.R_alloc | apply Kd.R_drewN | apply Kd.R_drew)); exact HO_320000.out⟩, ⟨by (with_reducible repeat (first | refine blk_drewN ?_ _ | refine blk_drew ?_ | refine blk_alloc ?_ _)); exact BK319.out⟩, ⟨by repeat (first | (with_reducible first | exact HB.out | apply below_alloc | apply pw_below_drewN | apply below_drew1 | refine below_set ?_ GE319.out) | exact HB.out)⟩⟩
      case round =>
       clear H'
       try clear c1
       try clear c2
       try clear p2
       try clear c3
       try clear c5
       try clear c6
       try clear c14
       try clear c14b0
       try clear c14b1
       try clear c15
       try clear c15b0
       try clear c15b1
       try clear c15b2
       try clear c23
       try clear hcz12_0
       try clear hcz16_0
       try clear hcz18_0
       try clear hcz19_0
       try clear hcz21_0
       try clear hfz12_0
       try clear hfz16_0
       try clear hfz18_0
       try clear hfz19_0
       try clear hfz21_0
       try clear p2
       obtain ⟨x4_2, rfl, HA, HK2, HO_320000, BK319, HB⟩ := hrel
       cases gk with
       | zero => exact absurd HA.out (by simp [sizarlaw35_IndexBuilt.l0])
       | succ k2 =>
        have H := HA.out
        clear HA
        simp only [sizarlaw35_IndexBuilt.l0] at H
        by_cases c24 : x4_2 < (l0.length : Int)
        ·rw [if_pos c24] at H
         have c24b0 : decide (x4_2 < (l0.length : Int)) = true := decide_eq_true c24
         clear c24
         have H' := Aside0.mk H
         clear H
         go_wp2
         repeat (go_quiet (fail); try go_wp2)
         go_loopg [5] k2 (fun kq v5 w' => ∃ (x5_3 : Int), v5 = .int .i64 x5_3 ∧ Aside0 (sizarlaw35_IndexBuilt.l1 kq l0 x4_2 x5_3 t316 = some r) ∧ Aside0 (kq ≤ k2) ∧ Aside0 (Kd.R k49 49 w' w.heap.size (fun _ => True) (.slice Ao11 t316.length co11) t316) ∧ Aside0 (w'.heap[gb319]? = some (.cells #[(.slice Ao11 t316.length co11)] 28 (0, 0))) ∧ Aside0 (Below w.heap.size w w'))
         case atStart => exact ⟨(0), (by first | rfl | (simp; done) | (simp [*]; done)), H', ⟨Nat.le_refl _⟩, ⟨by (with_reducible repeat (first | apply Kd.R_alloc | apply Kd.R_drewN | apply Kd.R_drew)); exact HO_320000.out⟩, ⟨by (with_reducible repeat (first | refine blk_drewN ?_ _ | refine blk_drew ?_ | refine blk_alloc ?_ _)); exact BK319.out⟩, ⟨by repeat (first | (with_reducible first | exact HB.out | apply below_alloc | apply pw_below_drewN | apply below_drew1 | refine below_set ?_ GE319.out) | exact HB.out)⟩⟩
         case round =>
          clear H'
          try clear c1
          try clear c2
          try clear p2
          try clear c3
          try clear c5
          try clear c6
          try clear c14
          try clear c14b0
          try clear c14b1
          try clear c15
          try clear c15b0
          try clear c15b1
          try clear c15b2
          try clear c23
          try clear c24
          try clear c24b0
          try clear hcz12_0
          try clear hcz16_0
          try clear hcz18_0
          try clear hcz19_0
          try clear hcz21_0
          try clear hfz12_0
          try clear hfz16_0
          try clear hfz18_0
          try clear hfz19_0
          try clear hfz21_0
          try clear p2
          obtain ⟨x5_3, rfl, HA, HK3, HO_320000, BK319, HB⟩ := hrel
          cases gk with
          | zero => exact absurd HA.out (by simp [sizarlaw35_IndexBuilt.l1])
          | succ k3 =>
           have H := HA.out
           clear HA
           simp only [sizarlaw35_IndexBuilt.l1] at H
           by_cases c25 : 0 ≤ x4_2
           ·rw [if_pos c25] at H
            have c25b0 : decide (0 ≤ x4_2) = true := decide_eq_true c25
            clear c25
            by_cases c26 : x4_2 < (l0.length : Int)
            ·rw [if_pos c26] at H
             have c26b0 : decide (x4_2 < (l0.length : Int)) = true := decide_eq_true c26
             clear c26
             by_cases c27 : x5_3 < (((rd_T35 l0 x4_2).f5).length : Int)
             ·rw [if_pos c27] at H
              have c27b0 : decide (x5_3 < (((rd_T35 l0 x4_2).f5).length : Int)) = true := decide_eq_true c27
              clear c27
              have H' := Aside0.mk H
              clear H
              have p321 : 0 ≤ (x4_2 : Int) := of_decide_eq_true (by first | (with_reducible assumption) | assumption)
              have q321 : x4_2 < (l0.length : Int) := of_decide_eq_true (by first | (with_reducible assumption) | assumption)
              obtain ⟨ad321, A321_7, c321_7, A321_8, c321_8, A321_9, c321_9, e321, hx321_0, hx321_1, hx321_2, hx321_3, hx321_4, hx321_5, hx321_6, hx321_7, hx321_8, hx321_9, hl321_7, hi321_7, hl321_8, hi321_8, hl321_9, hi321_9⟩ := at_T35 HR0.out x4_2 p321 q321
              cases e321
              replace hx321_0 := (HB.out.cell (World.block_lt_of_cell? w _ hx321_0)).trans hx321_0
              replace hx321_1 := (HB.out.cell (World.block_lt_of_cell? w _ hx321_1)).trans hx321_1
              replace hx321_2 := (HB.out.cell (World.block_lt_of_cell? w _ hx321_2)).trans hx321_2
              replace hx321_3 := (HB.out.cell (World.block_lt_of_cell? w _ hx321_3)).trans hx321_3
              replace hx321_4 := (HB.out.cell (World.block_lt_of_cell? w _ hx321_4)).trans hx321_4
              replace hx321_5 := (HB.out.cell (World.block_lt_of_cell? w _ hx321_5)).trans hx321_5
              replace hx321_6 := (HB.out.cell (World.block_lt_of_cell? w _ hx321_6)).trans hx321_6
              replace hx321_7 := (HB.out.cell (World.block_lt_of_cell? w _ hx321_7)).trans hx321_7
              replace hx321_8 := (HB.out.cell (World.block_lt_of_cell? w _ hx321_8)).trans hx321_8
              replace hx321_9 := (HB.out.cell (World.block_lt_of_cell? w _ hx321_9)).trans hx321_9
              have HR321_7 := Aside0.mk hi321_7
              have HC321_7 := Aside0.mk hl321_7
              clear hi321_7 hl321_7
              have HR321_8 := Aside0.mk hi321_8
              have HC321_8 := Aside0.mk hl321_8
              clear hi321_8 hl321_8
              have HR321_9 := Aside0.mk hi321_9
              have HC321_9 := Aside0.mk hl321_9
              clear hi321_9 hl321_9
              replace p321 := eq_true p321
              replace q321 := eq_true q321
              go_wp2
              repeat (go_quiet (fail); try go_wp2)
              go_loopg [6, 7] k3 (fun kq v6 v7 w' => ∃ (x6_4 : Bool) (x7_4 : Int), v6 = .bool x6_4 ∧ v7 = .int .i64 x7_4 ∧ Aside0 (sizarlaw35_IndexBuilt.l2 kq l0 x4_2 x5_3 x6_4 x7_4 t316 = some r) ∧ Aside0 (kq ≤ k3) ∧ Aside0 (Kd.R k49 49 w' w.heap.size (fun _ => True) (.slice Ao11 t316.length co11) t316) ∧ Aside0 (w'.heap[gb319]? = some (.cells #[(.slice Ao11 t316.length co11)] 28 (0, 0))) ∧ Aside0 (Below w.heap.size w w'))
              case atStart => exact ⟨(false), (0), (by first | rfl | (simp; done) | (simp [*]; done)), (by first | rfl | (simp; done) | (simp [*]; done)), H', ⟨Nat.le_refl _⟩, ⟨by (with_reducible repeat (first | apply Kd.R_alloc | apply Kd.R_drewN | apply Kd.R_drew)); exact HO_320000.out⟩, ⟨by (with_reducible repeat (first | refine blk_drewN ?_ _ | refine blk_drew ?_ | refine blk_alloc ?_ _)); exact BK319.out⟩, ⟨by repeat (first | (with_reducible first | exact HB.out | apply below_alloc | apply pw_below_drewN | apply below_drew1 | refine below_set ?_ GE319.out) | exact HB.out)⟩⟩
              case round =>
               clear H'
               try clear c1
               try clear c2
               try clear p2
               try clear c3
               try clear p3
               try clear q3
               try clear hx3
               try clear c5
               try clear c6
               try clear c14
               try clear c14b0
               try clear c14b1
               try clear c15
               try clear c15b0
               try clear c15b1
               try clear c15b2
               try clear c23
               try clear c24
               try clear c24b0
               try clear c25
               try clear c25b0
               try clear c26
               try clear c26b0
               try clear c27
               try clear c27b0
               try clear hcz12_0
               try clear hcz16_0
               try clear hcz18_0
               try clear hcz19_0
               try clear hcz21_0
               try clear hfz12_0
               try clear hfz16_0
               try clear hfz18_0
               try clear hfz19_0
               try clear hfz21_0
               try clear hx321_0
               try clear hx321_1
               try clear hx321_2
               try clear hx321_3
               try clear hx321_4
               try clear hx321_5
               try clear hx321_6
               try clear hx321_7
               try clear hx321_8
               try clear hx321_9
               try clear p2
               try clear p321
               try clear q321
               obtain ⟨x6_4, x7_4, rfl, rfl, HA, HK4, HO_320000, BK319, HB⟩ := hrel
               cases gk with
               | zero => exact absurd HA.out (by simp [sizarlaw35_IndexBuilt.l2])
               | succ k4 =>
                have H := HA.out
                clear HA
                simp only [sizarlaw35_IndexBuilt.l2] at H
                by_cases c28 : x7_4 < (t316.length : Int)
                ·rw [if_pos c28] at H
                 have c28b0 : decide (x7_4 < (t316.length : Int)) = true := decide_eq_true c28
                 clear c28
                 by_cases c29 : x6_4 = true
                 ·subst c29
                  have H1 : (sizarlaw35_IndexBuilt.l2 k4 l0 x4_2 x5_3 true (wrap64 (x7_4 + 1)) t316) = some r := by rw [if_pos rfl] at H; exact H
                  clear H
                  have H := H1
                  clear H1
                  have H' := Aside0.mk H
                  clear H
                  have hcz30_0 : wr.cell? ⟨gb319, 0, none⟩ = some (.slice Ao11 t316.length co11) := (blk_cell BK319.out 0).trans rfl
                  have hfz30_0 := blk_frozen BK319.out 0
                  go_wp2
                  repeat (go_quiet (fail); try go_wp2)
                  go_roundg k4
                  case measure => have := HJ6.out; have := HK2.out; have := HK3.out; have := HK4.out; omega
                  case rel => exact ⟨(true), (wrap64 (x7_4 + 1)), (by first | rfl | (simp; done) | (simp [*]; done)), (by first | rfl | (simp; done) | (simp [*]; done)), H', ⟨by have := HJ6.out; have := HK2.out; have := HK3.out; have := HK4.out; omega⟩, ⟨by (with_reducible repeat (first | apply Kd.R_alloc | apply Kd.R_drewN | apply Kd.R_drew)); exact HO_320000.out⟩, ⟨by (with_reducible repeat (first | refine blk_drewN ?_ _ | refine blk_drew ?_ | refine blk_alloc ?_ _)); exact BK319.out⟩, ⟨by repeat (first | (with_reducible first | exact HB.out | apply below_alloc | apply pw_below_drewN | apply below_drew1 | refine below_set ?_ GE319.out) | exact HB.out)⟩⟩
                 ·replace c29 := Bool.eq_false_iff.mpr c29
                  subst c29
                  have H1 : (if 0 ≤ x7_4 then (if 0 ≤ x4_2 then (if x4_2 < (l0.length : Int) then (if 0 ≤ x5_3 then (if x5_3 < (((rd_T35 l0 x4_2).f5).length : Int) then (sizarlaw35_IndexBuilt.l2 k4 l0 x4_2 x5_3 (((((rd_T49 t316 x7_4).f0.f0.f0) == ((rd_T47 ((rd_T35 l0 x4_2).f5) x5_3).f0.f0) && (((rd_T49 t316 x7_4).f0.f0.f1) == ((rd_T47 ((rd_T35 l0 x4_2).f5) x5_3).f0.f1) && (((rd_T49 t316 x7_4).f0.f0.f2) == ((rd_T47 ((rd_T35 l0 x4_2).f5) x5_3).f0.f2)))) && (((rd_T49 t316 x7_4).f0.f1) == ((rd_T47 ((rd_T35 l0 x4_2).f5) x5_3).f1) && (((rd_T49 t316 x7_4).f0.f2) == ((rd_T47 ((rd_T35 l0 x4_2).f5) x5_3).f2)))) && (((rd_T49 t316 x7_4).f1) == x4_2)) (wrap64 (x7_4 + 1)) t316) else (none)) else (none)) else (none)) else (none)) else (none)) = some r := by rw [if_neg (show ¬ (false = true) by decide)] at H; exact H
                  clear H
                  have H := H1
                  clear H1
                  by_cases c31 : 0 ≤ x7_4
                  ·rw [if_pos c31] at H
                   have c31b0 : decide (0 ≤ x7_4) = true := decide_eq_true c31
                   clear c31
                   by_cases c32 : 0 ≤ x4_2
                   ·rw [if_pos c32] at H
                    have c32b0 : decide (0 ≤ x4_2) = true := decide_eq_true c32
                    clear c32
                    by_cases c33 : x4_2 < (l0.length : Int)
                    ·rw [if_pos c33] at H
                     have c33b0 : decide (x4_2 < (l0.length : Int)) = true := decide_eq_true c33
                     clear c33
                     by_cases c34 : 0 ≤ x5_3
                     ·rw [if_pos c34] at H
                      have c34b0 : decide (0 ≤ x5_3) = true := decide_eq_true c34
                      clear c34
                      by_cases c35 : x5_3 < (((rd_T35 l0 x4_2).f5).length : Int)
                      ·rw [if_pos c35] at H
                       have c35b0 : decide (x5_3 < (((rd_T35 l0 x4_2).f5).length : Int)) = true := decide_eq_true c35
                       clear c35
                       have H' := Aside0.mk H
                       clear H
                       have hcz36_0 : wr.cell? ⟨gb319, 0, none⟩ = some (.slice Ao11 t316.length co11) := (blk_cell BK319.out 0).trans rfl
                       have hfz36_0 := blk_frozen BK319.out 0
                       have p322 : 0 ≤ (x7_4 : Int) := of_decide_eq_true (by first | (with_reducible assumption) | assumption)
                       have q322 : x7_4 < (t316.length : Int) := of_decide_eq_true (by first | (with_reducible assumption) | assumption)
                       obtain ⟨ad322, e322, hx322_0, hx322_1, hx322_2, hx322_3, hx322_4, hx322_5⟩ := at_T49 (Kd.R_reads' HO_320000.out).2.2 x7_4 p322 q322
                       cases e322
                       replace p322 := eq_true p322
                       replace q322 := eq_true q322
                       have p323 : 0 ≤ (x4_2 : Int) := of_decide_eq_true (by first | (with_reducible assumption) | assumption)
                       have q323 : x4_2 < (l0.length : Int) := of_decide_eq_true (by first | (with_reducible assumption) | assumption)
                       obtain ⟨ad323, A323_7, c323_7, A323_8, c323_8, A323_9, c323_9, e323, hx323_0, hx323_1, hx323_2, hx323_3, hx323_4, hx323_5, hx323_6, hx323_7, hx323_8, hx323_9, hl323_7, hi323_7, hl323_8, hi323_8, hl323_9, hi323_9⟩ := at_T35 HR0.out x4_2 p323 q323
                       obtain rfl : ad321 = ad323 := (by injection e323)
                       replace hx323_0 := (HB.out.cell (World.block_lt_of_cell? w _ hx323_0)).trans hx323_0
                       replace hx323_1 := (HB.out.cell (World.block_lt_of_cell? w _ hx323_1)).trans hx323_1
                       replace hx323_2 := (HB.out.cell (World.block_lt_of_cell? w _ hx323_2)).trans hx323_2
                       replace hx323_3 := (HB.out.cell (World.block_lt_of_cell? w _ hx323_3)).trans hx323_3
                       replace hx323_4 := (HB.out.cell (World.block_lt_of_cell? w _ hx323_4)).trans hx323_4
                       replace hx323_5 := (HB.out.cell (World.block_lt_of_cell? w _ hx323_5)).trans hx323_5
                       replace hx323_6 := (HB.out.cell (World.block_lt_of_cell? w _ hx323_6)).trans hx323_6
                       replace hx323_7 := (HB.out.cell (World.block_lt_of_cell? w _ hx323_7)).trans hx323_7
                       replace hx323_8 := (HB.out.cell (World.block_lt_of_cell? w _ hx323_8)).trans hx323_8
                       replace hx323_9 := (HB.out.cell (World.block_lt_of_cell? w _ hx323_9)).trans hx323_9
                       have HR323_7 := Aside0.mk hi323_7
                       have HC323_7 := Aside0.mk hl323_7
                       clear hi323_7 hl323_7
                       have HR323_8 := Aside0.mk hi323_8
                       have HC323_8 := Aside0.mk hl323_8
                       clear hi323_8 hl323_8
                       have HR323_9 := Aside0.mk hi323_9
                       have HC323_9 := Aside0.mk hl323_9
                       clear hi323_9 hl323_9
                       replace p323 := eq_true p323
                       replace q323 := eq_true q323
                       have p324 : 0 ≤ (x5_3 : Int) := of_decide_eq_true (by first | (with_reducible assumption) | assumption)
                       have q324 : x5_3 < (((rd_T35 l0 x4_2).f5).length : Int) := of_decide_eq_true (by first | (with_reducible assumption) | assumption)
                       obtain ⟨ad324, e324, hx324_0, hx324_1, hx324_2, hx324_3, hx324_4⟩ := at_T47 HR323_8.out x5_3 p324 q324
                       cases e324
                       replace hx324_0 := (HB.out.cell (World.block_lt_of_cell? w _ hx324_0)).trans hx324_0
                       replace hx324_1 := (HB.out.cell (World.block_lt_of_cell? w _ hx324_1)).trans hx324_1
                       replace hx324_2 := (HB.out.cell (World.block_lt_of_cell? w _ hx324_2)).trans hx324_2
                       replace hx324_3 := (HB.out.cell (World.block_lt_of_cell? w _ hx324_3)).trans hx324_3
                       replace hx324_4 := (HB.out.cell (World.block_lt_of_cell? w _ hx324_4)).trans hx324_4
                       replace p324 := eq_true p324
                       replace q324 := eq_true q324
                       go_wp2
                       repeat (go_quiet (fail); try go_wp2)
                       go_roundg k4
                       case measure => have := HJ6.out; have := HK2.out; have := HK3.out; have := HK4.out; omega
                       case rel => exact ⟨((((((rd_T49 t316 x7_4).f0.f0.f0) == ((rd_T47 ((rd_T35 l0 x4_2).f5) x5_3).f0.f0) && (((rd_T49 t316 x7_4).f0.f0.f1) == ((rd_T47 ((rd_T35 l0 x4_2).f5) x5_3).f0.f1) && (((rd_T49 t316 x7_4).f0.f0.f2) == ((rd_T47 ((rd_T35 l0 x4_2).f5) x5_3).f0.f2)))) && (((rd_T49 t316 x7_4).f0.f1) == ((rd_T47 ((rd_T35 l0 x4_2).f5) x5_3).f1) && (((rd_T49 t316 x7_4).f0.f2) == ((rd_T47 ((rd_T35 l0 x4_2).f5) x5_3).f2)))) && (((rd_T49 t316 x7_4).f1) == x4_2))), (wrap64 (x7_4 + 1)), (by first | rfl | (simp; done) | (simp [*]; done)), (by first | rfl | (simp; done) | (simp [*]; done)), H', ⟨by have := HJ6.out; have := HK2.out; have := HK3.out; have := HK4.out; omega⟩, ⟨by (with_reducible repeat (first | apply Kd.R_alloc | apply Kd.R_drewN | apply Kd.R_drew)); exact HO_320000.out⟩, ⟨by (with_reducible repeat (first | refine blk_drewN ?_ _ | refine blk_drew ?_ | refine blk_alloc ?_ _)); exact BK319.out⟩, ⟨by repeat (first | (with_reducible first | exact HB.out | apply below_alloc | apply pw_below_drewN | apply below_drew1 | refine below_set ?_ GE319.out) | exact HB.out)⟩⟩
                      ·rw [if_neg c35] at H
                       exact absurd H (by simp)
                     ·rw [if_neg c34] at H
                      exact absurd H (by simp)
                    ·rw [if_neg c33] at H
                     exact absurd H (by simp)
                   ·rw [if_neg c32] at H
                    exact absurd H (by simp)
                  ·rw [if_neg c31] at H
                   exact absurd H (by simp)
                ·rw [if_neg c28] at H
                 have c28b0 : decide (x7_4 < (t316.length : Int)) = false := decide_eq_false c28
                 clear c28
                 by_cases c37 : x6_4 = true
                 ·subst c37
                  have H1 : (sizarlaw35_IndexBuilt.l1 k4 l0 x4_2 (wrap64 (x5_3 + 1)) t316) = some r := by rw [if_pos rfl] at H; exact H
                  clear H
                  have H := H1
                  clear H1
                  have H' := Aside0.mk H
                  clear H
                  have hcz38_0 : wr.cell? ⟨gb319, 0, none⟩ = some (.slice Ao11 t316.length co11) := (blk_cell BK319.out 0).trans rfl
                  have hfz38_0 := blk_frozen BK319.out 0
                  go_wp2
                  repeat (go_quiet (fail); try go_wp2)
                  go_roundg k4
                  case measure => have := HJ6.out; have := HK2.out; have := HK3.out; have := HK4.out; omega
                  case rel => exact ⟨(wrap64 (x5_3 + 1)), (by first | rfl | (simp; done) | (simp [*]; done)), H', ⟨by have := HJ6.out; have := HK2.out; have := HK3.out; have := HK4.out; omega⟩, ⟨by (with_reducible repeat (first | apply Kd.R_alloc | apply Kd.R_drewN | apply Kd.R_drew)); exact HO_320000.out⟩, ⟨by (with_reducible repeat (first | refine blk_drewN ?_ _ | refine blk_drew ?_ | refine blk_alloc ?_ _)); exact BK319.out⟩, ⟨by repeat (first | (with_reducible first | exact HB.out | apply below_alloc | apply pw_below_drewN | apply below_drew1 | refine below_set ?_ GE319.out) | exact HB.out)⟩⟩
                 ·replace c37 := Bool.eq_false_iff.mpr c37
                  subst c37
                  have H1 : (some false) = some r := by rw [if_neg (show ¬ (false = true) by decide)] at H; exact H
                  clear H
                  have H := H1
                  clear H1
                  obtain rfl := Option.some.inj H
                  have hcz39_0 : wr.cell? ⟨gb319, 0, none⟩ = some (.slice Ao11 t316.length co11) := (blk_cell BK319.out 0).trans rfl
                  have hfz39_0 := blk_frozen BK319.out 0
                  go_wp2
                  repeat (go_quiet (fail); try go_wp2)
                  go_ret
                  exact ⟨by first | rfl | (simp [errW_none, errW_some] <;> rfl) | (simp [*, errW_none, errW_some] <;> rfl), by repeat (first | (with_reducible first | exact HB.out | apply below_alloc | apply pw_below_drewN | apply below_drew1 | refine below_set ?_ GE319.out) | exact HB.out)⟩
             ·rw [if_neg c27] at H
              have c27b0 : decide (x5_3 < (((rd_T35 l0 x4_2).f5).length : Int)) = false := decide_eq_false c27
              clear c27
              have H' := Aside0.mk H
              clear H
              have p321 : 0 ≤ (x4_2 : Int) := of_decide_eq_true (by first | (with_reducible assumption) | assumption)
              have q321 : x4_2 < (l0.length : Int) := of_decide_eq_true (by first | (with_reducible assumption) | assumption)
              obtain ⟨ad321, A321_7, c321_7, A321_8, c321_8, A321_9, c321_9, e321, hx321_0, hx321_1, hx321_2, hx321_3, hx321_4, hx321_5, hx321_6, hx321_7, hx321_8, hx321_9, hl321_7, hi321_7, hl321_8, hi321_8, hl321_9, hi321_9⟩ := at_T35 HR0.out x4_2 p321 q321
              cases e321
              replace hx321_0 := (HB.out.cell (World.block_lt_of_cell? w _ hx321_0)).trans hx321_0
              replace hx321_1 := (HB.out.cell (World.block_lt_of_cell? w _ hx321_1)).trans hx321_1
              replace hx321_2 := (HB.out.cell (World.block_lt_of_cell? w _ hx321_2)).trans hx321_2
              replace hx321_3 := (HB.out.cell (World.block_lt_of_cell? w _ hx321_3)).trans hx321_3
              replace hx321_4 := (HB.out.cell (World.block_lt_of_cell? w _ hx321_4)).trans hx321_4
              replace hx321_5 := (HB.out.cell (World.block_lt_of_cell? w _ hx321_5)).trans hx321_5
              replace hx321_6 := (HB.out.cell (World.block_lt_of_cell? w _ hx321_6)).trans hx321_6
              replace hx321_7 := (HB.out.cell (World.block_lt_of_cell? w _ hx321_7)).trans hx321_7
              replace hx321_8 := (HB.out.cell (World.block_lt_of_cell? w _ hx321_8)).trans hx321_8
              replace hx321_9 := (HB.out.cell (World.block_lt_of_cell? w _ hx321_9)).trans hx321_9
              have HR321_7 := Aside0.mk hi321_7
              have HC321_7 := Aside0.mk hl321_7
              clear hi321_7 hl321_7
              have HR321_8 := Aside0.mk hi321_8
              have HC321_8 := Aside0.mk hl321_8
              clear hi321_8 hl321_8
              have HR321_9 := Aside0.mk hi321_9
              have HC321_9 := Aside0.mk hl321_9
              clear hi321_9 hl321_9
              replace p321 := eq_true p321
              replace q321 := eq_true q321
              go_wp2
              repeat (go_quiet (fail); try go_wp2)
              go_roundg k3
              case measure => have := HJ6.out; have := HK2.out; have := HK3.out; omega
              case rel => exact ⟨(wrap64 (x4_2 + 1)), (by first | rfl | (simp; done) | (simp [*]; done)), H', ⟨by have := HJ6.out; have := HK2.out; have := HK3.out; omega⟩, ⟨by (with_reducible repeat (first | apply Kd.R_alloc | apply Kd.R_drewN | apply Kd.R_drew)); exact HO_320000.out⟩, ⟨by (with_reducible repeat (first | refine blk_drewN ?_ _ | refine blk_drew ?_ | refine blk_alloc ?_ _)); exact BK319.out⟩, ⟨by repeat (first | (with_reducible first | exact HB.out | apply below_alloc | apply pw_below_drewN | apply below_drew1 | refine below_set ?_ GE319.out) | exact HB.out)⟩⟩
            ·rw [if_neg c26] at H
             exact absurd H (by simp)
           ·rw [if_neg c25] at H
            exact absurd H (by simp)
        ·rw [if_neg c24] at H
         have c24b0 : decide (x4_2 < (l0.length : Int)) = false := decide_eq_false c24
         clear c24
         have H' := Aside0.mk H
         clear H
         go_wp2
         repeat (go_quiet (fail); try go_wp2)
         go_loopg [8] k2 (fun kq v8 w' => ∃ (x8_3 : Int), v8 = .int .i64 x8_3 ∧ Aside0 (sizarlaw35_IndexBuilt.l3 kq l0 x8_3 t316 = some r) ∧ Aside0 (kq ≤ k2) ∧ Aside0 (Kd.R k49 49 w' w.heap.size (fun _ => True) (.slice Ao11 t316.length co11) t316) ∧ Aside0 (w'.heap[gb319]? = some (.cells #[(.slice Ao11 t316.length co11)] 28 (0, 0))) ∧ Aside0 (Below w.heap.size w w'))
         case atStart => exact ⟨(0), (by first | rfl | (simp; done) | (simp [*]; done)), H', ⟨Nat.le_refl _⟩, ⟨by (with_reducible repeat (first | apply Kd.R_alloc | apply Kd.R_drewN | apply Kd.R_drew)); exact HO_320000.out⟩, ⟨by (with_reducible repeat (first | refine blk_drewN ?_ _ | refine blk_drew ?_ | refine blk_alloc ?_ _)); exact BK319.out⟩, ⟨by repeat (first | (with_reducible first | exact HB.out | apply below_alloc | apply pw_below_drewN | apply below_drew1 | refine below_set ?_ GE319.out) | exact HB.out)⟩⟩
         case round =>
          clear H'
          try clear c1
          try clear c2
          try clear p2
          try clear c3
          try clear p3
          try clear q3
          try clear hx3
          try clear c5
          try clear c6
          try clear p6
          try clear c14
          try clear c14b0
          try clear c14b1
          try clear c15
          try clear c15b0
          try clear c15b1
          try clear c15b2
          try clear c23
          try clear c24
          try clear c24b0
          try clear c25
          try clear c25b0
          try clear c26
          try clear c26b0
          try clear c27
          try clear c27b0
          try clear c28
          try clear c28b0
          try clear c29
          try clear c31
          try clear c31b0
          try clear c32
          try clear c32b0
          try clear p32
          try clear q32
          try clear hx32
          try clear c33
          try clear c33b0
          try clear c34
          try clear c34b0
          try clear c35
          try clear c35b0
          try clear c37
          try clear hcz12_0
          try clear hcz16_0
          try clear hcz18_0
          try clear hcz19_0
          try clear hcz21_0
          try clear hcz30_0
          try clear hcz36_0
          try clear hcz38_0
          try clear hcz39_0
          try clear hfz12_0
          try clear hfz16_0
          try clear hfz18_0
          try clear hfz19_0
          try clear hfz21_0
          try clear hfz30_0
          try clear hfz36_0
          try clear hfz38_0
          try clear hfz39_0
          try clear hx321_0
          try clear hx321_1
          try clear hx321_2
          try clear hx321_3
          try clear hx321_4
          try clear hx321_5
          try clear hx321_6
          try clear hx321_7
          try clear hx321_8
          try clear hx321_9
          try clear hx322_0
          try clear hx322_1
          try clear hx322_2
          try clear hx322_3
          try clear hx322_4
          try clear hx322_5
          try clear hx323_0
          try clear hx323_1
          try clear hx323_2
          try clear hx323_3
          try clear hx323_4
          try clear hx323_5
          try clear hx323_6
          try clear hx323_7
          try clear hx323_8
          try clear hx323_9
          try clear hx324_0
          try clear hx324_1
          try clear hx324_2
          try clear hx324_3
          try clear hx324_4
          try clear p2
          try clear p3
          try clear p321
          try clear p322
          try clear p323
          try clear p324
          try clear q3
          try clear q321
          try clear q322
          try clear q323
          try clear q324
          obtain ⟨x8_3, rfl, HA, HK3, HO_320000, BK319, HB⟩ := hrel
          cases gk with
          | zero => exact absurd HA.out (by simp [sizarlaw35_IndexBuilt.l3])
          | succ k3 =>
           have H := HA.out
           clear HA
           simp only [sizarlaw35_IndexBuilt.l3] at H
           by_cases c40 : x8_3 < (t316.length : Int)
           ·rw [if_pos c40] at H
            have c40b0 : decide (x8_3 < (t316.length : Int)) = true := decide_eq_true c40
            clear c40
            by_cases c41 : 0 ≤ x8_3
            ·rw [if_pos c41] at H
             have c41b0 : decide (0 ≤ x8_3) = true := decide_eq_true c41
             clear c41
             have H' := Aside0.mk H
             clear H
             have hcz42_0 : wr.cell? ⟨gb319, 0, none⟩ = some (.slice Ao11 t316.length co11) := (blk_cell BK319.out 0).trans rfl
             have hfz42_0 := blk_frozen BK319.out 0
             have p325 : 0 ≤ (x8_3 : Int) := of_decide_eq_true (by first | (with_reducible assumption) | assumption)
             have q325 : x8_3 < (t316.length : Int) := of_decide_eq_true (by first | (with_reducible assumption) | assumption)
             obtain ⟨ad325, e325, hx325_0, hx325_1, hx325_2, hx325_3, hx325_4, hx325_5⟩ := at_T49 (Kd.R_reads' HO_320000.out).2.2 x8_3 p325 q325
             cases e325
             replace p325 := eq_true p325
             replace q325 := eq_true q325
             go_wp2
             repeat (go_quiet (fail); try go_wp2)
             go_loopg [9, 11] k3 (fun kq v9 v11 w' => ∃ (x9_4 : Bool) (x11_4 : Int), v9 = .bool x9_4 ∧ v11 = .int .i64 x11_4 ∧ Aside0 (sizarlaw35_IndexBuilt.l4 kq l0 x8_3 x9_4 ((rd_T49 t316 x8_3).f1) x11_4 t316 = some r) ∧ Aside0 (kq ≤ k3) ∧ Aside0 (Kd.R k49 49 w' w.heap.size (fun _ => True) (.slice (some ad325) t316.length co11) t316) ∧ Aside0 (w'.heap[gb319]? = some (.cells #[(.slice (some ad325) t316.length co11)] 28 (0, 0))) ∧ Aside0 (Below w.heap.size w w'))
             case atStart => exact ⟨(false), (0), (by first | rfl | (simp; done) | (simp [*]; done)), (by first | rfl | (simp; done) | (simp [*]; done)), H', ⟨Nat.le_refl _⟩, ⟨by (with_reducible repeat (first | apply Kd.R_alloc | apply Kd.R_drewN | apply Kd.R_drew)); exact HO_320000.out⟩, ⟨by (with_reducible repeat (first | refine blk_drewN ?_ _ | refine blk_drew ?_ | refine blk_alloc ?_ _)); exact BK319.out⟩, ⟨by repeat (first | (with_reducible first | exact HB.out | apply below_alloc | apply pw_below_drewN | apply below_drew1 | refine below_set ?_ GE319.out) | exact HB.out)⟩⟩
             case round =>
              clear H'
              try clear c1
              try clear c2
              try clear p2
              try clear c3
              try clear p3
              try clear q3
              try clear hx3
              try clear c4
              try clear c5
              try clear c6
              try clear p6
              try clear c14
              try clear c14b0
              try clear c14b1
              try clear c15
              try clear c15b0
              try clear c15b1
              try clear c15b2
              try clear c23
              try clear c24
              try clear c24b0
              try clear c25
              try clear c25b0
              try clear c26
              try clear c26b0
              try clear c27
              try clear c27b0
              try clear c28
              try clear c28b0
              try clear c29
              try clear c31
              try clear c31b0
              try clear c32
              try clear c32b0
              try clear p32
              try clear q32
              try clear hx32
              try clear c33
              try clear c33b0
              try clear c34
              try clear c34b0
              try clear c35
              try clear c35b0
              try clear c37
              try clear c40
              try clear c40b0
              try clear c41
              try clear c41b0
              try clear hcz12_0
              try clear hcz16_0
              try clear hcz18_0
              try clear hcz19_0
              try clear hcz21_0
              try clear hcz30_0
              try clear hcz36_0
              try clear hcz38_0
              try clear hcz39_0
              try clear hcz42_0
              try clear hfz12_0
              try clear hfz16_0
              try clear hfz18_0
              try clear hfz19_0
              try clear hfz21_0
              try clear hfz30_0
              try clear hfz36_0
              try clear hfz38_0
              try clear hfz39_0
              try clear hfz42_0
              try clear hx321_0
              try clear hx321_1
              try clear hx321_2
              try clear hx321_3
              try clear hx321_4
              try clear hx321_5
              try clear hx321_6
              try clear hx321_7
              try clear hx321_8
              try clear hx321_9
              try clear hx322_0
              try clear hx322_1
              try clear hx322_2
              try clear hx322_3
              try clear hx322_4
              try clear hx322_5
              try clear hx323_0
              try clear hx323_1
              try clear hx323_2
              try clear hx323_3
              try clear hx323_4
              try clear hx323_5
              try clear hx323_6
              try clear hx323_7
              try clear hx323_8
              try clear hx323_9
              try clear hx324_0
              try clear hx324_1
              try clear hx324_2
              try clear hx324_3
              try clear hx324_4
              try clear hx325_0
              try clear hx325_1
              try clear hx325_2
              try clear hx325_3
              try clear hx325_4
              try clear hx325_5
              try clear p2
              try clear p3
              try clear p32
              try clear p321
              try clear p322
              try clear p323
              try clear p324
              try clear p325
              try clear p6
              try clear q3
              try clear q32
              try clear q321
              try clear q322
              try clear q323
              try clear q324
              try clear q325
              obtain ⟨x9_4, x11_4, rfl, rfl, HA, HK4, HO_320000, BK319, HB⟩ := hrel
              cases gk with
              | zero => exact absurd HA.out (by simp [sizarlaw35_IndexBuilt.l4])
              | succ k4 =>
               have H := HA.out
               clear HA
               simp only [sizarlaw35_IndexBuilt.l4] at H
               by_cases c43 : ((rd_T49 t316 x8_3).f1) ≥ 0
               ·rw [if_pos c43] at H
                have c43b0 : decide (0 ≤ ((rd_T49 t316 x8_3).f1)) = true := decide_eq_true c43
                clear c43
                by_cases c44 : ((rd_T49 t316 x8_3).f1) < (l0.length : Int)
                ·rw [if_pos c44] at H
                 have c44b0 : decide (((rd_T49 t316 x8_3).f1) < (l0.length : Int)) = true := decide_eq_true c44
                 clear c44
                 by_cases c45 : 0 ≤ ((rd_T49 t316 x8_3).f1)
                 ·rw [if_pos c45] at H
                  have c45b0 : decide (0 ≤ ((rd_T49 t316 x8_3).f1)) = true := decide_eq_true c45
                  clear c45
                  by_cases c46 : x11_4 < (((rd_T35 l0 ((rd_T49 t316 x8_3).f1)).f5).length : Int)
                  ·rw [if_pos c46] at H
                   have c46b0 : decide (x11_4 < (((rd_T35 l0 ((rd_T49 t316 x8_3).f1)).f5).length : Int)) = true := decide_eq_true c46
                   clear c46
                   by_cases c47 : x9_4 = true
                   ·subst c47
                    have H1 : (sizarlaw35_IndexBuilt.l4 k4 l0 x8_3 true ((rd_T49 t316 x8_3).f1) (wrap64 (x11_4 + 1)) t316) = some r := by rw [if_pos rfl] at H; exact H
                    clear H
                    have H := H1
                    clear H1
                    have H' := Aside0.mk H
                    clear H
                    have p326 : 0 ≤ (((rd_T49 t316 x8_3).f1) : Int) := of_decide_eq_true (by first | (with_reducible assumption) | assumption)
                    have q326 : ((rd_T49 t316 x8_3).f1) < (l0.length : Int) := of_decide_eq_true (by first | (with_reducible assumption) | assumption)
                    obtain ⟨ad326, A326_7, c326_7, A326_8, c326_8, A326_9, c326_9, e326, hx326_0, hx326_1, hx326_2, hx326_3, hx326_4, hx326_5, hx326_6, hx326_7, hx326_8, hx326_9, hl326_7, hi326_7, hl326_8, hi326_8, hl326_9, hi326_9⟩ := at_T35 HR0.out ((rd_T49 t316 x8_3).f1) p326 q326
                    cases e326
                    replace hx326_0 := (HB.out.cell (World.block_lt_of_cell? w _ hx326_0)).trans hx326_0
                    replace hx326_1 := (HB.out.cell (World.block_lt_of_cell? w _ hx326_1)).trans hx326_1
                    replace hx326_2 := (HB.out.cell (World.block_lt_of_cell? w _ hx326_2)).trans hx326_2
                    replace hx326_3 := (HB.out.cell (World.block_lt_of_cell? w _ hx326_3)).trans hx326_3
                    replace hx326_4 := (HB.out.cell (World.block_lt_of_cell? w _ hx326_4)).trans hx326_4
                    replace hx326_5 := (HB.out.cell (World.block_lt_of_cell? w _ hx326_5)).trans hx326_5
                    replace hx326_6 := (HB.out.cell (World.block_lt_of_cell? w _ hx326_6)).trans hx326_6
                    replace hx326_7 := (HB.out.cell (World.block_lt_of_cell? w _ hx326_7)).trans hx326_7
                    replace hx326_8 := (HB.out.cell (World.block_lt_of_cell? w _ hx326_8)).trans hx326_8
                    replace hx326_9 := (HB.out.cell (World.block_lt_of_cell? w _ hx326_9)).trans hx326_9
                    have HR326_7 := Aside0.mk hi326_7
                    have HC326_7 := Aside0.mk hl326_7
                    clear hi326_7 hl326_7
                    have HR326_8 := Aside0.mk hi326_8
                    have HC326_8 := Aside0.mk hl326_8
                    clear hi326_8 hl326_8
                    have HR326_9 := Aside0.mk hi326_9
                    have HC326_9 := Aside0.mk hl326_9
                    clear hi326_9 hl326_9
                    replace p326 := eq_true p326
                    replace q326 := eq_true q326
                    go_wp2
                    repeat (go_quiet (fail); try go_wp2)
                    go_roundg k4
                    case measure => have := HJ6.out; have := HK2.out; have := HK3.out; have := HK4.out; omega
                    case rel => exact ⟨(true), (wrap64 (x11_4 + 1)), (by first | rfl | (simp; done) | (simp [*]; done)), (by first | rfl | (simp; done) | (simp [*]; done)), H', ⟨by have := HJ6.out; have := HK2.out; have := HK3.out; have := HK4.out; omega⟩, ⟨by (with_reducible repeat (first | apply Kd.R_alloc | apply Kd.R_drewN | apply Kd.R_drew)); exact HO_320000.out⟩, ⟨by (with_reducible repeat (first | refine blk_drewN ?_ _ | refine blk_drew ?_ | refine blk_alloc ?_ _)); exact BK319.out⟩, ⟨by repeat (first | (with_reducible first | exact HB.out | apply below_alloc | apply pw_below_drewN | apply below_drew1 | refine below_set ?_ GE319.out) | exact HB.out)⟩⟩
                   ·replace c47 := Bool.eq_false_iff.mpr c47
                    subst c47
                    have H1 : (if 0 ≤ x11_4 then (if 0 ≤ x8_3 then (if x8_3 < (t316.length : Int) then (sizarlaw35_IndexBuilt.l4 k4 l0 x8_3 ((((rd_T47 ((rd_T35 l0 ((rd_T49 t316 x8_3).f1)).f5) x11_4).f0.f0) == ((rd_T49 t316 x8_3).f0.f0.f0) && (((rd_T47 ((rd_T35 l0 ((rd_T49 t316 x8_3).f1)).f5) x11_4).f0.f1) == ((rd_T49 t316 x8_3).f0.f0.f1) && (((rd_T47 ((rd_T35 l0 ((rd_T49 t316 x8_3).f1)).f5) x11_4).f0.f2) == ((rd_T49 t316 x8_3).f0.f0.f2)))) && (((rd_T47 ((rd_T35 l0 ((rd_T49 t316 x8_3).f1)).f5) x11_4).f1) == ((rd_T49 t316 x8_3).f0.f1) && (((rd_T47 ((rd_T35 l0 ((rd_T49 t316 x8_3).f1)).f5) x11_4).f2) == ((rd_T49 t316 x8_3).f0.f2)))) ((rd_T49 t316 x8_3).f1) (wrap64 (x11_4 + 1)) t316) else (none)) else (none)) else (none)) = some r := by rw [if_neg (show ¬ (false = true) by decide)] at H; exact H
                    clear H
                    have H := H1
                    clear H1
                    by_cases c48 : 0 ≤ x11_4
                    ·rw [if_pos c48] at H
                     have c48b0 : decide (0 ≤ x11_4) = true := decide_eq_true c48
                     clear c48
                     by_cases c49 : 0 ≤ x8_3
                     ·rw [if_pos c49] at H
                      have c49b0 : decide (0 ≤ x8_3) = true := decide_eq_true c49
                      clear c49
                      by_cases c50 : x8_3 < (t316.length : Int)
                      ·rw [if_pos c50] at H
                       have c50b0 : decide (x8_3 < (t316.length : Int)) = true := decide_eq_true c50
                       clear c50
                       have H' := Aside0.mk H
                       clear H
                       have p326 : 0 ≤ (((rd_T49 t316 x8_3).f1) : Int) := of_decide_eq_true (by first | (with_reducible assumption) | assumption)
                       have q326 : ((rd_T49 t316 x8_3).f1) < (l0.length : Int) := of_decide_eq_true (by first | (with_reducible assumption) | assumption)
                       obtain ⟨ad326, A326_7, c326_7, A326_8, c326_8, A326_9, c326_9, e326, hx326_0, hx326_1, hx326_2, hx326_3, hx326_4, hx326_5, hx326_6, hx326_7, hx326_8, hx326_9, hl326_7, hi326_7, hl326_8, hi326_8, hl326_9, hi326_9⟩ := at_T35 HR0.out ((rd_T49 t316 x8_3).f1) p326 q326
                       cases e326
                       replace hx326_0 := (HB.out.cell (World.block_lt_of_cell? w _ hx326_0)).trans hx326_0
                       replace hx326_1 := (HB.out.cell (World.block_lt_of_cell? w _ hx326_1)).trans hx326_1
                       replace hx326_2 := (HB.out.cell (World.block_lt_of_cell? w _ hx326_2)).trans hx326_2
                       replace hx326_3 := (HB.out.cell (World.block_lt_of_cell? w _ hx326_3)).trans hx326_3
                       replace hx326_4 := (HB.out.cell (World.block_lt_of_cell? w _ hx326_4)).trans hx326_4
                       replace hx326_5 := (HB.out.cell (World.block_lt_of_cell? w _ hx326_5)).trans hx326_5
                       replace hx326_6 := (HB.out.cell (World.block_lt_of_cell? w _ hx326_6)).trans hx326_6
                       replace hx326_7 := (HB.out.cell (World.block_lt_of_cell? w _ hx326_7)).trans hx326_7
                       replace hx326_8 := (HB.out.cell (World.block_lt_of_cell? w _ hx326_8)).trans hx326_8
                       replace hx326_9 := (HB.out.cell (World.block_lt_of_cell? w _ hx326_9)).trans hx326_9
                       have HR326_7 := Aside0.mk hi326_7
                       have HC326_7 := Aside0.mk hl326_7
                       clear hi326_7 hl326_7
                       have HR326_8 := Aside0.mk hi326_8
                       have HC326_8 := Aside0.mk hl326_8
                       clear hi326_8 hl326_8
                       have HR326_9 := Aside0.mk hi326_9
                       have HC326_9 := Aside0.mk hl326_9
                       clear hi326_9 hl326_9
                       replace p326 := eq_true p326
                       replace q326 := eq_true q326
                       have p327 : 0 ≤ (((rd_T49 t316 x8_3).f1) : Int) := of_decide_eq_true (by first | (with_reducible assumption) | assumption)
                       have q327 : ((rd_T49 t316 x8_3).f1) < (l0.length : Int) := of_decide_eq_true (by first | (with_reducible assumption) | assumption)
                       obtain ⟨ad327, A327_7, c327_7, A327_8, c327_8, A327_9, c327_9, e327, hx327_0, hx327_1, hx327_2, hx327_3, hx327_4, hx327_5, hx327_6, hx327_7, hx327_8, hx327_9, hl327_7, hi327_7, hl327_8, hi327_8, hl327_9, hi327_9⟩ := at_T35 HR0.out ((rd_T49 t316 x8_3).f1) p327 q327
                       obtain rfl : ad326 = ad327 := (by injection e327)
                       replace hx327_0 := (HB.out.cell (World.block_lt_of_cell? w _ hx327_0)).trans hx327_0
                       replace hx327_1 := (HB.out.cell (World.block_lt_of_cell? w _ hx327_1)).trans hx327_1
                       replace hx327_2 := (HB.out.cell (World.block_lt_of_cell? w _ hx327_2)).trans hx327_2
                       replace hx327_3 := (HB.out.cell (World.block_lt_of_cell? w _ hx327_3)).trans hx327_3
                       replace hx327_4 := (HB.out.cell (World.block_lt_of_cell? w _ hx327_4)).trans hx327_4
                       replace hx327_5 := (HB.out.cell (World.block_lt_of_cell? w _ hx327_5)).trans hx327_5
                       replace hx327_6 := (HB.out.cell (World.block_lt_of_cell? w _ hx327_6)).trans hx327_6
                       replace hx327_7 := (HB.out.cell (World.block_lt_of_cell? w _ hx327_7)).trans hx327_7
                       replace hx327_8 := (HB.out.cell (World.block_lt_of_cell? w _ hx327_8)).trans hx327_8
                       replace hx327_9 := (HB.out.cell (World.block_lt_of_cell? w _ hx327_9)).trans hx327_9
                       have HR327_7 := Aside0.mk hi327_7
                       have HC327_7 := Aside0.mk hl327_7
                       clear hi327_7 hl327_7
                       have HR327_8 := Aside0.mk hi327_8
                       have HC327_8 := Aside0.mk hl327_8
                       clear hi327_8 hl327_8
                       have HR327_9 := Aside0.mk hi327_9
                       have HC327_9 := Aside0.mk hl327_9
                       clear hi327_9 hl327_9
                       replace p327 := eq_true p327
                       replace q327 := eq_true q327
                       have ea_ := Option.some.inj (hx326_7.symm.trans hx327_7)
                       injection ea_ with ea_ en_ ec_
                       subst ea_
                       subst ec_
                       clear en_
                       have ea_ := Option.some.inj (hx326_8.symm.trans hx327_8)
                       injection ea_ with ea_ en_ ec_
                       subst ea_
                       subst ec_
                       clear en_
                       have ea_ := Option.some.inj (hx326_9.symm.trans hx327_9)
                       injection ea_ with ea_ en_ ec_
                       subst ea_
                       subst ec_
                       clear en_
                       have p328 : 0 ≤ (x11_4 : Int) := of_decide_eq_true (by first | (with_reducible assumption) | assumption)
                       have q328 : x11_4 < (((rd_T35 l0 ((rd_T49 t316 x8_3).f1)).f5).length : Int) := of_decide_eq_true (by first | (with_reducible assumption) | assumption)
                       obtain ⟨ad328, e328, hx328_0, hx328_1, hx328_2, hx328_3, hx328_4⟩ := at_T47 HR327_8.out x11_4 p328 q328
                       cases e328
                       replace hx328_0 := (HB.out.cell (World.block_lt_of_cell? w _ hx328_0)).trans hx328_0
                       replace hx328_1 := (HB.out.cell (World.block_lt_of_cell? w _ hx328_1)).trans hx328_1
                       replace hx328_2 := (HB.out.cell (World.block_lt_of_cell? w _ hx328_2)).trans hx328_2
                       replace hx328_3 := (HB.out.cell (World.block_lt_of_cell? w _ hx328_3)).trans hx328_3
                       replace hx328_4 := (HB.out.cell (World.block_lt_of_cell? w _ hx328_4)).trans hx328_4
                       replace p328 := eq_true p328
                       replace q328 := eq_true q328
                       have hcz51_0 : wr.cell? ⟨gb319, 0, none⟩ = some (.slice (some ad325) t316.length co11) := (blk_cell BK319.out 0).trans rfl
                       have hfz51_0 := blk_frozen BK319.out 0
                       have p329 : 0 ≤ (x8_3 : Int) := of_decide_eq_true (by first | (with_reducible assumption) | assumption)
                       have q329 : x8_3 < (t316.length : Int) := of_decide_eq_true (by first | (with_reducible assumption) | assumption)
                       obtain ⟨ad329, e329, hx329_0, hx329_1, hx329_2, hx329_3, hx329_4, hx329_5⟩ := at_T49 (Kd.R_reads' HO_320000.out).2.2 x8_3 p329 q329
                       obtain rfl : ad325 = ad329 := (by injection e329)
                       replace p329 := eq_true p329
                       replace q329 := eq_true q329
                       go_wp2
                       repeat (go_quiet (fail); try go_wp2)
                       go_roundg k4
                       case measure => have := HJ6.out; have := HK2.out; have := HK3.out; have := HK4.out; omega
                       case rel => exact ⟨(((((rd_T47 ((rd_T35 l0 ((rd_T49 t316 x8_3).f1)).f5) x11_4).f0.f0) == ((rd_T49 t316 x8_3).f0.f0.f0) && (((rd_T47 ((rd_T35 l0 ((rd_T49 t316 x8_3).f1)).f5) x11_4).f0.f1) == ((rd_T49 t316 x8_3).f0.f0.f1) && (((rd_T47 ((rd_T35 l0 ((rd_T49 t316 x8_3).f1)).f5) x11_4).f0.f2) == ((rd_T49 t316 x8_3).f0.f0.f2)))) && (((rd_T47 ((rd_T35 l0 ((rd_T49 t316 x8_3).f1)).f5) x11_4).f1) == ((rd_T49 t316 x8_3).f0.f1) && (((rd_T47 ((rd_T35 l0 ((rd_T49 t316 x8_3).f1)).f5) x11_4).f2) == ((rd_T49 t316 x8_3).f0.f2))))), (wrap64 (x11_4 + 1)), (by first | rfl | (simp; done) | (simp [*]; done)), (by first | rfl | (simp; done) | (simp [*]; done)), H', ⟨by have := HJ6.out; have := HK2.out; have := HK3.out; have := HK4.out; omega⟩, ⟨by (with_reducible repeat (first | apply Kd.R_alloc | apply Kd.R_drewN | apply Kd.R_drew)); exact HO_320000.out⟩, ⟨by (with_reducible repeat (first | refine blk_drewN ?_ _ | refine blk_drew ?_ | refine blk_alloc ?_ _)); exact BK319.out⟩, ⟨by repeat (first | (with_reducible first | exact HB.out | apply below_alloc | apply pw_below_drewN | apply below_drew1 | refine below_set ?_ GE319.out) | exact HB.out)⟩⟩
                      ·rw [if_neg c50] at H
                       exact absurd H (by simp)
                     ·rw [if_neg c49] at H
                      exact absurd H (by simp)
                    ·rw [if_neg c48] at H
                     exact absurd H (by simp)
                  ·rw [if_neg c46] at H
                   have c46b0 : decide (x11_4 < (((rd_T35 l0 ((rd_T49 t316 x8_3).f1)).f5).length : Int)) = false := decide_eq_false c46
                   clear c46
                   by_cases c52 : x9_4 = true
                   ·subst c52
                    have H1 : (sizarlaw35_IndexBuilt.l3 k4 l0 (wrap64 (x8_3 + 1)) t316) = some r := by rw [if_pos rfl] at H; exact H
                    clear H
                    have H := H1
                    clear H1
                    have H' := Aside0.mk H
                    clear H
                    have p326 : 0 ≤ (((rd_T49 t316 x8_3).f1) : Int) := of_decide_eq_true (by first | (with_reducible assumption) | assumption)
                    have q326 : ((rd_T49 t316 x8_3).f1) < (l0.length : Int) := of_decide_eq_true (by first | (with_reducible assumption) | assumption)
                    obtain ⟨ad326, A326_7, c326_7, A326_8, c326_8, A326_9, c326_9, e326, hx326_0, hx326_1, hx326_2, hx326_3, hx326_4, hx326_5, hx326_6, hx326_7, hx326_8, hx326_9, hl326_7, hi326_7, hl326_8, hi326_8, hl326_9, hi326_9⟩ := at_T35 HR0.out ((rd_T49 t316 x8_3).f1) p326 q326
                    cases e326
                    replace hx326_0 := (HB.out.cell (World.block_lt_of_cell? w _ hx326_0)).trans hx326_0
                    replace hx326_1 := (HB.out.cell (World.block_lt_of_cell? w _ hx326_1)).trans hx326_1
                    replace hx326_2 := (HB.out.cell (World.block_lt_of_cell? w _ hx326_2)).trans hx326_2
                    replace hx326_3 := (HB.out.cell (World.block_lt_of_cell? w _ hx326_3)).trans hx326_3
                    replace hx326_4 := (HB.out.cell (World.block_lt_of_cell? w _ hx326_4)).trans hx326_4
                    replace hx326_5 := (HB.out.cell (World.block_lt_of_cell? w _ hx326_5)).trans hx326_5
                    replace hx326_6 := (HB.out.cell (World.block_lt_of_cell? w _ hx326_6)).trans hx326_6
                    replace hx326_7 := (HB.out.cell (World.block_lt_of_cell? w _ hx326_7)).trans hx326_7
                    replace hx326_8 := (HB.out.cell (World.block_lt_of_cell? w _ hx326_8)).trans hx326_8
                    replace hx326_9 := (HB.out.cell (World.block_lt_of_cell? w _ hx326_9)).trans hx326_9
                    have HR326_7 := Aside0.mk hi326_7
                    have HC326_7 := Aside0.mk hl326_7
                    clear hi326_7 hl326_7
                    have HR326_8 := Aside0.mk hi326_8
                    have HC326_8 := Aside0.mk hl326_8
                    clear hi326_8 hl326_8
                    have HR326_9 := Aside0.mk hi326_9
                    have HC326_9 := Aside0.mk hl326_9
                    clear hi326_9 hl326_9
                    replace p326 := eq_true p326
                    replace q326 := eq_true q326
                    go_wp2
                    repeat (go_quiet (fail); try go_wp2)
                    go_roundg k4
                    case measure => have := HJ6.out; have := HK2.out; have := HK3.out; have := HK4.out; omega
                    case rel => exact ⟨(wrap64 (x8_3 + 1)), (by first | rfl | (simp; done) | (simp [*]; done)), H', ⟨by have := HJ6.out; have := HK2.out; have := HK3.out; have := HK4.out; omega⟩, ⟨by (with_reducible repeat (first | apply Kd.R_alloc | apply Kd.R_drewN | apply Kd.R_drew)); exact HO_320000.out⟩, ⟨by (with_reducible repeat (first | refine blk_drewN ?_ _ | refine blk_drew ?_ | refine blk_alloc ?_ _)); exact BK319.out⟩, ⟨by repeat (first | (with_reducible first | exact HB.out | apply below_alloc | apply pw_below_drewN | apply below_drew1 | refine below_set ?_ GE319.out) | exact HB.out)⟩⟩
                   ·replace c52 := Bool.eq_false_iff.mpr c52
                    subst c52
                    have H1 : (some false) = some r := by rw [if_neg (show ¬ (false = true) by decide)] at H; exact H
                    clear H
                    have H := H1
                    clear H1
                    obtain rfl := Option.some.inj H
                    have p326 : 0 ≤ (((rd_T49 t316 x8_3).f1) : Int) := of_decide_eq_true (by first | (with_reducible assumption) | assumption)
                    have q326 : ((rd_T49 t316 x8_3).f1) < (l0.length : Int) := of_decide_eq_true (by first | (with_reducible assumption) | assumption)
                    obtain ⟨ad326, A326_7, c326_7, A326_8, c326_8, A326_9, c326_9, e326, hx326_0, hx326_1, hx326_2, hx326_3, hx326_4, hx326_5, hx326_6, hx326_7, hx326_8, hx326_9, hl326_7, hi326_7, hl326_8, hi326_8, hl326_9, hi326_9⟩ := at_T35 HR0.out ((rd_T49 t316 x8_3).f1) p326 q326
                    cases e326
                    replace hx326_0 := (HB.out.cell (World.block_lt_of_cell? w _ hx326_0)).trans hx326_0
                    replace hx326_1 := (HB.out.cell (World.block_lt_of_cell? w _ hx326_1)).trans hx326_1
                    replace hx326_2 := (HB.out.cell (World.block_lt_of_cell? w _ hx326_2)).trans hx326_2
                    replace hx326_3 := (HB.out.cell (World.block_lt_of_cell? w _ hx326_3)).trans hx326_3
                    replace hx326_4 := (HB.out.cell (World.block_lt_of_cell? w _ hx326_4)).trans hx326_4
                    replace hx326_5 := (HB.out.cell (World.block_lt_of_cell? w _ hx326_5)).trans hx326_5
                    replace hx326_6 := (HB.out.cell (World.block_lt_of_cell? w _ hx326_6)).trans hx326_6
                    replace hx326_7 := (HB.out.cell (World.block_lt_of_cell? w _ hx326_7)).trans hx326_7
                    replace hx326_8 := (HB.out.cell (World.block_lt_of_cell? w _ hx326_8)).trans hx326_8
                    replace hx326_9 := (HB.out.cell (World.block_lt_of_cell? w _ hx326_9)).trans hx326_9
                    have HR326_7 := Aside0.mk hi326_7
                    have HC326_7 := Aside0.mk hl326_7
                    clear hi326_7 hl326_7
                    have HR326_8 := Aside0.mk hi326_8
                    have HC326_8 := Aside0.mk hl326_8
                    clear hi326_8 hl326_8
                    have HR326_9 := Aside0.mk hi326_9
                    have HC326_9 := Aside0.mk hl326_9
                    clear hi326_9 hl326_9
                    replace p326 := eq_true p326
                    replace q326 := eq_true q326
                    go_wp2
                    repeat (go_quiet (fail); try go_wp2)
                    go_ret
                    exact ⟨by first | rfl | (simp [errW_none, errW_some] <;> rfl) | (simp [*, errW_none, errW_some] <;> rfl), by repeat (first | (with_reducible first | exact HB.out | apply below_alloc | apply pw_below_drewN | apply below_drew1 | refine below_set ?_ GE319.out) | exact HB.out)⟩
                 ·rw [if_neg c45] at H
                  exact absurd H (by simp)
                ·rw [if_neg c44] at H
                 have c44b0 : decide (((rd_T49 t316 x8_3).f1) < (l0.length : Int)) = false := decide_eq_false c44
                 clear c44
                 by_cases c53 : x9_4 = true
                 ·subst c53
                  have H1 : (sizarlaw35_IndexBuilt.l3 k4 l0 (wrap64 (x8_3 + 1)) t316) = some r := by rw [if_pos rfl] at H; exact H
                  clear H
                  have H := H1
                  clear H1
                  have H' := Aside0.mk H
                  clear H
                  go_wp2
                  repeat (go_quiet (fail); try go_wp2)
                  go_roundg k4
                  case measure => have := HJ6.out; have := HK2.out; have := HK3.out; have := HK4.out; omega
                  case rel => exact ⟨(wrap64 (x8_3 + 1)), (by first | rfl | (simp; done) | (simp [*]; done)), H', ⟨by have := HJ6.out; have := HK2.out; have := HK3.out; have := HK4.out; omega⟩, ⟨by (with_reducible repeat (first | apply Kd.R_alloc | apply Kd.R_drewN | apply Kd.R_drew)); exact HO_320000.out⟩, ⟨by (with_reducible repeat (first | refine blk_drewN ?_ _ | refine blk_drew ?_ | refine blk_alloc ?_ _)); exact BK319.out⟩, ⟨by repeat (first | (with_reducible first | exact HB.out | apply below_alloc | apply pw_below_drewN | apply below_drew1 | refine below_set ?_ GE319.out) | exact HB.out)⟩⟩
                 ·replace c53 := Bool.eq_false_iff.mpr c53
                  subst c53
                  have H1 : (some false) = some r := by rw [if_neg (show ¬ (false = true) by decide)] at H; exact H
                  clear H
                  have H := H1
                  clear H1
                  obtain rfl := Option.some.inj H
                  go_wp2
                  repeat (go_quiet (fail); try go_wp2)
                  go_ret
                  exact ⟨by first | rfl | (simp [errW_none, errW_some] <;> rfl) | (simp [*, errW_none, errW_some] <;> rfl), by repeat (first | (with_reducible first | exact HB.out | apply below_alloc | apply pw_below_drewN | apply below_drew1 | refine below_set ?_ GE319.out) | exact HB.out)⟩
               ·rw [if_neg c43] at H
                have c43b0 : decide (0 ≤ ((rd_T49 t316 x8_3).f1)) = false := decide_eq_false c43
                clear c43
                by_cases c54 : x9_4 = true
                ·subst c54
                 have H1 : (sizarlaw35_IndexBuilt.l3 k4 l0 (wrap64 (x8_3 + 1)) t316) = some r := by rw [if_pos rfl] at H; exact H
                 clear H
                 have H := H1
                 clear H1
                 have H' := Aside0.mk H
                 clear H
                 go_wp2
                 repeat (go_quiet (fail); try go_wp2)
                 go_roundg k4
                 case measure => have := HJ6.out; have := HK2.out; have := HK3.out; have := HK4.out; omega
                 case rel => exact ⟨(wrap64 (x8_3 + 1)), (by first | rfl | (simp; done) | (simp [*]; done)), H', ⟨by have := HJ6.out; have := HK2.out; have := HK3.out; have := HK4.out; omega⟩, ⟨by (with_reducible repeat (first | apply Kd.R_alloc | apply Kd.R_drewN | apply Kd.R_drew)); exact HO_320000.out⟩, ⟨by (with_reducible repeat (first | refine blk_drewN ?_ _ | refine blk_drew ?_ | refine blk_alloc ?_ _)); exact BK319.out⟩, ⟨by repeat (first | (with_reducible first | exact HB.out | apply below_alloc | apply pw_below_drewN | apply below_drew1 | refine below_set ?_ GE319.out) | exact HB.out)⟩⟩
                ·replace c54 := Bool.eq_false_iff.mpr c54
                 subst c54
                 have H1 : (some false) = some r := by rw [if_neg (show ¬ (false = true) by decide)] at H; exact H
                 clear H
                 have H := H1
                 clear H1
                 obtain rfl := Option.some.inj H
                 go_wp2
                 repeat (go_quiet (fail); try go_wp2)
                 go_ret
                 exact ⟨by first | rfl | (simp [errW_none, errW_some] <;> rfl) | (simp [*, errW_none, errW_some] <;> rfl), by repeat (first | (with_reducible first | exact HB.out | apply below_alloc | apply pw_below_drewN | apply below_drew1 | refine below_set ?_ GE319.out) | exact HB.out)⟩
            ·rw [if_neg c41] at H
             exact absurd H (by simp)
           ·rw [if_neg c40] at H
            have c40b0 : decide (x8_3 < (t316.length : Int)) = false := decide_eq_false c40
            clear c40
            obtain rfl := Option.some.inj H
            have hcz55_0 : wr.cell? ⟨gb319, 0, none⟩ = some (.slice Ao11 t316.length co11) := (blk_cell BK319.out 0).trans rfl
            have hfz55_0 := blk_frozen BK319.out 0
            go_wp2
            repeat (go_quiet (fail); try go_wp2)
            go_ret
            exact ⟨by first | rfl | (simp [errW_none, errW_some] <;> rfl) | (simp [*, errW_none, errW_some] <;> rfl), by repeat (first | (with_reducible first | exact HB.out | apply below_alloc | apply pw_below_drewN | apply below_drew1 | refine below_set ?_ GE319.out) | exact HB.out)⟩
  ·replace c5 := Bool.eq_false_iff.mpr c5
   subst c5
   have H1 : (some true) = some r := by rw [if_neg (show ¬ (false = true) by decide)] at H; exact H
   clear H
   have H := H1
   clear H1
   obtain rfl := Option.some.inj H
   go_enter Try.func6, Try.ntmps6
   go_wp2_with (first | (go_at_call 10; (with_reducible refine (sizarlaw35_sane.calls k  true _ A2.out).mono ?_); rintro e w56 ⟨rfl, hb⟩; have n0_ := Aside0.mk (below_step (by repeat (first | (with_reducible first | exact HB.out | apply below_alloc | apply pw_below_drewN | apply below_drew1) | exact HB.out)) hb); clear HB; have HB := n0_; clear n0_; (try clear hb); (try clear hb2); (try clear hk); (try clear hi)) | (go_at_call 11; (with_reducible refine (sizarref35_Few.calls k _ _ l0 false _ ?side1 ?side2 A4.out).mono ?_); (case side1 => repeat (first | exact (Kd.C_below HR0.out HB.out) | (with_reducible refine Kd.C_alloc ?_ _) | (with_reducible refine Kd.C_drewN ?_ _) | (with_reducible refine Kd.C_drew ?_))); (case side2 => exact HC0.out); rintro e w' ⟨rfl, ⟨nd, rfl⟩⟩; (try first | exact ⟨rfl, _, World.drewN_drewN _ _ _⟩ | exact ⟨rfl, _, Eq.trans (World.drewN_drewN _ _ _) (congrArg (World.drewN _) (Nat.add_assoc _ _ _))⟩)))
   repeat (go_quiet (first | (go_at_call 10; (with_reducible refine (sizarlaw35_sane.calls k  true _ A2.out).mono ?_); rintro e w56 ⟨rfl, hb⟩; have n0_ := Aside0.mk (below_step (by repeat (first | (with_reducible first | exact HB.out | apply below_alloc | apply pw_below_drewN | apply below_drew1) | exact HB.out)) hb); clear HB; have HB := n0_; clear n0_; (try clear hb); (try clear hb2); (try clear hk); (try clear hi)) | (go_at_call 11; (with_reducible refine (sizarref35_Few.calls k _ _ l0 false _ ?side1 ?side2 A4.out).mono ?_); (case side1 => repeat (first | exact (Kd.C_below HR0.out HB.out) | (with_reducible refine Kd.C_alloc ?_ _) | (with_reducible refine Kd.C_drewN ?_ _) | (with_reducible refine Kd.C_drew ?_))); (case side2 => exact HC0.out); rintro e w' ⟨rfl, ⟨nd, rfl⟩⟩; (try first | exact ⟨rfl, _, World.drewN_drewN _ _ _⟩ | exact ⟨rfl, _, Eq.trans (World.drewN_drewN _ _ _) (congrArg (World.drewN _) (Nat.add_assoc _ _ _))⟩))); try go_wp2_with (first | (go_at_call 10; (with_reducible refine (sizarlaw35_sane.calls k  true _ A2.out).mono ?_); rintro e w56 ⟨rfl, hb⟩; have n0_ := Aside0.mk (below_step (by repeat (first | (with_reducible first | exact HB.out | apply below_alloc | apply pw_below_drewN | apply below_drew1) | exact HB.out)) hb); clear HB; have HB := n0_; clear n0_; (try clear hb); (try clear hb2); (try clear hk); (try clear hi)) | (go_at_call 11; (with_reducible refine (sizarref35_Few.calls k _ _ l0 false _ ?side1 ?side2 A4.out).mono ?_); (case side1 => repeat (first | exact (Kd.C_below HR0.out HB.out) | (with_reducible refine Kd.C_alloc ?_ _) | (with_reducible refine Kd.C_drewN ?_ _) | (with_reducible refine Kd.C_drew ?_))); (case side2 => exact HC0.out); rintro e w' ⟨rfl, ⟨nd, rfl⟩⟩; (try first | exact ⟨rfl, _, World.drewN_drewN _ _ _⟩ | exact ⟨rfl, _, Eq.trans (World.drewN_drewN _ _ _) (congrArg (World.drewN _) (Nat.add_assoc _ _ _))⟩))))
   go_ret
   exact ⟨by first | rfl | (simp [errW_none, errW_some] <;> rfl) | (simp [*, errW_none, errW_some] <;> rfl), by repeat (first | (with_reducible first | exact HB.out | apply below_alloc | apply pw_below_drewN | apply below_drew1) | exact HB.out)⟩
 ·replace c3 := Bool.eq_false_iff.mpr c3
  subst c3
  have H1 : (some false) = some r := by rw [if_neg (show ¬ (false = true) by decide)] at H; exact H
  clear H
  have H := H1
  clear H1
  obtain rfl := Option.some.inj H
  go_enter Try.func6, Try.ntmps6
  go_wp2_with (first | (go_at_call 10; (with_reducible refine (sizarlaw35_sane.calls k  false _ A2.out).mono ?_); rintro e w57 ⟨rfl, hb⟩; have n0_ := Aside0.mk (below_step (by repeat (first | (with_reducible first | exact HB.out | apply below_alloc | apply pw_below_drewN | apply below_drew1) | exact HB.out)) hb); clear HB; have HB := n0_; clear n0_; (try clear hb); (try clear hb2); (try clear hk); (try clear hi)))
  repeat (go_quiet (first | (go_at_call 10; (with_reducible refine (sizarlaw35_sane.calls k  false _ A2.out).mono ?_); rintro e w57 ⟨rfl, hb⟩; have n0_ := Aside0.mk (below_step (by repeat (first | (with_reducible first | exact HB.out | apply below_alloc | apply pw_below_drewN | apply below_drew1) | exact HB.out)) hb); clear HB; have HB := n0_; clear n0_; (try clear hb); (try clear hb2); (try clear hk); (try clear hi))); try go_wp2_with (first | (go_at_call 10; (with_reducible refine (sizarlaw35_sane.calls k  false _ A2.out).mono ?_); rintro e w57 ⟨rfl, hb⟩; have n0_ := Aside0.mk (below_step (by repeat (first | (with_reducible first | exact HB.out | apply below_alloc | apply pw_below_drewN | apply below_drew1) | exact HB.out)) hb); clear HB; have HB := n0_; clear n0_; (try clear hb); (try clear hb2); (try clear hk); (try clear hi))))
  go_ret
  exact ⟨by first | rfl | (simp [errW_none, errW_some] <;> rfl) | (simp [*, errW_none, errW_some] <;> rfl), by repeat (first | (with_reducible first | exact HB.out | apply below_alloc | apply pw_below_drewN | apply below_drew1) | exact HB.out)⟩
end Go.Proofs.Ytodmmckieoakjaa.P
namespace Go.Proofs.Ytodmmckieoakjaa.P
open Go.RowKit Go.Proofs.YtodmmckieoakjaaW.PrintWords Go.Proofs.YtodmmckieoakjaaW.PrintLast Go.Proofs.YtodmmckieoakjaaW.PrintMore
set_option linter.unusedVariables false
theorem mem_linksUpto (l : List S35) (z : S49) : ∀ k, k ≤ l.length → (z ∈ linksUpto l k ↔ ∃ i, i < k ∧ ∃ h : i < l.length, ∃ r ∈ l[i].f5, z = ⟨r, (i : Int)⟩)
  | 0, _ => by simp [linksUpto]
  | k + 1, hk => by
    rw [linksUpto_succ, List.mem_append, mem_linksUpto l z k (by omega), rd35 l k (by omega)]
    constructor
    · rintro (⟨i, hi, h, r, hr, e⟩ | h)
      · exact ⟨i, by omega, h, r, hr, e⟩
      · unfold linksOf at h
        obtain ⟨r, hr, e⟩ := List.mem_map.1 h
        exact ⟨k, by omega, by omega, r, hr, e.symm⟩
    · rintro ⟨i, hi, h, r, hr, e⟩
      rcases Nat.lt_or_ge i k with h1 | h1
      · exact .inl ⟨i, h1, h, r, hr, e⟩
      · have : i = k := by omega
        subst this
        exact .inr (List.mem_map.2 ⟨r, hr, e.symm⟩)
theorem chk_ok (n : Int) : ∀ (l : List S49) (p : Option S49), SS l → (∀ q, p = some q → ∀ x ∈ l, LtL q x) → (∀ x ∈ l, 0 ≤ x.f1 ∧ x.f1 < n) → chk n p l = 0
  | [], p, _, _, _ => by cases p <;> rfl
  | x :: r, p, hs, hp, hr => by
    obtain ⟨h1, h2⟩ := List.pairwise_cons.1 hs
    have hx := hr x (by simp)
    have hn := chk_ok n r (some x) h2 (fun q e y hy => by cases e; exact h1 y hy) (fun y hy => hr y (by simp [hy]))
    cases p with
    | none => unfold chk; rw [if_neg (by omega), if_neg (by omega)]; exact hn
    | some q => unfold chk; rw [if_neg (by omega), if_neg (by omega)]; dsimp only; rw [if_pos (hp q rfl x (by simp))]; exact hn
theorem built_l2 (l : List S35) (I : List S49) (hI : I.length ≤ 1000000) (i j : Nat) (hi : i < l.length) (hj : j < l[i].f5.length) (hj60 : l[i].f5.length ≤ 60) (R : Bool) (hn : Ev (fun k => sizarlaw35_IndexBuilt.l1 k l (i : Int) ((j + 1 : Nat) : Int) I) R) :
    ∀ (d m : Nat) (b : Bool), m + d = I.length → (b || (I.drop m).any fun x => eqL x ⟨l[i].f5[j], (i : Int)⟩) = true → Ev (fun k => sizarlaw35_IndexBuilt.l2 k l (i : Int) (j : Int) b (m : Int) I) R := by
  intro d
  have hr := rd35 l i hi
  have hr2 := rd47 l[i].f5 j hj
  induction d with
  | zero =>
    intro m b hm hb
    rw [List.drop_eq_nil_of_le (by omega)] at hb
    simp only [List.any_nil, Bool.or_false] at hb
    subst hb
    refine Ev.next hn fun k => ?_
    simp only [sizarlaw35_IndexBuilt.l2]
    rw [if_neg (by omega), if_pos trivial, w64 j (by omega)]
  | succ d ih =>
    intro m b hm hb
    have hml : m < I.length := by omega
    have hr3 := rd49 I m hml
    rw [List.drop_eq_getElem_cons hml, List.any_cons] at hb
    cases b with
    | true =>
      refine Ev.next (ih (m + 1) true (by omega) (by simp)) fun k => ?_
      simp only [sizarlaw35_IndexBuilt.l2]
      rw [if_pos (by omega), if_pos trivial, w64 m (by omega)]
    | false =>
      refine Ev.next (ih (m + 1) (eqL I[m] ⟨l[i].f5[j], (i : Int)⟩) (by omega) (by simpa using hb)) fun k => ?_
      simp only [sizarlaw35_IndexBuilt.l2]
      rw [if_pos (by omega), if_neg (by simp), if_pos (by omega), if_pos (by omega), if_pos (by omega), if_pos (by omega), hr, if_pos (by omega), hr3, hr2, w64 m (by omega)]
      rfl
/-- '==' of two reads, as the walk spells it. -/
def eqR (r : S47) (x : S47) : Bool := ((r.f0.f0 == x.f0.f0 && (r.f0.f1 == x.f0.f1 && r.f0.f2 == x.f0.f2)) && (r.f1 == x.f1 && r.f2 == x.f2))
theorem eqR_refl (r : S47) : eqR r r = true := by simp [eqR]
theorem built_l4 (l : List S35) (I : List S49) (hI : I.length ≤ 1000000) (m i : Nat) (hm : m < I.length) (hi : i < l.length) (h60 : l[i].f5.length ≤ 60) (R : Bool) (hn : Ev (fun k => sizarlaw35_IndexBuilt.l3 k l ((m + 1 : Nat) : Int) I) R) :
    ∀ (d j : Nat) (b : Bool), j + d = l[i].f5.length → (b || (l[i].f5.drop j).any fun r => eqR r I[m].f0) = true → Ev (fun k => sizarlaw35_IndexBuilt.l4 k l (m : Int) b (i : Int) (j : Int) I) R := by
  intro d
  have hr := rd35 l i hi
  have hr3 := rd49 I m hm
  induction d with
  | zero =>
    intro j b hj hb
    rw [List.drop_eq_nil_of_le (by omega)] at hb
    simp only [List.any_nil, Bool.or_false] at hb
    subst hb
    refine Ev.next hn fun k => ?_
    simp only [sizarlaw35_IndexBuilt.l4]
    rw [if_pos (by omega), if_pos (by omega), if_pos (by omega), hr, if_neg (by omega), if_pos trivial, w64 m (by omega)]
  | succ d ih =>
    intro j b hj hb
    have hjl : j < l[i].f5.length := by omega
    have hr2 := rd47 l[i].f5 j hjl
    rw [List.drop_eq_getElem_cons hjl, List.any_cons] at hb
    cases b with
    | true =>
      refine Ev.next (ih (j + 1) true (by omega) (by simp)) fun k => ?_
      simp only [sizarlaw35_IndexBuilt.l4]
      rw [if_pos (by omega), if_pos (by omega), if_pos (by omega), hr, if_pos (by omega), if_pos trivial, w64 j (by omega)]
    | false =>
      refine Ev.next (ih (j + 1) (eqR l[i].f5[j] I[m].f0) (by omega) (by simpa using hb)) fun k => ?_
      simp only [sizarlaw35_IndexBuilt.l4]
      rw [if_pos (by omega), if_pos (by omega), if_pos (by omega), hr, if_pos (by omega), if_neg (by simp), if_pos (by omega), if_pos (by omega), if_pos (by omega), hr2, hr3, w64 j (by omega)]
      rfl
theorem built_l3 (l : List S35) (I : List S49) (hI : I.length ≤ 1000000) (h60 : ∀ d ∈ l, d.f5.length ≤ 60) (hM : ∀ x ∈ I, ∃ i, ∃ h : i < l.length, ∃ r ∈ l[i].f5, x = ⟨r, (i : Int)⟩) :
    ∀ (d m : Nat), m + d = I.length → Ev (fun k => sizarlaw35_IndexBuilt.l3 k l (m : Int) I) true := by
  intro d
  induction d with
  | zero =>
    intro m hm
    refine Ev.first fun k => ?_
    simp only [sizarlaw35_IndexBuilt.l3]
    rw [if_neg (by omega)]
  | succ d ih =>
    intro m hm
    have hml : m < I.length := by omega
    have hr3 := rd49 I m hml
    obtain ⟨i, hi, r, hr, e⟩ := hM I[m] (List.getElem_mem hml)
    have h1 : I[m].f1 = (i : Int) := by rw [e]
    have h0 : I[m].f0 = r := by rw [e]
    have := built_l4 l I hI m i hml hi (h60 _ (List.getElem_mem hi)) true (ih (m + 1) (by omega)) l[i].f5.length 0 false (by omega) (by
      rw [List.drop_zero, Bool.false_or, List.any_eq_true]
      exact ⟨r, hr, by rw [h0]; exact eqR_refl r⟩)
    refine Ev.next this fun k => ?_
    simp only [sizarlaw35_IndexBuilt.l3]
    rw [if_pos (by omega), if_pos (by omega), hr3, h1]
    rfl
theorem built_l1 (l : List S35) (I : List S49) (hI : I.length ≤ 1000000) (h60 : ∀ d ∈ l, d.f5.length ≤ 60) (i : Nat) (hi : i < l.length) (hl : l.length ≤ 12) (hM : ∀ r ∈ l[i].f5, (⟨r, (i : Int)⟩ : S49) ∈ I) (R : Bool) (hn : Ev (fun k => sizarlaw35_IndexBuilt.l0 k l ((i + 1 : Nat) : Int) I) R) :
    ∀ (d j : Nat), j + d = l[i].f5.length → Ev (fun k => sizarlaw35_IndexBuilt.l1 k l (i : Int) (j : Int) I) R := by
  intro d
  have hr := rd35 l i hi
  induction d with
  | zero =>
    intro j hj
    refine Ev.next hn fun k => ?_
    simp only [sizarlaw35_IndexBuilt.l1]
    rw [if_pos (by omega), if_pos (by omega), hr, if_neg (by omega), w64 i (by omega)]
  | succ d ih =>
    intro j hj
    have hjl : j < l[i].f5.length := by omega
    have := built_l2 l I hI i j hi hjl (h60 _ (List.getElem_mem hi)) R (ih (j + 1) (by omega)) I.length 0 false (by omega) (by
      rw [List.drop_zero, Bool.false_or, List.any_eq_true]
      exact ⟨_, hM _ (List.getElem_mem hjl), (eqL_iff _ _).2 rfl⟩)
    refine Ev.next this fun k => ?_
    simp only [sizarlaw35_IndexBuilt.l1]
    rw [if_pos (by omega), if_pos (by omega), hr, if_pos (by omega)]
    rfl
theorem built_l0 (l : List S35) (I : List S49) (hI : I.length ≤ 1000000) (h60 : ∀ d ∈ l, d.f5.length ≤ 60) (hl : l.length ≤ 12) (hM : ∀ x, x ∈ I ↔ ∃ i, ∃ h : i < l.length, ∃ r ∈ l[i].f5, x = ⟨r, (i : Int)⟩) :
    ∀ (d i : Nat), i + d = l.length → Ev (fun k => sizarlaw35_IndexBuilt.l0 k l (i : Int) I) true := by
  intro d
  induction d with
  | zero =>
    intro i hi
    refine Ev.next (built_l3 l I hI h60 (fun x hx => (hM x).1 hx) I.length 0 (by omega)) fun k => ?_
    simp only [sizarlaw35_IndexBuilt.l0]
    rw [if_neg (by omega)]
    rfl
  | succ d ih =>
    intro i hi
    have hil : i < l.length := by omega
    refine Ev.next (built_l1 l I hI h60 i hil hl (fun r hr => (hM _).2 ⟨i, hil, r, hr, rfl⟩) true (ih (i + 1) (by omega)) l[i].f5.length 0 (by omega)) fun k => ?_
    simp only [sizarlaw35_IndexBuilt.l0]
    rw [if_pos (by omega)]
    rfl
theorem IndexBuilt_pure (l : List S35) (g : (∀ x ∈ l, ok35 x) ∧ l.length * Try.prog.bytesOf 35 ≤ reachBytes) : ∃ k, sizarlaw35_IndexBuilt.f k l = some true := by
  obtain ⟨g1, g2⟩ := g
  rw [bytes35] at g2
  simp only [reachBytes] at g2
  obtain ⟨b, hb, hbt⟩ := few_ev l (by omega) (fun d hd => reads_le (g1 d hd))
  have key : Ev (fun k => sizarlaw35_IndexBuilt.f k l) true := by
    unfold sizarlaw35_IndexBuilt.f
    refine Ev.bind sane_ev ?_
    refine Ev.congr (Ev.bind (c := fun k t315 => if t315 = true then (index_Build.f l).bind fun t316 => (index_Check.f k t316 (l.length : Int)).bind fun t320 => if t320 = 0 then (if (l.length : Int) = 0 then sizarlaw35_IndexBuilt.j0 k l (decide ((t316.length : Int) > 0)) t316 else sizarlaw35_IndexBuilt.j0 k l false t316) else sizarlaw35_IndexBuilt.j0 k l true t316 else some true) hb ?_) (fun k => by rw [if_pos rfl])
    cases b with
    | false => exact Ev.now fun k => by rw [if_neg (by simp)]
    | true =>
      obtain ⟨h1, h2⟩ := hbt rfl
      have hlen := linksUpto_len l h1 h2 l.length (Nat.le_refl _)
      have hB : index_Build.f l = some (normL (allLinks l)) := by
        unfold index_Build.f
        rw [if_pos ⟨by omega, by unfold allLinks; omega⟩]
      have hM : ∀ x, x ∈ normL (allLinks l) ↔ ∃ i, ∃ h : i < l.length, ∃ r ∈ l[i].f5, x = ⟨r, (i : Int)⟩ := fun x => by
        rw [mem_normL]
        unfold allLinks
        rw [mem_linksUpto l x l.length (Nat.le_refl _)]
        exact ⟨fun ⟨i, _, h⟩ => ⟨i, h⟩, fun ⟨i, h, r⟩ => ⟨i, h, h, r⟩⟩
      have hNL : (normL (allLinks l)).length ≤ 1000000 := by
        rw [normL_eq]
        have := foldl_len (allLinks l) []
        simp only [List.length_nil] at this
        unfold allLinks at *
        omega
      have hC := index_check_ev (normL (allLinks l)) (by omega) (l.length : Int)
      rw [chk_ok _ _ none (normL_ss _) (fun q e => by cases e) (fun x hx => by obtain ⟨i, hi, r, _, rfl⟩ := (hM x).1 hx; dsimp only; omega)] at hC
      have hj : Ev (fun k => sizarlaw35_IndexBuilt.j0 k l false (normL (allLinks l))) true := by
        refine Ev.next (built_l0 l _ hNL h2 h1 hM l.length 0 (by omega)) fun k => ?_
        simp only [sizarlaw35_IndexBuilt.j0]
        rw [if_neg (by simp)]
        rfl
      refine Ev.congr (Ev.bind (c := fun k t320 => if t320 = 0 then (if (l.length : Int) = 0 then sizarlaw35_IndexBuilt.j0 k l (decide (((normL (allLinks l)).length : Int) > 0)) (normL (allLinks l)) else sizarlaw35_IndexBuilt.j0 k l false (normL (allLinks l))) else sizarlaw35_IndexBuilt.j0 k l true (normL (allLinks l))) hC ?_) (fun k => by rw [if_pos rfl, hB, Option.bind_some])
      by_cases h0 : (l.length : Int) = 0
      · have hl0 : l = [] := List.eq_nil_of_length_eq_zero (by omega)
        have hn0 : (normL (allLinks l)).length = 0 := by
          rw [normL_eq, hl0]; rfl
        refine hj.congr fun k => ?_
        rw [if_pos rfl, if_pos h0, hn0]
        rfl
      · refine hj.congr fun k => ?_
        rw [if_pos rfl, if_neg h0]
  exact key.get
end Go.Proofs.Ytodmmckieoakjaa.P
namespace Go.Proofs.Ytodmmckieoakjaa.indexBuilt
open Go.ChangeShapes Go.WideShapes Go.ChangeAt Go.RowKit
open Go.Proofs.Ytodmmckieoakjaa.P
set_option linter.unusedVariables false
theorem own : ownKnob Try.prog.godebug = none := by kernel_rfl
theorem laidOut : laidOutB Try.prog = true := by kernel_rfl
set_option maxRecDepth 100000 in
set_option maxHeartbeats 1000000 in
theorem lifted (os : Os) (started : os.Started) (H : Type) (enc : TypeId × Value → H) :
    ReturnsInHanded {} Try.checked os 6 .any (Rows.indexBuiltSpec.pre6 enc Try.prog Try.f6 Rows.indexBuiltRow.domain false) (Rows.indexBuiltSpec.post enc Try.prog Try.f6 false true false false) := by
  refine returnsInHanded_of_change_sized (C := Try.checked) own started (by kernel_rfl) Try.func6
    (ChangeSpec.witness6 (enc := enc) (C := Try.checked) false ⟨#[], #[.slice none 0 0], []⟩ 8 (by kernel_rfl) (by kernel_rfl) (by kernel_rfl) (by kernel_rfl)) ?_
  intro W base args ds gs before hval0 hW hcnd hsz0 _
  have hsz : (DataW.weightsEach Try.prog (Try.f6.params.toList ++ Rows.indexBuiltSpec.plain.varTypes Try.prog) (ds ++ gs)).all (· ≤ reachBytes) = true := hsz0
  have hval : ∀ (j : Nat) t v, Try.f6.params[j]? = some t → args[j]? = some v → Value.okWide Try.prog W .any base t v := hval0
  have hW' := hW
  obtain ⟨p, q, hA0, hV, rfl, hfz, hnd⟩ := hW
  have hA : DataW.TrodAll enc Try.prog W 0 (fun _ => true) true Try.f6.params.toList args.toList ds p := hA0
  rw [Try.params6] at hA hval hsz
  obtain ⟨v0, vs0, d0, ds0, p0, q0, hargs, rfl, rfl, h0, r0⟩ := trodAll_cons hA
  obtain ⟨rfl, rfl, rfl⟩ := trodAll_nil r0
  obtain rfl : args = #[v0] := by cases args; simp_all
  obtain ⟨rfl, rfl⟩ := trodVars_none hV
  have k0 := h0
  have lt0 : ∀ x ∈ p0, x.block < W.heap.size := by obtain ⟨m, hm⟩ := k0; exact DataW.trod_lt m _ _ _ hm
  have lg0 : light Try.prog 22 d0 := light_each _ _ hsz 0 _ _ rfl rfl
  obtain ⟨fuel0, hf0⟩ := h0
  obtain ⟨b0, n0, m0, rfl⟩ := okWide_slice Try.underlying22 (hval 0 22 v0 rfl rfl)
  obtain ⟨x0, ⟨A0, c0, e0, l0, r0r⟩, g0⟩ := opn_slice Try.underlying22 opn35 (by kernel_rfl) (by decide) H enc W _ _ _ fuel0 _ _ hf0 lg0
  replace e0 : [Value.slice b0 n0 m0] = [.slice A0 x0.length c0] := e0
  injection e0 with e0 _
  injection e0 with e0a e0b e0c
  subst e0a e0b e0c
  clear hA0 hval0 hsz0 hsz
  obtain ⟨k, hk⟩ := IndexBuilt_pure x0 g0
  refine (sizarlaw35_IndexBuilt.calls k b0 m0 x0 true W r0r l0 hk).mono fun e W' ⟨he, bel⟩ => ?_
  subst he
  exact ⟨_, rfl, _, _, _, [], _, [], hW', trodAll_mk1 (shut_bool Try.underlying4 _), (trodAll_cons_mk (Below.trod laidOut (by kernel_rfl) (of_decide_eq_true (by kernel_rfl)) k0 bel lt0) trodAll_mk0), rfl, bel.frame _, fun h => by cases h⟩
theorem over : Rows.indexBuiltRow.holds Try.pinned (OpenSpec.ofChange Rows.indexBuiltSpec) :=
  OpenClaim.holds_of_wide 6 Try.f6 rfl rfl rfl rfl rfl rfl rfl ⟨rfl, rfl, rfl, rfl, rfl⟩ rfl rfl rfl rfl rfl (by kernel_rfl) Try.func6 (by kernel_rfl)
    (of_decide_eq_true (by kernel_rfl)) (by unfold Func.isWrapper; first | (rw [if_pos (by decide +kernel)]; kernel_rfl) | (rw [if_neg (by decide +kernel)]; exact ⟨rfl, rfl⟩))
    (fun os started H enc _ => lifted os started H enc)
theorem proved : Rows.IndexBuiltSaid := over
end Go.Proofs.Ytodmmckieoakjaa.indexBuilt
namespace Go.Proofs.Ytodmmckieoakjaa
/-- The row, under a short name, for the claim. -/
theorem indexBuilt_holds : Rows.IndexBuiltSaid := indexBuilt.proved
end Go.Proofs.Ytodmmckieoakjaa
