/- Proved: the statement RulesHoldsSpec, tied to the program as its card says, for every input; there are no conditions. Texts of this claim, one behind the other: Px13, Ph, PureQ, Upto, KindsLaid, LawRulesHoldsSpec. Merged by wip/mkmerge.py. -/
import Derived.Test.YtabocfninjankaaDoorCaHs3
import Derived.Test.YtabocfninjankaaDoorCaHs2
import Derived.Test.YtabocfninjankaaDoorCaHs1
import Derived.StillTailTactics
import Derived.Deep.RegionHeld3
import Derived.Deep.DrawnRows
import Derived.Test.YtabocfninjankaaDoorRows
import Derived.WalkKit
import Derived.ProofKit
import Derived.JoinedCond
import Derived.LaidMore
import Derived.SizedLaws
import Derived.ChangeOld
import Derived.OpenShut
import Derived.Stop.Joined
import Derived.Test.YtabocfninjankaaDoorCards
import Derived.Test.YtabocfninjankaaDoorTie
import Derived.ShutString
import Derived.Below
import Derived.SevenTiedAt
namespace Go.Proofs.YtabocfninjankaaDoor.P
open Go.RowKit Go.Maps Go.Proofs.YtabocfninjankaaDoorW.PrintWords Go.Proofs.YtabocfninjankaaDoorW.PrintLast Go.Proofs.YtabocfninjankaaDoorW.PrintMore
set_option linter.unusedVariables false
set_option linter.unusedSimpArgs false
attribute [local go_sem ↓] Go.wp_at_zero Go.wp_at_succ
abbrev noS : ByteArray := ⟨#[]⟩
theorem plain_c (w : World) : Calls Tryd.prog 25 #[] w fun e w' => e = .returned (.agg #[.slice none 0 0, .int .i64 0, .int .i64 0, .int .i64 1]) ∧ Below w.heap.size w w' := by
 go_enter Tryd.func25, Tryd.ntmps25
 go_wp2
 exact bodyPost_ret (v := .agg #[.slice none 0 0, .int .i64 0, .int .i64 0, .int .i64 1]) (by simp [results, Tryd.results25, go_sem]) rfl ⟨rfl, (Below.refl _ _).alloc (Nat.le_refl _) _⟩
def sR1 : S24 := ⟨1, 0, noS, 0, 0, []⟩
def sR2 : S24 := ⟨2, 0, noS, 0, 0, []⟩
def sR3 : S24 := ⟨5, 3, noS, 0, 0, []⟩
def sR4 : S24 := ⟨3, 0, noS, 2, 0, [sR1, sR1, sR1]⟩
def sX : S24 := ⟨5, 3, ⟨#[88]⟩, 5, 0, []⟩
def sK : List S24 := [sX, sR3, ⟨4, 0, noS, 0, 0, [sX]⟩]
def sR5 : S24 := ⟨1, 0, noS, 0, 0, sK⟩
theorem e1 : ∃ k, rules_Holds.f k 1 0 noS 0 0 [] [] 0 0 1 = some (true, 0) := by
 obtain ⟨K, h⟩ := holds_ev sR1 [] (by simp) 0 0 1
 exact ⟨K, (h K (Nat.le_refl _)).trans (congrArg some (by decide +kernel))⟩
theorem e2 : ∃ k, rules_Holds.f k 2 0 noS 0 0 [] [] 0 0 1 = some (false, 0) := by
 obtain ⟨K, h⟩ := holds_ev sR2 [] (by simp) 0 0 1
 exact ⟨K, (h K (Nat.le_refl _)).trans (congrArg some (by decide +kernel))⟩
theorem e3 : ∃ k, rules_Holds.f k 5 3 noS 0 0 [] [] 0 0 1 = some (false, 0) := by
 obtain ⟨K, h⟩ := holds_ev sR3 [] (by simp) 0 0 1
 exact ⟨K, (h K (Nat.le_refl _)).trans (congrArg some (by decide +kernel))⟩
theorem e4 : ∃ k, rules_Holds.f k 3 0 noS 2 0 [sR1, sR1, sR1] [] 0 0 1 = some (true, 0) := by
 obtain ⟨K, h⟩ := holds_ev sR4 [] (by simp) 0 0 1
 exact ⟨K, (h K (Nat.le_refl _)).trans (congrArg some (by decide +kernel))⟩
theorem e5 : ∃ k, rules_Fits.f k [] 0 0 0 = some 120 := by
 obtain ⟨K, h⟩ := fits_ev [] (by simp) 0 0 0
 exact ⟨K, (h K (Nat.le_refl _)).trans (congrArg some (by decide +kernel))⟩
theorem e6 : ∃ k, rules_Fits.f k [] 0 0 1 = some 0 := by
 obtain ⟨K, h⟩ := fits_ev [] (by simp) 0 0 1
 exact ⟨K, (h K (Nat.le_refl _)).trans (congrArg some (by decide +kernel))⟩
theorem c1 : rules_Check.f 0 0 noS 0 0 [] = some 120 := congrArg some (by decide +kernel)
theorem c2 : rules_Check.f 4 0 noS 0 0 [] = some 120 := congrArg some (by decide +kernel)
theorem c3 : rules_Check.f 1 0 noS 0 0 sK = some 0 := congrArg some (by decide +kernel)
theorem d1 : rules_Depth.f 1 0 noS 0 0 [] = some 1 := congrArg some (by decide +kernel)
theorem d2 : rules_Depth.f 1 0 noS 0 0 sK = some 3 := congrArg some (by decide +kernel)
theorem a1 : ∃ l, rules_Atoms.f 1 0 noS 0 0 sK = some l ∧ l.length = 2 := by
 refine ⟨(sortA (dd (atomsOf (preR 1 sR5)))).map ruleOf, ?_, ?_⟩
 ·unfold rules_Atoms.f
  rw [if_pos (by decide +kernel)]
  rfl
 ·rw [List.length_map, show (sortA (dd (atomsOf (preR 1 sR5)))).length = (dd (atomsOf (preR 1 sR5))).length from (List.mergeSort_perm _ _).length_eq]
  decide +kernel
theorem b1 : rules_Courses.f 1 0 noS 0 0 sK = some [3] := by
 unfold rules_Courses.f
 rw [if_pos (by decide +kernel)]
 have : intKeys (corAll (preR 1 sR5)) = [3] := by decide +kernel
 exact congrArg some (by show (intKeys (corAll (preR 1 sR5))).mergeSort leI = [3]; rw [this]; simp)
theorem s1 : sizarref12_SameInts.f 7 [3] [3] = some true := by
 have hw : wrap64 1 = 1 := by unfold wrap64; omega
 simp [sizarref12_SameInts.f, sizarref12_SameInts.l0, rd, hw]
theorem C_of_reps {W : World} {b t : Nat} {xs : List S24} {cs : List Value} (hb : W.heap[b]? = some (.cells cs.toArray t (0, 0))) (h : Reps (k24.K W) 6 xs cs) (hm : xs.length ≤ 9223372036854775807) : Kd.C k24 W (some ⟨b, 0, none⟩) xs.length xs := by
 refine ⟨rfl, hm, fun _ => ⟨_, rfl, fun j p hj => ⟨(cs.drop (j * 6)).take 6, ?_, h.2 j p hj, fun i u hu => ?_⟩⟩⟩
 ·have := (List.getElem?_eq_some_iff.1 hj).1
  have := h.1
  rw [List.length_take, List.length_drop]
  show min 6 _ = 6
  omega
 ·rw [show k24.sz = 6 from rfl, add_plain]
  rw [List.getElem?_take] at hu
  split at hu
  ·rw [List.getElem?_drop] at hu
   exact (blk_cell hb (j * 6 + i)).trans (by simpa using hu)
  ·cases hu
def cA (a b : Int) (s : ByteArray) (n d : Int) (v : Value) : List Value := [.int .i64 a, .int .i64 b, .string s, .int .i64 n, .int .i64 d, v]
def nilV : Value := .slice none 0 0
structure SaneW (w W : World) : Prop where
 kinds : KindsAt W
 below : Below w.heap.size w W
 b1 : W.heap[w.heap.size]? = some (.cells (cA 1 0 noS 0 0 nilV).toArray 24 (0, 0))
 b2 : W.heap[w.heap.size + 1]? = some (.cells (cA 2 0 noS 0 0 nilV).toArray 24 (0, 0))
 b3 : W.heap[w.heap.size + 1 + 1]? = some (.cells (cA 5 3 noS 0 0 nilV).toArray 24 (0, 0))
theorem SaneW.step {w W W' : World} (h : SaneW w W) (hb : Below W.heap.size W W') : SaneW w W' := by
 have l1 := (Array.getElem?_eq_some_iff.1 h.b1).1
 have l2 := (Array.getElem?_eq_some_iff.1 h.b2).1
 have l3 := (Array.getElem?_eq_some_iff.1 h.b3).1
 exact ⟨h.kinds.below hb, below_step h.below hb, (hb.block _ l1).trans h.b1, (hb.block _ l2).trans h.b2, (hb.block _ l3).trans h.b3⟩
theorem SaneW.alloc {w W : World} (h : SaneW w W) (o : Obj) : SaneW w (W.alloc o) := h.step ((Below.refl _ _).alloc (Nat.le_refl _) _)
theorem SaneW.drew {w W : World} (h : SaneW w W) : SaneW w W.drew := h.step (below_drew (Below.refl _ _))
theorem plain_s {w W : World} (h : SaneW w W) : Calls Tryd.prog 25 #[] W fun e w' => e = .returned (.agg #[.slice none 0 0, .int .i64 0, .int .i64 0, .int .i64 1]) ∧ SaneW w w' :=
 (plain_c W).mono fun _ _ ⟨e, hb⟩ => ⟨e, h.step hb⟩
theorem holds_s {w W : World} (h : SaneW w W) : Calls Tryd.prog 12 #[.agg #[.int .i64 1, .int .i64 0, .string noS, .int .i64 0, .int .i64 0, .slice none 0 0], .agg #[.slice none 0 0, .int .i64 0, .int .i64 0, .int .i64 1]] W fun e w' => e = .returned (.tuple #[.bool true, .int .i64 0]) ∧ SaneW w w' := by
 obtain ⟨k, hk⟩ := e1
 refine (rules_Holds.calls k 1 0 noS 0 0 none 0 [] none 0 [] 0 0 1 true 0 W (Kd.C_nil _ _) (Nat.le_refl _) (Kd.C_nil _ _) (Nat.le_refl _) hk h.kinds).mono ?_
 rintro e w' ⟨rfl, hb⟩
 exact ⟨rfl, h.step hb⟩
theorem holds_2 {w W : World} (h : SaneW w W) : Calls Tryd.prog 12 #[.agg #[.int .i64 2, .int .i64 0, .string noS, .int .i64 0, .int .i64 0, .slice none 0 0], .agg #[.slice none 0 0, .int .i64 0, .int .i64 0, .int .i64 1]] W fun e w' => e = .returned (.tuple #[.bool false, .int .i64 0]) ∧ SaneW w w' := by
 obtain ⟨k, hk⟩ := e2
 refine (rules_Holds.calls k 2 0 noS 0 0 none 0 [] none 0 [] 0 0 1 false 0 W (Kd.C_nil _ _) (Nat.le_refl _) (Kd.C_nil _ _) (Nat.le_refl _) hk h.kinds).mono ?_
 rintro e w' ⟨rfl, hb⟩
 exact ⟨rfl, h.step hb⟩
theorem holds_3 {w W : World} (h : SaneW w W) : Calls Tryd.prog 12 #[.agg #[.int .i64 5, .int .i64 3, .string noS, .int .i64 0, .int .i64 0, .slice none 0 0], .agg #[.slice none 0 0, .int .i64 0, .int .i64 0, .int .i64 1]] W fun e w' => e = .returned (.tuple #[.bool false, .int .i64 0]) ∧ SaneW w w' := by
 obtain ⟨k, hk⟩ := e3
 refine (rules_Holds.calls k 5 3 noS 0 0 none 0 [] none 0 [] 0 0 1 false 0 W (Kd.C_nil _ _) (Nat.le_refl _) (Kd.C_nil _ _) (Nat.le_refl _) hk h.kinds).mono ?_
 rintro e w' ⟨rfl, hb⟩
 exact ⟨rfl, h.step hb⟩
theorem new_blkD {b : Nat} (W : World) (o : Obj) (h : W.heap.size = b) : (W.alloc o).heap[b]? = some o := by
 subst h
 exact blk_new W o
theorem cell_alloc_some {w : World} {a : Addr} {v : Value} (o : Obj) (h : w.cell? a = some v) : (w.alloc o).cell? a = some v := (World.cell?_alloc_lt _ _ _ (World.block_lt_of_cell? w a h)).trans h
theorem SaneW.cellAt {w W : World} {b : Nat} {a c : Int} {s : ByteArray} {n d : Int} {v : Value} (h : W.heap[b]? = some (.cells (cA a c s n d v).toArray 24 (0, 0))) : W.cell? ⟨b, 0, none⟩ = some (.int .i64 a) ∧ W.cell? ⟨b, 1, none⟩ = some (.int .i64 c) ∧ W.cell? ⟨b, 2, none⟩ = some (.string s) ∧ W.cell? ⟨b, 3, none⟩ = some (.int .i64 n) ∧ W.cell? ⟨b, 4, none⟩ = some (.int .i64 d) ∧ W.cell? ⟨b, 5, none⟩ = some v :=
 ⟨(blk_cell h 0).trans rfl, (blk_cell h 1).trans rfl, (blk_cell h 2).trans rfl, (blk_cell h 3).trans rfl, (blk_cell h 4).trans rfl, (blk_cell h 5).trans rfl⟩
theorem plain_4 {w W : World} (h : SaneW w W) : Calls Tryd.prog 25 #[] W fun e w' => e = .returned (.agg #[.slice none 0 0, .int .i64 0, .int .i64 0, .int .i64 1]) ∧ SaneW w w' ∧ Below W.heap.size W w' :=
 (plain_c W).mono fun _ _ ⟨e, hb⟩ => ⟨e, h.step hb, hb⟩
def cells18 : List Value := cA 1 0 noS 0 0 nilV ++ (cA 1 0 noS 0 0 nilV ++ cA 1 0 noS 0 0 nilV)
theorem K_flat (W : World) (a b : Int) (t : ByteArray) (n d : Int) : k24.K W ⟨a, b, t, n, d, []⟩ (cA a b t n d nilV) := k24_mk W ⟨a, b, t, n, d, []⟩ (A5 := none) (c5 := 0) (Nat.le_refl _) (Kd.C_nil _ _)
theorem holds_4 {w W : World} {b : Nat} (h : SaneW w W) (hb : W.heap[b]? = some (.cells cells18.toArray 24 (0, 0))) : Calls Tryd.prog 12 #[.agg #[.int .i64 3, .int .i64 0, .string noS, .int .i64 2, .int .i64 0, .slice (some ⟨b, 0, none⟩) 3 3], .agg #[.slice none 0 0, .int .i64 0, .int .i64 0, .int .i64 1]] W fun e w' => e = .returned (.tuple #[.bool true, .int .i64 0]) ∧ SaneW w w' := by
 obtain ⟨k, hk⟩ := e4
 have hR : Reps (k24.K W) 6 [sR1, sR1, sR1] cells18 := (((Reps.none _ _).snoc (K_flat W 1 0 noS 0 0) rfl).snoc (K_flat W 1 0 noS 0 0) rfl).snoc (K_flat W 1 0 noS 0 0) rfl
 refine (rules_Holds.calls k 3 0 noS 2 0 (some ⟨b, 0, none⟩) 3 [sR1, sR1, sR1] none 0 [] 0 0 1 true 0 W (C_of_reps hb hR (by decide)) (Nat.le_refl _) (Kd.C_nil _ _) (Nat.le_refl _) hk h.kinds).mono ?_
 rintro e w' ⟨rfl, hb⟩
 exact ⟨rfl, h.step hb⟩
def xS : ByteArray := ⟨#[88]⟩
def cells18r (n : Nat) : List Value := cA 5 3 xS 5 0 nilV ++ (cA 5 3 noS 0 0 nilV ++ cA 4 0 noS 0 0 (.slice (some ⟨n + 1, 0, none⟩) 1 1))
structure SaneR (w : World) (n : Nat) (W : World) : Prop where
 base : SaneW w W
 k1 : W.heap[n + 1]? = some (.cells (cA 5 3 xS 5 0 nilV).toArray 24 (0, 0))
 k2 : W.heap[n + 1 + 1]? = some (.cells (cells18r n).toArray 24 (0, 0))
 k3 : W.heap[n + 1 + 1 + 1]? = some (.cells (cA 1 0 noS 0 0 (.slice (some ⟨n + 1 + 1, 0, none⟩) 3 3)).toArray 24 (0, 0))
theorem SaneR.step {w W W' : World} {n : Nat} (h : SaneR w n W) (hb : Below W.heap.size W W') : SaneR w n W' := by
 have l1 := (Array.getElem?_eq_some_iff.1 h.k1).1
 have l2 := (Array.getElem?_eq_some_iff.1 h.k2).1
 have l3 := (Array.getElem?_eq_some_iff.1 h.k3).1
 exact ⟨h.base.step hb, (hb.block _ l1).trans h.k1, (hb.block _ l2).trans h.k2, (hb.block _ l3).trans h.k3⟩
theorem SaneR.alloc {w W : World} {n : Nat} (h : SaneR w n W) (o : Obj) : SaneR w n (W.alloc o) := h.step ((Below.refl _ _).alloc (Nat.le_refl _) _)
theorem SaneR.kids {w W : World} {n : Nat} (h : SaneR w n W) : Kd.C k24 W (some ⟨n + 1 + 1, 0, none⟩) sK.length sK := by
 have h1 : Kd.C k24 W (some ⟨n + 1, 0, none⟩) 1 [sX] := C_of_reps h.k1 ((Reps.none _ _).snoc (K_flat W 5 3 xS 5 0) rfl) (by decide)
 have h2 : k24.K W ⟨4, 0, noS, 0, 0, [sX]⟩ (cA 4 0 noS 0 0 (.slice (some ⟨n + 1, 0, none⟩) 1 1)) := k24_mk W ⟨4, 0, noS, 0, 0, [sX]⟩ (Nat.le_refl _) h1
 have hR : Reps (k24.K W) 6 sK (cells18r n) := (((Reps.none _ _).snoc (K_flat W 5 3 xS 5 0) rfl).snoc (K_flat W 5 3 noS 0 0) rfl).snoc h2 rfl
 exact C_of_reps h.k2 hR (by decide)
theorem check_0 {w W : World} {n : Nat} (h : SaneR w n W) : Calls Tryd.prog 20 #[.agg #[.int .i64 0, .int .i64 0, .string noS, .int .i64 0, .int .i64 0, .slice none 0 0]] W fun e w' => e = .returned (.int .i64 120) ∧ SaneR w n w' := by
 refine (rules_Check.calls 0 0 noS 0 0 none 0 [] 120 W (Kd.C_nil _ _) (Nat.le_refl _) c1 h.base.kinds).mono ?_
 rintro e w' ⟨rfl, hb⟩
 exact ⟨rfl, h.step hb⟩
theorem check_4 {w W : World} {n : Nat} (h : SaneR w n W) : Calls Tryd.prog 20 #[.agg #[.int .i64 4, .int .i64 0, .string noS, .int .i64 0, .int .i64 0, .slice none 0 0]] W fun e w' => e = .returned (.int .i64 120) ∧ SaneR w n w' := by
 refine (rules_Check.calls 4 0 noS 0 0 none 0 [] 120 W (Kd.C_nil _ _) (Nat.le_refl _) c2 h.base.kinds).mono ?_
 rintro e w' ⟨rfl, hb⟩
 exact ⟨rfl, h.step hb⟩
theorem check_r {w W : World} {n : Nat} (h : SaneR w n W) : Calls Tryd.prog 20 #[.agg #[.int .i64 1, .int .i64 0, .string noS, .int .i64 0, .int .i64 0, .slice (some ⟨n + 1 + 1, 0, none⟩) 3 3]] W fun e w' => e = .returned (.int .i64 0) ∧ SaneR w n w' := by
 refine (rules_Check.calls 1 0 noS 0 0 _ 3 sK 0 W h.kids (Nat.le_refl _) c3 h.base.kinds).mono ?_
 rintro e w' ⟨rfl, hb⟩
 exact ⟨rfl, h.step hb⟩
theorem fits_0 {w W : World} {n : Nat} (h : SaneR w n W) : Calls Tryd.prog 21 #[.agg #[.slice none 0 0, .int .i64 0, .int .i64 0, .int .i64 0]] W fun e w' => e = .returned (.int .i64 120) ∧ SaneR w n w' := by
 obtain ⟨k, hk⟩ := e5
 refine (rules_Fits.calls k none 0 [] 0 0 0 120 W (Kd.C_nil _ _) (Nat.le_refl _) hk).mono ?_
 rintro e w' ⟨rfl, hb⟩
 exact ⟨rfl, h.step hb⟩
theorem fits_1 {w W : World} {n : Nat} (h : SaneR w n W) : Calls Tryd.prog 21 #[.agg #[.slice none 0 0, .int .i64 0, .int .i64 0, .int .i64 1]] W fun e w' => e = .returned (.int .i64 0) ∧ SaneR w n w' := by
 obtain ⟨k, hk⟩ := e6
 refine (rules_Fits.calls k none 0 [] 0 0 1 0 W (Kd.C_nil _ _) (Nat.le_refl _) hk).mono ?_
 rintro e w' ⟨rfl, hb⟩
 exact ⟨rfl, h.step hb⟩
theorem plain_r {w W : World} {n : Nat} (h : SaneR w n W) : Calls Tryd.prog 25 #[] W fun e w' => e = .returned (.agg #[.slice none 0 0, .int .i64 0, .int .i64 0, .int .i64 1]) ∧ SaneR w n w' :=
 (plain_c W).mono fun _ _ ⟨e, hb⟩ => ⟨e, h.step hb⟩
theorem depth_1 {w W : World} {n : Nat} (h : SaneR w n W) : Calls Tryd.prog 26 #[.agg #[.int .i64 1, .int .i64 0, .string noS, .int .i64 0, .int .i64 0, .slice none 0 0]] W fun e w' => e = .returned (.int .i64 1) ∧ SaneR w n w' := by
 refine (rules_Depth.calls 1 0 noS 0 0 none 0 [] 1 W (Kd.C_nil _ _) (Nat.le_refl _) d1).mono ?_
 rintro e w' ⟨rfl, hb⟩
 exact ⟨rfl, h.step hb⟩
theorem depth_r {w W : World} {n : Nat} (h : SaneR w n W) : Calls Tryd.prog 26 #[.agg #[.int .i64 1, .int .i64 0, .string noS, .int .i64 0, .int .i64 0, .slice (some ⟨n + 1 + 1, 0, none⟩) 3 3]] W fun e w' => e = .returned (.int .i64 3) ∧ SaneR w n w' := by
 refine (rules_Depth.calls 1 0 noS 0 0 _ 3 sK 3 W h.kids (Nat.le_refl _) d2).mono ?_
 rintro e w' ⟨rfl, hb⟩
 exact ⟨rfl, h.step hb⟩
theorem atoms_r {w W : World} {n : Nat} (h : SaneR w n W) : Calls Tryd.prog 15 #[.agg #[.int .i64 1, .int .i64 0, .string noS, .int .i64 0, .int .i64 0, .slice (some ⟨n + 1 + 1, 0, none⟩) 3 3]] W fun e w' => ∃ A c, e = .returned (.slice A 2 c) ∧ SaneR w n w' := by
 obtain ⟨l, hl, h2⟩ := a1
 refine (rules_Atoms.calls 1 0 noS 0 0 _ 3 sK l W h.kids (Nat.le_refl _) hl).mono ?_
 rintro e w' ⟨v, rfl, hv, hb⟩
 obtain ⟨A, c, rfl⟩ := Kd.R_slice hv
 exact ⟨A, c, by rw [h2], h.step hb⟩
structure OneThree (W : World) (A : Option Addr) (c : Nat) : Prop where
 reads : Kd.C (Kd.int .i64) W A 1 [3]
 len : 1 ≤ c
theorem OneThree.alloc {W : World} {A : Option Addr} {c : Nat} (h : OneThree W A c) (o : Obj) : OneThree (W.alloc o) A c := ⟨Kd.C_alloc h.reads o, h.len⟩
theorem courses_r {w W : World} {n : Nat} (h : SaneR w n W) : Calls Tryd.prog 18 #[.agg #[.int .i64 1, .int .i64 0, .string noS, .int .i64 0, .int .i64 0, .slice (some ⟨n + 1 + 1, 0, none⟩) 3 3]] W fun e w' => ∃ A c, e = .returned (.slice A 1 c) ∧ OneThree w' A c ∧ SaneR w n w' := by
 refine (rules_Courses.calls 1 0 noS 0 0 _ 3 sK [3] W h.kids (Nat.le_refl _) b1).mono ?_
 rintro e w' ⟨v, rfl, hv, hb⟩
 obtain ⟨A, c, rfl⟩ := Kd.R_slice hv
 obtain ⟨h1, h2, h3⟩ := Kd.R_reads' hv
 exact ⟨A, c, rfl, ⟨h3, h2⟩, h.step hb⟩
theorem same_r {w W : World} {n b c : Nat} {A : Option Addr} (h : SaneR w n W) (hA : OneThree W A c) (hb : W.heap[b]? = some (.cells #[.int .i64 3] 3 (0, 0))) : Calls Tryd.prog 17 #[.slice A 1 c, .slice (some ⟨b, 0, none⟩) 1 1] W fun e w' => e = .returned (.bool true) ∧ SaneR w n w' := by
 have hC : Kd.C (Kd.int .i64) W (some ⟨b, 0, none⟩) 1 [3] := by
  refine ⟨rfl, by decide, fun _ => ⟨_, rfl, fun j p hj => ⟨[.int .i64 p], rfl, rfl, fun i u hu => ?_⟩⟩⟩
  have hj1 := (List.getElem?_eq_some_iff.1 hj).1
  have hi1 := (List.getElem?_eq_some_iff.1 hu).1
  obtain rfl : j = 0 := by simpa using hj1
  obtain rfl : i = 0 := by simpa using hi1
  obtain rfl : 3 = p := by simpa using hj
  obtain rfl : Value.int .i64 3 = u := by simpa using hu
  rw [add_plain]
  exact (blk_cell hb 0).trans rfl
 refine (sizarref12_SameInts.calls 7 A c [3] (some ⟨b, 0, none⟩) 1 [3] true W hA.reads hA.len hC (Nat.le_refl _) s1).mono ?_
 rintro e w' ⟨rfl, hb⟩
 exact ⟨rfl, h.step hb.below⟩
set_option maxRecDepth 100000 in
set_option maxHeartbeats 4000000 in
theorem sane_walk (w : World) (hK : KindsAt w) : Calls Tryd.prog 10 #[] w fun e w' => e = .returned (.bool true) ∧ Below w.heap.size w w' := by
 have hu24 := Tryd.underlying24
 have hu29 := Tryd.underlying29
 have HK := Aside0.mk hK
 clear hK
 go_enter Tryd.func10, Tryd.ntmps10
 go_wp2
 generalize hW0 : World.alloc _ _ = W0
 have HS : Aside0 (SaneW w W0) := ⟨by
  have hb : Below w.heap.size w W0 := by
   rw [← hW0]
   exact (((Below.refl _ w).alloc (Nat.le_refl _) _).alloc (by simp) _).alloc (by simp; omega) _
  refine ⟨HK.out.below hb, hb, ?_, ?_, ?_⟩
  ·rw [← hW0]
   exact (Below.heap_alloc _ _ _ (by simp; omega)).trans ((Below.heap_alloc _ _ _ (by simp)).trans (blk_new _ _))
  ·rw [← hW0]
   exact (Below.heap_alloc _ _ _ (by simp)).trans (new_blkD _ _ (by simp))
  ·rw [← hW0]
   exact new_blkD _ _ (by simp)⟩
 clear hW0
 go_region_held3 (fun w' => SaneW w w' ∧ w'.cell? ⟨w.heap.size, 0, none⟩ = some (.int .i64 1) ∧ w'.cell? ⟨w.heap.size, 1, none⟩ = some (.int .i64 0) ∧ w'.cell? ⟨w.heap.size, 2, none⟩ = some (.string noS) ∧ w'.cell? ⟨w.heap.size, 3, none⟩ = some (.int .i64 0) ∧ w'.cell? ⟨w.heap.size, 4, none⟩ = some (.int .i64 0) ∧ w'.cell? ⟨w.heap.size, 5, none⟩ = some (.slice none 0 0))
  (first | exact ⟨HS.out.drew, SaneW.cellAt (w := w) HS.out.drew.b1⟩ | exact ⟨‹SaneW w _›, SaneW.cellAt (w := w) (SaneW.b1 ‹_›)⟩)
  (first | (go_at_call 25; refine (plain_s (w := w) ?_).mono ?_; (first | assumption | exact HS.out.drew); rintro e w' ⟨rfl, hs⟩) | (go_at_call 12; refine (holds_s (w := w) ?_).mono ?_; (first | assumption); rintro e w' ⟨rfl, hs⟩))
 rename_i hs
 have HS2 := Aside0.mk hs.1
 clear hs HS
 go_wp2
 go_region_held3 (fun w' => SaneW w w' ∧ w'.cell? ⟨w.heap.size + 1, 0, none⟩ = some (.int .i64 2) ∧ w'.cell? ⟨w.heap.size + 1, 1, none⟩ = some (.int .i64 0) ∧ w'.cell? ⟨w.heap.size + 1, 2, none⟩ = some (.string noS) ∧ w'.cell? ⟨w.heap.size + 1, 3, none⟩ = some (.int .i64 0) ∧ w'.cell? ⟨w.heap.size + 1, 4, none⟩ = some (.int .i64 0) ∧ w'.cell? ⟨w.heap.size + 1, 5, none⟩ = some (.slice none 0 0))
  (first | exact ⟨HS2.out.drew, SaneW.cellAt (w := w) HS2.out.drew.b2⟩ | exact ⟨‹SaneW w _›, SaneW.cellAt (w := w) (SaneW.b2 ‹_›)⟩)
  (first | (go_at_call 25; refine (plain_s (w := w) ?_).mono ?_; (first | assumption | exact HS2.out.drew); rintro e w' ⟨rfl, hs⟩) | (go_at_call 12; refine (holds_2 (w := w) ?_).mono ?_; (first | assumption); rintro e w' ⟨rfl, hs⟩))
 rename_i hs
 have HS3 := Aside0.mk hs.1
 clear hs HS2
 go_wp2
 go_region_held3 (fun w' => SaneW w w' ∧ w'.cell? ⟨w.heap.size + 1 + 1, 0, none⟩ = some (.int .i64 5) ∧ w'.cell? ⟨w.heap.size + 1 + 1, 1, none⟩ = some (.int .i64 3) ∧ w'.cell? ⟨w.heap.size + 1 + 1, 2, none⟩ = some (.string noS) ∧ w'.cell? ⟨w.heap.size + 1 + 1, 3, none⟩ = some (.int .i64 0) ∧ w'.cell? ⟨w.heap.size + 1 + 1, 4, none⟩ = some (.int .i64 0) ∧ w'.cell? ⟨w.heap.size + 1 + 1, 5, none⟩ = some (.slice none 0 0))
  (first | exact ⟨HS3.out.drew, SaneW.cellAt (w := w) HS3.out.drew.b3⟩ | exact ⟨‹SaneW w _›, SaneW.cellAt (w := w) (SaneW.b3 ‹_›)⟩)
  (first | (go_at_call 25; refine (plain_s (w := w) ?_).mono ?_; (first | assumption | exact HS3.out.drew); rintro e w' ⟨rfl, hs⟩) | (go_at_call 12; refine (holds_3 (w := w) ?_).mono ?_; (first | assumption); rintro e w' ⟨rfl, hs⟩))
 rename_i hs
 have HS4 := Aside0.mk hs.1
 clear hs HS3
 go_wp2
 go_cut [10, 11] (fun v10 v11 wc => v10 = .bool true ∧ v11 = .int .i64 0 ∧ Aside0 (SaneW w wc))
 case first =>
  go_region_held3 (fun w' => SaneW w w' ∧ w'.cell? ⟨w.heap.size, 0, none⟩ = some (.int .i64 1) ∧ w'.cell? ⟨w.heap.size, 1, none⟩ = some (.int .i64 0) ∧ w'.cell? ⟨w.heap.size, 2, none⟩ = some (.string noS) ∧ w'.cell? ⟨w.heap.size, 3, none⟩ = some (.int .i64 0) ∧ w'.cell? ⟨w.heap.size, 4, none⟩ = some (.int .i64 0) ∧ w'.cell? ⟨w.heap.size, 5, none⟩ = some (.slice none 0 0))
   (first | exact ⟨HS4.out.drew, SaneW.cellAt (w := w) HS4.out.drew.b1⟩ | exact ⟨‹SaneW w _›, SaneW.cellAt (w := w) (SaneW.b1 ‹_›)⟩ | exact ⟨HS4.out.drew.alloc _, SaneW.cellAt (w := w) (SaneW.b1 (HS4.out.drew.alloc _))⟩ | exact ⟨SaneW.alloc ‹SaneW w _› _, SaneW.cellAt (w := w) (SaneW.b1 (SaneW.alloc ‹_› _))⟩)
   (first | (go_at_call 25; refine (plain_4 (w := w) ?_).mono ?_; (first | assumption | exact HS4.out.drew | exact HS4.out.drew.alloc _); rintro e w' ⟨rfl, hs, hb⟩) | (go_at_call 12; refine (holds_4 (w := w) ?_ ?_).mono ?_; (first | assumption | exact SaneW.alloc ‹_› _); (first | exact (hb.block _ (by simp)).trans (blk_drew (blk_new _ _)) | exact blk_new _ _ | exact blk_drew (blk_new _ _)); rintro e w' ⟨rfl, hs⟩))
  all_goals
   rename_i hs5
   have HS5 := Aside0.mk hs5.1
   clear hs5
   go_wp2
   go_meet
   case rel => exact ⟨rfl, rfl, HS5⟩
 case rest =>
  obtain ⟨rfl, rfl, HS5⟩ := hcut
  obtain ⟨e0, e1, e2, e3, e4, e5⟩ := SaneW.cellAt (w := w) HS5.out.b3
  simp only [nilV] at e5
  clear HS4
  have f0 := fun o => cell_alloc_some o e0
  have f1 := fun o => cell_alloc_some o e1
  have f2 := fun o => cell_alloc_some o e2
  have f3 := fun o => cell_alloc_some o e3
  have f4 := fun o => cell_alloc_some o e4
  have f5 := fun o => cell_alloc_some o e5
  go_upto_region 10 with fail
  have hlw : w.heap.size + 1 + 1 < wc.heap.size := (Array.getElem?_eq_some_iff.1 HS5.out.b3).1
  generalize hW9 : World.alloc _ _ = W9
  have HR : Aside0 (SaneR w wc.heap.size W9) := ⟨by
   rw [← hW9]
   refine ⟨(((HS5.out.alloc _).alloc _).alloc _).alloc _, ?_, ?_, ?_⟩
   ·exact (Below.heap_alloc _ _ _ (by simp)).trans ((Below.heap_alloc _ _ _ (by simp)).trans (new_blkD _ _ (by simp)))
   ·exact (Below.heap_alloc _ _ _ (by simp)).trans (new_blkD _ _ (by simp))
   ·exact new_blkD _ _ (by simp)⟩
  clear hW9 e0 e1 e2 e3 e4 e5 f0 f1 f2 f3 f4 f5 HS5
  have r0 : ∀ W, SaneR w wc.heap.size W → _ := fun W h => SaneW.cellAt (w := w) h.k3
  have rr0 : ∀ W, SaneR w wc.heap.size W → _ := fun W h => SaneW.cellAt (w := w) h.base.b1
  have RR0 := Aside0.mk rr0
  have R0 := Aside0.mk r0
  clear r0 rr0
  go_wp2_with fail
  refine (check_0 HR.out).mono ?_
  rintro e w' ⟨rfl, h⟩
  have H1 := Aside0.mk h
  clear h
  go_wp2_with fail
  refine (check_4 H1.out).mono ?_
  rintro e w' ⟨rfl, h⟩
  have H2 := Aside0.mk h
  clear h
  go_wp2_with fail
  refine (fits_0 H2.out).mono ?_
  rintro e w' ⟨rfl, h⟩
  have H3 := Aside0.mk h
  clear h
  go_wp2_with fail
  refine (plain_r H3.out).mono ?_
  rintro e w' ⟨rfl, h⟩
  have H4 := Aside0.mk h
  clear h
  go_wp2_with fail
  refine (fits_1 H4.out).mono ?_
  rintro e w' ⟨rfl, h⟩
  have H5 := Aside0.mk h
  clear h
  obtain ⟨e0, e1, e2, e3, e4, e5⟩ := R0.out _ H5.out
  go_wp2_with fail
  refine (check_r H5.out).mono ?_
  rintro e w' ⟨rfl, h⟩
  have H6 := Aside0.mk h
  clear h
  clear e0 e1 e2 e3 e4 e5
  obtain ⟨e0, e1, e2, e3, e4, e5⟩ := RR0.out _ H6.out
  simp only [nilV] at e5
  go_wp2_with fail
  refine (depth_1 H6.out).mono ?_
  rintro e w' ⟨rfl, h⟩
  have H7 := Aside0.mk h
  clear h
  clear e0 e1 e2 e3 e4 e5
  obtain ⟨e0, e1, e2, e3, e4, e5⟩ := R0.out _ H7.out
  go_wp2_with fail
  refine (depth_r H7.out).mono ?_
  rintro e w' ⟨rfl, h⟩
  have H8 := Aside0.mk h
  clear h
  clear e0 e1 e2 e3 e4 e5
  obtain ⟨e0, e1, e2, e3, e4, e5⟩ := R0.out _ H8.out
  go_wp2_with fail
  refine (atoms_r H8.out).mono ?_
  rintro e w' ⟨A1, c1, rfl, h⟩
  have H9 := Aside0.mk h
  clear h
  clear e0 e1 e2 e3 e4 e5
  obtain ⟨e0, e1, e2, e3, e4, e5⟩ := R0.out _ H9.out
  go_wp2_with fail
  refine (courses_r H9.out).mono ?_
  rintro e w' ⟨A2, c2, rfl, hA, h⟩
  have H10 := Aside0.mk h
  have HA := Aside0.mk hA
  clear h hA
  clear e0 e1 e2 e3 e4 e5
  go_wp2_with fail
  refine (same_r (H10.out.alloc _) (HA.out.alloc _) (new_blkD _ _ (by simp))).mono ?_
  rintro e w' ⟨rfl, h⟩
  have H11 := Aside0.mk h
  clear h
  go_wp2_with fail
  go_ret
  exact ⟨rfl, H11.out.base.below⟩
def sizarlaw12_sane.f (k : Nat) : Option Bool := some true
theorem sizarlaw12_sane.calls (k : Nat) (r : Bool) (w : World) (h : sizarlaw12_sane.f k = some r) (hKT : KindsAt w) :
  Calls Tryd.prog 10 #[] w fun e w' => e = .returned (.bool r) ∧ Below w.heap.size w w' := by
 obtain rfl := Option.some.inj h
 exact sane_walk w hKT
theorem sane_ev : Ev (fun k => sizarlaw12_sane.f k) true := ⟨0, fun _ _ => rfl⟩
end Go.Proofs.YtabocfninjankaaDoor.P
namespace Go.Proofs.YtabocfninjankaaDoor.P
open Go.RowKit Go.Proofs.YtabocfninjankaaDoorW.PrintWords Go.Proofs.YtabocfninjankaaDoorW.PrintLast Go.Proofs.YtabocfninjankaaDoorW.PrintMore
attribute [local go_sem] max2_int min2_int max_two min_two max_three min_three max_four min_four   -- for this text's walks alone
set_option linter.unusedVariables false
set_option linter.unusedSimpArgs false
def sizarref12_Holds.f (k : Nat) (a0_0 : Int) (a0_1 : Int) (a0_2 : ByteArray) (a0_3 : Int) (a0_4 : Int) (l0_5 : List (S24)) (l1_0 : List (S49)) (a1_1 : Int) (a1_2 : Int) (a1_3 : Int) : Option (Bool × Int) := (sizarref12_Check.f k a0_0 a0_1 a0_2 a0_3 a0_4 l0_5).bind fun t302 => (if t302 = 0 then ((sizarref12_Fits.f k l1_0 a1_1 a1_2 a1_3).bind fun t303 => (if t303 = 0 then ((sizarref12_Value.f k a0_0 a0_1 a0_2 a0_3 a0_4 l0_5 l1_0 a1_1 a1_2 a1_3).bind fun t304 => (some (t304, 0))) else (some (false, t303)))) else (some (false, t302)))
set_option maxHeartbeats 8000000 in
set_option maxRecDepth 100000 in
theorem sizarref12_Holds.calls (k : Nat) (a0_0 : Int) (a0_1 : Int) (a0_2 : ByteArray) (a0_3 : Int) (a0_4 : Int) (A0_5 : Option Addr) (c0_5 : Nat) (l0_5 : List (S24)) (A1_0 : Option Addr) (c1_0 : Nat) (l1_0 : List (S49)) (a1_1 : Int) (a1_2 : Int) (a1_3 : Int) (r1 : Bool) (r2 : Int) (w : World) (hr0_5 : Kd.C k24 w A0_5 l0_5.length l0_5) (hc0_5 : l0_5.length ≤ c0_5) (hr1_0 : Kd.C k49 w A1_0 l1_0.length l1_0) (hc1_0 : l1_0.length ≤ c1_0) (h : sizarref12_Holds.f k a0_0 a0_1 a0_2 a0_3 a0_4 l0_5 l1_0 a1_1 a1_2 a1_3 = some (r1, r2)) :
    Calls Tryd.prog 13 #[.agg #[.int .i64 a0_0, .int .i64 a0_1, .string a0_2, .int .i64 a0_3, .int .i64 a0_4, .slice A0_5 l0_5.length c0_5], .agg #[.slice A1_0 l1_0.length c1_0, .int .i64 a1_1, .int .i64 a1_2, .int .i64 a1_3]] w fun e w' => e = .returned (.tuple #[.bool r1, .int .i64 r2]) ∧ Below w.heap.size w w' := by
  have hu24 := Tryd.underlying24
  have hu29 := Tryd.underlying29
  have HR0_5 := Aside0.mk hr0_5
  have HC0_5 := Aside0.mk hc0_5
  clear hr0_5 hc0_5
  have HR1_0 := Aside0.mk hr1_0
  have HC1_0 := Aside0.mk hc1_0
  clear hr1_0 hc1_0
  have HB := Aside0.mk (Below.refl w.heap.size w)
  have H : ((sizarref12_Check.f k a0_0 a0_1 a0_2 a0_3 a0_4 l0_5).bind fun t302 => (if t302 = 0 then ((sizarref12_Fits.f k l1_0 a1_1 a1_2 a1_3).bind fun t303 => (if t303 = 0 then ((sizarref12_Value.f k a0_0 a0_1 a0_2 a0_3 a0_4 l0_5 l1_0 a1_1 a1_2 a1_3).bind fun t304 => (some (t304, 0))) else (some (false, t303)))) else (some (false, t302)))) = some (r1, r2) := h
  clear h
  replace H := Option.bind_eq_some_iff.mp H
  obtain ⟨t302, A30, H⟩ := H
  replace H : (if t302 = 0 then ((sizarref12_Fits.f k l1_0 a1_1 a1_2 a1_3).bind fun t303 => (if t303 = 0 then ((sizarref12_Value.f k a0_0 a0_1 a0_2 a0_3 a0_4 l0_5 l1_0 a1_1 a1_2 a1_3).bind fun t304 => (some (t304, 0))) else (some (false, t303)))) else (some (false, t302))) = some (r1, r2) := H
  have A3 := Aside0.mk A30
  clear A30
  by_cases c4 : t302 = 0
  · rw [if_pos c4] at H
    have c4b0 : (t302 == 0) = true := beq_iff_eq.mpr c4
    have c4b1 : (t302 != 0) = false := bne_eq_false_iff_eq.mpr c4
    clear c4
    replace H := Option.bind_eq_some_iff.mp H
    obtain ⟨t303, A50, H⟩ := H
    replace H : (if t303 = 0 then ((sizarref12_Value.f k a0_0 a0_1 a0_2 a0_3 a0_4 l0_5 l1_0 a1_1 a1_2 a1_3).bind fun t304 => (some (t304, 0))) else (some (false, t303))) = some (r1, r2) := H
    have A5 := Aside0.mk A50
    clear A50
    by_cases c6 : t303 = 0
    · rw [if_pos c6] at H
      have c6b0 : (t303 == 0) = true := beq_iff_eq.mpr c6
      have c6b1 : (t303 != 0) = false := bne_eq_false_iff_eq.mpr c6
      clear c6
      replace H := Option.bind_eq_some_iff.mp H
      obtain ⟨t304, A70, H⟩ := H
      replace H : (some (t304, 0)) = some (r1, r2) := H
      have A7 := Aside0.mk A70
      clear A70
      simp only [Option.some.injEq, Prod.mk.injEq] at H
      obtain ⟨rfl, rfl⟩ := H
      go_enter Tryd.func13, Tryd.ntmps13
      go_wp2_with (first | ((with_reducible refine gate_dst (N := 2) rfl ?_); refine box_event ?hg (N := 2) ?hd (cs := #[.int .i64 a0_0, .int .i64 a0_1, .string a0_2, .int .i64 a0_3, .int .i64 a0_4, .slice A0_5 l0_5.length c0_5]) (t := 24) ?hr ?_; (case hd => rfl); (case hg => rfl); (case hr => first | (go_simp; done) | (go_simp; rfl)); intro gb300 hg w8 hbox hb; have n0_ := Aside0.mk (below_step (by repeat (first | (with_reducible first | exact HB.out | apply below_alloc | apply pw_below_drewN | apply below_drew1) | exact HB.out)) hb); have n1_ := Aside0.mk (hbox); have n2_ := Aside0.mk ((by rw [hg]; exact (below_size (by repeat (first | (with_reducible first | exact HB.out | apply below_alloc | apply pw_below_drewN | apply below_drew1) | exact HB.out))) : w.heap.size ≤ gb300)); have n3_ := Aside0.mk ((by rw [hg]; exact (below_size (by repeat (first | (with_reducible first | exact HB.out | apply below_alloc | apply pw_below_drewN | apply below_drew1) | exact HB.out))) : w.heap.size ≤ gb300)); clear HB; have HB := n0_; have BK300 := n1_; have GW300 := n2_; have GE300 := n3_; clear n0_ n1_ n2_ n3_; clear hb hbox hg) | ((with_reducible refine gate_dst (N := 3) rfl ?_); refine box_event ?hg (N := 3) ?hd (cs := #[.slice A1_0 l1_0.length c1_0, .int .i64 a1_1, .int .i64 a1_2, .int .i64 a1_3]) (t := 29) ?hr ?_; (case hd => rfl); (case hg => rfl); (case hr => first | (go_simp; done) | (go_simp; rfl)); intro gb301 hg w9 hbox hb; have n0_ := Aside0.mk (blk_below (g := gb300) (o := .cells #[.int .i64 a0_0, .int .i64 a0_1, .string a0_2, .int .i64 a0_3, .int .i64 a0_4, .slice A0_5 l0_5.length c0_5] 24 (0, 0)) (by (with_reducible repeat (first | refine blk_drewN ?_ _ | refine blk_drew ?_ | refine blk_alloc ?_ _)); exact BK300.out) hb); have n1_ := Aside0.mk (below_step (by repeat (first | (with_reducible first | exact HB.out | apply below_alloc | apply pw_below_drewN | apply below_drew1 | refine below_set ?_ GE300.out) | exact HB.out)) hb); have n2_ := Aside0.mk (hbox); have n3_ := Aside0.mk ((by rw [hg]; exact (below_size (by repeat (first | (with_reducible first | exact HB.out | apply below_alloc | apply pw_below_drewN | apply below_drew1 | refine below_set ?_ GE300.out) | exact HB.out))) : w.heap.size ≤ gb301)); have n4_ := Aside0.mk ((by rw [hg]; exact (below_size (by repeat (first | (with_reducible first | exact HB.out | apply below_alloc | apply pw_below_drewN | apply below_drew1 | refine below_set ?_ GE300.out) | exact HB.out))) : w.heap.size ≤ gb301)); have n5_ := Aside0.mk ((by rw [hg]; exact Nat.ne_of_lt (blk_lt (g := gb300) (o := .cells #[.int .i64 a0_0, .int .i64 a0_1, .string a0_2, .int .i64 a0_3, .int .i64 a0_4, .slice A0_5 l0_5.length c0_5] 24 (0, 0)) (by (with_reducible repeat (first | refine blk_drewN ?_ _ | refine blk_drew ?_ | refine blk_alloc ?_ _)); exact BK300.out)) : gb300 ≠ gb301)); have n6_ := Aside0.mk ((by rw [hg]; exact Nat.ne_of_gt (blk_lt (g := gb300) (o := .cells #[.int .i64 a0_0, .int .i64 a0_1, .string a0_2, .int .i64 a0_3, .int .i64 a0_4, .slice A0_5 l0_5.length c0_5] 24 (0, 0)) (by (with_reducible repeat (first | refine blk_drewN ?_ _ | refine blk_drew ?_ | refine blk_alloc ?_ _)); exact BK300.out)) : gb301 ≠ gb300)); clear BK300; clear HB; have BK300 := n0_; have HB := n1_; have BK301 := n2_; have GW301 := n3_; have GE301 := n4_; have NB300_301 := n5_; have NB301_300 := n6_; clear n0_ n1_ n2_ n3_ n4_ n5_ n6_; clear hb hbox hg; have hnb10 := NB300_301.out; have hnc10 := NB301_300.out; have hcz11_0 : w9.cell? ⟨gb300, 0, none⟩ = some (.int .i64 a0_0) := (blk_cell BK300.out 0).trans rfl; have hcz11_1 : w9.cell? ⟨gb300, 1, none⟩ = some (.int .i64 a0_1) := (blk_cell BK300.out 1).trans rfl; have hcz11_2 : w9.cell? ⟨gb300, 2, none⟩ = some (.string a0_2) := (blk_cell BK300.out 2).trans rfl; have hcz11_3 : w9.cell? ⟨gb300, 3, none⟩ = some (.int .i64 a0_3) := (blk_cell BK300.out 3).trans rfl; have hcz11_4 : w9.cell? ⟨gb300, 4, none⟩ = some (.int .i64 a0_4) := (blk_cell BK300.out 4).trans rfl; have hcz11_5 : w9.cell? ⟨gb300, 5, none⟩ = some (.slice A0_5 l0_5.length c0_5) := (blk_cell BK300.out 5).trans rfl; have hfz11_0 := blk_frozen BK300.out 0; have hfz11_1 := blk_frozen BK300.out 1; have hfz11_2 := blk_frozen BK300.out 2; have hfz11_3 := blk_frozen BK300.out 3; have hfz11_4 := blk_frozen BK300.out 4; have hfz11_5 := blk_frozen BK300.out 5) | ((with_reducible refine gate_callee (f := 30) rfl ?_); refine goesL_ (some 8) rfl rfl Tryd.func30 (by kernel_rfl) rfl #[.agg #[.int .i64 a0_0, .int .i64 a0_1, .string a0_2, .int .i64 a0_3, .int .i64 a0_4, .slice A0_5 l0_5.length c0_5]] rfl (by (try simp only [List.map_toArray, List.map_cons, List.map_nil]); first | done | rfl | (simp only [List.length_drop, List.length_take]; rfl)) ?_; (with_reducible refine (sizarref12_Check.calls k a0_0 a0_1 a0_2 a0_3 a0_4 _ _ l0_5 t302 _ ?side1 ?side2 A3.out).mono ?_); (case side1 => repeat (first | exact (Kd.C_below HR0_5.out HB.out) | (with_reducible refine Kd.C_alloc ?_ _) | (with_reducible refine Kd.C_drewN ?_ _) | (with_reducible refine Kd.C_drew ?_))); (case side2 => exact HC0_5.out); rintro e w12 ⟨rfl, hb⟩; refine ⟨_, rfl, ?_⟩; have n0_ := Aside0.mk (blk_below (g := gb300) (o := .cells #[.int .i64 a0_0, .int .i64 a0_1, .string a0_2, .int .i64 a0_3, .int .i64 a0_4, .slice A0_5 l0_5.length c0_5] 24 (0, 0)) (by (with_reducible repeat (first | refine blk_drewN ?_ _ | refine blk_drew ?_ | refine blk_alloc ?_ _)); exact BK300.out) hb); have n1_ := Aside0.mk (blk_below (g := gb301) (o := .cells #[.slice A1_0 l1_0.length c1_0, .int .i64 a1_1, .int .i64 a1_2, .int .i64 a1_3] 29 (0, 0)) (by (with_reducible repeat (first | refine blk_drewN ?_ _ | refine blk_drew ?_ | refine blk_alloc ?_ _)); exact BK301.out) hb); have n2_ := Aside0.mk (below_step (by repeat (first | (with_reducible first | exact HB.out | apply below_alloc | apply pw_below_drewN | apply below_drew1 | refine below_set ?_ GE300.out | refine below_set ?_ GE301.out) | exact HB.out)) hb); clear BK300; clear BK301; clear HB; have BK300 := n0_; have BK301 := n1_; have HB := n2_; clear n0_ n1_ n2_; (try clear hb); (try clear hb2); (try clear hk); (try clear hi); have hcz13_0 : w12.cell? ⟨gb301, 0, none⟩ = some (.slice A1_0 l1_0.length c1_0) := (blk_cell BK301.out 0).trans rfl; have hcz13_1 : w12.cell? ⟨gb301, 1, none⟩ = some (.int .i64 a1_1) := (blk_cell BK301.out 1).trans rfl; have hcz13_2 : w12.cell? ⟨gb301, 2, none⟩ = some (.int .i64 a1_2) := (blk_cell BK301.out 2).trans rfl; have hcz13_3 : w12.cell? ⟨gb301, 3, none⟩ = some (.int .i64 a1_3) := (blk_cell BK301.out 3).trans rfl; have hfz13_0 := blk_frozen BK301.out 0; have hfz13_1 := blk_frozen BK301.out 1; have hfz13_2 := blk_frozen BK301.out 2; have hfz13_3 := blk_frozen BK301.out 3) | ((with_reducible refine gate_callee (f := 31) rfl ?_); refine goesL_ (some 12) rfl rfl Tryd.func31 (by kernel_rfl) rfl #[.agg #[.slice A1_0 l1_0.length c1_0, .int .i64 a1_1, .int .i64 a1_2, .int .i64 a1_3]] rfl (by (try simp only [List.map_toArray, List.map_cons, List.map_nil]); first | done | rfl | (simp only [List.length_drop, List.length_take]; rfl)) ?_; (with_reducible refine (sizarref12_Fits.calls k _ _ l1_0 a1_1 a1_2 a1_3 t303 _ ?side1 ?side2 A5.out).mono ?_); (case side1 => repeat (first | exact (Kd.C_below HR1_0.out HB.out) | (with_reducible refine Kd.C_alloc ?_ _) | (with_reducible refine Kd.C_drewN ?_ _) | (with_reducible refine Kd.C_drew ?_))); (case side2 => exact HC1_0.out); rintro e w14 ⟨rfl, hb⟩; refine ⟨_, rfl, ?_⟩; have n0_ := Aside0.mk (blk_below (g := gb300) (o := .cells #[.int .i64 a0_0, .int .i64 a0_1, .string a0_2, .int .i64 a0_3, .int .i64 a0_4, .slice A0_5 l0_5.length c0_5] 24 (0, 0)) (by (with_reducible repeat (first | refine blk_drewN ?_ _ | refine blk_drew ?_ | refine blk_alloc ?_ _)); exact BK300.out) hb); have n1_ := Aside0.mk (blk_below (g := gb301) (o := .cells #[.slice A1_0 l1_0.length c1_0, .int .i64 a1_1, .int .i64 a1_2, .int .i64 a1_3] 29 (0, 0)) (by (with_reducible repeat (first | refine blk_drewN ?_ _ | refine blk_drew ?_ | refine blk_alloc ?_ _)); exact BK301.out) hb); have n2_ := Aside0.mk (below_step (by repeat (first | (with_reducible first | exact HB.out | apply below_alloc | apply pw_below_drewN | apply below_drew1 | refine below_set ?_ GE300.out | refine below_set ?_ GE301.out) | exact HB.out)) hb); clear BK300; clear BK301; clear HB; have BK300 := n0_; have BK301 := n1_; have HB := n2_; clear n0_ n1_ n2_; (try clear hb); (try clear hb2); (try clear hk); (try clear hi); have hcz15_0 : w14.cell? ⟨gb300, 0, none⟩ = some (.int .i64 a0_0) := (blk_cell BK300.out 0).trans rfl; have hcz15_1 : w14.cell? ⟨gb300, 1, none⟩ = some (.int .i64 a0_1) := (blk_cell BK300.out 1).trans rfl; have hcz15_2 : w14.cell? ⟨gb300, 2, none⟩ = some (.string a0_2) := (blk_cell BK300.out 2).trans rfl; have hcz15_3 : w14.cell? ⟨gb300, 3, none⟩ = some (.int .i64 a0_3) := (blk_cell BK300.out 3).trans rfl; have hcz15_4 : w14.cell? ⟨gb300, 4, none⟩ = some (.int .i64 a0_4) := (blk_cell BK300.out 4).trans rfl; have hcz15_5 : w14.cell? ⟨gb300, 5, none⟩ = some (.slice A0_5 l0_5.length c0_5) := (blk_cell BK300.out 5).trans rfl; have hfz15_0 := blk_frozen BK300.out 0; have hfz15_1 := blk_frozen BK300.out 1; have hfz15_2 := blk_frozen BK300.out 2; have hfz15_3 := blk_frozen BK300.out 3; have hfz15_4 := blk_frozen BK300.out 4; have hfz15_5 := blk_frozen BK300.out 5; have hcz16_0 : w14.cell? ⟨gb301, 0, none⟩ = some (.slice A1_0 l1_0.length c1_0) := (blk_cell BK301.out 0).trans rfl; have hcz16_1 : w14.cell? ⟨gb301, 1, none⟩ = some (.int .i64 a1_1) := (blk_cell BK301.out 1).trans rfl; have hcz16_2 : w14.cell? ⟨gb301, 2, none⟩ = some (.int .i64 a1_2) := (blk_cell BK301.out 2).trans rfl; have hcz16_3 : w14.cell? ⟨gb301, 3, none⟩ = some (.int .i64 a1_3) := (blk_cell BK301.out 3).trans rfl; have hfz16_0 := blk_frozen BK301.out 0; have hfz16_1 := blk_frozen BK301.out 1; have hfz16_2 := blk_frozen BK301.out 2; have hfz16_3 := blk_frozen BK301.out 3) | ((with_reducible refine gate_callee (f := 32) rfl ?_); refine goesL_ (some 18) rfl rfl Tryd.func32 (by kernel_rfl) rfl #[.agg #[.int .i64 a0_0, .int .i64 a0_1, .string a0_2, .int .i64 a0_3, .int .i64 a0_4, .slice A0_5 l0_5.length c0_5], .agg #[.slice A1_0 l1_0.length c1_0, .int .i64 a1_1, .int .i64 a1_2, .int .i64 a1_3]] rfl (by (try simp only [List.map_toArray, List.map_cons, List.map_nil]); first | done | rfl | (simp only [List.length_drop, List.length_take]; rfl)) ?_; (with_reducible refine (sizarref12_Value.calls k a0_0 a0_1 a0_2 a0_3 a0_4 _ _ l0_5 _ _ l1_0 a1_1 a1_2 a1_3 t304 _ ?side1 ?side2 ?side3 ?side4 A7.out).mono ?_); (case side1 => repeat (first | exact (Kd.C_below HR0_5.out HB.out) | (with_reducible refine Kd.C_alloc ?_ _) | (with_reducible refine Kd.C_drewN ?_ _) | (with_reducible refine Kd.C_drew ?_))); (case side2 => exact HC0_5.out); (case side3 => repeat (first | exact (Kd.C_below HR1_0.out HB.out) | (with_reducible refine Kd.C_alloc ?_ _) | (with_reducible refine Kd.C_drewN ?_ _) | (with_reducible refine Kd.C_drew ?_))); (case side4 => exact HC1_0.out); rintro e w17 ⟨rfl, hb⟩; refine ⟨_, rfl, ?_⟩; have n0_ := Aside0.mk (blk_below (g := gb300) (o := .cells #[.int .i64 a0_0, .int .i64 a0_1, .string a0_2, .int .i64 a0_3, .int .i64 a0_4, .slice A0_5 l0_5.length c0_5] 24 (0, 0)) (by (with_reducible repeat (first | refine blk_drewN ?_ _ | refine blk_drew ?_ | refine blk_alloc ?_ _)); exact BK300.out) hb); have n1_ := Aside0.mk (blk_below (g := gb301) (o := .cells #[.slice A1_0 l1_0.length c1_0, .int .i64 a1_1, .int .i64 a1_2, .int .i64 a1_3] 29 (0, 0)) (by (with_reducible repeat (first | refine blk_drewN ?_ _ | refine blk_drew ?_ | refine blk_alloc ?_ _)); exact BK301.out) hb); have n2_ := Aside0.mk (below_step (by repeat (first | (with_reducible first | exact HB.out | apply below_alloc | apply pw_below_drewN | apply below_drew1 | refine below_set ?_ GE300.out | refine below_set ?_ GE301.out) | exact HB.out)) hb); clear BK300; clear BK301; clear HB; have BK300 := n0_; have BK301 := n1_; have HB := n2_; clear n0_ n1_ n2_; (try clear hb); (try clear hb2); (try clear hk); (try clear hi)))
      go_ret2
      exact ⟨by first | rfl | (simp [errW_none, errW_some] <;> rfl) | (simp [*, errW_none, errW_some] <;> rfl), by repeat (first | (with_reducible first | exact HB.out | apply below_alloc | apply pw_below_drewN | apply below_drew1 | refine below_set ?_ GE300.out | refine below_set ?_ GE301.out) | exact HB.out)⟩
    · rw [if_neg c6] at H
      have c6b0 : (t303 == 0) = false := beq_eq_false_iff_ne.mpr c6
      have c6b1 : (t303 != 0) = true := bne_iff_ne.mpr c6
      simp only [Option.some.injEq, Prod.mk.injEq] at H
      obtain ⟨rfl, rfl⟩ := H
      go_enter Tryd.func13, Tryd.ntmps13
      go_wp2_with (first | ((with_reducible refine gate_dst (N := 2) rfl ?_); refine box_event ?hg (N := 2) ?hd (cs := #[.int .i64 a0_0, .int .i64 a0_1, .string a0_2, .int .i64 a0_3, .int .i64 a0_4, .slice A0_5 l0_5.length c0_5]) (t := 24) ?hr ?_; (case hd => rfl); (case hg => rfl); (case hr => first | (go_simp; done) | (go_simp; rfl)); intro gb300 hg w18 hbox hb; have n0_ := Aside0.mk (below_step (by repeat (first | (with_reducible first | exact HB.out | apply below_alloc | apply pw_below_drewN | apply below_drew1) | exact HB.out)) hb); have n1_ := Aside0.mk (hbox); have n2_ := Aside0.mk ((by rw [hg]; exact (below_size (by repeat (first | (with_reducible first | exact HB.out | apply below_alloc | apply pw_below_drewN | apply below_drew1) | exact HB.out))) : w.heap.size ≤ gb300)); have n3_ := Aside0.mk ((by rw [hg]; exact (below_size (by repeat (first | (with_reducible first | exact HB.out | apply below_alloc | apply pw_below_drewN | apply below_drew1) | exact HB.out))) : w.heap.size ≤ gb300)); clear HB; have HB := n0_; have BK300 := n1_; have GW300 := n2_; have GE300 := n3_; clear n0_ n1_ n2_ n3_; clear hb hbox hg) | ((with_reducible refine gate_dst (N := 3) rfl ?_); refine box_event ?hg (N := 3) ?hd (cs := #[.slice A1_0 l1_0.length c1_0, .int .i64 a1_1, .int .i64 a1_2, .int .i64 a1_3]) (t := 29) ?hr ?_; (case hd => rfl); (case hg => rfl); (case hr => first | (go_simp; done) | (go_simp; rfl)); intro gb301 hg w19 hbox hb; have n0_ := Aside0.mk (blk_below (g := gb300) (o := .cells #[.int .i64 a0_0, .int .i64 a0_1, .string a0_2, .int .i64 a0_3, .int .i64 a0_4, .slice A0_5 l0_5.length c0_5] 24 (0, 0)) (by (with_reducible repeat (first | refine blk_drewN ?_ _ | refine blk_drew ?_ | refine blk_alloc ?_ _)); exact BK300.out) hb); have n1_ := Aside0.mk (below_step (by repeat (first | (with_reducible first | exact HB.out | apply below_alloc | apply pw_below_drewN | apply below_drew1 | refine below_set ?_ GE300.out) | exact HB.out)) hb); have n2_ := Aside0.mk (hbox); have n3_ := Aside0.mk ((by rw [hg]; exact (below_size (by repeat (first | (with_reducible first | exact HB.out | apply below_alloc | apply pw_below_drewN | apply below_drew1 | refine below_set ?_ GE300.out) | exact HB.out))) : w.heap.size ≤ gb301)); have n4_ := Aside0.mk ((by rw [hg]; exact (below_size (by repeat (first | (with_reducible first | exact HB.out | apply below_alloc | apply pw_below_drewN | apply below_drew1 | refine below_set ?_ GE300.out) | exact HB.out))) : w.heap.size ≤ gb301)); have n5_ := Aside0.mk ((by rw [hg]; exact Nat.ne_of_lt (blk_lt (g := gb300) (o := .cells #[.int .i64 a0_0, .int .i64 a0_1, .string a0_2, .int .i64 a0_3, .int .i64 a0_4, .slice A0_5 l0_5.length c0_5] 24 (0, 0)) (by (with_reducible repeat (first | refine blk_drewN ?_ _ | refine blk_drew ?_ | refine blk_alloc ?_ _)); exact BK300.out)) : gb300 ≠ gb301)); have n6_ := Aside0.mk ((by rw [hg]; exact Nat.ne_of_gt (blk_lt (g := gb300) (o := .cells #[.int .i64 a0_0, .int .i64 a0_1, .string a0_2, .int .i64 a0_3, .int .i64 a0_4, .slice A0_5 l0_5.length c0_5] 24 (0, 0)) (by (with_reducible repeat (first | refine blk_drewN ?_ _ | refine blk_drew ?_ | refine blk_alloc ?_ _)); exact BK300.out)) : gb301 ≠ gb300)); clear BK300; clear HB; have BK300 := n0_; have HB := n1_; have BK301 := n2_; have GW301 := n3_; have GE301 := n4_; have NB300_301 := n5_; have NB301_300 := n6_; clear n0_ n1_ n2_ n3_ n4_ n5_ n6_; clear hb hbox hg; have hnb20 := NB300_301.out; have hnc20 := NB301_300.out; have hcz21_0 : w19.cell? ⟨gb300, 0, none⟩ = some (.int .i64 a0_0) := (blk_cell BK300.out 0).trans rfl; have hcz21_1 : w19.cell? ⟨gb300, 1, none⟩ = some (.int .i64 a0_1) := (blk_cell BK300.out 1).trans rfl; have hcz21_2 : w19.cell? ⟨gb300, 2, none⟩ = some (.string a0_2) := (blk_cell BK300.out 2).trans rfl; have hcz21_3 : w19.cell? ⟨gb300, 3, none⟩ = some (.int .i64 a0_3) := (blk_cell BK300.out 3).trans rfl; have hcz21_4 : w19.cell? ⟨gb300, 4, none⟩ = some (.int .i64 a0_4) := (blk_cell BK300.out 4).trans rfl; have hcz21_5 : w19.cell? ⟨gb300, 5, none⟩ = some (.slice A0_5 l0_5.length c0_5) := (blk_cell BK300.out 5).trans rfl; have hfz21_0 := blk_frozen BK300.out 0; have hfz21_1 := blk_frozen BK300.out 1; have hfz21_2 := blk_frozen BK300.out 2; have hfz21_3 := blk_frozen BK300.out 3; have hfz21_4 := blk_frozen BK300.out 4; have hfz21_5 := blk_frozen BK300.out 5) | ((with_reducible refine gate_callee (f := 30) rfl ?_); refine goesL_ (some 8) rfl rfl Tryd.func30 (by kernel_rfl) rfl #[.agg #[.int .i64 a0_0, .int .i64 a0_1, .string a0_2, .int .i64 a0_3, .int .i64 a0_4, .slice A0_5 l0_5.length c0_5]] rfl (by (try simp only [List.map_toArray, List.map_cons, List.map_nil]); first | done | rfl | (simp only [List.length_drop, List.length_take]; rfl)) ?_; (with_reducible refine (sizarref12_Check.calls k a0_0 a0_1 a0_2 a0_3 a0_4 _ _ l0_5 t302 _ ?side1 ?side2 A3.out).mono ?_); (case side1 => repeat (first | exact (Kd.C_below HR0_5.out HB.out) | (with_reducible refine Kd.C_alloc ?_ _) | (with_reducible refine Kd.C_drewN ?_ _) | (with_reducible refine Kd.C_drew ?_))); (case side2 => exact HC0_5.out); rintro e w22 ⟨rfl, hb⟩; refine ⟨_, rfl, ?_⟩; have n0_ := Aside0.mk (blk_below (g := gb300) (o := .cells #[.int .i64 a0_0, .int .i64 a0_1, .string a0_2, .int .i64 a0_3, .int .i64 a0_4, .slice A0_5 l0_5.length c0_5] 24 (0, 0)) (by (with_reducible repeat (first | refine blk_drewN ?_ _ | refine blk_drew ?_ | refine blk_alloc ?_ _)); exact BK300.out) hb); have n1_ := Aside0.mk (blk_below (g := gb301) (o := .cells #[.slice A1_0 l1_0.length c1_0, .int .i64 a1_1, .int .i64 a1_2, .int .i64 a1_3] 29 (0, 0)) (by (with_reducible repeat (first | refine blk_drewN ?_ _ | refine blk_drew ?_ | refine blk_alloc ?_ _)); exact BK301.out) hb); have n2_ := Aside0.mk (below_step (by repeat (first | (with_reducible first | exact HB.out | apply below_alloc | apply pw_below_drewN | apply below_drew1 | refine below_set ?_ GE300.out | refine below_set ?_ GE301.out) | exact HB.out)) hb); clear BK300; clear BK301; clear HB; have BK300 := n0_; have BK301 := n1_; have HB := n2_; clear n0_ n1_ n2_; (try clear hb); (try clear hb2); (try clear hk); (try clear hi); have hcz23_0 : w22.cell? ⟨gb301, 0, none⟩ = some (.slice A1_0 l1_0.length c1_0) := (blk_cell BK301.out 0).trans rfl; have hcz23_1 : w22.cell? ⟨gb301, 1, none⟩ = some (.int .i64 a1_1) := (blk_cell BK301.out 1).trans rfl; have hcz23_2 : w22.cell? ⟨gb301, 2, none⟩ = some (.int .i64 a1_2) := (blk_cell BK301.out 2).trans rfl; have hcz23_3 : w22.cell? ⟨gb301, 3, none⟩ = some (.int .i64 a1_3) := (blk_cell BK301.out 3).trans rfl; have hfz23_0 := blk_frozen BK301.out 0; have hfz23_1 := blk_frozen BK301.out 1; have hfz23_2 := blk_frozen BK301.out 2; have hfz23_3 := blk_frozen BK301.out 3) | ((with_reducible refine gate_callee (f := 31) rfl ?_); refine goesL_ (some 12) rfl rfl Tryd.func31 (by kernel_rfl) rfl #[.agg #[.slice A1_0 l1_0.length c1_0, .int .i64 a1_1, .int .i64 a1_2, .int .i64 a1_3]] rfl (by (try simp only [List.map_toArray, List.map_cons, List.map_nil]); first | done | rfl | (simp only [List.length_drop, List.length_take]; rfl)) ?_; (with_reducible refine (sizarref12_Fits.calls k _ _ l1_0 a1_1 a1_2 a1_3 t303 _ ?side1 ?side2 A5.out).mono ?_); (case side1 => repeat (first | exact (Kd.C_below HR1_0.out HB.out) | (with_reducible refine Kd.C_alloc ?_ _) | (with_reducible refine Kd.C_drewN ?_ _) | (with_reducible refine Kd.C_drew ?_))); (case side2 => exact HC1_0.out); rintro e w24 ⟨rfl, hb⟩; refine ⟨_, rfl, ?_⟩; have n0_ := Aside0.mk (blk_below (g := gb300) (o := .cells #[.int .i64 a0_0, .int .i64 a0_1, .string a0_2, .int .i64 a0_3, .int .i64 a0_4, .slice A0_5 l0_5.length c0_5] 24 (0, 0)) (by (with_reducible repeat (first | refine blk_drewN ?_ _ | refine blk_drew ?_ | refine blk_alloc ?_ _)); exact BK300.out) hb); have n1_ := Aside0.mk (blk_below (g := gb301) (o := .cells #[.slice A1_0 l1_0.length c1_0, .int .i64 a1_1, .int .i64 a1_2, .int .i64 a1_3] 29 (0, 0)) (by (with_reducible repeat (first | refine blk_drewN ?_ _ | refine blk_drew ?_ | refine blk_alloc ?_ _)); exact BK301.out) hb); have n2_ := Aside0.mk (below_step (by repeat (first | (with_reducible first | exact HB.out | apply below_alloc | apply pw_below_drewN | apply below_drew1 | refine below_set ?_ GE300.out | refine below_set ?_ GE301.out) | exact HB.out)) hb); clear BK300; clear BK301; clear HB; have BK300 := n0_; have BK301 := n1_; have HB := n2_; clear n0_ n1_ n2_; (try clear hb); (try clear hb2); (try clear hk); (try clear hi)))
      go_ret2
      exact ⟨by first | rfl | (simp [errW_none, errW_some] <;> rfl) | (simp [*, errW_none, errW_some] <;> rfl), by repeat (first | (with_reducible first | exact HB.out | apply below_alloc | apply pw_below_drewN | apply below_drew1 | refine below_set ?_ GE300.out | refine below_set ?_ GE301.out) | exact HB.out)⟩
  · rw [if_neg c4] at H
    have c4b0 : (t302 == 0) = false := beq_eq_false_iff_ne.mpr c4
    have c4b1 : (t302 != 0) = true := bne_iff_ne.mpr c4
    simp only [Option.some.injEq, Prod.mk.injEq] at H
    obtain ⟨rfl, rfl⟩ := H
    go_enter Tryd.func13, Tryd.ntmps13
    go_wp2_with (first | ((with_reducible refine gate_dst (N := 2) rfl ?_); refine box_event ?hg (N := 2) ?hd (cs := #[.int .i64 a0_0, .int .i64 a0_1, .string a0_2, .int .i64 a0_3, .int .i64 a0_4, .slice A0_5 l0_5.length c0_5]) (t := 24) ?hr ?_; (case hd => rfl); (case hg => rfl); (case hr => first | (go_simp; done) | (go_simp; rfl)); intro gb300 hg w25 hbox hb; have n0_ := Aside0.mk (below_step (by repeat (first | (with_reducible first | exact HB.out | apply below_alloc | apply pw_below_drewN | apply below_drew1) | exact HB.out)) hb); have n1_ := Aside0.mk (hbox); have n2_ := Aside0.mk ((by rw [hg]; exact (below_size (by repeat (first | (with_reducible first | exact HB.out | apply below_alloc | apply pw_below_drewN | apply below_drew1) | exact HB.out))) : w.heap.size ≤ gb300)); have n3_ := Aside0.mk ((by rw [hg]; exact (below_size (by repeat (first | (with_reducible first | exact HB.out | apply below_alloc | apply pw_below_drewN | apply below_drew1) | exact HB.out))) : w.heap.size ≤ gb300)); clear HB; have HB := n0_; have BK300 := n1_; have GW300 := n2_; have GE300 := n3_; clear n0_ n1_ n2_ n3_; clear hb hbox hg) | ((with_reducible refine gate_dst (N := 3) rfl ?_); refine box_event ?hg (N := 3) ?hd (cs := #[.slice A1_0 l1_0.length c1_0, .int .i64 a1_1, .int .i64 a1_2, .int .i64 a1_3]) (t := 29) ?hr ?_; (case hd => rfl); (case hg => rfl); (case hr => first | (go_simp; done) | (go_simp; rfl)); intro gb301 hg w26 hbox hb; have n0_ := Aside0.mk (blk_below (g := gb300) (o := .cells #[.int .i64 a0_0, .int .i64 a0_1, .string a0_2, .int .i64 a0_3, .int .i64 a0_4, .slice A0_5 l0_5.length c0_5] 24 (0, 0)) (by (with_reducible repeat (first | refine blk_drewN ?_ _ | refine blk_drew ?_ | refine blk_alloc ?_ _)); exact BK300.out) hb); have n1_ := Aside0.mk (below_step (by repeat (first | (with_reducible first | exact HB.out | apply below_alloc | apply pw_below_drewN | apply below_drew1 | refine below_set ?_ GE300.out) | exact HB.out)) hb); have n2_ := Aside0.mk (hbox); have n3_ := Aside0.mk ((by rw [hg]; exact (below_size (by repeat (first | (with_reducible first | exact HB.out | apply below_alloc | apply pw_below_drewN | apply below_drew1 | refine below_set ?_ GE300.out) | exact HB.out))) : w.heap.size ≤ gb301)); have n4_ := Aside0.mk ((by rw [hg]; exact (below_size (by repeat (first | (with_reducible first | exact HB.out | apply below_alloc | apply pw_below_drewN | apply below_drew1 | refine below_set ?_ GE300.out) | exact HB.out))) : w.heap.size ≤ gb301)); have n5_ := Aside0.mk ((by rw [hg]; exact Nat.ne_of_lt (blk_lt (g := gb300) (o := .cells #[.int .i64 a0_0, .int .i64 a0_1, .string a0_2, .int .i64 a0_3, .int .i64 a0_4, .slice A0_5 l0_5.length c0_5] 24 (0, 0)) (by (with_reducible repeat (first | refine blk_drewN ?_ _ | refine blk_drew ?_ | refine blk_alloc ?_ _)); exact BK300.out)) : gb300 ≠ gb301)); have n6_ := Aside0.mk ((by rw [hg]; exact Nat.ne_of_gt (blk_lt (g := gb300) (o := .cells #[.int .i64 a0_0, .int .i64 a0_1, .string a0_2, .int .i64 a0_3, .int .i64 a0_4, .slice A0_5 l0_5.length c0_5] 24 (0, 0)) (by (with_reducible repeat (first | refine blk_drewN ?_ _ | refine blk_drew ?_ | refine blk_alloc ?_ _)); exact BK300.out)) : gb301 ≠ gb300)); clear BK300; clear HB; have BK300 := n0_; have HB := n1_; have BK301 := n2_; have GW301 := n3_; have GE301 := n4_; have NB300_301 := n5_; have NB301_300 := n6_; clear n0_ n1_ n2_ n3_ n4_ n5_ n6_; clear hb hbox hg; have hnb27 := NB300_301.out; have hnc27 := NB301_300.out; have hcz28_0 : w26.cell? ⟨gb300, 0, none⟩ = some (.int .i64 a0_0) := (blk_cell BK300.out 0).trans rfl; have hcz28_1 : w26.cell? ⟨gb300, 1, none⟩ = some (.int .i64 a0_1) := (blk_cell BK300.out 1).trans rfl; have hcz28_2 : w26.cell? ⟨gb300, 2, none⟩ = some (.string a0_2) := (blk_cell BK300.out 2).trans rfl; have hcz28_3 : w26.cell? ⟨gb300, 3, none⟩ = some (.int .i64 a0_3) := (blk_cell BK300.out 3).trans rfl; have hcz28_4 : w26.cell? ⟨gb300, 4, none⟩ = some (.int .i64 a0_4) := (blk_cell BK300.out 4).trans rfl; have hcz28_5 : w26.cell? ⟨gb300, 5, none⟩ = some (.slice A0_5 l0_5.length c0_5) := (blk_cell BK300.out 5).trans rfl; have hfz28_0 := blk_frozen BK300.out 0; have hfz28_1 := blk_frozen BK300.out 1; have hfz28_2 := blk_frozen BK300.out 2; have hfz28_3 := blk_frozen BK300.out 3; have hfz28_4 := blk_frozen BK300.out 4; have hfz28_5 := blk_frozen BK300.out 5) | ((with_reducible refine gate_callee (f := 30) rfl ?_); refine goesL_ (some 8) rfl rfl Tryd.func30 (by kernel_rfl) rfl #[.agg #[.int .i64 a0_0, .int .i64 a0_1, .string a0_2, .int .i64 a0_3, .int .i64 a0_4, .slice A0_5 l0_5.length c0_5]] rfl (by (try simp only [List.map_toArray, List.map_cons, List.map_nil]); first | done | rfl | (simp only [List.length_drop, List.length_take]; rfl)) ?_; (with_reducible refine (sizarref12_Check.calls k a0_0 a0_1 a0_2 a0_3 a0_4 _ _ l0_5 t302 _ ?side1 ?side2 A3.out).mono ?_); (case side1 => repeat (first | exact (Kd.C_below HR0_5.out HB.out) | (with_reducible refine Kd.C_alloc ?_ _) | (with_reducible refine Kd.C_drewN ?_ _) | (with_reducible refine Kd.C_drew ?_))); (case side2 => exact HC0_5.out); rintro e w29 ⟨rfl, hb⟩; refine ⟨_, rfl, ?_⟩; have n0_ := Aside0.mk (blk_below (g := gb300) (o := .cells #[.int .i64 a0_0, .int .i64 a0_1, .string a0_2, .int .i64 a0_3, .int .i64 a0_4, .slice A0_5 l0_5.length c0_5] 24 (0, 0)) (by (with_reducible repeat (first | refine blk_drewN ?_ _ | refine blk_drew ?_ | refine blk_alloc ?_ _)); exact BK300.out) hb); have n1_ := Aside0.mk (blk_below (g := gb301) (o := .cells #[.slice A1_0 l1_0.length c1_0, .int .i64 a1_1, .int .i64 a1_2, .int .i64 a1_3] 29 (0, 0)) (by (with_reducible repeat (first | refine blk_drewN ?_ _ | refine blk_drew ?_ | refine blk_alloc ?_ _)); exact BK301.out) hb); have n2_ := Aside0.mk (below_step (by repeat (first | (with_reducible first | exact HB.out | apply below_alloc | apply pw_below_drewN | apply below_drew1 | refine below_set ?_ GE300.out | refine below_set ?_ GE301.out) | exact HB.out)) hb); clear BK300; clear BK301; clear HB; have BK300 := n0_; have BK301 := n1_; have HB := n2_; clear n0_ n1_ n2_; (try clear hb); (try clear hb2); (try clear hk); (try clear hi)))
    go_ret2
    exact ⟨by first | rfl | (simp [errW_none, errW_some] <;> rfl) | (simp [*, errW_none, errW_some] <;> rfl), by repeat (first | (with_reducible first | exact HB.out | apply below_alloc | apply pw_below_drewN | apply below_drew1 | refine below_set ?_ GE300.out | refine below_set ?_ GE301.out) | exact HB.out)⟩
def sizarlaw12_RulesHoldsSpec.j0 : Nat → Bool → Int → Int → ByteArray → Int → Int → List (S24) → List (S49) → Int → Int → Int → Option (Bool)
  | 0, _, _, _, _, _, _, _, _, _, _, _ => none
  | k + 1, x19, x325000, x325001, x325002, x325003, x325004, x325005, x326000, x326001, x326002, x326003 => if x19 = true then (some true) else ((rules_Holds.f k x325000 x325001 x325002 x325003 x325004 x325005 x326000 x326001 x326002 x326003).bind fun bt328 => ((sizarref12_Holds.f k x325000 x325001 x325002 x325003 x325004 x325005 x326000 x326001 x326002 x326003).bind fun bt330 => (if (bt328.1 == bt330.1) = true then (some (bt328.2 == bt330.2)) else (some false))))
def sizarlaw12_RulesHoldsSpec.f (k : Nat) (a0_0 : Int) (a0_1 : Int) (a0_2 : ByteArray) (a0_3 : Int) (a0_4 : Int) (l0_5 : List (S24)) (l1_0 : List (S49)) (a1_1 : Int) (a1_2 : Int) (a1_3 : Int) : Option (Bool) := (sizarlaw12_sane.f k).bind fun t326 => (if t326 = true then ((sizarref12_Few.f k a0_0 a0_1 a0_2 a0_3 a0_4 l0_5).bind fun t327 => (if t327 = true then (sizarlaw12_RulesHoldsSpec.j0 k (decide ((l1_0.length : Int) > 50)) a0_0 a0_1 a0_2 a0_3 a0_4 l0_5 l1_0 a1_1 a1_2 a1_3) else (sizarlaw12_RulesHoldsSpec.j0 k true a0_0 a0_1 a0_2 a0_3 a0_4 l0_5 l1_0 a1_1 a1_2 a1_3))) else (some false))
set_option maxHeartbeats 8000000 in
set_option maxRecDepth 100000 in
theorem sizarlaw12_RulesHoldsSpec.calls (k : Nat) (a0_0 : Int) (a0_1 : Int) (a0_2 : ByteArray) (a0_3 : Int) (a0_4 : Int) (A0_5 : Option Addr) (c0_5 : Nat) (l0_5 : List (S24)) (A1_0 : Option Addr) (c1_0 : Nat) (l1_0 : List (S49)) (a1_1 : Int) (a1_2 : Int) (a1_3 : Int) (r : Bool) (w : World) (hr0_5 : Kd.C k24 w A0_5 l0_5.length l0_5) (hc0_5 : l0_5.length ≤ c0_5) (hr1_0 : Kd.C k49 w A1_0 l1_0.length l1_0) (hc1_0 : l1_0.length ≤ c1_0) (h : sizarlaw12_RulesHoldsSpec.f k a0_0 a0_1 a0_2 a0_3 a0_4 l0_5 l1_0 a1_1 a1_2 a1_3 = some r) (hKT : KindsAt w) :
    Calls Tryd.prog 3 #[.agg #[.int .i64 a0_0, .int .i64 a0_1, .string a0_2, .int .i64 a0_3, .int .i64 a0_4, .slice A0_5 l0_5.length c0_5], .agg #[.slice A1_0 l1_0.length c1_0, .int .i64 a1_1, .int .i64 a1_2, .int .i64 a1_3]] w fun e w' => e = .returned (.bool r) ∧ Below w.heap.size w w' := by
  have HKT := Aside0.mk hKT
  clear hKT
  have hu24 := Tryd.underlying24
  have hu29 := Tryd.underlying29
  have HR0_5 := Aside0.mk hr0_5
  have HC0_5 := Aside0.mk hc0_5
  clear hr0_5 hc0_5
  have HR1_0 := Aside0.mk hr1_0
  have HC1_0 := Aside0.mk hc1_0
  clear hr1_0 hc1_0
  have HB := Aside0.mk (Below.refl w.heap.size w)
  have H : ((sizarlaw12_sane.f k).bind fun t326 => (if t326 = true then ((sizarref12_Few.f k a0_0 a0_1 a0_2 a0_3 a0_4 l0_5).bind fun t327 => (if t327 = true then (sizarlaw12_RulesHoldsSpec.j0 k (decide ((l1_0.length : Int) > 50)) a0_0 a0_1 a0_2 a0_3 a0_4 l0_5 l1_0 a1_1 a1_2 a1_3) else (sizarlaw12_RulesHoldsSpec.j0 k true a0_0 a0_1 a0_2 a0_3 a0_4 l0_5 l1_0 a1_1 a1_2 a1_3))) else (some false))) = some r := h
  clear h
  replace H := Option.bind_eq_some_iff.mp H
  obtain ⟨t326, A30, H⟩ := H
  replace H : (if t326 = true then ((sizarref12_Few.f k a0_0 a0_1 a0_2 a0_3 a0_4 l0_5).bind fun t327 => (if t327 = true then (sizarlaw12_RulesHoldsSpec.j0 k (decide ((l1_0.length : Int) > 50)) a0_0 a0_1 a0_2 a0_3 a0_4 l0_5 l1_0 a1_1 a1_2 a1_3) else (sizarlaw12_RulesHoldsSpec.j0 k true a0_0 a0_1 a0_2 a0_3 a0_4 l0_5 l1_0 a1_1 a1_2 a1_3))) else (some false)) = some r := H
  have A3 := Aside0.mk A30
  clear A30
  by_cases c4 : t326 = true
  · subst c4
    have H1 : ((sizarref12_Few.f k a0_0 a0_1 a0_2 a0_3 a0_4 l0_5).bind fun t327 => (if t327 = true then (sizarlaw12_RulesHoldsSpec.j0 k (decide ((l1_0.length : Int) > 50)) a0_0 a0_1 a0_2 a0_3 a0_4 l0_5 l1_0 a1_1 a1_2 a1_3) else (sizarlaw12_RulesHoldsSpec.j0 k true a0_0 a0_1 a0_2 a0_3 a0_4 l0_5 l1_0 a1_1 a1_2 a1_3))) = some r := by rw [if_pos rfl] at H; exact H
    clear H
    have H := H1
    clear H1
    have HC5 := Aside0.mk H
    clear H
    go_enter Tryd.func3, Tryd.ntmps3
    go_upto_region 3 with (first | ((with_reducible refine gate_dst (N := 2) rfl ?_); (try (refine gate_guard (by rfl) ?_; dsimp only)); refine box_event ?hg (N := 2) ?hd (cs := #[.int .i64 a0_0, .int .i64 a0_1, .string a0_2, .int .i64 a0_3, .int .i64 a0_4, .slice A0_5 l0_5.length c0_5]) (t := 24) ?hr ?_; (case hd => rfl); (case hg => rfl); (case hr => first | (go_simp; done) | (go_simp; rfl)); intro gb324 hg w6 hbox hb; have n0_ := Aside0.mk (below_step (by repeat (first | (with_reducible first | exact HB.out | apply below_alloc | apply pw_below_drewN | apply below_drew1) | exact HB.out)) hb); have n1_ := Aside0.mk (hbox); have n2_ := Aside0.mk ((by rw [hg]; exact (below_size (by repeat (first | (with_reducible first | exact HB.out | apply below_alloc | apply pw_below_drewN | apply below_drew1) | exact HB.out))) : w.heap.size ≤ gb324)); have n3_ := Aside0.mk ((by rw [hg]; exact (below_size (by repeat (first | (with_reducible first | exact HB.out | apply below_alloc | apply pw_below_drewN | apply below_drew1) | exact HB.out))) : w.heap.size ≤ gb324)); clear HB; have HB := n0_; have BK324 := n1_; have GW324 := n2_; have GE324 := n3_; clear n0_ n1_ n2_ n3_; clear hb hbox hg) | ((with_reducible refine gate_dst (N := 3) rfl ?_); (try (refine gate_guard (by rfl) ?_; dsimp only)); refine box_event ?hg (N := 3) ?hd (cs := #[.slice A1_0 l1_0.length c1_0, .int .i64 a1_1, .int .i64 a1_2, .int .i64 a1_3]) (t := 29) ?hr ?_; (case hd => rfl); (case hg => rfl); (case hr => first | (go_simp; done) | (go_simp; rfl)); intro gb325 hg w7 hbox hb; have n0_ := Aside0.mk (blk_below (g := gb324) (o := .cells #[.int .i64 a0_0, .int .i64 a0_1, .string a0_2, .int .i64 a0_3, .int .i64 a0_4, .slice A0_5 l0_5.length c0_5] 24 (0, 0)) (by (with_reducible repeat (first | refine blk_drewN ?_ _ | refine blk_drew ?_ | refine blk_alloc ?_ _)); exact BK324.out) hb); have n1_ := Aside0.mk (below_step (by repeat (first | (with_reducible first | exact HB.out | apply below_alloc | apply pw_below_drewN | apply below_drew1 | refine below_set ?_ GE324.out) | exact HB.out)) hb); have n2_ := Aside0.mk (hbox); have n3_ := Aside0.mk ((by rw [hg]; exact (below_size (by repeat (first | (with_reducible first | exact HB.out | apply below_alloc | apply pw_below_drewN | apply below_drew1 | refine below_set ?_ GE324.out) | exact HB.out))) : w.heap.size ≤ gb325)); have n4_ := Aside0.mk ((by rw [hg]; exact (below_size (by repeat (first | (with_reducible first | exact HB.out | apply below_alloc | apply pw_below_drewN | apply below_drew1 | refine below_set ?_ GE324.out) | exact HB.out))) : w.heap.size ≤ gb325)); have n5_ := Aside0.mk ((by rw [hg]; exact Nat.ne_of_lt (blk_lt (g := gb324) (o := .cells #[.int .i64 a0_0, .int .i64 a0_1, .string a0_2, .int .i64 a0_3, .int .i64 a0_4, .slice A0_5 l0_5.length c0_5] 24 (0, 0)) (by (with_reducible repeat (first | refine blk_drewN ?_ _ | refine blk_drew ?_ | refine blk_alloc ?_ _)); exact BK324.out)) : gb324 ≠ gb325)); have n6_ := Aside0.mk ((by rw [hg]; exact Nat.ne_of_gt (blk_lt (g := gb324) (o := .cells #[.int .i64 a0_0, .int .i64 a0_1, .string a0_2, .int .i64 a0_3, .int .i64 a0_4, .slice A0_5 l0_5.length c0_5] 24 (0, 0)) (by (with_reducible repeat (first | refine blk_drewN ?_ _ | refine blk_drew ?_ | refine blk_alloc ?_ _)); exact BK324.out)) : gb325 ≠ gb324)); clear BK324; clear HB; have BK324 := n0_; have HB := n1_; have BK325 := n2_; have GW325 := n3_; have GE325 := n4_; have NB324_325 := n5_; have NB325_324 := n6_; clear n0_ n1_ n2_ n3_ n4_ n5_ n6_; clear hb hbox hg) | ((with_reducible refine gate_callee (f := 10) rfl ?_); refine goesL_ (some 9) rfl rfl Tryd.func10 (by kernel_rfl) rfl #[] rfl (by (try simp only [List.map_toArray, List.map_cons, List.map_nil]); first | done | rfl | (simp only [List.length_drop, List.length_take]; rfl)) ?_; (with_reducible refine (sizarlaw12_sane.calls k  true _ A3.out ?sideK).mono ?_); (case sideK => exact HKT.out.below (by repeat (first | (with_reducible first | exact HB.out | apply below_alloc | apply pw_below_drewN | apply below_drew1 | refine below_set ?_ GE324.out | refine below_set ?_ GE325.out) | exact HB.out))); rintro e w8 ⟨rfl, hb⟩; refine ⟨_, rfl, ?_⟩; have n0_ := Aside0.mk (blk_below (g := gb324) (o := .cells #[.int .i64 a0_0, .int .i64 a0_1, .string a0_2, .int .i64 a0_3, .int .i64 a0_4, .slice A0_5 l0_5.length c0_5] 24 (0, 0)) (by (with_reducible repeat (first | refine blk_drewN ?_ _ | refine blk_drew ?_ | refine blk_alloc ?_ _)); exact BK324.out) hb); have n1_ := Aside0.mk (blk_below (g := gb325) (o := .cells #[.slice A1_0 l1_0.length c1_0, .int .i64 a1_1, .int .i64 a1_2, .int .i64 a1_3] 29 (0, 0)) (by (with_reducible repeat (first | refine blk_drewN ?_ _ | refine blk_drew ?_ | refine blk_alloc ?_ _)); exact BK325.out) hb); have n2_ := Aside0.mk (below_step (by repeat (first | (with_reducible first | exact HB.out | apply below_alloc | apply pw_below_drewN | apply below_drew1 | refine below_set ?_ GE324.out | refine below_set ?_ GE325.out) | exact HB.out)) hb); clear BK324; clear BK325; clear HB; have BK324 := n0_; have BK325 := n1_; have HB := n2_; clear n0_ n1_ n2_; (try clear hb); (try clear hb2); (try clear hk); (try clear hi)))
    (try simp only [Act.put, List.setIfInBounds_toArray, List.set_cons_zero, List.set_cons_succ])
    go_cut [19] (fun v19 wc => ∃ (kq : Nat) (x19_4 : Bool), v19 = .bool x19_4 ∧ Aside0 (sizarlaw12_RulesHoldsSpec.j0 kq x19_4 a0_0 a0_1 a0_2 a0_3 a0_4 l0_5 l1_0 a1_1 a1_2 a1_3 = some r) ∧ Aside0 (kq ≤ k) ∧ Aside0 (wc.heap[gb324]? = some (.cells #[.int .i64 a0_0, .int .i64 a0_1, .string a0_2, .int .i64 a0_3, .int .i64 a0_4, (.slice A0_5 l0_5.length c0_5)] 24 (0, 0))) ∧ Aside0 (wc.heap[gb325]? = some (.cells #[(.slice A1_0 l1_0.length c1_0), .int .i64 a1_1, .int .i64 a1_2, .int .i64 a1_3] 29 (0, 0))) ∧ Aside0 (Below w.heap.size w wc))
    case first =>
      have H := HC5.out
      clear HC5
      replace H := Option.bind_eq_some_iff.mp H
      obtain ⟨t327, A90, H⟩ := H
      replace H : (if t327 = true then (sizarlaw12_RulesHoldsSpec.j0 k (decide ((l1_0.length : Int) > 50)) a0_0 a0_1 a0_2 a0_3 a0_4 l0_5 l1_0 a1_1 a1_2 a1_3) else (sizarlaw12_RulesHoldsSpec.j0 k true a0_0 a0_1 a0_2 a0_3 a0_4 l0_5 l1_0 a1_1 a1_2 a1_3)) = some r := H
      have A9 := Aside0.mk A90
      clear A90
      by_cases c10 : t327 = true
      · subst c10
        have H1 : (sizarlaw12_RulesHoldsSpec.j0 k (decide ((l1_0.length : Int) > 50)) a0_0 a0_1 a0_2 a0_3 a0_4 l0_5 l1_0 a1_1 a1_2 a1_3) = some r := by rw [if_pos rfl] at H; exact H
        clear H
        have H := H1
        clear H1
        have H' := Aside0.mk H
        clear H
        have hnb11 := NB324_325.out
        have hnc11 := NB325_324.out
        have hcz12_0 : w8.cell? ⟨gb324, 0, none⟩ = some (.int .i64 a0_0) := (blk_cell BK324.out 0).trans rfl
        have hcz12_1 : w8.cell? ⟨gb324, 1, none⟩ = some (.int .i64 a0_1) := (blk_cell BK324.out 1).trans rfl
        have hcz12_2 : w8.cell? ⟨gb324, 2, none⟩ = some (.string a0_2) := (blk_cell BK324.out 2).trans rfl
        have hcz12_3 : w8.cell? ⟨gb324, 3, none⟩ = some (.int .i64 a0_3) := (blk_cell BK324.out 3).trans rfl
        have hcz12_4 : w8.cell? ⟨gb324, 4, none⟩ = some (.int .i64 a0_4) := (blk_cell BK324.out 4).trans rfl
        have hcz12_5 : w8.cell? ⟨gb324, 5, none⟩ = some (.slice A0_5 l0_5.length c0_5) := (blk_cell BK324.out 5).trans rfl
        have hfz12_0 := blk_frozen BK324.out 0
        have hfz12_1 := blk_frozen BK324.out 1
        have hfz12_2 := blk_frozen BK324.out 2
        have hfz12_3 := blk_frozen BK324.out 3
        have hfz12_4 := blk_frozen BK324.out 4
        have hfz12_5 := blk_frozen BK324.out 5
        go_wp2_with (first | ((with_reducible refine gate_callee (f := 11) rfl ?_); refine goesL_ (some 12) rfl rfl Tryd.func11 (by kernel_rfl) rfl #[.agg #[.int .i64 a0_0, .int .i64 a0_1, .string a0_2, .int .i64 a0_3, .int .i64 a0_4, .slice A0_5 l0_5.length c0_5]] rfl (by (try simp only [List.map_toArray, List.map_cons, List.map_nil]); first | done | rfl | (simp only [List.length_drop, List.length_take]; rfl)) ?_; (with_reducible refine (sizarref12_Few.calls k a0_0 a0_1 a0_2 a0_3 a0_4 _ _ l0_5 true _ ?side1 ?side2 A9.out).mono ?_); (case side1 => repeat (first | exact (Kd.C_below HR0_5.out HB.out) | (with_reducible refine Kd.C_alloc ?_ _) | (with_reducible refine Kd.C_drewN ?_ _) | (with_reducible refine Kd.C_drew ?_))); (case side2 => exact HC0_5.out); rintro e w13 ⟨rfl, hb⟩; refine ⟨_, rfl, ?_⟩; have n0_ := Aside0.mk (blk_below (g := gb324) (o := .cells #[.int .i64 a0_0, .int .i64 a0_1, .string a0_2, .int .i64 a0_3, .int .i64 a0_4, .slice A0_5 l0_5.length c0_5] 24 (0, 0)) (by (with_reducible repeat (first | refine blk_drewN ?_ _ | refine blk_drew ?_ | refine blk_alloc ?_ _)); exact BK324.out) hb); have n1_ := Aside0.mk (blk_below (g := gb325) (o := .cells #[.slice A1_0 l1_0.length c1_0, .int .i64 a1_1, .int .i64 a1_2, .int .i64 a1_3] 29 (0, 0)) (by (with_reducible repeat (first | refine blk_drewN ?_ _ | refine blk_drew ?_ | refine blk_alloc ?_ _)); exact BK325.out) hb); have n2_ := Aside0.mk (below_step (by repeat (first | (with_reducible first | exact HB.out | apply below_alloc | apply pw_below_drewN | apply below_drew1 | refine below_set ?_ GE324.out | refine below_set ?_ GE325.out) | exact HB.out)) hb); clear BK324; clear BK325; clear HB; have BK324 := n0_; have BK325 := n1_; have HB := n2_; clear n0_ n1_ n2_; (try clear hb); (try clear hb2); (try clear hk); (try clear hi); have hcz14_0 : w13.cell? ⟨gb325, 0, none⟩ = some (.slice A1_0 l1_0.length c1_0) := (blk_cell BK325.out 0).trans rfl; have hcz14_1 : w13.cell? ⟨gb325, 1, none⟩ = some (.int .i64 a1_1) := (blk_cell BK325.out 1).trans rfl; have hcz14_2 : w13.cell? ⟨gb325, 2, none⟩ = some (.int .i64 a1_2) := (blk_cell BK325.out 2).trans rfl; have hcz14_3 : w13.cell? ⟨gb325, 3, none⟩ = some (.int .i64 a1_3) := (blk_cell BK325.out 3).trans rfl; have hfz14_0 := blk_frozen BK325.out 0; have hfz14_1 := blk_frozen BK325.out 1; have hfz14_2 := blk_frozen BK325.out 2; have hfz14_3 := blk_frozen BK325.out 3))
        go_meet
        case rel => exact ⟨_, (decide ((l1_0.length : Int) > 50)), (by first | rfl | (simp; done) | (simp [*]; done)), H', ⟨by first | omega | exact Nat.le_refl _⟩, ⟨by (with_reducible repeat (first | refine blk_drewN ?_ _ | refine blk_drew ?_ | refine blk_alloc ?_ _)); exact BK324.out⟩, ⟨by (with_reducible repeat (first | refine blk_drewN ?_ _ | refine blk_drew ?_ | refine blk_alloc ?_ _)); exact BK325.out⟩, ⟨by repeat (first | (with_reducible first | exact HB.out | apply below_alloc | apply pw_below_drewN | apply below_drew1 | refine below_set ?_ GE324.out | refine below_set ?_ GE325.out) | exact HB.out)⟩⟩
      · replace c10 := Bool.eq_false_iff.mpr c10
        subst c10
        have H1 : (sizarlaw12_RulesHoldsSpec.j0 k true a0_0 a0_1 a0_2 a0_3 a0_4 l0_5 l1_0 a1_1 a1_2 a1_3) = some r := by rw [if_neg (show ¬ (false = true) by decide)] at H; exact H
        clear H
        have H := H1
        clear H1
        have H' := Aside0.mk H
        clear H
        have hnb15 := NB324_325.out
        have hnc15 := NB325_324.out
        have hcz16_0 : w8.cell? ⟨gb324, 0, none⟩ = some (.int .i64 a0_0) := (blk_cell BK324.out 0).trans rfl
        have hcz16_1 : w8.cell? ⟨gb324, 1, none⟩ = some (.int .i64 a0_1) := (blk_cell BK324.out 1).trans rfl
        have hcz16_2 : w8.cell? ⟨gb324, 2, none⟩ = some (.string a0_2) := (blk_cell BK324.out 2).trans rfl
        have hcz16_3 : w8.cell? ⟨gb324, 3, none⟩ = some (.int .i64 a0_3) := (blk_cell BK324.out 3).trans rfl
        have hcz16_4 : w8.cell? ⟨gb324, 4, none⟩ = some (.int .i64 a0_4) := (blk_cell BK324.out 4).trans rfl
        have hcz16_5 : w8.cell? ⟨gb324, 5, none⟩ = some (.slice A0_5 l0_5.length c0_5) := (blk_cell BK324.out 5).trans rfl
        have hfz16_0 := blk_frozen BK324.out 0
        have hfz16_1 := blk_frozen BK324.out 1
        have hfz16_2 := blk_frozen BK324.out 2
        have hfz16_3 := blk_frozen BK324.out 3
        have hfz16_4 := blk_frozen BK324.out 4
        have hfz16_5 := blk_frozen BK324.out 5
        go_wp2_with (first | ((with_reducible refine gate_callee (f := 11) rfl ?_); refine goesL_ (some 12) rfl rfl Tryd.func11 (by kernel_rfl) rfl #[.agg #[.int .i64 a0_0, .int .i64 a0_1, .string a0_2, .int .i64 a0_3, .int .i64 a0_4, .slice A0_5 l0_5.length c0_5]] rfl (by (try simp only [List.map_toArray, List.map_cons, List.map_nil]); first | done | rfl | (simp only [List.length_drop, List.length_take]; rfl)) ?_; (with_reducible refine (sizarref12_Few.calls k a0_0 a0_1 a0_2 a0_3 a0_4 _ _ l0_5 false _ ?side1 ?side2 A9.out).mono ?_); (case side1 => repeat (first | exact (Kd.C_below HR0_5.out HB.out) | (with_reducible refine Kd.C_alloc ?_ _) | (with_reducible refine Kd.C_drewN ?_ _) | (with_reducible refine Kd.C_drew ?_))); (case side2 => exact HC0_5.out); rintro e w17 ⟨rfl, hb⟩; refine ⟨_, rfl, ?_⟩; have n0_ := Aside0.mk (blk_below (g := gb324) (o := .cells #[.int .i64 a0_0, .int .i64 a0_1, .string a0_2, .int .i64 a0_3, .int .i64 a0_4, .slice A0_5 l0_5.length c0_5] 24 (0, 0)) (by (with_reducible repeat (first | refine blk_drewN ?_ _ | refine blk_drew ?_ | refine blk_alloc ?_ _)); exact BK324.out) hb); have n1_ := Aside0.mk (blk_below (g := gb325) (o := .cells #[.slice A1_0 l1_0.length c1_0, .int .i64 a1_1, .int .i64 a1_2, .int .i64 a1_3] 29 (0, 0)) (by (with_reducible repeat (first | refine blk_drewN ?_ _ | refine blk_drew ?_ | refine blk_alloc ?_ _)); exact BK325.out) hb); have n2_ := Aside0.mk (below_step (by repeat (first | (with_reducible first | exact HB.out | apply below_alloc | apply pw_below_drewN | apply below_drew1 | refine below_set ?_ GE324.out | refine below_set ?_ GE325.out) | exact HB.out)) hb); clear BK324; clear BK325; clear HB; have BK324 := n0_; have BK325 := n1_; have HB := n2_; clear n0_ n1_ n2_; (try clear hb); (try clear hb2); (try clear hk); (try clear hi)))
        go_meet
        case rel => exact ⟨_, (true), (by first | rfl | (simp; done) | (simp [*]; done)), H', ⟨by first | omega | exact Nat.le_refl _⟩, ⟨by (with_reducible repeat (first | refine blk_drewN ?_ _ | refine blk_drew ?_ | refine blk_alloc ?_ _)); exact BK324.out⟩, ⟨by (with_reducible repeat (first | refine blk_drewN ?_ _ | refine blk_drew ?_ | refine blk_alloc ?_ _)); exact BK325.out⟩, ⟨by repeat (first | (with_reducible first | exact HB.out | apply below_alloc | apply pw_below_drewN | apply below_drew1 | refine below_set ?_ GE324.out | refine below_set ?_ GE325.out) | exact HB.out)⟩⟩
    case rest =>
      clear HC5
      try clear c1
      try clear p2
      try clear c3
      try clear c4
      try clear c10
      try clear c11
      try clear c15
      try clear hcz12_0
      try clear hcz12_1
      try clear hcz12_2
      try clear hcz12_3
      try clear hcz12_4
      try clear hcz12_5
      try clear hcz14_0
      try clear hcz14_1
      try clear hcz14_2
      try clear hcz14_3
      try clear hcz16_0
      try clear hcz16_1
      try clear hcz16_2
      try clear hcz16_3
      try clear hcz16_4
      try clear hcz16_5
      try clear hfz12_0
      try clear hfz12_1
      try clear hfz12_2
      try clear hfz12_3
      try clear hfz12_4
      try clear hfz12_5
      try clear hfz14_0
      try clear hfz14_1
      try clear hfz14_2
      try clear hfz14_3
      try clear hfz16_0
      try clear hfz16_1
      try clear hfz16_2
      try clear hfz16_3
      try clear hfz16_4
      try clear hfz16_5
      obtain ⟨kq, x19_4, rfl, HA, HJ4, BK324, BK325, HB⟩ := hcut
      cases kq with
      | zero => exact absurd HA.out (by simp [sizarlaw12_RulesHoldsSpec.j0])
      | succ kj4 =>
        have H := HA.out
        clear HA
        simp only [sizarlaw12_RulesHoldsSpec.j0] at H
        by_cases c18 : x19_4 = true
        · subst c18
          have H1 : (some true) = some r := by rw [if_pos rfl] at H; exact H
          clear H
          have H := H1
          clear H1
          obtain rfl := Option.some.inj H
          go_wp2
          go_ret
          exact ⟨by first | rfl | (simp [errW_none, errW_some] <;> rfl) | (simp [*, errW_none, errW_some] <;> rfl), by repeat (first | (with_reducible first | exact HB.out | apply below_alloc | apply pw_below_drewN | apply below_drew1 | refine below_set ?_ GE324.out | refine below_set ?_ GE325.out) | exact HB.out)⟩
        · replace c18 := Bool.eq_false_iff.mpr c18
          subst c18
          have H1 : ((rules_Holds.f kj4 a0_0 a0_1 a0_2 a0_3 a0_4 l0_5 l1_0 a1_1 a1_2 a1_3).bind fun bt328 => ((sizarref12_Holds.f kj4 a0_0 a0_1 a0_2 a0_3 a0_4 l0_5 l1_0 a1_1 a1_2 a1_3).bind fun bt330 => (if (bt328.1 == bt330.1) = true then (some (bt328.2 == bt330.2)) else (some false)))) = some r := by rw [if_neg (show ¬ (false = true) by decide)] at H; exact H
          clear H
          have H := H1
          clear H1
          replace H := Option.bind_eq_some_iff.mp H
          obtain ⟨⟨t328, t329⟩, A190, H⟩ := H
          replace H : ((sizarref12_Holds.f kj4 a0_0 a0_1 a0_2 a0_3 a0_4 l0_5 l1_0 a1_1 a1_2 a1_3).bind fun bt330 => (if (t328 == bt330.1) = true then (some (t329 == bt330.2)) else (some false))) = some r := H
          have A19 := Aside0.mk A190
          clear A190
          replace H := Option.bind_eq_some_iff.mp H
          obtain ⟨⟨t330, t331⟩, A200, H⟩ := H
          replace H : (if (t328 == t330) = true then (some (t329 == t331)) else (some false)) = some r := H
          have A20 := Aside0.mk A200
          clear A200
          by_cases c21 : (t328 == t330) = true
          · rw [if_pos c21] at H
            have c21b0 : (t328 == t330) = true := c21
            (try (have c21b1 : decide (t328 = t330) = true := by simpa using c21))
            (try (have c21b2 : (t328 == t330) = true := by simpa using c21))
            clear c21
            obtain rfl := Option.some.inj H
            have hnb22 := NB324_325.out
            have hnc22 := NB325_324.out
            have hcz23_0 : wc.cell? ⟨gb324, 0, none⟩ = some (.int .i64 a0_0) := (blk_cell BK324.out 0).trans rfl
            have hcz23_1 : wc.cell? ⟨gb324, 1, none⟩ = some (.int .i64 a0_1) := (blk_cell BK324.out 1).trans rfl
            have hcz23_2 : wc.cell? ⟨gb324, 2, none⟩ = some (.string a0_2) := (blk_cell BK324.out 2).trans rfl
            have hcz23_3 : wc.cell? ⟨gb324, 3, none⟩ = some (.int .i64 a0_3) := (blk_cell BK324.out 3).trans rfl
            have hcz23_4 : wc.cell? ⟨gb324, 4, none⟩ = some (.int .i64 a0_4) := (blk_cell BK324.out 4).trans rfl
            have hcz23_5 : wc.cell? ⟨gb324, 5, none⟩ = some (.slice A0_5 l0_5.length c0_5) := (blk_cell BK324.out 5).trans rfl
            have hfz23_0 := blk_frozen BK324.out 0
            have hfz23_1 := blk_frozen BK324.out 1
            have hfz23_2 := blk_frozen BK324.out 2
            have hfz23_3 := blk_frozen BK324.out 3
            have hfz23_4 := blk_frozen BK324.out 4
            have hfz23_5 := blk_frozen BK324.out 5
            have hcz24_0 : wc.cell? ⟨gb325, 0, none⟩ = some (.slice A1_0 l1_0.length c1_0) := (blk_cell BK325.out 0).trans rfl
            have hcz24_1 : wc.cell? ⟨gb325, 1, none⟩ = some (.int .i64 a1_1) := (blk_cell BK325.out 1).trans rfl
            have hcz24_2 : wc.cell? ⟨gb325, 2, none⟩ = some (.int .i64 a1_2) := (blk_cell BK325.out 2).trans rfl
            have hcz24_3 : wc.cell? ⟨gb325, 3, none⟩ = some (.int .i64 a1_3) := (blk_cell BK325.out 3).trans rfl
            have hfz24_0 := blk_frozen BK325.out 0
            have hfz24_1 := blk_frozen BK325.out 1
            have hfz24_2 := blk_frozen BK325.out 2
            have hfz24_3 := blk_frozen BK325.out 3
            go_wp2_with (first | ((with_reducible refine gate_callee (f := 12) rfl ?_); refine goesL_ (some 23) rfl rfl Tryd.func12 (by kernel_rfl) rfl #[.agg #[.int .i64 a0_0, .int .i64 a0_1, .string a0_2, .int .i64 a0_3, .int .i64 a0_4, .slice A0_5 l0_5.length c0_5], .agg #[.slice A1_0 l1_0.length c1_0, .int .i64 a1_1, .int .i64 a1_2, .int .i64 a1_3]] rfl (by (try simp only [List.map_toArray, List.map_cons, List.map_nil]); first | done | rfl | (simp only [List.length_drop, List.length_take]; rfl)) ?_; (with_reducible refine (rules_Holds.calls kj4 a0_0 a0_1 a0_2 a0_3 a0_4 _ _ l0_5 _ _ l1_0 a1_1 a1_2 a1_3 t328 t329 _ ?side1 ?side2 ?side3 ?side4 A19.out ?sideK).mono ?_); (case sideK => exact HKT.out.below (by repeat (first | (with_reducible first | exact HB.out | apply below_alloc | apply pw_below_drewN | apply below_drew1 | refine below_set ?_ GE324.out | refine below_set ?_ GE325.out) | exact HB.out))); (case side1 => repeat (first | exact (Kd.C_below HR0_5.out HB.out) | (with_reducible refine Kd.C_alloc ?_ _) | (with_reducible refine Kd.C_drewN ?_ _) | (with_reducible refine Kd.C_drew ?_))); (case side2 => exact HC0_5.out); (case side3 => repeat (first | exact (Kd.C_below HR1_0.out HB.out) | (with_reducible refine Kd.C_alloc ?_ _) | (with_reducible refine Kd.C_drewN ?_ _) | (with_reducible refine Kd.C_drew ?_))); (case side4 => exact HC1_0.out); rintro e w25 ⟨rfl, hb⟩; refine ⟨_, rfl, ?_⟩; have n0_ := Aside0.mk (blk_below (g := gb324) (o := .cells #[.int .i64 a0_0, .int .i64 a0_1, .string a0_2, .int .i64 a0_3, .int .i64 a0_4, .slice A0_5 l0_5.length c0_5] 24 (0, 0)) (by (with_reducible repeat (first | refine blk_drewN ?_ _ | refine blk_drew ?_ | refine blk_alloc ?_ _)); exact BK324.out) hb); have n1_ := Aside0.mk (blk_below (g := gb325) (o := .cells #[.slice A1_0 l1_0.length c1_0, .int .i64 a1_1, .int .i64 a1_2, .int .i64 a1_3] 29 (0, 0)) (by (with_reducible repeat (first | refine blk_drewN ?_ _ | refine blk_drew ?_ | refine blk_alloc ?_ _)); exact BK325.out) hb); have n2_ := Aside0.mk (below_step (by repeat (first | (with_reducible first | exact HB.out | apply below_alloc | apply pw_below_drewN | apply below_drew1 | refine below_set ?_ GE324.out | refine below_set ?_ GE325.out) | exact HB.out)) hb); clear BK324; clear BK325; clear HB; have BK324 := n0_; have BK325 := n1_; have HB := n2_; clear n0_ n1_ n2_; (try clear hb); (try clear hb2); (try clear hk); (try clear hi); have hcz26_0 : w25.cell? ⟨gb324, 0, none⟩ = some (.int .i64 a0_0) := (blk_cell BK324.out 0).trans rfl; have hcz26_1 : w25.cell? ⟨gb324, 1, none⟩ = some (.int .i64 a0_1) := (blk_cell BK324.out 1).trans rfl; have hcz26_2 : w25.cell? ⟨gb324, 2, none⟩ = some (.string a0_2) := (blk_cell BK324.out 2).trans rfl; have hcz26_3 : w25.cell? ⟨gb324, 3, none⟩ = some (.int .i64 a0_3) := (blk_cell BK324.out 3).trans rfl; have hcz26_4 : w25.cell? ⟨gb324, 4, none⟩ = some (.int .i64 a0_4) := (blk_cell BK324.out 4).trans rfl; have hcz26_5 : w25.cell? ⟨gb324, 5, none⟩ = some (.slice A0_5 l0_5.length c0_5) := (blk_cell BK324.out 5).trans rfl; have hfz26_0 := blk_frozen BK324.out 0; have hfz26_1 := blk_frozen BK324.out 1; have hfz26_2 := blk_frozen BK324.out 2; have hfz26_3 := blk_frozen BK324.out 3; have hfz26_4 := blk_frozen BK324.out 4; have hfz26_5 := blk_frozen BK324.out 5; have hcz27_0 : w25.cell? ⟨gb325, 0, none⟩ = some (.slice A1_0 l1_0.length c1_0) := (blk_cell BK325.out 0).trans rfl; have hcz27_1 : w25.cell? ⟨gb325, 1, none⟩ = some (.int .i64 a1_1) := (blk_cell BK325.out 1).trans rfl; have hcz27_2 : w25.cell? ⟨gb325, 2, none⟩ = some (.int .i64 a1_2) := (blk_cell BK325.out 2).trans rfl; have hcz27_3 : w25.cell? ⟨gb325, 3, none⟩ = some (.int .i64 a1_3) := (blk_cell BK325.out 3).trans rfl; have hfz27_0 := blk_frozen BK325.out 0; have hfz27_1 := blk_frozen BK325.out 1; have hfz27_2 := blk_frozen BK325.out 2; have hfz27_3 := blk_frozen BK325.out 3) | ((with_reducible refine gate_callee (f := 13) rfl ?_); refine goesL_ (some 29) rfl rfl Tryd.func13 (by kernel_rfl) rfl #[.agg #[.int .i64 a0_0, .int .i64 a0_1, .string a0_2, .int .i64 a0_3, .int .i64 a0_4, .slice A0_5 l0_5.length c0_5], .agg #[.slice A1_0 l1_0.length c1_0, .int .i64 a1_1, .int .i64 a1_2, .int .i64 a1_3]] rfl (by (try simp only [List.map_toArray, List.map_cons, List.map_nil]); first | done | rfl | (simp only [List.length_drop, List.length_take]; rfl)) ?_; (with_reducible refine (sizarref12_Holds.calls kj4 a0_0 a0_1 a0_2 a0_3 a0_4 _ _ l0_5 _ _ l1_0 a1_1 a1_2 a1_3 t330 t331 _ ?side1 ?side2 ?side3 ?side4 A20.out).mono ?_); (case side1 => repeat (first | exact (Kd.C_below HR0_5.out HB.out) | (with_reducible refine Kd.C_alloc ?_ _) | (with_reducible refine Kd.C_drewN ?_ _) | (with_reducible refine Kd.C_drew ?_))); (case side2 => exact HC0_5.out); (case side3 => repeat (first | exact (Kd.C_below HR1_0.out HB.out) | (with_reducible refine Kd.C_alloc ?_ _) | (with_reducible refine Kd.C_drewN ?_ _) | (with_reducible refine Kd.C_drew ?_))); (case side4 => exact HC1_0.out); rintro e w28 ⟨rfl, hb⟩; refine ⟨_, rfl, ?_⟩; have n0_ := Aside0.mk (blk_below (g := gb324) (o := .cells #[.int .i64 a0_0, .int .i64 a0_1, .string a0_2, .int .i64 a0_3, .int .i64 a0_4, .slice A0_5 l0_5.length c0_5] 24 (0, 0)) (by (with_reducible repeat (first | refine blk_drewN ?_ _ | refine blk_drew ?_ | refine blk_alloc ?_ _)); exact BK324.out) hb); have n1_ := Aside0.mk (blk_below (g := gb325) (o := .cells #[.slice A1_0 l1_0.length c1_0, .int .i64 a1_1, .int .i64 a1_2, .int .i64 a1_3] 29 (0, 0)) (by (with_reducible repeat (first | refine blk_drewN ?_ _ | refine blk_drew ?_ | refine blk_alloc ?_ _)); exact BK325.out) hb); have n2_ := Aside0.mk (below_step (by repeat (first | (with_reducible first | exact HB.out | apply below_alloc | apply pw_below_drewN | apply below_drew1 | refine below_set ?_ GE324.out | refine below_set ?_ GE325.out) | exact HB.out)) hb); clear BK324; clear BK325; clear HB; have BK324 := n0_; have BK325 := n1_; have HB := n2_; clear n0_ n1_ n2_; (try clear hb); (try clear hb2); (try clear hk); (try clear hi)))
            go_ret
            exact ⟨by first | rfl | (simp [errW_none, errW_some] <;> rfl) | (simp [*, errW_none, errW_some] <;> rfl), by repeat (first | (with_reducible first | exact HB.out | apply below_alloc | apply pw_below_drewN | apply below_drew1 | refine below_set ?_ GE324.out | refine below_set ?_ GE325.out) | exact HB.out)⟩
          · rw [if_neg c21] at H
            have c21b0 : (t328 == t330) = false := by simpa using c21
            (try (have c21b1 : decide (t328 = t330) = false := by simpa using c21))
            (try (have c21b2 : (t328 == t330) = false := by simpa using c21))
            (try (have c21b3 : ¬ (t328 = t330) := by simpa using c21))
            clear c21
            obtain rfl := Option.some.inj H
            have hnb29 := NB324_325.out
            have hnc29 := NB325_324.out
            have hcz30_0 : wc.cell? ⟨gb324, 0, none⟩ = some (.int .i64 a0_0) := (blk_cell BK324.out 0).trans rfl
            have hcz30_1 : wc.cell? ⟨gb324, 1, none⟩ = some (.int .i64 a0_1) := (blk_cell BK324.out 1).trans rfl
            have hcz30_2 : wc.cell? ⟨gb324, 2, none⟩ = some (.string a0_2) := (blk_cell BK324.out 2).trans rfl
            have hcz30_3 : wc.cell? ⟨gb324, 3, none⟩ = some (.int .i64 a0_3) := (blk_cell BK324.out 3).trans rfl
            have hcz30_4 : wc.cell? ⟨gb324, 4, none⟩ = some (.int .i64 a0_4) := (blk_cell BK324.out 4).trans rfl
            have hcz30_5 : wc.cell? ⟨gb324, 5, none⟩ = some (.slice A0_5 l0_5.length c0_5) := (blk_cell BK324.out 5).trans rfl
            have hfz30_0 := blk_frozen BK324.out 0
            have hfz30_1 := blk_frozen BK324.out 1
            have hfz30_2 := blk_frozen BK324.out 2
            have hfz30_3 := blk_frozen BK324.out 3
            have hfz30_4 := blk_frozen BK324.out 4
            have hfz30_5 := blk_frozen BK324.out 5
            have hcz31_0 : wc.cell? ⟨gb325, 0, none⟩ = some (.slice A1_0 l1_0.length c1_0) := (blk_cell BK325.out 0).trans rfl
            have hcz31_1 : wc.cell? ⟨gb325, 1, none⟩ = some (.int .i64 a1_1) := (blk_cell BK325.out 1).trans rfl
            have hcz31_2 : wc.cell? ⟨gb325, 2, none⟩ = some (.int .i64 a1_2) := (blk_cell BK325.out 2).trans rfl
            have hcz31_3 : wc.cell? ⟨gb325, 3, none⟩ = some (.int .i64 a1_3) := (blk_cell BK325.out 3).trans rfl
            have hfz31_0 := blk_frozen BK325.out 0
            have hfz31_1 := blk_frozen BK325.out 1
            have hfz31_2 := blk_frozen BK325.out 2
            have hfz31_3 := blk_frozen BK325.out 3
            go_wp2_with (first | ((with_reducible refine gate_callee (f := 12) rfl ?_); refine goesL_ (some 23) rfl rfl Tryd.func12 (by kernel_rfl) rfl #[.agg #[.int .i64 a0_0, .int .i64 a0_1, .string a0_2, .int .i64 a0_3, .int .i64 a0_4, .slice A0_5 l0_5.length c0_5], .agg #[.slice A1_0 l1_0.length c1_0, .int .i64 a1_1, .int .i64 a1_2, .int .i64 a1_3]] rfl (by (try simp only [List.map_toArray, List.map_cons, List.map_nil]); first | done | rfl | (simp only [List.length_drop, List.length_take]; rfl)) ?_; (with_reducible refine (rules_Holds.calls kj4 a0_0 a0_1 a0_2 a0_3 a0_4 _ _ l0_5 _ _ l1_0 a1_1 a1_2 a1_3 t328 t329 _ ?side1 ?side2 ?side3 ?side4 A19.out ?sideK).mono ?_); (case sideK => exact HKT.out.below (by repeat (first | (with_reducible first | exact HB.out | apply below_alloc | apply pw_below_drewN | apply below_drew1 | refine below_set ?_ GE324.out | refine below_set ?_ GE325.out) | exact HB.out))); (case side1 => repeat (first | exact (Kd.C_below HR0_5.out HB.out) | (with_reducible refine Kd.C_alloc ?_ _) | (with_reducible refine Kd.C_drewN ?_ _) | (with_reducible refine Kd.C_drew ?_))); (case side2 => exact HC0_5.out); (case side3 => repeat (first | exact (Kd.C_below HR1_0.out HB.out) | (with_reducible refine Kd.C_alloc ?_ _) | (with_reducible refine Kd.C_drewN ?_ _) | (with_reducible refine Kd.C_drew ?_))); (case side4 => exact HC1_0.out); rintro e w32 ⟨rfl, hb⟩; refine ⟨_, rfl, ?_⟩; have n0_ := Aside0.mk (blk_below (g := gb324) (o := .cells #[.int .i64 a0_0, .int .i64 a0_1, .string a0_2, .int .i64 a0_3, .int .i64 a0_4, .slice A0_5 l0_5.length c0_5] 24 (0, 0)) (by (with_reducible repeat (first | refine blk_drewN ?_ _ | refine blk_drew ?_ | refine blk_alloc ?_ _)); exact BK324.out) hb); have n1_ := Aside0.mk (blk_below (g := gb325) (o := .cells #[.slice A1_0 l1_0.length c1_0, .int .i64 a1_1, .int .i64 a1_2, .int .i64 a1_3] 29 (0, 0)) (by (with_reducible repeat (first | refine blk_drewN ?_ _ | refine blk_drew ?_ | refine blk_alloc ?_ _)); exact BK325.out) hb); have n2_ := Aside0.mk (below_step (by repeat (first | (with_reducible first | exact HB.out | apply below_alloc | apply pw_below_drewN | apply below_drew1 | refine below_set ?_ GE324.out | refine below_set ?_ GE325.out) | exact HB.out)) hb); clear BK324; clear BK325; clear HB; have BK324 := n0_; have BK325 := n1_; have HB := n2_; clear n0_ n1_ n2_; (try clear hb); (try clear hb2); (try clear hk); (try clear hi); have hcz33_0 : w32.cell? ⟨gb324, 0, none⟩ = some (.int .i64 a0_0) := (blk_cell BK324.out 0).trans rfl; have hcz33_1 : w32.cell? ⟨gb324, 1, none⟩ = some (.int .i64 a0_1) := (blk_cell BK324.out 1).trans rfl; have hcz33_2 : w32.cell? ⟨gb324, 2, none⟩ = some (.string a0_2) := (blk_cell BK324.out 2).trans rfl; have hcz33_3 : w32.cell? ⟨gb324, 3, none⟩ = some (.int .i64 a0_3) := (blk_cell BK324.out 3).trans rfl; have hcz33_4 : w32.cell? ⟨gb324, 4, none⟩ = some (.int .i64 a0_4) := (blk_cell BK324.out 4).trans rfl; have hcz33_5 : w32.cell? ⟨gb324, 5, none⟩ = some (.slice A0_5 l0_5.length c0_5) := (blk_cell BK324.out 5).trans rfl; have hfz33_0 := blk_frozen BK324.out 0; have hfz33_1 := blk_frozen BK324.out 1; have hfz33_2 := blk_frozen BK324.out 2; have hfz33_3 := blk_frozen BK324.out 3; have hfz33_4 := blk_frozen BK324.out 4; have hfz33_5 := blk_frozen BK324.out 5; have hcz34_0 : w32.cell? ⟨gb325, 0, none⟩ = some (.slice A1_0 l1_0.length c1_0) := (blk_cell BK325.out 0).trans rfl; have hcz34_1 : w32.cell? ⟨gb325, 1, none⟩ = some (.int .i64 a1_1) := (blk_cell BK325.out 1).trans rfl; have hcz34_2 : w32.cell? ⟨gb325, 2, none⟩ = some (.int .i64 a1_2) := (blk_cell BK325.out 2).trans rfl; have hcz34_3 : w32.cell? ⟨gb325, 3, none⟩ = some (.int .i64 a1_3) := (blk_cell BK325.out 3).trans rfl; have hfz34_0 := blk_frozen BK325.out 0; have hfz34_1 := blk_frozen BK325.out 1; have hfz34_2 := blk_frozen BK325.out 2; have hfz34_3 := blk_frozen BK325.out 3) | ((with_reducible refine gate_callee (f := 13) rfl ?_); refine goesL_ (some 29) rfl rfl Tryd.func13 (by kernel_rfl) rfl #[.agg #[.int .i64 a0_0, .int .i64 a0_1, .string a0_2, .int .i64 a0_3, .int .i64 a0_4, .slice A0_5 l0_5.length c0_5], .agg #[.slice A1_0 l1_0.length c1_0, .int .i64 a1_1, .int .i64 a1_2, .int .i64 a1_3]] rfl (by (try simp only [List.map_toArray, List.map_cons, List.map_nil]); first | done | rfl | (simp only [List.length_drop, List.length_take]; rfl)) ?_; (with_reducible refine (sizarref12_Holds.calls kj4 a0_0 a0_1 a0_2 a0_3 a0_4 _ _ l0_5 _ _ l1_0 a1_1 a1_2 a1_3 t330 t331 _ ?side1 ?side2 ?side3 ?side4 A20.out).mono ?_); (case side1 => repeat (first | exact (Kd.C_below HR0_5.out HB.out) | (with_reducible refine Kd.C_alloc ?_ _) | (with_reducible refine Kd.C_drewN ?_ _) | (with_reducible refine Kd.C_drew ?_))); (case side2 => exact HC0_5.out); (case side3 => repeat (first | exact (Kd.C_below HR1_0.out HB.out) | (with_reducible refine Kd.C_alloc ?_ _) | (with_reducible refine Kd.C_drewN ?_ _) | (with_reducible refine Kd.C_drew ?_))); (case side4 => exact HC1_0.out); rintro e w35 ⟨rfl, hb⟩; refine ⟨_, rfl, ?_⟩; have n0_ := Aside0.mk (blk_below (g := gb324) (o := .cells #[.int .i64 a0_0, .int .i64 a0_1, .string a0_2, .int .i64 a0_3, .int .i64 a0_4, .slice A0_5 l0_5.length c0_5] 24 (0, 0)) (by (with_reducible repeat (first | refine blk_drewN ?_ _ | refine blk_drew ?_ | refine blk_alloc ?_ _)); exact BK324.out) hb); have n1_ := Aside0.mk (blk_below (g := gb325) (o := .cells #[.slice A1_0 l1_0.length c1_0, .int .i64 a1_1, .int .i64 a1_2, .int .i64 a1_3] 29 (0, 0)) (by (with_reducible repeat (first | refine blk_drewN ?_ _ | refine blk_drew ?_ | refine blk_alloc ?_ _)); exact BK325.out) hb); have n2_ := Aside0.mk (below_step (by repeat (first | (with_reducible first | exact HB.out | apply below_alloc | apply pw_below_drewN | apply below_drew1 | refine below_set ?_ GE324.out | refine below_set ?_ GE325.out) | exact HB.out)) hb); clear BK324; clear BK325; clear HB; have BK324 := n0_; have BK325 := n1_; have HB := n2_; clear n0_ n1_ n2_; (try clear hb); (try clear hb2); (try clear hk); (try clear hi)))
            go_ret
            exact ⟨by first | rfl | (simp [errW_none, errW_some] <;> rfl) | (simp [*, errW_none, errW_some] <;> rfl), by repeat (first | (with_reducible first | exact HB.out | apply below_alloc | apply pw_below_drewN | apply below_drew1 | refine below_set ?_ GE324.out | refine below_set ?_ GE325.out) | exact HB.out)⟩
  · replace c4 := Bool.eq_false_iff.mpr c4
    subst c4
    have H1 : (some false) = some r := by rw [if_neg (show ¬ (false = true) by decide)] at H; exact H
    clear H
    have H := H1
    clear H1
    obtain rfl := Option.some.inj H
    go_enter Tryd.func3, Tryd.ntmps3
    go_wp2_with (first | ((with_reducible refine gate_dst (N := 2) rfl ?_); (try (refine gate_guard (by rfl) ?_; dsimp only)); refine box_event ?hg (N := 2) ?hd (cs := #[.int .i64 a0_0, .int .i64 a0_1, .string a0_2, .int .i64 a0_3, .int .i64 a0_4, .slice A0_5 l0_5.length c0_5]) (t := 24) ?hr ?_; (case hd => rfl); (case hg => rfl); (case hr => first | (go_simp; done) | (go_simp; rfl)); intro gb324 hg w36 hbox hb; have n0_ := Aside0.mk (below_step (by repeat (first | (with_reducible first | exact HB.out | apply below_alloc | apply pw_below_drewN | apply below_drew1) | exact HB.out)) hb); have n1_ := Aside0.mk (hbox); have n2_ := Aside0.mk ((by rw [hg]; exact (below_size (by repeat (first | (with_reducible first | exact HB.out | apply below_alloc | apply pw_below_drewN | apply below_drew1) | exact HB.out))) : w.heap.size ≤ gb324)); have n3_ := Aside0.mk ((by rw [hg]; exact (below_size (by repeat (first | (with_reducible first | exact HB.out | apply below_alloc | apply pw_below_drewN | apply below_drew1) | exact HB.out))) : w.heap.size ≤ gb324)); clear HB; have HB := n0_; have BK324 := n1_; have GW324 := n2_; have GE324 := n3_; clear n0_ n1_ n2_ n3_; clear hb hbox hg) | ((with_reducible refine gate_dst (N := 3) rfl ?_); (try (refine gate_guard (by rfl) ?_; dsimp only)); refine box_event ?hg (N := 3) ?hd (cs := #[.slice A1_0 l1_0.length c1_0, .int .i64 a1_1, .int .i64 a1_2, .int .i64 a1_3]) (t := 29) ?hr ?_; (case hd => rfl); (case hg => rfl); (case hr => first | (go_simp; done) | (go_simp; rfl)); intro gb325 hg w37 hbox hb; have n0_ := Aside0.mk (blk_below (g := gb324) (o := .cells #[.int .i64 a0_0, .int .i64 a0_1, .string a0_2, .int .i64 a0_3, .int .i64 a0_4, .slice A0_5 l0_5.length c0_5] 24 (0, 0)) (by (with_reducible repeat (first | refine blk_drewN ?_ _ | refine blk_drew ?_ | refine blk_alloc ?_ _)); exact BK324.out) hb); have n1_ := Aside0.mk (below_step (by repeat (first | (with_reducible first | exact HB.out | apply below_alloc | apply pw_below_drewN | apply below_drew1 | refine below_set ?_ GE324.out) | exact HB.out)) hb); have n2_ := Aside0.mk (hbox); have n3_ := Aside0.mk ((by rw [hg]; exact (below_size (by repeat (first | (with_reducible first | exact HB.out | apply below_alloc | apply pw_below_drewN | apply below_drew1 | refine below_set ?_ GE324.out) | exact HB.out))) : w.heap.size ≤ gb325)); have n4_ := Aside0.mk ((by rw [hg]; exact (below_size (by repeat (first | (with_reducible first | exact HB.out | apply below_alloc | apply pw_below_drewN | apply below_drew1 | refine below_set ?_ GE324.out) | exact HB.out))) : w.heap.size ≤ gb325)); have n5_ := Aside0.mk ((by rw [hg]; exact Nat.ne_of_lt (blk_lt (g := gb324) (o := .cells #[.int .i64 a0_0, .int .i64 a0_1, .string a0_2, .int .i64 a0_3, .int .i64 a0_4, .slice A0_5 l0_5.length c0_5] 24 (0, 0)) (by (with_reducible repeat (first | refine blk_drewN ?_ _ | refine blk_drew ?_ | refine blk_alloc ?_ _)); exact BK324.out)) : gb324 ≠ gb325)); have n6_ := Aside0.mk ((by rw [hg]; exact Nat.ne_of_gt (blk_lt (g := gb324) (o := .cells #[.int .i64 a0_0, .int .i64 a0_1, .string a0_2, .int .i64 a0_3, .int .i64 a0_4, .slice A0_5 l0_5.length c0_5] 24 (0, 0)) (by (with_reducible repeat (first | refine blk_drewN ?_ _ | refine blk_drew ?_ | refine blk_alloc ?_ _)); exact BK324.out)) : gb325 ≠ gb324)); clear BK324; clear HB; have BK324 := n0_; have HB := n1_; have BK325 := n2_; have GW325 := n3_; have GE325 := n4_; have NB324_325 := n5_; have NB325_324 := n6_; clear n0_ n1_ n2_ n3_ n4_ n5_ n6_; clear hb hbox hg) | ((with_reducible refine gate_callee (f := 10) rfl ?_); refine goesL_ (some 9) rfl rfl Tryd.func10 (by kernel_rfl) rfl #[] rfl (by (try simp only [List.map_toArray, List.map_cons, List.map_nil]); first | done | rfl | (simp only [List.length_drop, List.length_take]; rfl)) ?_; (with_reducible refine (sizarlaw12_sane.calls k  false _ A3.out ?sideK).mono ?_); (case sideK => exact HKT.out.below (by repeat (first | (with_reducible first | exact HB.out | apply below_alloc | apply pw_below_drewN | apply below_drew1 | refine below_set ?_ GE324.out | refine below_set ?_ GE325.out) | exact HB.out))); rintro e w38 ⟨rfl, hb⟩; refine ⟨_, rfl, ?_⟩; have n0_ := Aside0.mk (blk_below (g := gb324) (o := .cells #[.int .i64 a0_0, .int .i64 a0_1, .string a0_2, .int .i64 a0_3, .int .i64 a0_4, .slice A0_5 l0_5.length c0_5] 24 (0, 0)) (by (with_reducible repeat (first | refine blk_drewN ?_ _ | refine blk_drew ?_ | refine blk_alloc ?_ _)); exact BK324.out) hb); have n1_ := Aside0.mk (blk_below (g := gb325) (o := .cells #[.slice A1_0 l1_0.length c1_0, .int .i64 a1_1, .int .i64 a1_2, .int .i64 a1_3] 29 (0, 0)) (by (with_reducible repeat (first | refine blk_drewN ?_ _ | refine blk_drew ?_ | refine blk_alloc ?_ _)); exact BK325.out) hb); have n2_ := Aside0.mk (below_step (by repeat (first | (with_reducible first | exact HB.out | apply below_alloc | apply pw_below_drewN | apply below_drew1 | refine below_set ?_ GE324.out | refine below_set ?_ GE325.out) | exact HB.out)) hb); clear BK324; clear BK325; clear HB; have BK324 := n0_; have BK325 := n1_; have HB := n2_; clear n0_ n1_ n2_; (try clear hb); (try clear hb2); (try clear hk); (try clear hi)))
    go_ret
    exact ⟨by first | rfl | (simp [errW_none, errW_some] <;> rfl) | (simp [*, errW_none, errW_some] <;> rfl), by repeat (first | (with_reducible first | exact HB.out | apply below_alloc | apply pw_below_drewN | apply below_drew1 | refine below_set ?_ GE324.out | refine below_set ?_ GE325.out) | exact HB.out)⟩
end Go.Proofs.YtabocfninjankaaDoor.P
namespace Go.Proofs.YtabocfninjankaaDoor.P
open Go.RowKit Go.Maps Go.Proofs.YtabocfninjankaaDoorW.PrintWords Go.Proofs.YtabocfninjankaaDoorW.PrintLast Go.Proofs.YtabocfninjankaaDoorW.PrintMore
set_option linter.unusedVariables false
set_option linter.unusedSimpArgs false
mutual
/-- How many parts a rule has. -/
def cntR : S24 → Nat
  | ⟨a, b, c, n, d, ks⟩ => cntLL ks + 1
def cntLL : List S24 → Nat
  | [] => 0
  | k :: ks => cntR k + cntLL ks
end
mutual
/-- How deep it is. -/
def depR : S24 → Nat
  | ⟨a, b, c, n, d, ks⟩ => depLL ks + 1
def depLL : List S24 → Nat
  | [] => 0
  | k :: ks => max (depR k) (depLL ks)
end
theorem cntR_eq (r : S24) : cntR r = cntLL r.f5 + 1 := by cases r; simp [cntR]
theorem depR_eq (r : S24) : depR r = depLL r.f5 + 1 := by cases r; simp [depR]
theorem cnt_mem : ∀ {ks : List S24} {k : S24}, k ∈ ks → cntR k ≤ cntLL ks
  | x :: xs, k, h => by
    simp only [cntLL]
    rcases List.mem_cons.1 h with rfl | h
    · omega
    · have := cnt_mem h; omega
mutual
theorem dep_cnt : ∀ r, depR r ≤ cntR r
  | ⟨a, b, c, n, d, ks⟩ => by simp only [depR, cntR]; have := dep_cntL ks; omega
theorem dep_cntL : ∀ ks, depLL ks ≤ cntLL ks
  | [] => Nat.le_refl _
  | k :: ks => by simp only [depLL, cntLL]; have := dep_cnt k; have := dep_cntL ks; omega
end
mutual
theorem pre_len : ∀ (d : Int) (r : S24), (preR d r).length = cntR r
  | d, ⟨a, b, c, n, e, ks⟩ => by simp only [preR, cntR, List.length_cons, pre_lenL _ ks]
theorem pre_lenL : ∀ (d : Int) (ks : List S24), (preL d ks).length = cntLL ks
  | d, [] => rfl
  | d, k :: ks => by simp only [preL, cntLL, List.length_append, pre_len d k, pre_lenL d ks]
end
mutual
theorem pre_dep : ∀ (d : Int) (r : S24), 0 ≤ d → d + cntR r ≤ 9223372036854775807 → ((∀ p ∈ preR d r, p.1 ≤ 16) ↔ d + depR r ≤ 17)
  | d, ⟨a, b, c, n, e, ks⟩, h0, h1 => by
    simp only [cntR] at h1
    have hw : wrap64 (d + 1) = d + 1 := by unfold wrap64; omega
    have ih := pre_depL (d + 1) ks (by omega) (by omega)
    simp only [preR, List.mem_cons, depR]
    rw [hw]
    constructor
    · intro h
      have h2 := h (d, ⟨a, b, c, n, e, ks⟩) (.inl rfl)
      have h3 := ih.1 (fun p hp => h p (.inr hp))
      simp only at h2
      omega
    · rintro h p (rfl | hp)
      · show d ≤ 16
        omega
      · exact ih.2 (by omega) p hp
theorem pre_depL : ∀ (d : Int) (ks : List S24), 0 ≤ d → d + cntLL ks ≤ 9223372036854775807 → ((∀ p ∈ preL d ks, p.1 ≤ 16) ↔ depLL ks = 0 ∨ d + depLL ks ≤ 17)
  | d, [], h0, h1 => by simp [preL, depLL]
  | d, k :: ks, h0, h1 => by
    simp only [cntLL] at h1
    have ih1 := pre_dep d k h0 (by omega)
    have ih2 := pre_depL d ks h0 (by omega)
    have hk : 0 < depR k := by rw [depR_eq]; omega
    simp only [preL, List.mem_append, depLL]
    constructor
    · intro h
      have h2 := ih1.1 (fun p hp => h p (.inl hp))
      have h3 := ih2.1 (fun p hp => h p (.inr hp))
      omega
    · rintro h p (hp | hp)
      · exact ih1.2 (by omega) p hp
      · exact ih2.2 (by omega) p hp
end
/-- A rule is valid exactly if its parts are few, not too deep and formed. -/
theorem chkR_iff (r : S24) (h : cntR r ≤ 1048576) : chkR r = true ↔ cntR r ≤ 200 ∧ depR r ≤ 16 ∧ Valid r := by
  have hd := pre_dep 1 r (by omega) (by omega)
  constructor
  · intro hc
    obtain ⟨h1, h2⟩ := chk_true 0 (preR 1 r) hc
    have hl := pre_len 1 r
    refine ⟨?_, ?_, fun p hp => (h2 p hp).2⟩
    · rcases h1 with h1 | h1
      · rw [h1] at hl; simp at hl; omega
      · omega
    · have := hd.1 (fun p hp => (h2 p hp).1)
      omega
  · rintro ⟨h1, h2, h3⟩
    refine chk_of 0 (preR 1 r) (by rw [pre_len]; omega) (fun p hp => ⟨hd.2 (by omega) p hp, h3 p hp⟩)
theorem parts_l0E (a b n d : Int) (c : ByteArray) (l : List S24) (hl : l.length ≤ 9223372036854775807) (h : ∀ k ∈ l, Ev (fun q => sizarref12_Parts.f q k.f0 k.f1 k.f2 k.f3 k.f4 k.f5) (cntR k : Int)) : ∀ (m i x : Nat), i + m = l.length → x + cntLL (l.drop i) ≤ 1048577 → Ev (fun q => sizarref12_Parts.l0 q (x : Int) (i : Int) a b c n d l) ((x + cntLL (l.drop i) : Nat) : Int)
  | 0, i, x, hm, hx => Ev.first fun q => by
    simp only [sizarref12_Parts.l0]
    rw [if_neg (by omega), List.drop_eq_nil_of_le (by omega)]
    rfl
  | m + 1, i, x, hm, hx => by
    have hi : i < l.length := by omega
    rw [List.drop_eq_getElem_cons hi] at hx ⊢
    simp only [cntLL] at hx ⊢
    have ht := h l[i] (List.getElem_mem hi)
    have hv := parts_l0E a b n d c l hl h m (i + 1) (x + cntR l[i]) (by omega) (by omega)
    have ew : wrap64 ((x : Int) + (cntR l[i] : Int)) = ((x + cntR l[i] : Nat) : Int) := by unfold wrap64; omega
    rw [← Nat.add_assoc]
    refine Ev.next (Ev.bind ht (c := fun q t => sizarref12_Parts.l0 q (wrap64 ((x : Int) + t)) ((i + 1 : Nat) : Int) a b c n d l) (by rw [ew]; exact hv)) fun q => ?_
    simp only [sizarref12_Parts.l0]
    rw [if_pos (by omega), if_pos (by omega), rd24 l i hi, w64 i (by omega)]
theorem parts_ev : ∀ (sz : Nat) (r : S24), SizeOf.sizeOf r < sz → okR r → cntR r ≤ 1048576 → Ev (fun q => sizarref12_Parts.f q r.f0 r.f1 r.f2 r.f3 r.f4 r.f5) (cntR r : Int)
  | 0, r, h, _, _ => absurd h (by omega)
  | sz + 1, r, h, ho, hc => by
    obtain ⟨_, hl, hk⟩ := (okR_iff r).1 ho
    rw [cntR_eq] at hc ⊢
    have hv := parts_l0E r.f0 r.f1 r.f3 r.f4 r.f2 r.f5 hl (fun k hkm => by
      obtain ⟨i, hi, rfl⟩ := List.getElem_of_mem hkm
      exact parts_ev sz _ (by have := size_kid r i hi; omega) (hk _ hkm) (by have := cnt_mem hkm; omega)) r.f5.length 0 1 (by omega) (by simp only [List.drop_zero]; omega)
    rw [List.drop_zero, Nat.add_comm] at hv
    exact Ev.next hv fun q => by simp only [sizarref12_Parts.f]; rfl
theorem mx_nat (x t : Nat) : mx (x : Int) (t : Int) = ((max x t : Nat) : Int) := by unfold mx; split <;> omega
theorem depth_l0E (a b n d : Int) (c : ByteArray) (l : List S24) (hl : l.length ≤ 9223372036854775807) (h : ∀ k ∈ l, Ev (fun q => sizarref12_Depth.f q k.f0 k.f1 k.f2 k.f3 k.f4 k.f5) (depR k : Int)) : ∀ (m i x : Nat), i + m = l.length → max x (depLL (l.drop i)) ≤ 1048576 → Ev (fun q => sizarref12_Depth.l0 q (x : Int) (i : Int) a b c n d l) ((max x (depLL (l.drop i)) + 1 : Nat) : Int)
  | 0, i, x, hm, hx => Ev.first fun q => by
    simp only [sizarref12_Depth.l0]
    rw [if_neg (by omega), List.drop_eq_nil_of_le (by omega), w64 x (by omega)]
    simp [depLL]
  | m + 1, i, x, hm, hx => by
    have hi : i < l.length := by omega
    rw [List.drop_eq_getElem_cons hi] at hx ⊢
    simp only [depLL] at hx ⊢
    have ht := h l[i] (List.getElem_mem hi)
    have hv := depth_l0E a b n d c l hl h m (i + 1) (max x (depR l[i])) (by omega) (by omega)
    rw [← Nat.max_assoc]
    refine Ev.next (Ev.bind ht (c := fun q t => sizarref12_Depth.l0 q (mx (x : Int) t) ((i + 1 : Nat) : Int) a b c n d l) (by rw [mx_nat]; exact hv)) fun q => ?_
    simp only [sizarref12_Depth.l0]
    rw [if_pos (by omega), if_pos (by omega), rd24 l i hi, w64 i (by omega)]
theorem depth_ev : ∀ (sz : Nat) (r : S24), SizeOf.sizeOf r < sz → okR r → cntR r ≤ 1048576 → Ev (fun q => sizarref12_Depth.f q r.f0 r.f1 r.f2 r.f3 r.f4 r.f5) (depR r : Int)
  | 0, r, h, _, _ => absurd h (by omega)
  | sz + 1, r, h, ho, hc => by
    obtain ⟨_, hl, hk⟩ := (okR_iff r).1 ho
    have hdc := dep_cntL r.f5
    rw [cntR_eq] at hc
    rw [depR_eq]
    have hv := depth_l0E r.f0 r.f1 r.f3 r.f4 r.f2 r.f5 hl (fun k hkm => by
      obtain ⟨i, hi, rfl⟩ := List.getElem_of_mem hkm
      exact depth_ev sz _ (by have := size_kid r i hi; omega) (hk _ hkm) (by have := cnt_mem hkm; omega)) r.f5.length 0 0 (by omega) (by simp only [List.drop_zero]; omega)
    rw [List.drop_zero, Nat.zero_max] at hv
    exact Ev.next hv fun q => by simp only [sizarref12_Depth.f]; rfl
mutual
/-- Are all parts formed? -/
def allB : S24 → Bool
  | ⟨a, b, c, n, d, ks⟩ => fits a b n d ks.length && allBL ks
def allBL : List S24 → Bool
  | [] => true
  | k :: ks => allB k && allBL ks
end
theorem allB_eq (r : S24) : allB r = (fits r.f0 r.f1 r.f3 r.f4 r.f5.length && allBL r.f5) := by cases r; simp [allB]
theorem allBL_iff : ∀ ks : List S24, allBL ks = true ↔ ∀ k ∈ ks, allB k = true
  | [] => by simp [allBL]
  | k :: ks => by simp [allBL, allBL_iff ks]
theorem allB_valid : ∀ (sz : Nat) (r : S24), SizeOf.sizeOf r < sz → (allB r = true ↔ Valid r)
  | 0, r, h => absurd h (by omega)
  | sz + 1, r, h => by
    rw [valid_eq, allB_eq, Bool.and_eq_true, allBL_iff, formed_fits]
    refine and_congr_right fun _ => forall_congr' fun k => ?_
    constructor
    · intro h2 hk
      obtain ⟨i, hi, rfl⟩ := List.getElem_of_mem hk
      exact (allB_valid sz _ (by have := size_kid r i hi; omega)).1 (h2 hk)
    · intro h2 hk
      obtain ⟨i, hi, rfl⟩ := List.getElem_of_mem hk
      exact (allB_valid sz _ (by have := size_kid r i hi; omega)).2 (h2 hk)
theorem all_l0E (a b n d : Int) (c : ByteArray) (l : List S24) (hl : l.length ≤ 9223372036854775807) (h : ∀ k ∈ l, Ev (fun q => sizarref12_allFormed.f q k.f0 k.f1 k.f2 k.f3 k.f4 k.f5) (allB k)) : ∀ (m i : Nat), i + m = l.length → Ev (fun q => sizarref12_allFormed.l0 q (i : Int) a b c n d l) (allBL (l.drop i))
  | 0, i, hm => Ev.first fun q => by
    simp only [sizarref12_allFormed.l0]
    rw [if_neg (by omega), List.drop_eq_nil_of_le (by omega)]
    rfl
  | m + 1, i, hm => by
    have hi : i < l.length := by omega
    rw [List.drop_eq_getElem_cons hi]
    simp only [allBL]
    have ht := h l[i] (List.getElem_mem hi)
    have hv := all_l0E a b n d c l hl h m (i + 1) (by omega)
    refine Ev.next (Ev.bind ht (c := fun q t => if t = true then sizarref12_allFormed.l0 q ((i + 1 : Nat) : Int) a b c n d l else some false) (b := allB l[i] && allBL (l.drop (i + 1))) ?_) fun q => ?_
    · cases allB l[i] with
      | true => exact hv.congr fun q => by rw [if_pos rfl]
      | false => exact Ev.now fun q => by rw [if_neg (by simp)]; rfl
    · simp only [sizarref12_allFormed.l0]
      rw [if_pos (by omega), if_pos (by omega), rd24 l i hi, w64 i (by omega)]
theorem all_ev : ∀ (sz : Nat) (r : S24), SizeOf.sizeOf r < sz → okR r → Ev (fun q => sizarref12_allFormed.f q r.f0 r.f1 r.f2 r.f3 r.f4 r.f5) (allB r)
  | 0, r, h, _ => absurd h (by omega)
  | sz + 1, r, h, ho => by
    obtain ⟨_, hl, hk⟩ := (okR_iff r).1 ho
    have hv := all_l0E r.f0 r.f1 r.f3 r.f4 r.f2 r.f5 hl (fun k hkm => by
      obtain ⟨i, hi, rfl⟩ := List.getElem_of_mem hkm
      exact all_ev sz _ (by have := size_kid r i hi; omega) (hk _ hkm)) r.f5.length 0 (by omega)
    rw [List.drop_zero] at hv
    rw [allB_eq]
    cases hf : fits r.f0 r.f1 r.f3 r.f4 r.f5.length with
    | true =>
      refine Ev.next hv fun q => ?_
      simp only [sizarref12_allFormed.f, sizarref12_formed.f, Option.bind_some, hf, if_true]
      rfl
    | false =>
      refine Ev.first fun q => ?_
      simp only [sizarref12_allFormed.f, sizarref12_formed.f, Option.bind_some, hf]
      rfl
theorem refCheck_ev (r : S24) (ho : okR r) (hc : cntR r ≤ 1048576) : Ev (fun q => sizarref12_Check.f q r.f0 r.f1 r.f2 r.f3 r.f4 r.f5) (if chkR r = true then 0 else 120) := by
  have h1 := parts_ev _ r (Nat.lt_succ_self _) ho hc
  have h2 := depth_ev _ r (Nat.lt_succ_self _) ho hc
  have h3 := all_ev _ r (Nat.lt_succ_self _) ho
  have h4 := allB_valid _ r (Nat.lt_succ_self _)
  have h5 := chkR_iff r hc
  refine Ev.bind h1 (c := fun q t => if t > 200 then some 120 else (sizarref12_Depth.f q r.f0 r.f1 r.f2 r.f3 r.f4 r.f5).bind fun t => if t > 16 then some 120 else (sizarref12_allFormed.f q r.f0 r.f1 r.f2 r.f3 r.f4 r.f5).bind fun t => if t = true then some 0 else some 120) ?_
  by_cases c1 : cntR r ≤ 200
  · refine (Ev.bind h2 (c := fun q t => if t > 16 then some 120 else (sizarref12_allFormed.f q r.f0 r.f1 r.f2 r.f3 r.f4 r.f5).bind fun t => if t = true then some (0 : Int) else some 120) (b := if chkR r = true then 0 else 120) ?_).congr fun q => by rw [if_neg (by omega)]
    by_cases c2 : depR r ≤ 16
    · refine (Ev.bind h3 (c := fun q t => if t = true then some (0 : Int) else some 120) (b := if chkR r = true then 0 else 120) (Ev.now fun q => ?_)).congr fun q => by rw [if_neg (by omega)]
      by_cases c3 : allB r = true
      · rw [if_pos c3, if_pos (h5.2 ⟨c1, c2, h4.1 c3⟩)]
      · rw [if_neg c3, if_neg (fun h => c3 (h4.2 (h5.1 h).2.2))]
    · exact Ev.now fun q => by rw [if_pos (by omega), if_neg (fun h => c2 (h5.1 h).2.1)]
  · exact Ev.now fun q => by rw [if_pos (by omega), if_neg (fun h => c1 (h5.1 h).1)]
theorem mul_small {a b : Int} (h0 : 0 ≤ a) (h1 : a ≤ 1073741824) (h2 : 0 ≤ b) (h3 : b ≤ 1073741824) : wrap64 (a * b) = a * b := by
  have m1 : a * b ≤ 1073741824 * 1073741824 := Int.mul_le_mul h1 h3 (by omega) (by omega)
  have p1 : 0 ≤ a * b := Int.mul_nonneg h0 h2
  unfold wrap64
  omega
theorem op_end (l : List S49) (hl : l.length ≤ 9223372036854775807) (e m1 m2 : Int) (hM : meanB m1 m2 = true) (r : S24) (hf : fits r.f0 r.f1 r.f3 r.f4 r.f5.length = true) :
    Ev (fun k => if r.f0 = 1 then (some ((cntL l e m1 m2 r.f5 : Int) == (r.f5.length : Int))) else (if r.f0 = 2 then (some (decide ((cntL l e m1 m2 r.f5 : Int) > 0))) else (if r.f0 = 3 then (some (decide ((cntL l e m1 m2 r.f5 : Int) ≥ r.f3))) else (if r.f0 = 4 then (some ((cntL l e m1 m2 r.f5 : Int) == 0)) else (if r.f0 = 5 then ((sizarref12_About.f k l e m1 m2 r.f1).bind fun bt274 => (some (decide (bt274.2.2.1 ≥ r.f3)))) else (if r.f0 = 6 then ((sizarref12_About.f k l e m1 m2 r.f1).bind fun bt278 => (some (decide (bt278.2.1 ≥ r.f3)))) else (if r.f0 = 7 then (some (decide (e ≥ r.f3))) else (if r.f0 = 8 then (some (decide ((wrap64 (m1 * r.f4)) ≥ (wrap64 (r.f3 * m2))))) else ((sizarref12_About.f k l e m1 m2 r.f1).bind fun bt282 => (some bt282.2.2.2))))))))))
      (valR l e m1 m2 r) := by
  have ha := aboutR_ev l hl r.f1 e m1 m2
  rw [valR_eq]
  unfold opHolds
  by_cases h1 : r.f0 = 1
  · rw [if_pos h1]; exact Ev.now fun k => by rw [if_pos h1]
  by_cases h2 : r.f0 = 2
  · rw [if_neg h1, if_pos h2]; exact Ev.now fun k => by rw [if_neg h1, if_pos h2]
  by_cases h3 : r.f0 = 3
  · rw [if_neg h1, if_neg h2, if_pos h3]; exact Ev.now fun k => by rw [if_neg h1, if_neg h2, if_pos h3]
  by_cases h4 : r.f0 = 4
  · rw [if_neg h1, if_neg h2, if_neg h3, if_pos h4]; exact Ev.now fun k => by rw [if_neg h1, if_neg h2, if_neg h3, if_pos h4]
  by_cases h5 : r.f0 = 5
  · rw [if_neg h1, if_neg h2, if_neg h3, if_neg h4, if_pos h5]
    exact (Ev.bind ha (c := fun k bt => some (decide (bt.2.2.1 ≥ r.f3))) (Ev.now fun k => rfl)).congr fun k => by rw [if_neg h1, if_neg h2, if_neg h3, if_neg h4, if_pos h5]
  by_cases h6 : r.f0 = 6
  · rw [if_neg h1, if_neg h2, if_neg h3, if_neg h4, if_neg h5, if_pos h6]
    exact (Ev.bind ha (c := fun k bt => some (decide (bt.2.1 ≥ r.f3))) (Ev.now fun k => rfl)).congr fun k => by rw [if_neg h1, if_neg h2, if_neg h3, if_neg h4, if_neg h5, if_pos h6]
  by_cases h7 : r.f0 = 7
  · rw [if_neg h1, if_neg h2, if_neg h3, if_neg h4, if_neg h5, if_neg h6, if_pos h7]; exact Ev.now fun k => by rw [if_neg h1, if_neg h2, if_neg h3, if_neg h4, if_neg h5, if_neg h6, if_pos h7]
  by_cases h8 : r.f0 = 8
  · rw [if_neg h1, if_neg h2, if_neg h3, if_neg h4, if_neg h5, if_neg h6, if_neg h7, if_pos h8]
    refine Ev.now fun k => ?_
    rw [if_neg h1, if_neg h2, if_neg h3, if_neg h4, if_neg h5, if_neg h6, if_neg h7, if_pos h8]
    have hr : meanB r.f3 r.f4 = true := by
      unfold fits at hf
      rw [if_neg h1, if_neg h2, if_neg h3, if_neg h4, if_neg h5, if_neg h6, if_neg h7, if_pos h8] at hf
      simp only [Bool.and_eq_true] at hf
      exact hf.2
    obtain ⟨hc, _⟩ := cmpP_eq hM hr
    obtain ⟨r1, n1⟩ := mean_true hM
    obtain ⟨r2, n2⟩ := mean_true hr
    obtain ⟨b1, b2, _, b3⟩ := ratio_zero r1
    obtain ⟨c1, c2, _, c3⟩ := ratio_zero r2
    rw [hc, mul_small n1 b3 (by omega) c2, mul_small n2 c3 (by omega) b2]
    congr 1
    exact decide_eq_decide.2 (cmpI_ge _ _).symm
  · rw [if_neg h1, if_neg h2, if_neg h3, if_neg h4, if_neg h5, if_neg h6, if_neg h7, if_neg h8]
    exact (Ev.bind ha (c := fun k bt => some bt.2.2.2) (Ev.now fun k => rfl)).congr fun k => by rw [if_neg h1, if_neg h2, if_neg h3, if_neg h4, if_neg h5, if_neg h6, if_neg h7, if_neg h8]
theorem value_l0E (s : List S49) (hs : s.length ≤ 9223372036854775807) (e m1 m2 : Int) (hM : meanB m1 m2 = true) (r : S24) (hl : r.f5.length ≤ 9223372036854775807) (hf : fits r.f0 r.f1 r.f3 r.f4 r.f5.length = true)
    (h : ∀ k ∈ r.f5, Ev (fun q => sizarref12_Value.f q k.f0 k.f1 k.f2 k.f3 k.f4 k.f5 s e m1 m2) (valR s e m1 m2 k)) : ∀ (m i : Nat), i + m = r.f5.length → Ev (fun q => sizarref12_Value.l0 q (cntL s e m1 m2 (r.f5.take i) : Int) (i : Int) r.f0 r.f1 r.f2 r.f3 r.f4 r.f5 s e m1 m2) (valR s e m1 m2 r)
  | 0, i, hm => by
    rw [List.take_of_length_le (by omega)]
    refine Ev.next (op_end s hs e m1 m2 hM r hf) fun q => ?_
    simp only [sizarref12_Value.l0]
    rw [if_neg (by omega)]
  | m + 1, i, hm => by
    have hi : i < r.f5.length := by omega
    have ht := h r.f5[i] (List.getElem_mem hi)
    have hv := value_l0E s hs e m1 m2 hM r hl hf h m (i + 1) (by omega)
    have hle := cntL_le s e m1 m2 (r.f5.take i)
    rw [List.length_take] at hle
    rw [cntL_snoc _ _ _ _ _ _ hi] at hv
    refine Ev.next (Ev.bind ht (c := fun q t => if t = true then sizarref12_Value.l0 q (wrap64 ((cntL s e m1 m2 (r.f5.take i) : Int) + 1)) ((i + 1 : Nat) : Int) r.f0 r.f1 r.f2 r.f3 r.f4 r.f5 s e m1 m2 else sizarref12_Value.l0 q (cntL s e m1 m2 (r.f5.take i) : Int) ((i + 1 : Nat) : Int) r.f0 r.f1 r.f2 r.f3 r.f4 r.f5 s e m1 m2) (b := valR s e m1 m2 r) ?_) fun q => ?_
    · cases hb : valR s e m1 m2 r.f5[i] with
      | true =>
        rw [hb, if_pos rfl] at hv
        exact hv.congr fun q => by rw [if_pos rfl, w64 _ (by omega)]
      | false =>
        rw [hb, if_neg (by simp), Nat.add_zero] at hv
        exact hv.congr fun q => by rw [if_neg (by simp)]
    · simp only [sizarref12_Value.l0]
      rw [if_pos (by omega), if_pos (by omega), rd24 r.f5 i hi, w64 i (by omega)]
theorem refValue_ev (s : List S49) (hs : s.length ≤ 9223372036854775807) (e m1 m2 : Int) (hM : meanB m1 m2 = true) : ∀ (sz : Nat) (r : S24), SizeOf.sizeOf r < sz → okR r → Valid r → Ev (fun q => sizarref12_Value.f q r.f0 r.f1 r.f2 r.f3 r.f4 r.f5 s e m1 m2) (valR s e m1 m2 r)
  | 0, r, h, _, _ => absurd h (by omega)
  | sz + 1, r, h, ho, hv => by
    obtain ⟨_, hl, hk⟩ := (okR_iff r).1 ho
    obtain ⟨h1, h2⟩ := (valid_eq r).1 hv
    rw [formed_fits] at h1
    have hv := value_l0E s hs e m1 m2 hM r hl h1 (fun k hkm => by
      obtain ⟨i, hi, rfl⟩ := List.getElem_of_mem hkm
      exact refValue_ev s hs e m1 m2 hM sz _ (by have := size_kid r i hi; omega) (hk _ hkm) (h2 _ hkm)) r.f5.length 0 (by omega)
    exact Ev.next hv fun q => by simp only [sizarref12_Value.f]; rfl
theorem refHolds_ev (r : S24) (ho : okR r) (hc : cntR r ≤ 1048576) (l : List S49) (hl : l.length ≤ 9223372036854775807) (e m1 m2 : Int) :
    Ev (fun k => sizarref12_Holds.f k r.f0 r.f1 r.f2 r.f3 r.f4 r.f5 l e m1 m2) (if chkR r = true then if fitS l e m1 m2 = true then (valR l e m1 m2 r, 0) else (false, 120) else (false, 120)) := by
  refine Ev.bind (refCheck_ev r ho hc) (c := fun k t => if t = 0 then ((sizarref12_Fits.f k l e m1 m2).bind fun t303 => (if t303 = 0 then ((sizarref12_Value.f k r.f0 r.f1 r.f2 r.f3 r.f4 r.f5 l e m1 m2).bind fun t304 => (some (t304, 0))) else (some (false, t303)))) else (some (false, t))) ?_
  by_cases h1 : chkR r = true
  · rw [if_pos h1, if_pos h1]
    by_cases h2 : fitS l e m1 m2 = true
    · rw [if_pos h2]
      refine (Ev.bind (refValue_ev l hl e m1 m2 (fitS_mean h2).2.2 _ r (Nat.lt_succ_self _) ho (chkR_valid h1).1) (c := fun k t => some (t, (0 : Int))) (Ev.now fun k => rfl)).congr fun k => ?_
      simp only [sizarref12_Fits.f, if_pos h2, Option.bind_some, if_true]
    · rw [if_neg h2]
      refine Ev.now fun k => ?_
      simp only [sizarref12_Fits.f, if_neg h2, Option.bind_some, if_true]
      rw [if_neg (by decide)]
  · rw [if_neg h1, if_neg h1]
    exact Ev.now fun k => by rw [if_neg (by decide)]
theorem RulesHoldsSpec_pure (r : S24) (l : List S49) (e m1 m2 : Int) (ho : okR r ∧ cntR r ≤ 1048576) (hl : l.length ≤ 9223372036854775807) :
    ∃ k, sizarlaw12_RulesHoldsSpec.f k r.f0 r.f1 r.f2 r.f3 r.f4 r.f5 l e m1 m2 = some true := by
  obtain ⟨bf, hf⟩ := few_tot r ho.1
  have hj : ∀ x19, Ev (fun k => sizarlaw12_RulesHoldsSpec.j0 k x19 r.f0 r.f1 r.f2 r.f3 r.f4 r.f5 l e m1 m2) true := by
    intro x19
    cases x19 with
    | true => exact Ev.first fun k => by simp only [sizarlaw12_RulesHoldsSpec.j0]; rw [if_pos trivial]
    | false =>
      have h1 := holds_ev r l hl e m1 m2
      have h2 := refHolds_ev r ho.1 ho.2 l hl e m1 m2
      refine Ev.next (Ev.bind h1 (c := fun k bt => (sizarref12_Holds.f k r.f0 r.f1 r.f2 r.f3 r.f4 r.f5 l e m1 m2).bind fun bt2 => if (bt.1 == bt2.1) = true then some (bt.2 == bt2.2) else some false) (b := true)
        (Ev.bind h2 (c := fun k bt2 => if (_ == bt2.1) = true then some (_ == bt2.2) else some false) (b := true) (Ev.now fun k => ?_))) fun k => ?_
      · rw [if_pos (by simp)]
        simp
      · simp only [sizarlaw12_RulesHoldsSpec.j0]
        rw [if_neg (by simp)]
  have h := Ev.bind sane_ev (c := fun k t => if t = true then ((sizarref12_Few.f k r.f0 r.f1 r.f2 r.f3 r.f4 r.f5).bind fun t => if t = true then sizarlaw12_RulesHoldsSpec.j0 k (decide ((l.length : Int) > 50)) r.f0 r.f1 r.f2 r.f3 r.f4 r.f5 l e m1 m2 else sizarlaw12_RulesHoldsSpec.j0 k true r.f0 r.f1 r.f2 r.f3 r.f4 r.f5 l e m1 m2) else some false) (b := true)
    ((Ev.bind hf (c := fun k t => if t = true then sizarlaw12_RulesHoldsSpec.j0 k (decide ((l.length : Int) > 50)) r.f0 r.f1 r.f2 r.f3 r.f4 r.f5 l e m1 m2 else sizarlaw12_RulesHoldsSpec.j0 k true r.f0 r.f1 r.f2 r.f3 r.f4 r.f5 l e m1 m2) (b := true) (by
      cases bf with
      | true => exact (hj _).congr fun k => by rw [if_pos rfl]
      | false => exact (hj _).congr fun k => by rw [if_neg (by simp)])).congr fun k => by rw [if_pos rfl])
  exact Ev.get h
end Go.Proofs.YtabocfninjankaaDoor.P
namespace Go.Proofs.YtabocfninjankaaDoor.P
open Go.RowKit Go.ChangeShapes Go.WideShapes Go.Deep Go.Proofs.YtabocfninjankaaDoorW.PrintWords Go.Proofs.YtabocfninjankaaDoorW.PrintLast Go.Proofs.YtabocfninjankaaDoorW.PrintMore
set_option linter.unusedVariables false
set_option linter.unusedSimpArgs false
section
variable {H : Type} {enc : TypeId × Value → H}
theorem returns_upto {a : Assume} {C : Checked} {os : Os} {f : FuncId} {fn : Func} {s : ChangeSpec} {conds : List PathCond} {apart fresh handsOn again : Bool} {X : World → Array Value → Prop}
    (hX : ∀ (w w' : World) (args : Array Value), w.heap = w'.heap → X w args → X w' args)
    (own : ownKnob C.prog.godebug = none) (started : os.Started) (noInit : C.prog.inits.idxOf? f = none) (hfn : C.prog.funcs[f]? = some fn)
    (witness : ∃ (w : World) (tape : Tape) (i : Input), w.os = os ∧ (w.forCall tape i).Shaped C.prog ∧ i.vars = [] ∧ Input.okWide C.prog (w.forCall tape i) .any w.heap.size f i ∧
      (((Rows.OpenSpec.upto s).pre enc C.prog fn conds apart (w.forCall tape i).memory i.args ∧ X (w.forCall tape i).memory i.args) ∧ sizedMet enc C.prog fn (Rows.OpenSpec.upto s) apart (w.forCall tape i).memory i.args) ∧ a.holds C.prog (lone (Frame.enter C.prog f i.args .normal) [] (w.forCall tape i)))
    (contract : ∀ (W : World) (base : Nat) (args : Array Value) (ds gs : List (DataW H)) (before : List MemPlace),
      (∀ (j : Nat) t v, fn.params[j]? = some t → args[j]? = some v → Value.okWide C.prog W .any base t v) →
      DataW.Whole enc C.prog fn.params.toList s.vars apart W args.toList ds gs before →
      conds.all (PathCond.test C.prog ⟨fn.params.toList, ds, s.plain.varTypes C.prog, gs⟩) = true →
      (DataW.weightsEach C.prog (fn.params.toList ++ s.plain.varTypes C.prog) (ds ++ gs)).all (· ≤ reachBytes) = true → Rows.uptoBulkAll (ds ++ gs) ≤ 1048576 → X W args →
      a.holds C.prog (lone (Frame.enter C.prog f args .normal) [] W) →
      Calls C.prog f args W fun e W' => ∃ v, e = .returned v ∧ s.post enc C.prog fn apart fresh handsOn again W args v W') :
    ReturnsInHanded a C os f .any (fun w args => ((Rows.OpenSpec.upto s).pre enc C.prog fn conds apart w args ∧ X w args) ∧ sizedMet enc C.prog fn (Rows.OpenSpec.upto s) apart w args) (s.post enc C.prog fn apart fresh handsOn again) := by
  refine returnsInHanded_of_calls own started noInit witness ?_
  intro w tape i _ _ _ hok hpre hholds
  obtain ⟨_, _, _, fn', hfn', _, _, _, _, hval⟩ := hok
  have e : fn' = fn := Option.some.inj (hfn'.symm.trans hfn)
  subst e
  obtain ⟨⟨hp, hx⟩, hz⟩ := hpre
  obtain ⟨ds, gs, before, hw, hc, hk⟩ := (OpenSpec.pre_some (k := Rows.uptoSmall) rfl conds apart _ _).1 hp
  have hk' : Rows.uptoBulkAll (ds ++ gs) ≤ 1048576 := of_decide_eq_true hk
  have hw' := DataW.Whole.of_heap (w' := w.forCall tape i) (by rfl) hw
  refine (contract (w.forCall tape i) w.heap.size i.args ds gs before hval hw' hc (hz.weights hw) hk' (hX _ _ _ (by rfl) hx) hholds).mono fun e W' ⟨v, he, hp⟩ => ?_
  subst he
  exact ChangeSpec.post_blind hp
def wholeSmall {H : Type} (enc : TypeId × Value → H) (P : Program) (w : World) (ts : List TypeId) (vars : List String) (apart : Bool) (args : List Value) (fuel : Nat) (test : List (DataW H) → List (DataW H) → Bool) : Bool :=
  match DataW.whole enc P w ts vars apart args fuel with
  | some x => test x.1 x.2.1 && Rows.uptoSmall H (x.1 ++ x.2.1)
  | none => false
theorem witness_upto {C : Checked} {os : Os} {f : FuncId} {fn : Func} {s : ChangeSpec} {conds : List PathCond} {apart : Bool} {X : World → Array Value → Prop} (modest : Bool) (w0 : World) (args : Array Value) (fuel : Nat) (hos : w0.os = os)
    (hsh : (w0.forCall (fun _ _ => 0) ⟨#[], args, []⟩).Shaped C.prog)
    (hok : Input.okWideB C.prog (w0.forCall (fun _ _ => 0) ⟨#[], args, []⟩) f ⟨#[], args, []⟩ = true)
    (hpre : wholeSmall enc C.prog (w0.forCall (fun _ _ => 0) ⟨#[], args, []⟩).memory fn.params.toList s.vars apart args.toList fuel (fun ds gs => conds.all (PathCond.test C.prog ⟨fn.params.toList, ds, s.plain.varTypes C.prog, gs⟩)) = true)
    (hsz : s.sizedB enc C.prog fn apart (w0.forCall (fun _ _ => 0) ⟨#[], args, []⟩).memory args fuel = true)
    (hx : X (w0.forCall (fun _ _ => 0) ⟨#[], args, []⟩).memory args) :
    ∃ (w : World) (tape : Tape) (i : Input), w.os = os ∧ (w.forCall tape i).Shaped C.prog ∧ i.vars = [] ∧ Input.okWide C.prog (w.forCall tape i) .any w.heap.size f i ∧
      (((Rows.OpenSpec.upto s).pre enc C.prog fn conds apart (w.forCall tape i).memory i.args ∧ X (w.forCall tape i).memory i.args) ∧ sizedMet enc C.prog fn (Rows.OpenSpec.upto s) apart (w.forCall tape i).memory i.args) ∧ ({ modest := modest } : Assume).holds C.prog (lone (Frame.enter C.prog f i.args .normal) [] (w.forCall tape i)) := by
  have hp : (Rows.OpenSpec.upto s).pre enc C.prog fn conds apart (w0.forCall (fun _ _ => 0) ⟨#[], args, []⟩).memory args := by
    unfold wholeSmall at hpre
    split at hpre
    · rename_i x hxw
      rw [Bool.and_eq_true] at hpre
      exact (OpenSpec.pre_some (k := Rows.uptoSmall) rfl conds apart _ _).2 ⟨x.1, x.2.1, x.2.2, DataW.Whole_of_whole hxw, hpre.1, hpre.2⟩
    · cases hpre
  refine ⟨w0, fun _ _ => 0, ⟨#[], args, []⟩, hos, hsh, (Input.okWide_of_okWideB (base := 0) hok).1, (Input.okWide_of_okWideB hok).2, ⟨⟨hp, hx⟩, sizedMet_of_sizedB hsz⟩, ?_⟩
  simp only [Assume.holds]
  exact ⟨by simp, by simp, fun _ => Modest.zero, by simp, by simp⟩
end
section
variable {H : Type} {P : Program}
theorem bulk_mem : ∀ {ds : List (DataW H)} {d : DataW H}, d ∈ ds → Rows.uptoBulk d ≤ Rows.uptoBulkAll ds
  | x :: xs, d, h => by
    unfold Rows.uptoBulkAll
    rcases List.mem_cons.1 h with rfl | h
    · omega
    · have := bulk_mem h; omega
theorem opn_struct_b {enc : TypeId × Value → H} {W : World} {base : Nat} {spare : Nat → Bool} {held : Bool} {fuel : Nat} {t : TypeId} {fs : Array Field} {cs : List Value} {x : DataW H × List MemPlace} (ht : P.underlying t = some (.struct fs)) (h : DataW.trod enc P W base spare held fuel t cs = some x) (hw : light P t x.1) :
    cs.length = P.cellsOf t ∧ ∃ n, ∀ (i : Nat) (f : Field), fs[i]? = some f → ∃ y, DataW.trod enc P W base spare held n f.type ((cs.drop f.offset).take (P.cellsOf f.type)) = some y ∧ light P f.type y.1 ∧ Rows.uptoBulk y.1 < Rows.uptoBulk x.1 := by
  obtain ⟨xs, n, _, rfl, hl, hlen, hf⟩ := DataW.trod_struct ht h
  refine ⟨hl, n, fun i f hi => ?_⟩
  have hil : i < fs.size := (Array.getElem?_eq_some_iff.1 hi).1
  have hx : xs[i]? = some (xs[i]'(by omega)) := List.getElem?_eq_getElem (by omega)
  refine ⟨_, (hf i f hi).trans hx, ?_, ?_⟩
  · unfold light at hw
    simp only [DataW.weights, ht] at hw
    exact light_each _ _ hw i _ _ (by simp [hi]) (by simp [hx])
  · have h1 : (xs[i]'(by omega)).1 ∈ xs.map (·.1) := List.mem_map.2 ⟨_, List.getElem_mem _, rfl⟩
    have h2 := bulk_mem h1
    show Rows.uptoBulk _ < Rows.uptoBulk (.agg _)
    unfold Rows.uptoBulk at h2 ⊢
    omega
def OpnB {α : Type} (m : Nat) (P : Program) (d : Kd α) (t : TypeId) (G : α → Nat → Prop) : Prop :=
  ∀ (H : Type) (enc : TypeId × Value → H) (W : World) (base : Nat) (spare : Nat → Bool) (held : Bool) (fuel : Nat) (cs : List Value) (x : DataW H × List MemPlace), Rows.uptoBulk x.1 < m → DataW.trod enc P W base spare held fuel t cs = some x → light P t x.1 → ∃ y, d.K W y cs ∧ G y (Rows.uptoBulk x.1)
/-- Sums of bulks, element by element. -/
inductive Weighs {α : Type} (G : α → Nat → Prop) : List α → Nat → Prop
  | nil : Weighs G [] 0
  | cons {x : α} {xs : List α} {a b : Nat} : G x a → Weighs G xs b → Weighs G (x :: xs) (a + b)
theorem weighs_of {α : Type} {G : α → Nat → Prop} : ∀ (ys : List α) (ds : List (DataW H)), ys.length = ds.length → (∀ (i : Nat) (y : α) (d : DataW H), ys[i]? = some y → ds[i]? = some d → G y (Rows.uptoBulk d)) → Weighs G ys (Rows.uptoBulkAll ds)
  | [], [], _, _ => .nil
  | [], _ :: _, h, _ => by simp at h
  | _ :: _, [], h, _ => by simp at h
  | y :: ys, d :: ds, h, hg => by
    unfold Rows.uptoBulkAll
    exact .cons (hg 0 y d rfl rfl) (weighs_of ys ds (by simpa using h) (fun i a b ha hb => hg (i + 1) a b (by simpa using ha) (by simpa using hb)))
theorem opn_sliceB {α : Type} {m0 : Nat} {d : Kd α} {t e : TypeId} {G : α → Nat → Prop} (ht : P.underlying t = some (.slice e)) (hd : OpnB m0 P d e G) (hsz : P.cellsOf e = d.sz) (h0 : 0 < d.sz) :
    OpnB m0 P (Kd.slice e d) t (fun xs b => ∃ b', Weighs G xs b' ∧ b' < b ∧ xs.length * P.bytesOf e ≤ reachBytes) := by
  intro H enc W base spare held fuel cs x hs h hw
  rcases open_slice ht h with ⟨rfl, rfl⟩ | ⟨a, len, cap, m, n, D, Pl, rfl, hb, hl, hm, hmm, rfl, hi⟩
  · exact ⟨[], ⟨none, 0, rfl, Nat.le_refl _, rfl, Nat.zero_le _, fun h => absurd h (by simp)⟩, 0, .nil, by unfold Rows.uptoBulk; omega, by simp⟩
  · have hlm : len ≤ m := by rw [hmm]; split <;> omega
    have hsl : ∀ {es sp : List (DataW H)}, Rows.uptoBulk (.slice es sp) = Rows.uptoBulkAll es + Rows.uptoBulkAll sp + 1 := fun {es sp} => by rw [Rows.uptoBulk]
    have hsm : ∀ i, i < len → Rows.uptoBulk (D i) < m0 := fun i hi => by
      have h1 : D i ∈ (List.range len).map D := List.mem_map.2 ⟨i, List.mem_range.2 hi, rfl⟩
      have h2 := bulk_mem h1
      rw [hsl] at hs
      omega
    unfold light at hw
    simp only [DataW.weights, ht, List.all_cons, List.all_append, Bool.and_eq_true, List.length_map, List.length_range, decide_eq_true_eq] at hw
    obtain ⟨hw0, hw1, hw2⟩ := hw
    obtain ⟨ys, hyl, hy⟩ := list_of (p := fun i y => (∃ c, c.length = d.sz ∧ d.K W y c ∧ ∀ j u, c[j]? = some u → W.cell? (a.add (i * d.sz + j)) = some u) ∧ G y (Rows.uptoBulk (D i))) len (fun i hil => by
      obtain ⟨cs', hc, htr⟩ := hi i (by omega)
      obtain ⟨_, hcl, hat⟩ := World.cells?_some hc
      obtain ⟨y, hk, hg⟩ := hd H enc W base spare held n cs' _ (hsm i hil) htr (light_all _ hw1 _ (List.mem_map.2 ⟨i, List.mem_range.2 hil, rfl⟩))
      refine ⟨y, ⟨cs', hcl.trans hsz, hk, fun j u hj => ?_⟩, hg⟩
      have hjl := (List.getElem?_eq_some_iff.1 hj).1
      have := hat j (by omega)
      rw [hsz, Go.Deep.add_add] at this
      rw [this]; exact hj)
    refine ⟨ys, ⟨some a, cap, by rw [hyl], by omega, hyl ▸ rfl, ?_, fun _ => ⟨a, rfl, fun j p hj => (hy j p hj).1⟩⟩, Rows.uptoBulkAll ((List.range len).map D), weighs_of ys _ (by simp [hyl]) (fun i y dd hyi hdi => ?_), ?_, ?_⟩
    · rw [hyl]; simp only [maxLen] at hm; omega
    · have hil := (List.getElem?_eq_some_iff.1 hyi).1
      have : dd = D i := by
        rw [List.getElem?_map, List.getElem?_range (by omega)] at hdi
        exact (Option.some.inj hdi).symm
      rw [this]
      exact (hy i _ hyi).2
    · rw [hsl]
      omega
    · rw [hyl]
      exact Nat.le_trans (Nat.mul_le_mul_right _ (by omega)) hw0
end
def okB (r : S24) (b : Nat) : Prop := okR r ∧ cntR r ≤ b
theorem weighs_ok : ∀ {ks : List S24} {b : Nat}, Weighs okB ks b → (∀ k ∈ ks, okR k) ∧ cntLL ks ≤ b
  | _, _, .nil => ⟨fun k hk => (by cases hk), Nat.le_refl _⟩
  | _, _, .cons h hr => by
    obtain ⟨h1, h2⟩ := weighs_ok hr
    refine ⟨fun k hk => ?_, ?_⟩
    · rcases List.mem_cons.1 hk with rfl | hk
      · exact h.1
      · exact h1 k hk
    · have := h.2
      simp only [cntLL]
      omega
theorem opn24B : ∀ m, OpnB m Tryd.prog k24 24 okB
  | 0 => fun H enc W base spare held fuel cs x hs => absurd hs (by omega)
  | m + 1 => by
    intro H enc W base spare held fuel cs x hs h hw
    obtain ⟨hl, n, hf⟩ := opn_struct_b Tryd.underlying24 h hw
    obtain ⟨c0, c1, c2, c3, c4, c5, rfl⟩ := len_6 cs (hl.trans cel24)
    have fld : ∀ (i t off : Nat) (f : Field) (cc : List Value), (f.type = t ∧ f.offset = off ∧ Tryd.prog.cellsOf t = 1 ∧ ([c0, c1, c2, c3, c4, c5].drop off).take 1 = cc) → (∃ y, DataW.trod enc Tryd.prog W base spare held n f.type (([c0, c1, c2, c3, c4, c5].drop f.offset).take (Tryd.prog.cellsOf f.type)) = some y ∧ light Tryd.prog f.type y.1 ∧ Rows.uptoBulk y.1 < Rows.uptoBulk x.1) →
        ∃ y, DataW.trod enc Tryd.prog W base spare held n t cc = some y ∧ light Tryd.prog t y.1 ∧ Rows.uptoBulk y.1 < Rows.uptoBulk x.1 := by
      rintro i t off f cc ⟨rfl, rfl, e1, e2⟩ ⟨y, h1, h2, h3⟩
      rw [e1, e2] at h1
      exact ⟨y, h1, h2, h3⟩
    obtain ⟨y0, t0, w0, _⟩ := fld 0 3 0 _ [c0] ⟨rfl, rfl, cel3, rfl⟩ (hf 0 _ rfl)
    obtain ⟨y1, t1, w1, _⟩ := fld 1 3 1 _ [c1] ⟨rfl, rfl, cel3, rfl⟩ (hf 1 _ rfl)
    obtain ⟨y2, t2, w2, _⟩ := fld 2 9 2 _ [c2] ⟨rfl, rfl, cel9, rfl⟩ (hf 2 _ rfl)
    obtain ⟨y3, t3, w3, _⟩ := fld 3 3 3 _ [c3] ⟨rfl, rfl, cel3, rfl⟩ (hf 3 _ rfl)
    obtain ⟨y4, t4, w4, _⟩ := fld 4 3 4 _ [c4] ⟨rfl, rfl, cel3, rfl⟩ (hf 4 _ rfl)
    obtain ⟨y5, t5, w5, s5⟩ := fld 5 22 5 _ [c5] ⟨rfl, rfl, cel22, rfl⟩ (hf 5 _ rfl)
    obtain ⟨z0, q0, g0⟩ := opn_int H enc W base spare held n _ _ t0 w0
    obtain ⟨z1, q1, g1⟩ := opn_int H enc W base spare held n _ _ t1 w1
    obtain ⟨z2, q2, _, _⟩ := DataW.trod_string Tryd.underlying9 t2
    obtain ⟨z3, q3, g3⟩ := opn_int H enc W base spare held n _ _ t3 w3
    obtain ⟨z4, q4, g4⟩ := opn_int H enc W base spare held n _ _ t4 w4
    obtain ⟨z5, ⟨A5, k5, q5, l5, r5⟩, b', hwt, hlt, b5⟩ := opn_sliceB Tryd.underlying22 (opn24B m) cel24 (by decide) H enc W base spare held n _ _ (by omega) t5 w5
    obtain ⟨g5, hcn⟩ := weighs_ok hwt
    replace q0 : [c0] = [Value.int .i64 z0] := q0
    replace q1 : [c1] = [Value.int .i64 z1] := q1
    replace q3 : [c3] = [Value.int .i64 z3] := q3
    replace q4 : [c4] = [Value.int .i64 z4] := q4
    simp only [List.cons.injEq, and_true] at q0 q1 q2 q3 q4 q5
    subst q0 q1 q2 q3 q4 q5
    exact ⟨⟨z0, z1, z2, z3, z4, z5⟩, k24_mk W ⟨z0, z1, z2, z3, z4, z5⟩ l5 r5, (okR_iff _).2 ⟨⟨g0, g1, g3, g4⟩, r5.2.1, g5⟩, by rw [cntR_eq]; show cntLL z5 + 1 ≤ _; omega⟩
/-- A rule that is read, of bounded bulk. -/
theorem opn24U {H : Type} {enc : TypeId × Value → H} {W : World} {base : Nat} {spare : Nat → Bool} {held : Bool} {fuel : Nat} {cs : List Value} {x : DataW H × List MemPlace} (h : DataW.trod enc Tryd.prog W base spare held fuel 24 cs = some x) (hw : light Tryd.prog 24 x.1) (hb : Rows.uptoBulk x.1 ≤ 1048576) :
    ∃ y, k24.K W y cs ∧ okR y ∧ cntR y ≤ 1048576 := by
  obtain ⟨y, h1, h2, h3⟩ := opn24B _ H enc W base spare held fuel cs x (Nat.lt_succ_self _) h hw
  exact ⟨y, h1, h2, by omega⟩
end Go.Proofs.YtabocfninjankaaDoor.P
namespace Go.Proofs.YtabocfninjankaaDoor.P
open Go.ChangeShapes Go.WideShapes Go.ChangeAt Go.RowKit
set_option linter.unusedVariables false
theorem gKinds : Tryd.prog.globalNamed "sizar/rules.kinds" = some 0 := by kernel_rfl
theorem tKinds : (Tryd.prog.globals[0]?).map (·.type) = some 81 := by kernel_rfl
theorem cel80 : Tryd.prog.cellsOf 80 = 6 := by kernel_rfl
theorem cel81 : Tryd.prog.cellsOf 81 = 60 := by kernel_rfl
theorem celF : ∀ t, t = 4 ∨ t = 31 ∨ t = 78 → Tryd.prog.cellsOf t = 1 := by rintro t (rfl | rfl | rfl) <;> kernel_rfl
theorem nil_of_trod {P : Program} {w : World} {base : Nat} {sp : Nat → Bool} {fuel : Nat} {t : TypeId} {ps rs : Array TypeId} {va : Bool} {v : Value} {q : List MemPlace}
    (ht : P.underlying t = some (.func ps rs va)) (h : DataW.trod (funcToken P) P w base sp true fuel t [v] = some (.nil, q)) : v = .nilFunc := by
  cases fuel with
  | zero => simp [DataW.trod] at h
  | succ n => cases v <;> simp [DataW.trod, ht] at h ⊢
theorem row_open {W : World} {n : Nat} {cs : List Value} {a b c d : Bool} {x y : UInt8} {xs ys : List UInt8} {q : List MemPlace} {f g : FuncId}
    (hf : ((List.range Tryd.prog.funcs.size).filter fun f => (Tryd.prog.funcs[f]?).any (·.name.toUTF8.data.toList == x :: xs)) = [f]) (hg : ((List.range Tryd.prog.funcs.size).filter fun f => (Tryd.prog.funcs[f]?).any (·.name.toUTF8.data.toList == y :: ys)) = [g])
    (h : DataW.trod (funcToken Tryd.prog) Tryd.prog W 0 (fun _ => true) true n 80 cs = some (.agg [.lit (.bool a), .lit (.bool b), .lit (.bool c), .lit (.bool d), .held (x :: xs), .held (y :: ys)], q)) : cs = kindRow a b c d f g := by
  obtain ⟨zs, m, _, hx, hl, hzl, hz⟩ := DataW.trod_struct Tryd.underlying80 h
  rw [cel80] at hl
  rcases cs with _ | ⟨v0, _ | ⟨v1, _ | ⟨v2, _ | ⟨v3, _ | ⟨v4, _ | ⟨v5, _ | ⟨v6, l⟩⟩⟩⟩⟩⟩⟩ <;> simp at hl
  rcases zs with _ | ⟨z0, _ | ⟨z1, _ | ⟨z2, _ | ⟨z3, _ | ⟨z4, _ | ⟨z5, _ | ⟨z6, l⟩⟩⟩⟩⟩⟩⟩ <;> simp at hzl
  simp only [Prod.mk.injEq, DataW.agg.injEq, List.map_cons, List.map_nil, List.cons.injEq, and_true] at hx
  obtain ⟨⟨e0, e1, e2, e3, e4, e5⟩, _⟩ := hx
  have fld : ∀ (i t off : Nat) (f : Field) (cc : List Value) (z : DataW (List UInt8) × List MemPlace), (f.type = t ∧ f.offset = off ∧ Tryd.prog.cellsOf t = 1 ∧ ([v0, v1, v2, v3, v4, v5].drop off).take 1 = cc) →
      DataW.trod (funcToken Tryd.prog) Tryd.prog W 0 (fun _ => true) true m f.type (([v0, v1, v2, v3, v4, v5].drop f.offset).take (Tryd.prog.cellsOf f.type)) = some z → DataW.trod (funcToken Tryd.prog) Tryd.prog W 0 (fun _ => true) true m t cc = some z := by
    rintro i t off f cc z ⟨rfl, rfl, q1, q2⟩ h1
    rw [q1, q2] at h1
    exact h1
  have t0 := fld 0 4 0 _ [v0] _ ⟨rfl, rfl, celF 4 (.inl rfl), rfl⟩ (hz 0 _ rfl)
  have t1 := fld 1 4 1 _ [v1] _ ⟨rfl, rfl, celF 4 (.inl rfl), rfl⟩ (hz 1 _ rfl)
  have t2 := fld 2 4 2 _ [v2] _ ⟨rfl, rfl, celF 4 (.inl rfl), rfl⟩ (hz 2 _ rfl)
  have t3 := fld 3 4 3 _ [v3] _ ⟨rfl, rfl, celF 4 (.inl rfl), rfl⟩ (hz 3 _ rfl)
  have t4 := fld 4 31 4 _ [v4] _ ⟨rfl, rfl, celF 31 (.inr (.inl rfl)), rfl⟩ (hz 4 _ rfl)
  have t5 := fld 5 78 5 _ [v5] _ ⟨rfl, rfl, celF 78 (.inr (.inr rfl)), rfl⟩ (hz 5 _ rfl)
  obtain ⟨b0, h0, k0⟩ := DataW.trod_bool Tryd.underlying4 t0
  obtain ⟨b1, h1, k1⟩ := DataW.trod_bool Tryd.underlying4 t1
  obtain ⟨b2, h2, k2⟩ := DataW.trod_bool Tryd.underlying4 t2
  obtain ⟨b3, h3, k3⟩ := DataW.trod_bool Tryd.underlying4 t3
  have t4' : DataW.trod (funcToken Tryd.prog) Tryd.prog W 0 (fun _ => true) true m 31 [v4] = some (.held (x :: xs), z4.2) := by rw [t4, e4]
  have t5' : DataW.trod (funcToken Tryd.prog) Tryd.prog W 0 (fun _ => true) true m 78 [v5] = some (.held (y :: ys), z5.2) := by rw [t5, e5]
  have h4 := func_of_trod Tryd.underlying31 hf t4'
  have h5 := func_of_trod Tryd.underlying78 hg t5'
  rw [k0] at e0
  rw [k1] at e1
  rw [k2] at e2
  rw [k3] at e3
  simp only [DataW.lit.injEq, Lit.bool.injEq] at e0 e1 e2 e3
  simp only [List.cons.injEq, and_true] at h0 h1 h2 h3
  subst e0 e1 e2 e3 h0 h1 h2 h3 h4 h5
  rfl
theorem row_open0 {W : World} {n : Nat} {cs : List Value} {a b c d : Bool} {q : List MemPlace}
    (h : DataW.trod (funcToken Tryd.prog) Tryd.prog W 0 (fun _ => true) true n 80 cs = some (.agg [.lit (.bool a), .lit (.bool b), .lit (.bool c), .lit (.bool d), .nil, .nil], q)) : cs = [.bool a, .bool b, .bool c, .bool d, .nilFunc, .nilFunc] := by
  obtain ⟨zs, m, _, hx, hl, hzl, hz⟩ := DataW.trod_struct Tryd.underlying80 h
  rw [cel80] at hl
  rcases cs with _ | ⟨v0, _ | ⟨v1, _ | ⟨v2, _ | ⟨v3, _ | ⟨v4, _ | ⟨v5, _ | ⟨v6, l⟩⟩⟩⟩⟩⟩⟩ <;> simp at hl
  rcases zs with _ | ⟨z0, _ | ⟨z1, _ | ⟨z2, _ | ⟨z3, _ | ⟨z4, _ | ⟨z5, _ | ⟨z6, l⟩⟩⟩⟩⟩⟩⟩ <;> simp at hzl
  simp only [Prod.mk.injEq, DataW.agg.injEq, List.map_cons, List.map_nil, List.cons.injEq, and_true] at hx
  obtain ⟨⟨e0, e1, e2, e3, e4, e5⟩, _⟩ := hx
  have fld : ∀ (i t off : Nat) (f : Field) (cc : List Value) (z : DataW (List UInt8) × List MemPlace), (f.type = t ∧ f.offset = off ∧ Tryd.prog.cellsOf t = 1 ∧ ([v0, v1, v2, v3, v4, v5].drop off).take 1 = cc) →
      DataW.trod (funcToken Tryd.prog) Tryd.prog W 0 (fun _ => true) true m f.type (([v0, v1, v2, v3, v4, v5].drop f.offset).take (Tryd.prog.cellsOf f.type)) = some z → DataW.trod (funcToken Tryd.prog) Tryd.prog W 0 (fun _ => true) true m t cc = some z := by
    rintro i t off f cc z ⟨rfl, rfl, q1, q2⟩ h1
    rw [q1, q2] at h1
    exact h1
  have t0 := fld 0 4 0 _ [v0] _ ⟨rfl, rfl, celF 4 (.inl rfl), rfl⟩ (hz 0 _ rfl)
  have t1 := fld 1 4 1 _ [v1] _ ⟨rfl, rfl, celF 4 (.inl rfl), rfl⟩ (hz 1 _ rfl)
  have t2 := fld 2 4 2 _ [v2] _ ⟨rfl, rfl, celF 4 (.inl rfl), rfl⟩ (hz 2 _ rfl)
  have t3 := fld 3 4 3 _ [v3] _ ⟨rfl, rfl, celF 4 (.inl rfl), rfl⟩ (hz 3 _ rfl)
  have t4 := fld 4 31 4 _ [v4] _ ⟨rfl, rfl, celF 31 (.inr (.inl rfl)), rfl⟩ (hz 4 _ rfl)
  have t5 := fld 5 78 5 _ [v5] _ ⟨rfl, rfl, celF 78 (.inr (.inr rfl)), rfl⟩ (hz 5 _ rfl)
  obtain ⟨b0, h0, k0⟩ := DataW.trod_bool Tryd.underlying4 t0
  obtain ⟨b1, h1, k1⟩ := DataW.trod_bool Tryd.underlying4 t1
  obtain ⟨b2, h2, k2⟩ := DataW.trod_bool Tryd.underlying4 t2
  obtain ⟨b3, h3, k3⟩ := DataW.trod_bool Tryd.underlying4 t3
  have t4' : DataW.trod (funcToken Tryd.prog) Tryd.prog W 0 (fun _ => true) true m 31 [v4] = some (.nil, z4.2) := by rw [t4, e4]
  have t5' : DataW.trod (funcToken Tryd.prog) Tryd.prog W 0 (fun _ => true) true m 78 [v5] = some (.nil, z5.2) := by rw [t5, e5]
  have h4 := nil_of_trod Tryd.underlying31 t4'
  have h5 := nil_of_trod Tryd.underlying78 t5'
  rw [k0] at e0
  rw [k1] at e1
  rw [k2] at e2
  rw [k3] at e3
  simp only [DataW.lit.injEq, Lit.bool.injEq] at e0 e1 e2 e3
  simp only [List.cons.injEq, and_true] at h0 h1 h2 h3
  subst e0 e1 e2 e3 h0 h1 h2 h3 h4 h5
  rfl
/-- The table, as it reads. -/
def kindsData : List (DataW (List UInt8)) := [.agg [.lit (.bool false), .lit (.bool false), .lit (.bool false), .lit (.bool false), .nil, .nil], .agg [.lit (.bool false), .lit (.bool false), .lit (.bool false), .lit (.bool true), .held (115 :: [105, 122, 97, 114, 47, 114, 117, 108, 101, 115, 46, 107, 105, 110, 100, 115, 36, 49]), .held (115 :: [105, 122, 97, 114, 47, 114, 117, 108, 101, 115, 46, 107, 105, 110, 100, 115, 36, 50])], .agg [.lit (.bool false), .lit (.bool false), .lit (.bool false), .lit (.bool true), .held (115 :: [105, 122, 97, 114, 47, 114, 117, 108, 101, 115, 46, 107, 105, 110, 100, 115, 36, 51]), .held (115 :: [105, 122, 97, 114, 47, 114, 117, 108, 101, 115, 46, 107, 105, 110, 100, 115, 36, 52])], .agg [.lit (.bool false), .lit (.bool true), .lit (.bool false), .lit (.bool true), .held (115 :: [105, 122, 97, 114, 47, 114, 117, 108, 101, 115, 46, 107, 105, 110, 100, 115, 36, 53]), .held (115 :: [105, 122, 97, 114, 47, 114, 117, 108, 101, 115, 46, 107, 105, 110, 100, 115, 36, 54])], .agg [.lit (.bool false), .lit (.bool false), .lit (.bool false), .lit (.bool true), .held (115 :: [105, 122, 97, 114, 47, 114, 117, 108, 101, 115, 46, 107, 105, 110, 100, 115, 36, 55]), .held (115 :: [105, 122, 97, 114, 47, 114, 117, 108, 101, 115, 46, 107, 105, 110, 100, 115, 36, 56])], .agg [.lit (.bool true), .lit (.bool true), .lit (.bool false), .lit (.bool false), .held (115 :: [105, 122, 97, 114, 47, 114, 117, 108, 101, 115, 46, 107, 105, 110, 100, 115, 36, 57]), .held (115 :: [105, 122, 97, 114, 47, 114, 117, 108, 101, 115, 46, 107, 105, 110, 100, 115, 36, 49, 48])], .agg [.lit (.bool true), .lit (.bool true), .lit (.bool false), .lit (.bool false), .held (115 :: [105, 122, 97, 114, 47, 114, 117, 108, 101, 115, 46, 107, 105, 110, 100, 115, 36, 49, 49]), .held (115 :: [105, 122, 97, 114, 47, 114, 117, 108, 101, 115, 46, 107, 105, 110, 100, 115, 36, 49, 50])], .agg [.lit (.bool false), .lit (.bool true), .lit (.bool false), .lit (.bool false), .held (115 :: [105, 122, 97, 114, 47, 114, 117, 108, 101, 115, 46, 107, 105, 110, 100, 115, 36, 49, 51]), .held (115 :: [105, 122, 97, 114, 47, 114, 117, 108, 101, 115, 46, 107, 105, 110, 100, 115, 36, 49, 52])], .agg [.lit (.bool false), .lit (.bool true), .lit (.bool true), .lit (.bool false), .held (115 :: [105, 122, 97, 114, 47, 114, 117, 108, 101, 115, 46, 107, 105, 110, 100, 115, 36, 49, 53]), .held (115 :: [105, 122, 97, 114, 47, 114, 117, 108, 101, 115, 46, 107, 105, 110, 100, 115, 36, 49, 54])], .agg [.lit (.bool true), .lit (.bool false), .lit (.bool false), .lit (.bool false), .held (115 :: [105, 122, 97, 114, 47, 114, 117, 108, 101, 115, 46, 99, 111, 117, 114, 115, 101]), .held (115 :: [105, 122, 97, 114, 47, 114, 117, 108, 101, 115, 46, 107, 105, 110, 100, 115, 36, 49, 55])]]
set_option maxRecDepth 100000 in
theorem of_laid {W : World} (h : laidMetH Tryd.prog [("sizar/rules.kinds", Rows.laid_sizar_rules_kinds)] W) : KindsAt W := by
  obtain ⟨g, t, cs, fuel, p, hg, ht, hv, hd⟩ := h.funcs (List.mem_singleton.2 rfl)
  obtain rfl := Option.some.inj (gKinds.symm.trans hg)
  obtain rfl := Option.some.inj (tKinds.symm.trans ht)
  have hd' : DataW.trod (funcToken Tryd.prog) Tryd.prog W 0 (fun _ => true) true fuel 81 cs.toList = some (.agg kindsData, p) := hd
  obtain ⟨xs, m, _, hx, hlen, hxl, hel⟩ := DataW.trod_array Tryd.underlying81 hd'
  rw [cel81] at hlen
  have hxs : xs.map (·.1) = kindsData := by
    have := congrArg Prod.fst hx
    exact (DataW.agg.inj this).symm
  have row : ∀ i, i < 10 → ∃ q, DataW.trod (funcToken Tryd.prog) Tryd.prog W 0 (fun _ => true) true m 80 ((cs.toList.drop (i * 6)).take 6) = some (kindsData.getD i .nil, q) := fun i hi => by
    have h1 := hel i hi
    rw [cel80] at h1
    have h2 : xs[i]? = some (xs[i]'(by omega)) := List.getElem?_eq_getElem (by omega)
    refine ⟨(xs[i]'(by omega)).2, ?_⟩
    rw [h1, h2, ← hxs]
    simp [List.getD_eq_getElem?_getD, h2]
  obtain ⟨q0, r0⟩ := row 0 (by omega)
  have e0 := row_open0 (a := false) (b := false) (c := false) (d := false) r0
  obtain ⟨q1, r1⟩ := row 1 (by omega)
  have e1 := row_open (f := 119) (g := 120) (by kernel_rfl) (by kernel_rfl) (show DataW.trod (funcToken Tryd.prog) Tryd.prog W 0 (fun _ => true) true m 80 ((cs.toList.drop (1 * 6)).take 6) = some (.agg [.lit (.bool false), .lit (.bool false), .lit (.bool false), .lit (.bool true), .held (115 :: [105, 122, 97, 114, 47, 114, 117, 108, 101, 115, 46, 107, 105, 110, 100, 115, 36, 49]), .held (115 :: [105, 122, 97, 114, 47, 114, 117, 108, 101, 115, 46, 107, 105, 110, 100, 115, 36, 50])], q1) from r1)
  obtain ⟨q2, r2⟩ := row 2 (by omega)
  have e2 := row_open (f := 121) (g := 122) (by kernel_rfl) (by kernel_rfl) (show DataW.trod (funcToken Tryd.prog) Tryd.prog W 0 (fun _ => true) true m 80 ((cs.toList.drop (2 * 6)).take 6) = some (.agg [.lit (.bool false), .lit (.bool false), .lit (.bool false), .lit (.bool true), .held (115 :: [105, 122, 97, 114, 47, 114, 117, 108, 101, 115, 46, 107, 105, 110, 100, 115, 36, 51]), .held (115 :: [105, 122, 97, 114, 47, 114, 117, 108, 101, 115, 46, 107, 105, 110, 100, 115, 36, 52])], q2) from r2)
  obtain ⟨q3, r3⟩ := row 3 (by omega)
  have e3 := row_open (f := 123) (g := 124) (by kernel_rfl) (by kernel_rfl) (show DataW.trod (funcToken Tryd.prog) Tryd.prog W 0 (fun _ => true) true m 80 ((cs.toList.drop (3 * 6)).take 6) = some (.agg [.lit (.bool false), .lit (.bool true), .lit (.bool false), .lit (.bool true), .held (115 :: [105, 122, 97, 114, 47, 114, 117, 108, 101, 115, 46, 107, 105, 110, 100, 115, 36, 53]), .held (115 :: [105, 122, 97, 114, 47, 114, 117, 108, 101, 115, 46, 107, 105, 110, 100, 115, 36, 54])], q3) from r3)
  obtain ⟨q4, r4⟩ := row 4 (by omega)
  have e4 := row_open (f := 125) (g := 126) (by kernel_rfl) (by kernel_rfl) (show DataW.trod (funcToken Tryd.prog) Tryd.prog W 0 (fun _ => true) true m 80 ((cs.toList.drop (4 * 6)).take 6) = some (.agg [.lit (.bool false), .lit (.bool false), .lit (.bool false), .lit (.bool true), .held (115 :: [105, 122, 97, 114, 47, 114, 117, 108, 101, 115, 46, 107, 105, 110, 100, 115, 36, 55]), .held (115 :: [105, 122, 97, 114, 47, 114, 117, 108, 101, 115, 46, 107, 105, 110, 100, 115, 36, 56])], q4) from r4)
  obtain ⟨q5, r5⟩ := row 5 (by omega)
  have e5 := row_open (f := 127) (g := 129) (by kernel_rfl) (by kernel_rfl) (show DataW.trod (funcToken Tryd.prog) Tryd.prog W 0 (fun _ => true) true m 80 ((cs.toList.drop (5 * 6)).take 6) = some (.agg [.lit (.bool true), .lit (.bool true), .lit (.bool false), .lit (.bool false), .held (115 :: [105, 122, 97, 114, 47, 114, 117, 108, 101, 115, 46, 107, 105, 110, 100, 115, 36, 57]), .held (115 :: [105, 122, 97, 114, 47, 114, 117, 108, 101, 115, 46, 107, 105, 110, 100, 115, 36, 49, 48])], q5) from r5)
  obtain ⟨q6, r6⟩ := row 6 (by omega)
  have e6 := row_open (f := 131) (g := 132) (by kernel_rfl) (by kernel_rfl) (show DataW.trod (funcToken Tryd.prog) Tryd.prog W 0 (fun _ => true) true m 80 ((cs.toList.drop (6 * 6)).take 6) = some (.agg [.lit (.bool true), .lit (.bool true), .lit (.bool false), .lit (.bool false), .held (115 :: [105, 122, 97, 114, 47, 114, 117, 108, 101, 115, 46, 107, 105, 110, 100, 115, 36, 49, 49]), .held (115 :: [105, 122, 97, 114, 47, 114, 117, 108, 101, 115, 46, 107, 105, 110, 100, 115, 36, 49, 50])], q6) from r6)
  obtain ⟨q7, r7⟩ := row 7 (by omega)
  have e7 := row_open (f := 133) (g := 134) (by kernel_rfl) (by kernel_rfl) (show DataW.trod (funcToken Tryd.prog) Tryd.prog W 0 (fun _ => true) true m 80 ((cs.toList.drop (7 * 6)).take 6) = some (.agg [.lit (.bool false), .lit (.bool true), .lit (.bool false), .lit (.bool false), .held (115 :: [105, 122, 97, 114, 47, 114, 117, 108, 101, 115, 46, 107, 105, 110, 100, 115, 36, 49, 51]), .held (115 :: [105, 122, 97, 114, 47, 114, 117, 108, 101, 115, 46, 107, 105, 110, 100, 115, 36, 49, 52])], q7) from r7)
  obtain ⟨q8, r8⟩ := row 8 (by omega)
  have e8 := row_open (f := 135) (g := 136) (by kernel_rfl) (by kernel_rfl) (show DataW.trod (funcToken Tryd.prog) Tryd.prog W 0 (fun _ => true) true m 80 ((cs.toList.drop (8 * 6)).take 6) = some (.agg [.lit (.bool false), .lit (.bool true), .lit (.bool true), .lit (.bool false), .held (115 :: [105, 122, 97, 114, 47, 114, 117, 108, 101, 115, 46, 107, 105, 110, 100, 115, 36, 49, 53]), .held (115 :: [105, 122, 97, 114, 47, 114, 117, 108, 101, 115, 46, 107, 105, 110, 100, 115, 36, 49, 54])], q8) from r8)
  obtain ⟨q9, r9⟩ := row 9 (by omega)
  have e9 := row_open (f := 128) (g := 138) (by kernel_rfl) (by kernel_rfl) (show DataW.trod (funcToken Tryd.prog) Tryd.prog W 0 (fun _ => true) true m 80 ((cs.toList.drop (9 * 6)).take 6) = some (.agg [.lit (.bool true), .lit (.bool false), .lit (.bool false), .lit (.bool false), .held (115 :: [105, 122, 97, 114, 47, 114, 117, 108, 101, 115, 46, 99, 111, 117, 114, 115, 101]), .held (115 :: [105, 122, 97, 114, 47, 114, 117, 108, 101, 115, 46, 107, 105, 110, 100, 115, 36, 49, 55])], q9) from r9)
  have step : ∀ i, cs.toList.drop (i * 6) = (cs.toList.drop (i * 6)).take 6 ++ cs.toList.drop ((i + 1) * 6) := fun i => by
    have := List.take_append_drop 6 (cs.toList.drop (i * 6))
    rw [List.drop_drop] at this
    rw [show (i + 1) * 6 = i * 6 + 6 by omega]
    exact this.symm
  have hall : cs.toList = kindsTab := by
    have h0 : cs.toList = cs.toList.drop (0 * 6) := by simp
    rw [h0, step 0, step 1, step 2, step 3, step 4, step 5, step 6, step 7, step 8, step 9, e0, e1, e2, e3, e4, e5, e6, e7, e8, e9, List.drop_eq_nil_of_le (by omega)]
    rfl
  have hc : ∀ i v, kindsTab[i]? = some v → W.cell? ⟨0, i, none⟩ = some v := fun i v hi => by
    rw [World.var?_cell hg hv i, ← Array.getElem?_toList, hall, hi]
  exact ⟨World.block_lt_of_cell? W _ (hc 0 _ rfl), hc⟩
end Go.Proofs.YtabocfninjankaaDoor.P
namespace Go.Proofs.YtabocfninjankaaDoor.rulesHoldsSpec
open Go.ChangeShapes Go.WideShapes Go.ChangeAt Go.RowKit
open Go.Proofs.YtabocfninjankaaDoor.P
set_option linter.unusedVariables false
theorem own : ownKnob Tryd.prog.godebug = none := by kernel_rfl
theorem laidOut : laidOutB Tryd.prog = true := by kernel_rfl
abbrev laid : List (String × DataW Unit) := [("sizar/rules.kinds", Rows.laid_sizar_rules_kinds)]
set_option maxRecDepth 100000 in
theorem door_met (os : Os) (args : Array Value) : laidMetH Tryd.prog laid ((World.doorLaid Tryd.prog 600 os).forCall (fun _ _ => 0) ⟨#[], args, []⟩).memory :=
  laidMetH_of_parts3 (fuel := 8) (laidMet_of_run' 8 (by kernel_rfl) (by kernel_rfl)) (by kernel_rfl) (by kernel_rfl)
set_option maxRecDepth 100000 in
set_option maxHeartbeats 1000000 in
theorem lifted (os : Os) (started : os.Started) (H : Type) (enc : TypeId × Value → H) :
    ReturnsInHanded {} Tryd.checked os 3 .any (fun w args => ((Rows.OpenSpec.upto Rows.rulesHoldsSpecSpec).pre enc Tryd.prog Tryd.f3 [] false w args ∧ laidMetH Tryd.prog laid w) ∧ sizedMet enc Tryd.prog Tryd.f3 (Rows.OpenSpec.upto Rows.rulesHoldsSpecSpec) false w args)
      (Rows.rulesHoldsSpecSpec.post enc Tryd.prog Tryd.f3 false true false false) := by
  refine returns_upto (C := Tryd.checked) (X := fun w _ => laidMetH Tryd.prog laid w) (fun _ _ _ hh h => h.of_heap hh) own started (by kernel_rfl) Tryd.func3
    (witness_upto (enc := enc) (C := Tryd.checked) (os := os) (X := fun w _ => laidMetH Tryd.prog laid w) false (World.doorLaid Tryd.prog 600 os) #[.agg #[.int .i64 0, .int .i64 0, .string ⟨#[]⟩, .int .i64 0, .int .i64 0, .slice none 0 0], .agg #[.slice none 0 0, .int .i64 0, .int .i64 0, .int .i64 0]] 8 rfl (World.shaped_of_RefB (by kernel_rfl) (by kernel_rfl)) (by kernel_rfl) (by kernel_rfl) (by kernel_rfl) (door_met os _)) ?_
  intro W base args ds gs before hval0 hW hcnd hsz0 hbk hL _
  have hsz : (DataW.weightsEach Tryd.prog (Tryd.f3.params.toList ++ Rows.rulesHoldsSpecSpec.plain.varTypes Tryd.prog) (ds ++ gs)).all (· ≤ reachBytes) = true := hsz0
  have hval : ∀ (j : Nat) t v, Tryd.f3.params[j]? = some t → args[j]? = some v → Value.okWide Tryd.prog W .any base t v := hval0
  have hW' := hW
  obtain ⟨p, q, hA0, hV, rfl, hfz, hnd⟩ := hW
  have hA : DataW.TrodAll enc Tryd.prog W 0 (fun _ => true) true Tryd.f3.params.toList args.toList ds p := hA0
  rw [Tryd.params3] at hA hval hsz
  obtain ⟨v0, vs0, d0, ds0, p0, q0, hargs, rfl, rfl, h0, r0⟩ := trodAll_cons hA
  obtain ⟨v1, vs1, d1, ds1, p1, q1, rfl, rfl, rfl, h1, r1⟩ := trodAll_cons r0
  obtain ⟨rfl, rfl, rfl⟩ := trodAll_nil r1
  obtain rfl : args = #[v0, v1] := by cases args; simp_all
  obtain ⟨rfl, rfl⟩ := trodVars_none hV
  have k0 := h0
  have lt0 : ∀ x ∈ p0, x.block < W.heap.size := by obtain ⟨m, hm⟩ := k0; exact DataW.trod_lt m _ _ _ hm
  have lg0 : light Tryd.prog 24 d0 := light_each _ _ hsz 0 _ _ rfl rfl
  obtain ⟨fuel0, hf0⟩ := h0
  obtain ⟨cs0, rfl, hcs0⟩ := okWide_struct Tryd.underlying24 (hval 0 24 v0 rfl rfl)
  have hbk0 : Rows.uptoBulk d0 ≤ 1048576 := Nat.le_trans (bulk_mem (by simp)) hbk
  obtain ⟨x0, K0, g0⟩ := opn24U hf0 lg0 hbk0
  obtain ⟨A0, c0, e0, l0, r0r⟩ := k24_open K0
  replace e0 : cs0.toList = (#[.int .i64 x0.f0, .int .i64 x0.f1, .string x0.f2, .int .i64 x0.f3, .int .i64 x0.f4, .slice A0 x0.f5.length c0] : Array Value).toList := e0
  obtain rfl := Array.toList_inj.1 e0
  have k1 := h1
  have lt1 : ∀ x ∈ p1, x.block < W.heap.size := by obtain ⟨m, hm⟩ := k1; exact DataW.trod_lt m _ _ _ hm
  have lg1 : light Tryd.prog 29 d1 := light_each _ _ hsz 1 _ _ rfl rfl
  obtain ⟨fuel1, hf1⟩ := h1
  obtain ⟨cs1, rfl, hcs1⟩ := okWide_struct Tryd.underlying29 (hval 1 29 v1 rfl rfl)
  obtain ⟨x1, K1, g1⟩ := opn29 H enc W _ _ _ fuel1 _ _ hf1 lg1
  obtain ⟨A1, c1, e1, l1, r1r⟩ := k29_open K1
  replace e1 : cs1.toList = (#[.slice A1 x1.f0.length c1, .int .i64 x1.f1, .int .i64 x1.f2.f0, .int .i64 x1.f2.f1] : Array Value).toList := e1
  obtain rfl := Array.toList_inj.1 e1
  have hKT := of_laid hL
  clear hA0 hval0 hsz0 hsz
  obtain ⟨k, hk⟩ := RulesHoldsSpec_pure x0 x1.f0 x1.f1 x1.f2.f0 x1.f2.f1 g0 g1
  refine (sizarlaw12_RulesHoldsSpec.calls k x0.f0 x0.f1 x0.f2 x0.f3 x0.f4 A0 c0 x0.f5 A1 c1 x1.f0 x1.f1 x1.f2.f0 x1.f2.f1 true W r0r l0 r1r l1 hk hKT).mono fun e W' ⟨he, bel⟩ => ?_
  subst he
  exact ⟨_, rfl, _, _, _, [], _, [], hW', trodAll_mk1 (shut_bool Tryd.underlying4 _), (trodAll_cons_mk (Below.trod laidOut (by kernel_rfl) (of_decide_eq_true (by kernel_rfl)) k0 bel lt0) (trodAll_cons_mk (Below.trod laidOut (by kernel_rfl) (of_decide_eq_true (by kernel_rfl)) k1 bel lt1) trodAll_mk0)), rfl, bel.frame _, fun h => by cases h⟩
theorem over : Rows.rulesHoldsSpecUptoRow.holds Tryd.pinned (Rows.OpenSpec.upto Rows.rulesHoldsSpecSpec) :=
  OpenClaim.holds_of_cond 3 Tryd.f3 rfl rfl rfl rfl rfl rfl rfl ⟨rfl, rfl, rfl, rfl, rfl⟩ rfl rfl rfl rfl rfl (by kernel_rfl) Tryd.func3 (by kernel_rfl)
    (of_decide_eq_true (by kernel_rfl)) (by unfold Func.isWrapper; first | (rw [if_pos (by decide +kernel)]; kernel_rfl) | (rw [if_neg (by decide +kernel)]; exact ⟨rfl, rfl⟩))
    (fun os started H enc _ _ => lifted os started H enc)
theorem card : Rows.RulesHoldsSpecUptoCardSaid :=
  Claim7.holds_tied_plain_at .later [] [.funcs] true (true, "2fadb4b9a838f57294a20d8f5ec735aff9896364a9ddfdfb30d191a5aaac5261") false
    over (fun _ h => by cases h) (by kernel_rfl) (fun _ h => by cases h) rulesHoldsSpecUpto_row_tie rfl ⟨rfl, rfl⟩ (by kernel_rfl) rfl
    (fun f fn hf hfn => by
      obtain rfl : f = 3 := Option.some.inj ((show Tryd.prog.funcNamed "sizar/sizarlaw12.RulesHoldsSpec" = some 3 by kernel_rfl).symm.trans hf) |>.symm
      obtain rfl : fn = Tryd.f3 := (Option.some.inj (Tryd.func3.symm.trans hfn)).symm
      exact ⟨by kernel_rfl, fun j t ht => by
        rw [Tryd.params3] at ht
        have hm : t ∈ [24, 29] := by simpa using Array.mem_of_getElem? ht
        have hall : ([24, 29].all fun u => !Tryd.prog.wantsStandIn u) = true := by kernel_rfl
        exact (show Tryd.prog.wantsStandIn t = false by simpa using List.all_eq_true.1 hall t hm)⟩)
    (by kernel_rfl)
end Go.Proofs.YtabocfninjankaaDoor.rulesHoldsSpec
namespace Go.Proofs.YtabocfninjankaaDoor
/-- The tied card, under a short name, for the claim. -/
theorem rulesHoldsSpec_holds : Rows.RulesHoldsSpecUptoCardSaid := rulesHoldsSpec.card
end Go.Proofs.YtabocfninjankaaDoor
