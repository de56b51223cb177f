/- Texts of this claim, one behind the other: Px9, Px10, Ev, EvCheck, EvAff, IdxAff, SaneEv, Opens, OpenS, PureA, PureC, Heaps. Merged by wip/mkmerge.py. -/
import Derived.Test.YtodmmckieoakjaaCaRd1
import Derived.Test.YtodmmckieoakjaaCaRd2
import Derived.Deep.Slices
import Derived.ChangeSame
import Derived.ChangeArms
import Derived.DataReads
namespace Go.Proofs.Ytodmmckieoakjaa.P
open Go.RowKit Go.Proofs.YtodmmckieoakjaaW.PrintWords Go.Proofs.YtodmmckieoakjaaW.PrintLast Go.Proofs.YtodmmckieoakjaaW.PrintMore
attribute [local go_sem] max2_int min2_int max_two min_two max_three min_three max_four min_four   -- for this text's walks alone
set_option linter.unusedVariables false
set_option linter.unusedSimpArgs false
def sizarlaw35_sane.f (k : Nat)  : Option (Bool) := (sizarlaw35_read.f 7 0 5).bind fun bt172 => ((sizarlaw35_read.f 7 0 5).bind fun bt177 => ((sizarlaw35_read.f 6 0 9).bind fun bt185 => ((index_Build.f (([(⟨(⟨0, 0, 0, 0⟩ : S31), 0, 0, 0, ([] : List Int), (([(⟨(⟨bt172.1, bt172.2.1, bt172.2.2.1⟩ : S45), bt172.2.2.2.1, bt172.2.2.2.2⟩ : S47), (⟨(⟨bt177.1, bt177.2.1, bt177.2.2.1⟩ : S45), bt177.2.2.2.1, bt177.2.2.2.2⟩ : S47)] : List (S47))), ([] : List Int)⟩ : S35), (⟨(⟨0, 0, 0, 0⟩ : S31), 0, 0, 0, ([] : List Int), (([(⟨(⟨bt185.1, bt185.2.1, bt185.2.2.1⟩ : S45), bt185.2.2.2.1, bt185.2.2.2.2⟩ : S47)] : List (S47))), ([] : List Int)⟩ : S35)] : List (S35)))).bind fun t196 => ((index_Replace.f t196 0 0 0 0 0 0 0 0 ([] : List Int) ([] : List (S47)) ([] : List Int)).bind fun t200 => ((sizarlaw35_read.f 6 0 9).bind fun bt204 => ((sizarlaw35_read.f 7 0 5).bind fun bt209 => ((some (([(⟨(⟨(⟨bt204.1, bt204.2.1, bt204.2.2.1⟩ : S45), bt204.2.2.2.1, bt204.2.2.2.2⟩ : S47), 1⟩ : S49), (⟨(⟨(⟨bt209.1, bt209.2.1, bt209.2.2.1⟩ : S45), bt209.2.2.2.1, bt209.2.2.2.2⟩ : S47), 0⟩ : S49)] : List (S49)) : List (S49))).bind fun y214 => ((sizarref35_Same.f k t196 y214).bind fun t217 => (if t217 = true then (if 1 ≤ (y214.length : Int) then ((sizarref35_Same.f k t200 (y214.take 1)).bind fun t223 => (if t223 = true then ((index_Build.f ([] : List (S35))).bind fun t224 => (if (t224.length : Int) = 0 then ((index_Check.f k t196 2).bind fun t227 => (if t227 = 0 then ((index_Check.f k t196 1).bind fun t228 => (if t228 = 350 then ((index_Check.f k ([] : List (S49)) 0).bind fun t229 => (if t229 = 0 then ((sizarlaw35_sane_1.f 5).bind fun t230 => ((index_Affected.f t196 t230).bind fun t233 => (if (t233.length : Int) = 0 then ((sizarlaw35_sane_1.f 4).bind fun t236 => ((index_Affected.f t196 t236).bind fun t239 => ((sizarref35_SameInts.f k t239 (([0] : List Int))).bind fun t245 => (if t245 = true then ((sizarlaw35_sane_1.f 4).bind fun t246 => ((index_Affected.f ([] : List (S49)) t246).bind fun t249 => (some ((t249.length : Int) == 0)))) else (none))))) else (none)))) else (none))) else (none))) else (none))) else (none))) else (none))) else (none)) else (none))))))))))
def sizarlaw35_sane.T6 : Bool × List (List Nat × List Nat) := (true, [([], []), ([], []), ([1], [1]), ([0, 2], [0, 2]), ([3], [3]), ([4, 3], [4]), ([5], [5]), ([5], [5]), ([7, 5], [5, 7]), ([8, 5], [5, 8]), ([6, 9, 5, 5], [5, 6, 9]), ([10, 5], [5, 10]), ([5, 11], [5, 11]), ([12, 10], [12]), ([13, 13], [13]), ([14, 13], [13, 14]), ([15, 13], [13, 15]), ([16, 13], [13, 16]), ([13, 17], [13, 17])])
def sizarlaw35_sane.B6 : List Nat := [0, 0, 2, 7, 15, 31, 63, 63, 191, 447, 1023, 2047, 4095, 8191, 16383, 32767, 65535, 131071, 262143]
theorem sizarlaw35_sane.tab6 : rtab .any (opsOf Try.f10 6) = sizarlaw35_sane.T6 := by kernel_rfl
theorem sizarlaw35_sane.bits6 : waitsOk sizarlaw35_sane.T6.2 sizarlaw35_sane.B6 = true := by kernel_rfl
def sizarlaw35_sane.T8 : Bool × List (List Nat × List Nat) := (true, [([], []), ([0], [0]), ([1], [1]), ([2, 1], [2]), ([3], [3]), ([4, 3, 3], [3, 4]), ([5, 3], [3, 5]), ([3, 6], [3, 6]), ([7, 5], [7]), ([8], [8]), ([9, 8, 8], [8, 9]), ([10, 8], [8, 10]), ([8, 11], [8, 11]), ([12, 10], [12]), ([13], [13]), ([13], [13]), ([15, 13, 13], [13, 15]), ([14, 16, 16, 13], [13, 14, 16]), ([17, 13], [13, 17]), ([18, 13], [13, 18]), ([13, 19], [13, 19]), ([20, 17], [20]), ([21], [21]), ([21], [21]), ([23, 21, 21], [21, 23]), ([22, 24, 24, 21], [21, 22, 24]), ([21], [21]), ([25, 26, 25, 21], [21, 25, 26]), ([21, 27], [21, 27]), ([28, 27], [28]), ([29], [29]), ([29], [29]), ([31, 29, 29], [29, 31]), ([30, 32, 32, 29], [29, 30, 32]), ([33, 29], [29, 33]), ([34, 29], [29, 34]), ([29, 35], [29, 35]), ([36, 33, 0, 1, 2, 3, 4, 5, 6, 7, 8, 9, 10, 11, 12, 13, 14, 15, 16, 17, 18, 19, 20, 21, 22, 23, 24, 25, 26, 27, 28, 29, 30, 31, 32, 33, 34, 35, 36], [36])])
def sizarlaw35_sane.B8 : List Nat := [0, 1, 3, 7, 15, 31, 63, 127, 255, 511, 1023, 2047, 4095, 8191, 16383, 16383, 49151, 131071, 262143, 524287, 1048575, 2097151, 4194303, 4194303, 12582911, 33554431, 4194303, 134217727, 268435455, 536870911, 1073741823, 1073741823, 3221225471, 8589934591, 17179869183, 34359738367, 68719476735, 137438953471]
theorem sizarlaw35_sane.tab8 : rtab .any (opsOf Try.f10 8) = sizarlaw35_sane.T8 := by kernel_rfl
theorem sizarlaw35_sane.bits8 : waitsOk sizarlaw35_sane.T8.2 sizarlaw35_sane.B8 = true := by kernel_rfl
set_option maxHeartbeats 8000000 in
set_option maxRecDepth 100000 in
theorem sizarlaw35_sane.calls (k : Nat)  (r : Bool) (w : World) (h : sizarlaw35_sane.f k  = some r) :
  Calls Try.prog 10 #[] w fun e w' => e = .returned (.bool r) ∧ Below w.heap.size w w' := by
 have hfd : ∀ (A : Option Addr) (n c : Nat) (w : World), (Instr.field 28 (.agg #[.slice A n c]) 0).run Try.prog w = .ok (.slice A n c) w := fun _ _ _ _ => by kernel_rfl
 have hu35 := Try.underlying35
 have hu28 := Try.underlying28
 have hu49 := Try.underlying49
 have HB := Aside0.mk (Below.refl w.heap.size w)
 have H : ((sizarlaw35_read.f 7 0 5).bind fun bt172 => ((sizarlaw35_read.f 7 0 5).bind fun bt177 => ((sizarlaw35_read.f 6 0 9).bind fun bt185 => ((index_Build.f (([(⟨(⟨0, 0, 0, 0⟩ : S31), 0, 0, 0, ([] : List Int), (([(⟨(⟨bt172.1, bt172.2.1, bt172.2.2.1⟩ : S45), bt172.2.2.2.1, bt172.2.2.2.2⟩ : S47), (⟨(⟨bt177.1, bt177.2.1, bt177.2.2.1⟩ : S45), bt177.2.2.2.1, bt177.2.2.2.2⟩ : S47)] : List (S47))), ([] : List Int)⟩ : S35), (⟨(⟨0, 0, 0, 0⟩ : S31), 0, 0, 0, ([] : List Int), (([(⟨(⟨bt185.1, bt185.2.1, bt185.2.2.1⟩ : S45), bt185.2.2.2.1, bt185.2.2.2.2⟩ : S47)] : List (S47))), ([] : List Int)⟩ : S35)] : List (S35)))).bind fun t196 => ((index_Replace.f t196 0 0 0 0 0 0 0 0 ([] : List Int) ([] : List (S47)) ([] : List Int)).bind fun t200 => ((sizarlaw35_read.f 6 0 9).bind fun bt204 => ((sizarlaw35_read.f 7 0 5).bind fun bt209 => ((some (([(⟨(⟨(⟨bt204.1, bt204.2.1, bt204.2.2.1⟩ : S45), bt204.2.2.2.1, bt204.2.2.2.2⟩ : S47), 1⟩ : S49), (⟨(⟨(⟨bt209.1, bt209.2.1, bt209.2.2.1⟩ : S45), bt209.2.2.2.1, bt209.2.2.2.2⟩ : S47), 0⟩ : S49)] : List (S49)) : List (S49))).bind fun y214 => ((sizarref35_Same.f k t196 y214).bind fun t217 => (if t217 = true then (if 1 ≤ (y214.length : Int) then ((sizarref35_Same.f k t200 (y214.take 1)).bind fun t223 => (if t223 = true then ((index_Build.f ([] : List (S35))).bind fun t224 => (if (t224.length : Int) = 0 then ((index_Check.f k t196 2).bind fun t227 => (if t227 = 0 then ((index_Check.f k t196 1).bind fun t228 => (if t228 = 350 then ((index_Check.f k ([] : List (S49)) 0).bind fun t229 => (if t229 = 0 then ((sizarlaw35_sane_1.f 5).bind fun t230 => ((index_Affected.f t196 t230).bind fun t233 => (if (t233.length : Int) = 0 then ((sizarlaw35_sane_1.f 4).bind fun t236 => ((index_Affected.f t196 t236).bind fun t239 => ((sizarref35_SameInts.f k t239 (([0] : List Int))).bind fun t245 => (if t245 = true then ((sizarlaw35_sane_1.f 4).bind fun t246 => ((index_Affected.f ([] : List (S49)) t246).bind fun t249 => (some ((t249.length : Int) == 0)))) else (none))))) else (none)))) else (none))) else (none))) else (none))) else (none))) else (none))) else (none)) else (none))))))))))) = some r := h
 clear h
 replace H := Option.bind_eq_some_iff.mp H
 obtain ⟨⟨t172, t173, t174, t175, t176⟩, A10, H⟩ := H
 replace H : ((sizarlaw35_read.f 7 0 5).bind fun bt177 => ((sizarlaw35_read.f 6 0 9).bind fun bt185 => ((index_Build.f (([(⟨(⟨0, 0, 0, 0⟩ : S31), 0, 0, 0, ([] : List Int), (([(⟨(⟨t172, t173, t174⟩ : S45), t175, t176⟩ : S47), (⟨(⟨bt177.1, bt177.2.1, bt177.2.2.1⟩ : S45), bt177.2.2.2.1, bt177.2.2.2.2⟩ : S47)] : List (S47))), ([] : List Int)⟩ : S35), (⟨(⟨0, 0, 0, 0⟩ : S31), 0, 0, 0, ([] : List Int), (([(⟨(⟨bt185.1, bt185.2.1, bt185.2.2.1⟩ : S45), bt185.2.2.2.1, bt185.2.2.2.2⟩ : S47)] : List (S47))), ([] : List Int)⟩ : S35)] : List (S35)))).bind fun t196 => ((index_Replace.f t196 0 0 0 0 0 0 0 0 ([] : List Int) ([] : List (S47)) ([] : List Int)).bind fun t200 => ((sizarlaw35_read.f 6 0 9).bind fun bt204 => ((sizarlaw35_read.f 7 0 5).bind fun bt209 => ((some (([(⟨(⟨(⟨bt204.1, bt204.2.1, bt204.2.2.1⟩ : S45), bt204.2.2.2.1, bt204.2.2.2.2⟩ : S47), 1⟩ : S49), (⟨(⟨(⟨bt209.1, bt209.2.1, bt209.2.2.1⟩ : S45), bt209.2.2.2.1, bt209.2.2.2.2⟩ : S47), 0⟩ : S49)] : List (S49)) : List (S49))).bind fun y214 => ((sizarref35_Same.f k t196 y214).bind fun t217 => (if t217 = true then (if 1 ≤ (y214.length : Int) then ((sizarref35_Same.f k t200 (y214.take 1)).bind fun t223 => (if t223 = true then ((index_Build.f ([] : List (S35))).bind fun t224 => (if (t224.length : Int) = 0 then ((index_Check.f k t196 2).bind fun t227 => (if t227 = 0 then ((index_Check.f k t196 1).bind fun t228 => (if t228 = 350 then ((index_Check.f k ([] : List (S49)) 0).bind fun t229 => (if t229 = 0 then ((sizarlaw35_sane_1.f 5).bind fun t230 => ((index_Affected.f t196 t230).bind fun t233 => (if (t233.length : Int) = 0 then ((sizarlaw35_sane_1.f 4).bind fun t236 => ((index_Affected.f t196 t236).bind fun t239 => ((sizarref35_SameInts.f k t239 (([0] : List Int))).bind fun t245 => (if t245 = true then ((sizarlaw35_sane_1.f 4).bind fun t246 => ((index_Affected.f ([] : List (S49)) t246).bind fun t249 => (some ((t249.length : Int) == 0)))) else (none))))) else (none)))) else (none))) else (none))) else (none))) else (none))) else (none))) else (none)) else (none)))))))))) = some r := H
 have A1 := Aside0.mk A10
 clear A10
 replace H := Option.bind_eq_some_iff.mp H
 obtain ⟨⟨t177, t178, t179, t180, t181⟩, A20, H⟩ := H
 replace H : ((sizarlaw35_read.f 6 0 9).bind fun bt185 => ((index_Build.f (([(⟨(⟨0, 0, 0, 0⟩ : S31), 0, 0, 0, ([] : List Int), (([(⟨(⟨t172, t173, t174⟩ : S45), t175, t176⟩ : S47), (⟨(⟨t177, t178, t179⟩ : S45), t180, t181⟩ : S47)] : List (S47))), ([] : List Int)⟩ : S35), (⟨(⟨0, 0, 0, 0⟩ : S31), 0, 0, 0, ([] : List Int), (([(⟨(⟨bt185.1, bt185.2.1, bt185.2.2.1⟩ : S45), bt185.2.2.2.1, bt185.2.2.2.2⟩ : S47)] : List (S47))), ([] : List Int)⟩ : S35)] : List (S35)))).bind fun t196 => ((index_Replace.f t196 0 0 0 0 0 0 0 0 ([] : List Int) ([] : List (S47)) ([] : List Int)).bind fun t200 => ((sizarlaw35_read.f 6 0 9).bind fun bt204 => ((sizarlaw35_read.f 7 0 5).bind fun bt209 => ((some (([(⟨(⟨(⟨bt204.1, bt204.2.1, bt204.2.2.1⟩ : S45), bt204.2.2.2.1, bt204.2.2.2.2⟩ : S47), 1⟩ : S49), (⟨(⟨(⟨bt209.1, bt209.2.1, bt209.2.2.1⟩ : S45), bt209.2.2.2.1, bt209.2.2.2.2⟩ : S47), 0⟩ : S49)] : List (S49)) : List (S49))).bind fun y214 => ((sizarref35_Same.f k t196 y214).bind fun t217 => (if t217 = true then (if 1 ≤ (y214.length : Int) then ((sizarref35_Same.f k t200 (y214.take 1)).bind fun t223 => (if t223 = true then ((index_Build.f ([] : List (S35))).bind fun t224 => (if (t224.length : Int) = 0 then ((index_Check.f k t196 2).bind fun t227 => (if t227 = 0 then ((index_Check.f k t196 1).bind fun t228 => (if t228 = 350 then ((index_Check.f k ([] : List (S49)) 0).bind fun t229 => (if t229 = 0 then ((sizarlaw35_sane_1.f 5).bind fun t230 => ((index_Affected.f t196 t230).bind fun t233 => (if (t233.length : Int) = 0 then ((sizarlaw35_sane_1.f 4).bind fun t236 => ((index_Affected.f t196 t236).bind fun t239 => ((sizarref35_SameInts.f k t239 (([0] : List Int))).bind fun t245 => (if t245 = true then ((sizarlaw35_sane_1.f 4).bind fun t246 => ((index_Affected.f ([] : List (S49)) t246).bind fun t249 => (some ((t249.length : Int) == 0)))) else (none))))) else (none)))) else (none))) else (none))) else (none))) else (none))) else (none))) else (none)) else (none))))))))) = some r := H
 have A2 := Aside0.mk A20
 clear A20
 obtain ⟨y182, hy182⟩ : ∃ y_ : List (S47), y_ = (([(⟨(⟨t172, t173, t174⟩ : S45), t175, t176⟩ : S47), (⟨(⟨t177, t178, t179⟩ : S45), t180, t181⟩ : S47)] : List (S47))) := ⟨_, rfl⟩
 replace H : ((sizarlaw35_read.f 6 0 9).bind fun bt185 => ((index_Build.f (([(⟨(⟨0, 0, 0, 0⟩ : S31), 0, 0, 0, ([] : List Int), y182, ([] : List Int)⟩ : S35), (⟨(⟨0, 0, 0, 0⟩ : S31), 0, 0, 0, ([] : List Int), (([(⟨(⟨bt185.1, bt185.2.1, bt185.2.2.1⟩ : S45), bt185.2.2.2.1, bt185.2.2.2.2⟩ : S47)] : List (S47))), ([] : List Int)⟩ : S35)] : List (S35)))).bind fun t196 => ((index_Replace.f t196 0 0 0 0 0 0 0 0 ([] : List Int) ([] : List (S47)) ([] : List Int)).bind fun t200 => ((sizarlaw35_read.f 6 0 9).bind fun bt204 => ((sizarlaw35_read.f 7 0 5).bind fun bt209 => ((some (([(⟨(⟨(⟨bt204.1, bt204.2.1, bt204.2.2.1⟩ : S45), bt204.2.2.2.1, bt204.2.2.2.2⟩ : S47), 1⟩ : S49), (⟨(⟨(⟨bt209.1, bt209.2.1, bt209.2.2.1⟩ : S45), bt209.2.2.2.1, bt209.2.2.2.2⟩ : S47), 0⟩ : S49)] : List (S49)) : List (S49))).bind fun y214 => ((sizarref35_Same.f k t196 y214).bind fun t217 => (if t217 = true then (if 1 ≤ (y214.length : Int) then ((sizarref35_Same.f k t200 (y214.take 1)).bind fun t223 => (if t223 = true then ((index_Build.f ([] : List (S35))).bind fun t224 => (if (t224.length : Int) = 0 then ((index_Check.f k t196 2).bind fun t227 => (if t227 = 0 then ((index_Check.f k t196 1).bind fun t228 => (if t228 = 350 then ((index_Check.f k ([] : List (S49)) 0).bind fun t229 => (if t229 = 0 then ((sizarlaw35_sane_1.f 5).bind fun t230 => ((index_Affected.f t196 t230).bind fun t233 => (if (t233.length : Int) = 0 then ((sizarlaw35_sane_1.f 4).bind fun t236 => ((index_Affected.f t196 t236).bind fun t239 => ((sizarref35_SameInts.f k t239 (([0] : List Int))).bind fun t245 => (if t245 = true then ((sizarlaw35_sane_1.f 4).bind fun t246 => ((index_Affected.f ([] : List (S49)) t246).bind fun t249 => (some ((t249.length : Int) == 0)))) else (none))))) else (none)))) else (none))) else (none))) else (none))) else (none))) else (none))) else (none)) else (none))))))))) = some r := by first | (rw [hy182]; with_reducible exact H) | (have H2_ := (Option.bind_some _ _).symm.trans H; rw [hy182]; with_reducible exact H2_) | (have H2_ := (Option.bind_some _ _).symm.trans H; with_reducible exact H2_) | with_reducible exact H | (rw [hy182]; exact H) | exact H
 have Ny182 := Aside0.mk hy182
 clear hy182
 replace H := Option.bind_eq_some_iff.mp H
 obtain ⟨⟨t185, t186, t187, t188, t189⟩, A30, H⟩ := H
 replace H : ((index_Build.f (([(⟨(⟨0, 0, 0, 0⟩ : S31), 0, 0, 0, ([] : List Int), y182, ([] : List Int)⟩ : S35), (⟨(⟨0, 0, 0, 0⟩ : S31), 0, 0, 0, ([] : List Int), (([(⟨(⟨t185, t186, t187⟩ : S45), t188, t189⟩ : S47)] : List (S47))), ([] : List Int)⟩ : S35)] : List (S35)))).bind fun t196 => ((index_Replace.f t196 0 0 0 0 0 0 0 0 ([] : List Int) ([] : List (S47)) ([] : List Int)).bind fun t200 => ((sizarlaw35_read.f 6 0 9).bind fun bt204 => ((sizarlaw35_read.f 7 0 5).bind fun bt209 => ((some (([(⟨(⟨(⟨bt204.1, bt204.2.1, bt204.2.2.1⟩ : S45), bt204.2.2.2.1, bt204.2.2.2.2⟩ : S47), 1⟩ : S49), (⟨(⟨(⟨bt209.1, bt209.2.1, bt209.2.2.1⟩ : S45), bt209.2.2.2.1, bt209.2.2.2.2⟩ : S47), 0⟩ : S49)] : List (S49)) : List (S49))).bind fun y214 => ((sizarref35_Same.f k t196 y214).bind fun t217 => (if t217 = true then (if 1 ≤ (y214.length : Int) then ((sizarref35_Same.f k t200 (y214.take 1)).bind fun t223 => (if t223 = true then ((index_Build.f ([] : List (S35))).bind fun t224 => (if (t224.length : Int) = 0 then ((index_Check.f k t196 2).bind fun t227 => (if t227 = 0 then ((index_Check.f k t196 1).bind fun t228 => (if t228 = 350 then ((index_Check.f k ([] : List (S49)) 0).bind fun t229 => (if t229 = 0 then ((sizarlaw35_sane_1.f 5).bind fun t230 => ((index_Affected.f t196 t230).bind fun t233 => (if (t233.length : Int) = 0 then ((sizarlaw35_sane_1.f 4).bind fun t236 => ((index_Affected.f t196 t236).bind fun t239 => ((sizarref35_SameInts.f k t239 (([0] : List Int))).bind fun t245 => (if t245 = true then ((sizarlaw35_sane_1.f 4).bind fun t246 => ((index_Affected.f ([] : List (S49)) t246).bind fun t249 => (some ((t249.length : Int) == 0)))) else (none))))) else (none)))) else (none))) else (none))) else (none))) else (none))) else (none))) else (none)) else (none)))))))) = some r := H
 have A3 := Aside0.mk A30
 clear A30
 obtain ⟨y190, hy190⟩ : ∃ y_ : List (S47), y_ = (([(⟨(⟨t185, t186, t187⟩ : S45), t188, t189⟩ : S47)] : List (S47))) := ⟨_, rfl⟩
 replace H : ((index_Build.f (([(⟨(⟨0, 0, 0, 0⟩ : S31), 0, 0, 0, ([] : List Int), y182, ([] : List Int)⟩ : S35), (⟨(⟨0, 0, 0, 0⟩ : S31), 0, 0, 0, ([] : List Int), y190, ([] : List Int)⟩ : S35)] : List (S35)))).bind fun t196 => ((index_Replace.f t196 0 0 0 0 0 0 0 0 ([] : List Int) ([] : List (S47)) ([] : List Int)).bind fun t200 => ((sizarlaw35_read.f 6 0 9).bind fun bt204 => ((sizarlaw35_read.f 7 0 5).bind fun bt209 => ((some (([(⟨(⟨(⟨bt204.1, bt204.2.1, bt204.2.2.1⟩ : S45), bt204.2.2.2.1, bt204.2.2.2.2⟩ : S47), 1⟩ : S49), (⟨(⟨(⟨bt209.1, bt209.2.1, bt209.2.2.1⟩ : S45), bt209.2.2.2.1, bt209.2.2.2.2⟩ : S47), 0⟩ : S49)] : List (S49)) : List (S49))).bind fun y214 => ((sizarref35_Same.f k t196 y214).bind fun t217 => (if t217 = true then (if 1 ≤ (y214.length : Int) then ((sizarref35_Same.f k t200 (y214.take 1)).bind fun t223 => (if t223 = true then ((index_Build.f ([] : List (S35))).bind fun t224 => (if (t224.length : Int) = 0 then ((index_Check.f k t196 2).bind fun t227 => (if t227 = 0 then ((index_Check.f k t196 1).bind fun t228 => (if t228 = 350 then ((index_Check.f k ([] : List (S49)) 0).bind fun t229 => (if t229 = 0 then ((sizarlaw35_sane_1.f 5).bind fun t230 => ((index_Affected.f t196 t230).bind fun t233 => (if (t233.length : Int) = 0 then ((sizarlaw35_sane_1.f 4).bind fun t236 => ((index_Affected.f t196 t236).bind fun t239 => ((sizarref35_SameInts.f k t239 (([0] : List Int))).bind fun t245 => (if t245 = true then ((sizarlaw35_sane_1.f 4).bind fun t246 => ((index_Affected.f ([] : List (S49)) t246).bind fun t249 => (some ((t249.length : Int) == 0)))) else (none))))) else (none)))) else (none))) else (none))) else (none))) else (none))) else (none))) else (none)) else (none)))))))) = some r := by first | (rw [hy190]; with_reducible exact H) | (have H2_ := (Option.bind_some _ _).symm.trans H; rw [hy190]; with_reducible exact H2_) | (have H2_ := (Option.bind_some _ _).symm.trans H; with_reducible exact H2_) | with_reducible exact H | (rw [hy190]; exact H) | exact H
 have Ny190 := Aside0.mk hy190
 clear hy190
 obtain ⟨y193, hy193⟩ : ∃ y_ : List (S35), y_ = (([(⟨(⟨0, 0, 0, 0⟩ : S31), 0, 0, 0, ([] : List Int), y182, ([] : List Int)⟩ : S35), (⟨(⟨0, 0, 0, 0⟩ : S31), 0, 0, 0, ([] : List Int), y190, ([] : List Int)⟩ : S35)] : List (S35))) := ⟨_, rfl⟩
 replace H : ((index_Build.f y193).bind fun t196 => ((index_Replace.f t196 0 0 0 0 0 0 0 0 ([] : List Int) ([] : List (S47)) ([] : List Int)).bind fun t200 => ((sizarlaw35_read.f 6 0 9).bind fun bt204 => ((sizarlaw35_read.f 7 0 5).bind fun bt209 => ((some (([(⟨(⟨(⟨bt204.1, bt204.2.1, bt204.2.2.1⟩ : S45), bt204.2.2.2.1, bt204.2.2.2.2⟩ : S47), 1⟩ : S49), (⟨(⟨(⟨bt209.1, bt209.2.1, bt209.2.2.1⟩ : S45), bt209.2.2.2.1, bt209.2.2.2.2⟩ : S47), 0⟩ : S49)] : List (S49)) : List (S49))).bind fun y214 => ((sizarref35_Same.f k t196 y214).bind fun t217 => (if t217 = true then (if 1 ≤ (y214.length : Int) then ((sizarref35_Same.f k t200 (y214.take 1)).bind fun t223 => (if t223 = true then ((index_Build.f ([] : List (S35))).bind fun t224 => (if (t224.length : Int) = 0 then ((index_Check.f k t196 2).bind fun t227 => (if t227 = 0 then ((index_Check.f k t196 1).bind fun t228 => (if t228 = 350 then ((index_Check.f k ([] : List (S49)) 0).bind fun t229 => (if t229 = 0 then ((sizarlaw35_sane_1.f 5).bind fun t230 => ((index_Affected.f t196 t230).bind fun t233 => (if (t233.length : Int) = 0 then ((sizarlaw35_sane_1.f 4).bind fun t236 => ((index_Affected.f t196 t236).bind fun t239 => ((sizarref35_SameInts.f k t239 (([0] : List Int))).bind fun t245 => (if t245 = true then ((sizarlaw35_sane_1.f 4).bind fun t246 => ((index_Affected.f ([] : List (S49)) t246).bind fun t249 => (some ((t249.length : Int) == 0)))) else (none))))) else (none)))) else (none))) else (none))) else (none))) else (none))) else (none))) else (none)) else (none)))))))) = some r := by first | (rw [hy193]; with_reducible exact H) | (have H2_ := (Option.bind_some _ _).symm.trans H; rw [hy193]; with_reducible exact H2_) | (have H2_ := (Option.bind_some _ _).symm.trans H; with_reducible exact H2_) | with_reducible exact H | (rw [hy193]; exact H) | exact H
 have Ny193 := Aside0.mk hy193
 clear hy193
 replace H := Option.bind_eq_some_iff.mp H
 obtain ⟨t196, A40, H⟩ := H
 replace H : ((index_Replace.f t196 0 0 0 0 0 0 0 0 ([] : List Int) ([] : List (S47)) ([] : List Int)).bind fun t200 => ((sizarlaw35_read.f 6 0 9).bind fun bt204 => ((sizarlaw35_read.f 7 0 5).bind fun bt209 => ((some (([(⟨(⟨(⟨bt204.1, bt204.2.1, bt204.2.2.1⟩ : S45), bt204.2.2.2.1, bt204.2.2.2.2⟩ : S47), 1⟩ : S49), (⟨(⟨(⟨bt209.1, bt209.2.1, bt209.2.2.1⟩ : S45), bt209.2.2.2.1, bt209.2.2.2.2⟩ : S47), 0⟩ : S49)] : List (S49)) : List (S49))).bind fun y214 => ((sizarref35_Same.f k t196 y214).bind fun t217 => (if t217 = true then (if 1 ≤ (y214.length : Int) then ((sizarref35_Same.f k t200 (y214.take 1)).bind fun t223 => (if t223 = true then ((index_Build.f ([] : List (S35))).bind fun t224 => (if (t224.length : Int) = 0 then ((index_Check.f k t196 2).bind fun t227 => (if t227 = 0 then ((index_Check.f k t196 1).bind fun t228 => (if t228 = 350 then ((index_Check.f k ([] : List (S49)) 0).bind fun t229 => (if t229 = 0 then ((sizarlaw35_sane_1.f 5).bind fun t230 => ((index_Affected.f t196 t230).bind fun t233 => (if (t233.length : Int) = 0 then ((sizarlaw35_sane_1.f 4).bind fun t236 => ((index_Affected.f t196 t236).bind fun t239 => ((sizarref35_SameInts.f k t239 (([0] : List Int))).bind fun t245 => (if t245 = true then ((sizarlaw35_sane_1.f 4).bind fun t246 => ((index_Affected.f ([] : List (S49)) t246).bind fun t249 => (some ((t249.length : Int) == 0)))) else (none))))) else (none)))) else (none))) else (none))) else (none))) else (none))) else (none))) else (none)) else (none))))))) = some r := H
 have A4 := Aside0.mk A40
 clear A40
 replace H := Option.bind_eq_some_iff.mp H
 obtain ⟨t200, A50, H⟩ := H
 replace H : ((sizarlaw35_read.f 6 0 9).bind fun bt204 => ((sizarlaw35_read.f 7 0 5).bind fun bt209 => ((some (([(⟨(⟨(⟨bt204.1, bt204.2.1, bt204.2.2.1⟩ : S45), bt204.2.2.2.1, bt204.2.2.2.2⟩ : S47), 1⟩ : S49), (⟨(⟨(⟨bt209.1, bt209.2.1, bt209.2.2.1⟩ : S45), bt209.2.2.2.1, bt209.2.2.2.2⟩ : S47), 0⟩ : S49)] : List (S49)) : List (S49))).bind fun y214 => ((sizarref35_Same.f k t196 y214).bind fun t217 => (if t217 = true then (if 1 ≤ (y214.length : Int) then ((sizarref35_Same.f k t200 (y214.take 1)).bind fun t223 => (if t223 = true then ((index_Build.f ([] : List (S35))).bind fun t224 => (if (t224.length : Int) = 0 then ((index_Check.f k t196 2).bind fun t227 => (if t227 = 0 then ((index_Check.f k t196 1).bind fun t228 => (if t228 = 350 then ((index_Check.f k ([] : List (S49)) 0).bind fun t229 => (if t229 = 0 then ((sizarlaw35_sane_1.f 5).bind fun t230 => ((index_Affected.f t196 t230).bind fun t233 => (if (t233.length : Int) = 0 then ((sizarlaw35_sane_1.f 4).bind fun t236 => ((index_Affected.f t196 t236).bind fun t239 => ((sizarref35_SameInts.f k t239 (([0] : List Int))).bind fun t245 => (if t245 = true then ((sizarlaw35_sane_1.f 4).bind fun t246 => ((index_Affected.f ([] : List (S49)) t246).bind fun t249 => (some ((t249.length : Int) == 0)))) else (none))))) else (none)))) else (none))) else (none))) else (none))) else (none))) else (none))) else (none)) else (none)))))) = some r := H
 have A5 := Aside0.mk A50
 clear A50
 replace H := Option.bind_eq_some_iff.mp H
 obtain ⟨⟨t204, t205, t206, t207, t208⟩, A60, H⟩ := H
 replace H : ((sizarlaw35_read.f 7 0 5).bind fun bt209 => ((some (([(⟨(⟨(⟨t204, t205, t206⟩ : S45), t207, t208⟩ : S47), 1⟩ : S49), (⟨(⟨(⟨bt209.1, bt209.2.1, bt209.2.2.1⟩ : S45), bt209.2.2.2.1, bt209.2.2.2.2⟩ : S47), 0⟩ : S49)] : List (S49)) : List (S49))).bind fun y214 => ((sizarref35_Same.f k t196 y214).bind fun t217 => (if t217 = true then (if 1 ≤ (y214.length : Int) then ((sizarref35_Same.f k t200 (y214.take 1)).bind fun t223 => (if t223 = true then ((index_Build.f ([] : List (S35))).bind fun t224 => (if (t224.length : Int) = 0 then ((index_Check.f k t196 2).bind fun t227 => (if t227 = 0 then ((index_Check.f k t196 1).bind fun t228 => (if t228 = 350 then ((index_Check.f k ([] : List (S49)) 0).bind fun t229 => (if t229 = 0 then ((sizarlaw35_sane_1.f 5).bind fun t230 => ((index_Affected.f t196 t230).bind fun t233 => (if (t233.length : Int) = 0 then ((sizarlaw35_sane_1.f 4).bind fun t236 => ((index_Affected.f t196 t236).bind fun t239 => ((sizarref35_SameInts.f k t239 (([0] : List Int))).bind fun t245 => (if t245 = true then ((sizarlaw35_sane_1.f 4).bind fun t246 => ((index_Affected.f ([] : List (S49)) t246).bind fun t249 => (some ((t249.length : Int) == 0)))) else (none))))) else (none)))) else (none))) else (none))) else (none))) else (none))) else (none))) else (none)) else (none))))) = some r := H
 have A6 := Aside0.mk A60
 clear A60
 replace H := Option.bind_eq_some_iff.mp H
 obtain ⟨⟨t209, t210, t211, t212, t213⟩, A70, H⟩ := H
 replace H : ((some (([(⟨(⟨(⟨t204, t205, t206⟩ : S45), t207, t208⟩ : S47), 1⟩ : S49), (⟨(⟨(⟨t209, t210, t211⟩ : S45), t212, t213⟩ : S47), 0⟩ : S49)] : List (S49)) : List (S49))).bind fun y214 => ((sizarref35_Same.f k t196 y214).bind fun t217 => (if t217 = true then (if 1 ≤ (y214.length : Int) then ((sizarref35_Same.f k t200 (y214.take 1)).bind fun t223 => (if t223 = true then ((index_Build.f ([] : List (S35))).bind fun t224 => (if (t224.length : Int) = 0 then ((index_Check.f k t196 2).bind fun t227 => (if t227 = 0 then ((index_Check.f k t196 1).bind fun t228 => (if t228 = 350 then ((index_Check.f k ([] : List (S49)) 0).bind fun t229 => (if t229 = 0 then ((sizarlaw35_sane_1.f 5).bind fun t230 => ((index_Affected.f t196 t230).bind fun t233 => (if (t233.length : Int) = 0 then ((sizarlaw35_sane_1.f 4).bind fun t236 => ((index_Affected.f t196 t236).bind fun t239 => ((sizarref35_SameInts.f k t239 (([0] : List Int))).bind fun t245 => (if t245 = true then ((sizarlaw35_sane_1.f 4).bind fun t246 => ((index_Affected.f ([] : List (S49)) t246).bind fun t249 => (some ((t249.length : Int) == 0)))) else (none))))) else (none)))) else (none))) else (none))) else (none))) else (none))) else (none))) else (none)) else (none)))) = some r := H
 have A7 := Aside0.mk A70
 clear A70
 obtain ⟨y214, hy214⟩ : ∃ y_ : List (S49), y_ = (([(⟨(⟨(⟨t204, t205, t206⟩ : S45), t207, t208⟩ : S47), 1⟩ : S49), (⟨(⟨(⟨t209, t210, t211⟩ : S45), t212, t213⟩ : S47), 0⟩ : S49)] : List (S49))) := ⟨_, rfl⟩
 replace H : ((sizarref35_Same.f k t196 y214).bind fun t217 => (if t217 = true then (if 1 ≤ (y214.length : Int) then ((sizarref35_Same.f k t200 (y214.take 1)).bind fun t223 => (if t223 = true then ((index_Build.f ([] : List (S35))).bind fun t224 => (if (t224.length : Int) = 0 then ((index_Check.f k t196 2).bind fun t227 => (if t227 = 0 then ((index_Check.f k t196 1).bind fun t228 => (if t228 = 350 then ((index_Check.f k ([] : List (S49)) 0).bind fun t229 => (if t229 = 0 then ((sizarlaw35_sane_1.f 5).bind fun t230 => ((index_Affected.f t196 t230).bind fun t233 => (if (t233.length : Int) = 0 then ((sizarlaw35_sane_1.f 4).bind fun t236 => ((index_Affected.f t196 t236).bind fun t239 => ((sizarref35_SameInts.f k t239 (([0] : List Int))).bind fun t245 => (if t245 = true then ((sizarlaw35_sane_1.f 4).bind fun t246 => ((index_Affected.f ([] : List (S49)) t246).bind fun t249 => (some ((t249.length : Int) == 0)))) else (none))))) else (none)))) else (none))) else (none))) else (none))) else (none))) else (none))) else (none)) else (none))) = some r := by first | (rw [hy214]; with_reducible exact H) | (have H2_ := (Option.bind_some _ _).symm.trans H; rw [hy214]; with_reducible exact H2_) | (have H2_ := (Option.bind_some _ _).symm.trans H; with_reducible exact H2_) | with_reducible exact H | (rw [hy214]; exact H) | exact H
 have Ny214 := Aside0.mk hy214
 clear hy214
 replace H := Option.bind_eq_some_iff.mp H
 obtain ⟨t217, A80, H⟩ := H
 replace H : (if t217 = true then (if 1 ≤ (y214.length : Int) then ((sizarref35_Same.f k t200 (y214.take 1)).bind fun t223 => (if t223 = true then ((index_Build.f ([] : List (S35))).bind fun t224 => (if (t224.length : Int) = 0 then ((index_Check.f k t196 2).bind fun t227 => (if t227 = 0 then ((index_Check.f k t196 1).bind fun t228 => (if t228 = 350 then ((index_Check.f k ([] : List (S49)) 0).bind fun t229 => (if t229 = 0 then ((sizarlaw35_sane_1.f 5).bind fun t230 => ((index_Affected.f t196 t230).bind fun t233 => (if (t233.length : Int) = 0 then ((sizarlaw35_sane_1.f 4).bind fun t236 => ((index_Affected.f t196 t236).bind fun t239 => ((sizarref35_SameInts.f k t239 (([0] : List Int))).bind fun t245 => (if t245 = true then ((sizarlaw35_sane_1.f 4).bind fun t246 => ((index_Affected.f ([] : List (S49)) t246).bind fun t249 => (some ((t249.length : Int) == 0)))) else (none))))) else (none)))) else (none))) else (none))) else (none))) else (none))) else (none))) else (none)) else (none)) = some r := H
 have A8 := Aside0.mk A80
 clear A80
 by_cases c9 : t217 = true
 ·subst c9
  have H1 : (if 1 ≤ (y214.length : Int) then ((sizarref35_Same.f k t200 (y214.take 1)).bind fun t223 => (if t223 = true then ((index_Build.f ([] : List (S35))).bind fun t224 => (if (t224.length : Int) = 0 then ((index_Check.f k t196 2).bind fun t227 => (if t227 = 0 then ((index_Check.f k t196 1).bind fun t228 => (if t228 = 350 then ((index_Check.f k ([] : List (S49)) 0).bind fun t229 => (if t229 = 0 then ((sizarlaw35_sane_1.f 5).bind fun t230 => ((index_Affected.f t196 t230).bind fun t233 => (if (t233.length : Int) = 0 then ((sizarlaw35_sane_1.f 4).bind fun t236 => ((index_Affected.f t196 t236).bind fun t239 => ((sizarref35_SameInts.f k t239 (([0] : List Int))).bind fun t245 => (if t245 = true then ((sizarlaw35_sane_1.f 4).bind fun t246 => ((index_Affected.f ([] : List (S49)) t246).bind fun t249 => (some ((t249.length : Int) == 0)))) else (none))))) else (none)))) else (none))) else (none))) else (none))) else (none))) else (none))) else (none)) = some r := by rw [if_pos rfl] at H; exact H
  clear H
  have H := H1
  clear H1
  by_cases c10 : 1 ≤ (y214.length : Int)
  ·rw [if_pos c10] at H
   have c10b0 := eq_true c10
   have c10b1 : decide (1 ≤ (y214.length : Int)) = true := decide_eq_true c10
   clear c10
   obtain ⟨y218, hy218⟩ : ∃ y_ : List (S49), y_ = (y214.take 1) := ⟨_, rfl⟩
   replace H : ((sizarref35_Same.f k t200 y218).bind fun t223 => (if t223 = true then ((index_Build.f ([] : List (S35))).bind fun t224 => (if (t224.length : Int) = 0 then ((index_Check.f k t196 2).bind fun t227 => (if t227 = 0 then ((index_Check.f k t196 1).bind fun t228 => (if t228 = 350 then ((index_Check.f k ([] : List (S49)) 0).bind fun t229 => (if t229 = 0 then ((sizarlaw35_sane_1.f 5).bind fun t230 => ((index_Affected.f t196 t230).bind fun t233 => (if (t233.length : Int) = 0 then ((sizarlaw35_sane_1.f 4).bind fun t236 => ((index_Affected.f t196 t236).bind fun t239 => ((sizarref35_SameInts.f k t239 (([0] : List Int))).bind fun t245 => (if t245 = true then ((sizarlaw35_sane_1.f 4).bind fun t246 => ((index_Affected.f ([] : List (S49)) t246).bind fun t249 => (some ((t249.length : Int) == 0)))) else (none))))) else (none)))) else (none))) else (none))) else (none))) else (none))) else (none))) = some r := by first | (rw [hy218]; with_reducible exact H) | (have H2_ := (Option.bind_some _ _).symm.trans H; rw [hy218]; with_reducible exact H2_) | (have H2_ := (Option.bind_some _ _).symm.trans H; with_reducible exact H2_) | with_reducible exact H | (rw [hy218]; exact H) | exact H
   have Ny218 := Aside0.mk hy218
   clear hy218
   replace H := Option.bind_eq_some_iff.mp H
   obtain ⟨t223, A110, H⟩ := H
   replace H : (if t223 = true then ((index_Build.f ([] : List (S35))).bind fun t224 => (if (t224.length : Int) = 0 then ((index_Check.f k t196 2).bind fun t227 => (if t227 = 0 then ((index_Check.f k t196 1).bind fun t228 => (if t228 = 350 then ((index_Check.f k ([] : List (S49)) 0).bind fun t229 => (if t229 = 0 then ((sizarlaw35_sane_1.f 5).bind fun t230 => ((index_Affected.f t196 t230).bind fun t233 => (if (t233.length : Int) = 0 then ((sizarlaw35_sane_1.f 4).bind fun t236 => ((index_Affected.f t196 t236).bind fun t239 => ((sizarref35_SameInts.f k t239 (([0] : List Int))).bind fun t245 => (if t245 = true then ((sizarlaw35_sane_1.f 4).bind fun t246 => ((index_Affected.f ([] : List (S49)) t246).bind fun t249 => (some ((t249.length : Int) == 0)))) else (none))))) else (none)))) else (none))) else (none))) else (none))) else (none))) else (none)) = some r := H
   have A11 := Aside0.mk A110
   clear A110
   by_cases c12 : t223 = true
   ·subst c12
    have H1 : ((index_Build.f ([] : List (S35))).bind fun t224 => (if (t224.length : Int) = 0 then ((index_Check.f k t196 2).bind fun t227 => (if t227 = 0 then ((index_Check.f k t196 1).bind fun t228 => (if t228 = 350 then ((index_Check.f k ([] : List (S49)) 0).bind fun t229 => (if t229 = 0 then ((sizarlaw35_sane_1.f 5).bind fun t230 => ((index_Affected.f t196 t230).bind fun t233 => (if (t233.length : Int) = 0 then ((sizarlaw35_sane_1.f 4).bind fun t236 => ((index_Affected.f t196 t236).bind fun t239 => ((sizarref35_SameInts.f k t239 (([0] : List Int))).bind fun t245 => (if t245 = true then ((sizarlaw35_sane_1.f 4).bind fun t246 => ((index_Affected.f ([] : List (S49)) t246).bind fun t249 => (some ((t249.length : Int) == 0)))) else (none))))) else (none)))) else (none))) else (none))) else (none))) else (none))) = some r := by rw [if_pos rfl] at H; exact H
    clear H
    have H := H1
    clear H1
    replace H := Option.bind_eq_some_iff.mp H
    obtain ⟨t224, A130, H⟩ := H
    replace H : (if (t224.length : Int) = 0 then ((index_Check.f k t196 2).bind fun t227 => (if t227 = 0 then ((index_Check.f k t196 1).bind fun t228 => (if t228 = 350 then ((index_Check.f k ([] : List (S49)) 0).bind fun t229 => (if t229 = 0 then ((sizarlaw35_sane_1.f 5).bind fun t230 => ((index_Affected.f t196 t230).bind fun t233 => (if (t233.length : Int) = 0 then ((sizarlaw35_sane_1.f 4).bind fun t236 => ((index_Affected.f t196 t236).bind fun t239 => ((sizarref35_SameInts.f k t239 (([0] : List Int))).bind fun t245 => (if t245 = true then ((sizarlaw35_sane_1.f 4).bind fun t246 => ((index_Affected.f ([] : List (S49)) t246).bind fun t249 => (some ((t249.length : Int) == 0)))) else (none))))) else (none)))) else (none))) else (none))) else (none))) else (none)) = some r := H
    have A13 := Aside0.mk A130
    clear A130
    by_cases c14 : (t224.length : Int) = 0
    ·rw [if_pos c14] at H
     have c14b0 : ((t224.length : Int) == 0) = true := beq_iff_eq.mpr c14
     have c14b1 : ((t224.length : Int) != 0) = false := bne_eq_false_iff_eq.mpr c14
     clear c14
     replace H := Option.bind_eq_some_iff.mp H
     obtain ⟨t227, A150, H⟩ := H
     replace H : (if t227 = 0 then ((index_Check.f k t196 1).bind fun t228 => (if t228 = 350 then ((index_Check.f k ([] : List (S49)) 0).bind fun t229 => (if t229 = 0 then ((sizarlaw35_sane_1.f 5).bind fun t230 => ((index_Affected.f t196 t230).bind fun t233 => (if (t233.length : Int) = 0 then ((sizarlaw35_sane_1.f 4).bind fun t236 => ((index_Affected.f t196 t236).bind fun t239 => ((sizarref35_SameInts.f k t239 (([0] : List Int))).bind fun t245 => (if t245 = true then ((sizarlaw35_sane_1.f 4).bind fun t246 => ((index_Affected.f ([] : List (S49)) t246).bind fun t249 => (some ((t249.length : Int) == 0)))) else (none))))) else (none)))) else (none))) else (none))) else (none)) = some r := H
     have A15 := Aside0.mk A150
     clear A150
     by_cases c16 : t227 = 0
     ·rw [if_pos c16] at H
      have c16b0 : (t227 == 0) = true := beq_iff_eq.mpr c16
      have c16b1 : (t227 != 0) = false := bne_eq_false_iff_eq.mpr c16
      clear c16
      replace H := Option.bind_eq_some_iff.mp H
      obtain ⟨t228, A170, H⟩ := H
      replace H : (if t228 = 350 then ((index_Check.f k ([] : List (S49)) 0).bind fun t229 => (if t229 = 0 then ((sizarlaw35_sane_1.f 5).bind fun t230 => ((index_Affected.f t196 t230).bind fun t233 => (if (t233.length : Int) = 0 then ((sizarlaw35_sane_1.f 4).bind fun t236 => ((index_Affected.f t196 t236).bind fun t239 => ((sizarref35_SameInts.f k t239 (([0] : List Int))).bind fun t245 => (if t245 = true then ((sizarlaw35_sane_1.f 4).bind fun t246 => ((index_Affected.f ([] : List (S49)) t246).bind fun t249 => (some ((t249.length : Int) == 0)))) else (none))))) else (none)))) else (none))) else (none)) = some r := H
      have A17 := Aside0.mk A170
      clear A170
      by_cases c18 : t228 = 350
      ·rw [if_pos c18] at H
       have c18b0 : (t228 == 350) = true := beq_iff_eq.mpr c18
       have c18b1 : (t228 != 350) = false := bne_eq_false_iff_eq.mpr c18
       clear c18
       replace H := Option.bind_eq_some_iff.mp H
       obtain ⟨t229, A190, H⟩ := H
       replace H : (if t229 = 0 then ((sizarlaw35_sane_1.f 5).bind fun t230 => ((index_Affected.f t196 t230).bind fun t233 => (if (t233.length : Int) = 0 then ((sizarlaw35_sane_1.f 4).bind fun t236 => ((index_Affected.f t196 t236).bind fun t239 => ((sizarref35_SameInts.f k t239 (([0] : List Int))).bind fun t245 => (if t245 = true then ((sizarlaw35_sane_1.f 4).bind fun t246 => ((index_Affected.f ([] : List (S49)) t246).bind fun t249 => (some ((t249.length : Int) == 0)))) else (none))))) else (none)))) else (none)) = some r := H
       have A19 := Aside0.mk A190
       clear A190
       by_cases c20 : t229 = 0
       ·rw [if_pos c20] at H
        have c20b0 : (t229 == 0) = true := beq_iff_eq.mpr c20
        have c20b1 : (t229 != 0) = false := bne_eq_false_iff_eq.mpr c20
        clear c20
        replace H := Option.bind_eq_some_iff.mp H
        obtain ⟨t230, A210, H⟩ := H
        replace H : ((index_Affected.f t196 t230).bind fun t233 => (if (t233.length : Int) = 0 then ((sizarlaw35_sane_1.f 4).bind fun t236 => ((index_Affected.f t196 t236).bind fun t239 => ((sizarref35_SameInts.f k t239 (([0] : List Int))).bind fun t245 => (if t245 = true then ((sizarlaw35_sane_1.f 4).bind fun t246 => ((index_Affected.f ([] : List (S49)) t246).bind fun t249 => (some ((t249.length : Int) == 0)))) else (none))))) else (none))) = some r := H
        have A21 := Aside0.mk A210
        clear A210
        replace H := Option.bind_eq_some_iff.mp H
        obtain ⟨t233, A220, H⟩ := H
        replace H : (if (t233.length : Int) = 0 then ((sizarlaw35_sane_1.f 4).bind fun t236 => ((index_Affected.f t196 t236).bind fun t239 => ((sizarref35_SameInts.f k t239 (([0] : List Int))).bind fun t245 => (if t245 = true then ((sizarlaw35_sane_1.f 4).bind fun t246 => ((index_Affected.f ([] : List (S49)) t246).bind fun t249 => (some ((t249.length : Int) == 0)))) else (none))))) else (none)) = some r := H
        have A22 := Aside0.mk A220
        clear A220
        by_cases c23 : (t233.length : Int) = 0
        ·rw [if_pos c23] at H
         have c23b0 : ((t233.length : Int) == 0) = true := beq_iff_eq.mpr c23
         have c23b1 : ((t233.length : Int) != 0) = false := bne_eq_false_iff_eq.mpr c23
         clear c23
         replace H := Option.bind_eq_some_iff.mp H
         obtain ⟨t236, A240, H⟩ := H
         replace H : ((index_Affected.f t196 t236).bind fun t239 => ((sizarref35_SameInts.f k t239 (([0] : List Int))).bind fun t245 => (if t245 = true then ((sizarlaw35_sane_1.f 4).bind fun t246 => ((index_Affected.f ([] : List (S49)) t246).bind fun t249 => (some ((t249.length : Int) == 0)))) else (none)))) = some r := H
         have A24 := Aside0.mk A240
         clear A240
         replace H := Option.bind_eq_some_iff.mp H
         obtain ⟨t239, A250, H⟩ := H
         replace H : ((sizarref35_SameInts.f k t239 (([0] : List Int))).bind fun t245 => (if t245 = true then ((sizarlaw35_sane_1.f 4).bind fun t246 => ((index_Affected.f ([] : List (S49)) t246).bind fun t249 => (some ((t249.length : Int) == 0)))) else (none))) = some r := H
         have A25 := Aside0.mk A250
         clear A250
         obtain ⟨y242, hy242⟩ : ∃ y_ : List Int, y_ = (([0] : List Int)) := ⟨_, rfl⟩
         replace H : ((sizarref35_SameInts.f k t239 y242).bind fun t245 => (if t245 = true then ((sizarlaw35_sane_1.f 4).bind fun t246 => ((index_Affected.f ([] : List (S49)) t246).bind fun t249 => (some ((t249.length : Int) == 0)))) else (none))) = some r := by first | (rw [hy242]; with_reducible exact H) | (have H2_ := (Option.bind_some _ _).symm.trans H; rw [hy242]; with_reducible exact H2_) | (have H2_ := (Option.bind_some _ _).symm.trans H; with_reducible exact H2_) | with_reducible exact H | (rw [hy242]; exact H) | exact H
         have Ny242 := Aside0.mk hy242
         clear hy242
         replace H := Option.bind_eq_some_iff.mp H
         obtain ⟨t245, A260, H⟩ := H
         replace H : (if t245 = true then ((sizarlaw35_sane_1.f 4).bind fun t246 => ((index_Affected.f ([] : List (S49)) t246).bind fun t249 => (some ((t249.length : Int) == 0)))) else (none)) = some r := H
         have A26 := Aside0.mk A260
         clear A260
         by_cases c27 : t245 = true
         ·subst c27
          have H1 : ((sizarlaw35_sane_1.f 4).bind fun t246 => ((index_Affected.f ([] : List (S49)) t246).bind fun t249 => (some ((t249.length : Int) == 0)))) = some r := by rw [if_pos rfl] at H; exact H
          clear H
          have H := H1
          clear H1
          replace H := Option.bind_eq_some_iff.mp H
          obtain ⟨t246, A280, H⟩ := H
          replace H : ((index_Affected.f ([] : List (S49)) t246).bind fun t249 => (some ((t249.length : Int) == 0))) = some r := H
          have A28 := Aside0.mk A280
          clear A280
          replace H := Option.bind_eq_some_iff.mp H
          obtain ⟨t249, A290, H⟩ := H
          replace H : (some ((t249.length : Int) == 0)) = some r := H
          have A29 := Aside0.mk A290
          clear A290
          obtain rfl := Option.some.inj H
          go_enter Try.func10, Try.ntmps10
          try go_wp2_with (first | ((with_reducible refine gate_callee (f := 26) rfl ?_); refine goesL_ (some 6) rfl rfl Try.func26 (by kernel_rfl) rfl #[.int .i64 7, .int .i64 0, .int .i64 5] rfl (by (try simp only [List.map_toArray, List.map_cons, List.map_nil]); first | done | rfl | (simp only [List.length_drop, List.length_take]; rfl)) ?_; (with_reducible refine (sizarlaw35_read.calls 7 0 5 t172 t173 t174 t175 t176 _ A1.out).mono ?_); rintro e w30 ⟨rfl, hb⟩; refine ⟨_, rfl, ?_⟩; have n0_ := Aside0.mk (below_step (by repeat (first | (with_reducible first | exact HB.out | apply below_alloc | apply pw_below_drewN | apply below_drew1) | exact HB.out)) hb); clear HB; have HB := n0_; clear n0_; (try clear hb); (try clear hb2); (try clear hk); (try clear hi)) | ((with_reducible refine gate_callee (f := 26) rfl ?_); refine goesL_ (some 7) rfl rfl Try.func26 (by kernel_rfl) rfl #[.int .i64 7, .int .i64 0, .int .i64 5] rfl (by (try simp only [List.map_toArray, List.map_cons, List.map_nil]); first | done | rfl | (simp only [List.length_drop, List.length_take]; rfl)) ?_; (with_reducible refine (sizarlaw35_read.calls 7 0 5 t177 t178 t179 t180 t181 _ A2.out).mono ?_); rintro e w31 ⟨rfl, hb⟩; refine ⟨_, rfl, ?_⟩; have n0_ := Aside0.mk (below_step (by repeat (first | (with_reducible first | exact HB.out | apply below_alloc | apply pw_below_drewN | apply below_drew1) | exact HB.out)) hb); clear HB; have HB := n0_; clear n0_; (try clear hb); (try clear hb2); (try clear hk); (try clear hi)) | ((with_reducible refine gate_dst (N := 8) rfl ?_); (try (refine gate_guard (by rfl) ?_; dsimp only)); refine Kd.R_lit k47 _ 47 ?hg (N := 8) ?hd (xs := ([(⟨(⟨t172, t173, t174⟩ : S45), t175, t176⟩ : S47), (⟨(⟨t177, t178, t179⟩ : S45), t180, t181⟩ : S47)] : List (S47))) (inner := [.int .i64 t172, .int .i64 t173, .int .i64 t174, .int .i64 t175, .int .i64 t176, .int .i64 t177, .int .i64 t178, .int .i64 t179, .int .i64 t180, .int .i64 t181]) (ok := fun _ => True) (okp := fun _ => True) ?hr ?hp (fun _ hk => hk) trivial (Below.refl _ _) (Nat.le_refl _) (by simp) ?_; (case hd => rfl); (case hg => rfl); (case hr => first | (go_simp; done) | (go_simp; rfl)); (case hp => exact (Reps.c5 (show Kd.M k47 _ _ _ (⟨(⟨t172, t173, t174⟩ : S45), t175, t176⟩ : S47) [.int .i64 t172, .int .i64 t173, .int .i64 t174, .int .i64 t175, .int .i64 t176] from (k47_mkM _ _ _ (⟨(⟨t172, t173, t174⟩ : S45), t175, t176⟩ : S47) )) (Reps.c5 (show Kd.M k47 _ _ _ (⟨(⟨t177, t178, t179⟩ : S45), t180, t181⟩ : S47) [.int .i64 t177, .int .i64 t178, .int .i64 t179, .int .i64 t180, .int .i64 t181] from (k47_mkM _ _ _ (⟨(⟨t177, t178, t179⟩ : S45), t180, t181⟩ : S47) )) (Reps.none _ _)))); intro v183 w32 ho33 hb hg_ hnew_; clear hg_ hnew_; (first | rw [← Ny182.out] at ho33 | (simp only [Int.reduceToNat] at ho33; rw [← Ny182.out] at ho33)); have n0_ := Aside0.mk (Kd.R_lower ho33 (below_size (by repeat (first | (with_reducible first | exact HB.out | apply below_alloc | apply pw_below_drewN | apply below_drew1) | exact HB.out)))); have n1_ := Aside0.mk (below_step (by repeat (first | (with_reducible first | exact HB.out | apply below_alloc | apply pw_below_drewN | apply below_drew1) | exact HB.out)) hb); clear HB; have HO184 := n0_; have HB := n1_; clear n0_ n1_; clear hb ho33; obtain ⟨Ao34, co34, eo34⟩ := Kd.R_slice HO184.out; subst eo34) | ((with_reducible refine gate_callee (f := 26) rfl ?_); refine goesL_ (some 10) rfl rfl Try.func26 (by kernel_rfl) rfl #[.int .i64 6, .int .i64 0, .int .i64 9] rfl (by (try simp only [List.map_toArray, List.map_cons, List.map_nil]); first | done | rfl | (simp only [List.length_drop, List.length_take]; rfl)) ?_; (with_reducible refine (sizarlaw35_read.calls 6 0 9 t185 t186 t187 t188 t189 _ A3.out).mono ?_); rintro e w35 ⟨rfl, hb⟩; refine ⟨_, rfl, ?_⟩; have n0_ := Aside0.mk (Kd.R_below (by (with_reducible repeat (first | apply Kd.R_alloc | apply Kd.R_drewN | apply Kd.R_drew)); exact HO184.out) hb); have n1_ := Aside0.mk (below_step (by repeat (first | (with_reducible first | exact HB.out | apply below_alloc | apply pw_below_drewN | apply below_drew1) | exact HB.out)) hb); clear HO184; clear HB; have HO184 := n0_; have HB := n1_; clear n0_ n1_; (try clear hb); (try clear hb2); (try clear hk); (try clear hi)) | ((with_reducible refine gate_dst (N := 11) rfl ?_); (try (refine gate_guard (by rfl) ?_; dsimp only)); refine Kd.R_lit k47 _ 47 ?hg (N := 11) ?hd (xs := ([(⟨(⟨t185, t186, t187⟩ : S45), t188, t189⟩ : S47)] : List (S47))) (inner := [.int .i64 t185, .int .i64 t186, .int .i64 t187, .int .i64 t188, .int .i64 t189]) (ok := fun _ => True) (okp := fun _ => True) ?hr ?hp (fun _ hk => hk) trivial (Below.refl _ _) (Nat.le_refl _) (by simp) ?_; (case hd => rfl); (case hg => rfl); (case hr => first | (go_simp; done) | (go_simp; rfl)); (case hp => exact (Reps.c5 (show Kd.M k47 _ _ _ (⟨(⟨t185, t186, t187⟩ : S45), t188, t189⟩ : S47) [.int .i64 t185, .int .i64 t186, .int .i64 t187, .int .i64 t188, .int .i64 t189] from (k47_mkM _ _ _ (⟨(⟨t185, t186, t187⟩ : S45), t188, t189⟩ : S47) )) (Reps.none _ _))); intro v191 w36 ho37 hb hg_ hnew_; clear hg_ hnew_; (first | rw [← Ny190.out] at ho37 | (simp only [Int.reduceToNat] at ho37; rw [← Ny190.out] at ho37)); have n0_ := Aside0.mk (Kd.R_elder' (by (with_reducible repeat (first | apply Kd.R_alloc | apply Kd.R_drewN | apply Kd.R_drew)); exact HO184.out) (Kd.R_base ho37) hb); have n1_ := Aside0.mk (Kd.R_lower (Kd.R_new' ho37 (Kd.R_lt (by (with_reducible repeat (first | apply Kd.R_alloc | apply Kd.R_drewN | apply Kd.R_drew)); exact HO184.out))) (below_size (by repeat (first | (with_reducible first | exact HB.out | apply below_alloc | apply pw_below_drewN | apply below_drew1) | exact HB.out)))); have n2_ := Aside0.mk (below_step (by repeat (first | (with_reducible first | exact HB.out | apply below_alloc | apply pw_below_drewN | apply below_drew1) | exact HB.out)) hb); clear HO184; clear HB; have HO184 := n0_; have HO192 := n1_; have HB := n2_; clear n0_ n1_ n2_; clear hb ho37; obtain ⟨Ao38, co38, eo38⟩ := Kd.R_slice HO192.out; subst eo38) | ((with_reducible refine gate_dst (N := 13) rfl ?_); (try (refine gate_guard (by rfl) ?_; dsimp only)); refine Kd.N_lit k35 _ 35 ?hg (N' := 13) ?hd (xs := ([(⟨(⟨0, 0, 0, 0⟩ : S31), 0, 0, 0, ([] : List Int), y182, ([] : List Int)⟩ : S35), (⟨(⟨0, 0, 0, 0⟩ : S31), 0, 0, 0, ([] : List Int), y190, ([] : List Int)⟩ : S35)] : List (S35))) (inner := [.int .i64 0, .int .i64 0, .int .i64 0, .int .i64 0, .int .i64 0, .int .i64 0, .int .i64 0, .slice none 0 0, .slice Ao34 y182.length co34, .slice none 0 0, .int .i64 0, .int .i64 0, .int .i64 0, .int .i64 0, .int .i64 0, .int .i64 0, .int .i64 0, .slice none 0 0, .slice Ao38 y190.length co38, .slice none 0 0]) (ok := (fun _ => True)) (okp := (fun _ => True)) ?hr ?hp (fun _ hk => hk) ((show ∀ k_, w36.heap.size ≤ k_ → (fun _ => True) k_ from fun k_ hk => trivial) _ (Nat.le_refl _)) (Below.refl _ _) (Nat.le_refl _) (by simp) ?_; (case hd => rfl); (case hg => rfl); (case hr => first | (go_simp; done) | (go_simp; rfl)); (case hp => exact (Reps.c10 (show Kd.FK k35 _ _ (⟨(⟨0, 0, 0, 0⟩ : S31), 0, 0, 0, ([] : List Int), y182, ([] : List Int)⟩ : S35) [.int .i64 0, .int .i64 0, .int .i64 0, .int .i64 0, .int .i64 0, .int .i64 0, .int .i64 0, .slice none 0 0, .slice Ao34 y182.length co34, .slice none 0 0] from (k35_mkF _ _ (⟨(⟨0, 0, 0, 0⟩ : S31), 0, 0, 0, ([] : List Int), y182, ([] : List Int)⟩ : S35) (Nat.le_refl _) (Kd.F_nil _ _ _) (Kd.R_reads' (Kd.R_mono (ok' := (fun _ => True)) (HO184.out) (fun k_ hk => trivial))).2.1 (Kd.R_F (Kd.R_mono (ok' := (fun _ => True)) (HO184.out) (fun k_ hk => trivial))) (Nat.le_refl _) (Kd.F_nil _ _ _))) (Reps.c10 (show Kd.FK k35 _ _ (⟨(⟨0, 0, 0, 0⟩ : S31), 0, 0, 0, ([] : List Int), y190, ([] : List Int)⟩ : S35) [.int .i64 0, .int .i64 0, .int .i64 0, .int .i64 0, .int .i64 0, .int .i64 0, .int .i64 0, .slice none 0 0, .slice Ao38 y190.length co38, .slice none 0 0] from (k35_mkF _ _ (⟨(⟨0, 0, 0, 0⟩ : S31), 0, 0, 0, ([] : List Int), y190, ([] : List Int)⟩ : S35) (Nat.le_refl _) (Kd.F_nil _ _ _) (Kd.R_reads' (Kd.R_mono (ok' := (fun _ => True)) (HO192.out) (fun k_ hk => trivial))).2.1 (Kd.R_F (Kd.R_mono (ok' := (fun _ => True)) (HO192.out) (fun k_ hk => trivial))) (Nat.le_refl _) (Kd.F_nil _ _ _))) (Reps.none _ _)))); intro v194 w39 ho40 hb hg_ hnew_; clear hg_ hnew_; (first | rw [← Ny193.out] at ho40 | (simp only [Int.reduceToNat] at ho40; rw [← Ny193.out] at ho40)); have n0_ := Aside0.mk (Kd.N_lower ho40 (below_size (by repeat (first | (with_reducible first | exact HB.out | apply below_alloc | apply pw_below_drewN | apply below_drew1) | exact HB.out)))); have n1_ := Aside0.mk (below_step (by repeat (first | (with_reducible first | exact HB.out | apply below_alloc | apply pw_below_drewN | apply below_drew1) | exact HB.out)) hb); clear HB; clear HO184; clear HO192; have HO195 := n0_; have HB := n1_; clear n0_ n1_; clear hb ho40; obtain ⟨Ao41, co41, eo41⟩ := Kd.N_slice HO195.out; subst eo41) | ((with_reducible refine gate_callee (f := 13) rfl ?_); refine goesL_ (some 15) rfl rfl Try.func13 (by kernel_rfl) rfl #[.slice Ao41 y193.length co41] rfl (by (try simp only [List.map_toArray, List.map_cons, List.map_nil]); first | done | rfl | (simp only [List.length_drop, List.length_take]; rfl)) ?_; (with_reducible refine (index_Build.calls _ _ y193 t196 _ ?side1 ?side2 A4.out).mono ?_); (case side1 => repeat (first | exact (Kd.N_reads' HO195.out).2.2 | (with_reducible refine Kd.C_alloc ?_ _) | (with_reducible refine Kd.C_drewN ?_ _) | (with_reducible refine Kd.C_drew ?_))); (case side2 => exact (Kd.N_reads' HO195.out).2.1); rintro e w42 ⟨v197, rfl, ho0, hb⟩; refine ⟨_, rfl, ?_⟩; have n0_ := Aside0.mk (Kd.N_elder' (by (with_reducible repeat (first | apply Kd.N_alloc | apply Kd.N_drewN | apply Kd.N_drew)); exact HO195.out) (Kd.R_base ho0) hb); have n1_ := Aside0.mk (Kd.R_lower ho0 (below_size (by repeat (first | (with_reducible first | exact HB.out | apply below_alloc | apply pw_below_drewN | apply below_drew1) | exact HB.out)))); have n2_ := Aside0.mk (below_step (by repeat (first | (with_reducible first | exact HB.out | apply below_alloc | apply pw_below_drewN | apply below_drew1) | exact HB.out)) hb); clear HO195; clear HB; have HO195 := n0_; have HO198 := n1_; have HB := n2_; clear n0_ n1_ n2_; (try clear hb); (try clear hb2); (try clear hk); (try clear hi); (try clear ho0)) | ((with_reducible refine gate_dst (N := 2) rfl ?_); (try (refine gate_guard (by rfl) ?_; dsimp only)); refine box_event ?hg (N := 2) ?hd (cs := #[.slice none 0 0]) (t := 28) ?hr ?_; (case hd => rfl); (case hg => rfl); (case hr => first | (go_simp; done) | (go_simp; rfl)); intro gb199 hg w43 hbox hb; have n0_ := Aside0.mk (Kd.N_below (Kd.N_elderB (by (with_reducible repeat (first | apply Kd.N_alloc | apply Kd.N_drewN | apply Kd.N_drew)); exact HO195.out) gb199 (Nat.le_of_eq hg.symm)) hb); have n1_ := Aside0.mk (Kd.R_below (by (with_reducible repeat (first | apply Kd.R_alloc | apply Kd.R_drewN | apply Kd.R_drew)); exact HO198.out) hb); have n2_ := Aside0.mk (below_step (by repeat (first | (with_reducible first | exact HB.out | apply below_alloc | apply pw_below_drewN | apply below_drew1) | exact HB.out)) hb); have n3_ := Aside0.mk (hbox); have n4_ := Aside0.mk ((by rw [hg]; exact (below_size (by repeat (first | (with_reducible first | exact HB.out | apply below_alloc | apply pw_below_drewN | apply below_drew1) | exact HB.out))) : w.heap.size ≤ gb199)); have n5_ := Aside0.mk ((by rw [hg]; exact (below_size (by repeat (first | (with_reducible first | exact HB.out | apply below_alloc | apply pw_below_drewN | apply below_drew1) | exact HB.out))) : w.heap.size ≤ gb199)); clear HO195; clear HO198; clear HB; have HO195 := n0_; have HO198 := n1_; have HB := n2_; have BK199 := n3_; have GW199 := n4_; have GE199 := n5_; clear n0_ n1_ n2_ n3_ n4_ n5_; clear hb hbox hg; obtain ⟨Ao44, co44, eo44⟩ := Kd.R_slice HO198.out; subst eo44; have hcz45_0 : w43.cell? ⟨gb199, 0, none⟩ = some (.slice none 0 0) := (blk_cell BK199.out 0).trans rfl; have hfz45_0 := blk_frozen BK199.out 0) | ((with_reducible refine gate_callee (f := 18) rfl ?_); refine goesL_ (some 18) rfl rfl Try.func18 (by kernel_rfl) rfl #[.agg #[.slice Ao44 t196.length co44], .int .i64 0, .agg #[.int .i64 0, .int .i64 0, .int .i64 0, .int .i64 0, .int .i64 0, .int .i64 0, .int .i64 0, .slice none 0 0, .slice none 0 0, .slice none 0 0]] rfl (by (try simp only [List.map_toArray, List.map_cons, List.map_nil]); first | done | rfl | (simp only [List.length_drop, List.length_take]; rfl)) ?_; (refine (index_Replace.calls _ _ t196 0 0 0 0 0 0 0 0 _ _ ([] : List Int) _ _ ([] : List (S47)) _ _ ([] : List Int) t200 _ ?side1 ?side2 ?side3 ?side4 ?side5 ?side6 ?side7 ?side8 A5.out).mono ?_); (case side1 => refine (Kd.R_reads' (e := 49) (base := w.heap.size) (ok := fun k_ => True) (n := t196.length) (c := co44) ?_).2.2; exact (by (with_reducible repeat (first | apply Kd.R_alloc | apply Kd.R_drewN | apply Kd.R_drew)); exact (Kd.R_mono (Kd.R_far (p := ⟨gb199, 0, none⟩) (Kd.R_types HO198.out BK199.out (by decide)) (fun _ hk => hk.2) (.slice Ao44 t196.length co44)) (fun _ h_ => h_.1)))); (case side2 => exact (Kd.R_reads' HO198.out).2.1); (case side3 => exact Kd.C_nil _ _); (case side4 => exact Nat.le_refl _); (case side5 => exact Kd.C_nil _ _); (case side6 => exact Nat.le_refl _); (case side7 => exact Kd.C_nil _ _); (case side8 => exact Nat.le_refl _); rintro e w46 ⟨v201, rfl, ho0, hb⟩; refine ⟨_, rfl, ?_⟩; have n0_ := Aside0.mk (Kd.N_elder' (by (with_reducible repeat (first | apply Kd.N_alloc | apply Kd.N_drewN | apply Kd.N_drew)); exact (Kd.N_mono (Kd.N_far (p := ⟨gb199, 0, none⟩) (Kd.N_mono HO195.out (fun k_ hk => (⟨hk, hk.2⟩ : _ ∧ k_ ≠ gb199))) (fun _ hk => hk.2) (.slice Ao44 t196.length co44)) (fun _ h_ => h_.1))) (Kd.R_base ho0) hb); have n1_ := Aside0.mk (Kd.R_elder' (by (with_reducible repeat (first | apply Kd.R_alloc | apply Kd.R_drewN | apply Kd.R_drew)); exact (Kd.R_mono (Kd.R_far (p := ⟨gb199, 0, none⟩) (Kd.R_types HO198.out BK199.out (by decide)) (fun _ hk => hk.2) (.slice Ao44 t196.length co44)) (fun _ h_ => h_.1))) (Kd.R_base ho0) hb); have n2_ := Aside0.mk (Kd.R_lower (Kd.R_new' ho0 (Kd.R_lt (by (with_reducible repeat (first | apply Kd.R_alloc | apply Kd.R_drewN | apply Kd.R_drew)); exact (Kd.R_mono (Kd.R_far (p := ⟨gb199, 0, none⟩) (Kd.R_types HO198.out BK199.out (by decide)) (fun _ hk => hk.2) (.slice Ao44 t196.length co44)) (fun _ h_ => h_.1))))) (below_size (by repeat (first | (with_reducible first | exact HB.out | apply below_alloc | apply pw_below_drewN | apply below_drew1 | refine below_set ?_ GE199.out) | exact HB.out)))); have n3_ := Aside0.mk (blk_below (g := gb199) (o := .cells #[.slice Ao44 t196.length co44] 28 (0, 0)) (by (with_reducible repeat (first | refine blk_drewN ?_ _ | refine blk_drew ?_ | refine blk_alloc ?_ _)); refine blk_put (cs := #[.slice none 0 0]) ?_ 0 _ rfl; (with_reducible repeat (first | refine blk_drewN ?_ _ | refine blk_drew ?_ | refine blk_alloc ?_ _)); exact BK199.out) hb); have n4_ := Aside0.mk (below_step (by repeat (first | (with_reducible first | exact HB.out | apply below_alloc | apply pw_below_drewN | apply below_drew1 | refine below_set ?_ GE199.out) | exact HB.out)) hb); clear HO195; clear HO198; clear BK199; clear HB; have HO195 := n0_; have HO198 := n1_; have HO202 := n2_; have BK199 := n3_; have HB := n4_; clear n0_ n1_ n2_ n3_ n4_; (try clear hb); (try clear hb2); (try clear hk); (try clear hi); (try clear ho0)) | ((with_reducible refine gate_dst (N := 3) rfl ?_); (try (refine gate_guard (by rfl) ?_; dsimp only)); refine box_event ?hg (N := 3) ?hd (cs := #[.slice none 0 0]) (t := 28) ?hr ?_; (case hd => rfl); (case hg => rfl); (case hr => first | (go_simp; done) | (go_simp; rfl)); intro gb203 hg w47 hbox hb; have n0_ := Aside0.mk (Kd.N_below (Kd.N_elderB (by (with_reducible repeat (first | apply Kd.N_alloc | apply Kd.N_drewN | apply Kd.N_drew)); exact HO195.out) gb203 (Nat.le_of_eq hg.symm)) hb); have n1_ := Aside0.mk (Kd.R_below (by (with_reducible repeat (first | apply Kd.R_alloc | apply Kd.R_drewN | apply Kd.R_drew)); exact HO198.out) hb); have n2_ := Aside0.mk (Kd.R_below (by (with_reducible repeat (first | apply Kd.R_alloc | apply Kd.R_drewN | apply Kd.R_drew)); exact HO202.out) hb); have n3_ := Aside0.mk (blk_below (g := gb199) (o := .cells #[.slice Ao44 t196.length co44] 28 (0, 0)) (by (with_reducible repeat (first | refine blk_drewN ?_ _ | refine blk_drew ?_ | refine blk_alloc ?_ _)); exact BK199.out) hb); have n4_ := Aside0.mk (below_step (by repeat (first | (with_reducible first | exact HB.out | apply below_alloc | apply pw_below_drewN | apply below_drew1 | refine below_set ?_ GE199.out) | exact HB.out)) hb); have n5_ := Aside0.mk (hbox); have n6_ := Aside0.mk ((by rw [hg]; exact (below_size (by repeat (first | (with_reducible first | exact HB.out | apply below_alloc | apply pw_below_drewN | apply below_drew1 | refine below_set ?_ GE199.out) | exact HB.out))) : w.heap.size ≤ gb203)); have n7_ := Aside0.mk ((by rw [hg]; exact (below_size (by repeat (first | (with_reducible first | exact HB.out | apply below_alloc | apply pw_below_drewN | apply below_drew1 | refine below_set ?_ GE199.out) | exact HB.out))) : w.heap.size ≤ gb203)); have n8_ := Aside0.mk ((by rw [hg]; exact Nat.ne_of_lt (blk_lt (g := gb199) (o := .cells #[.slice Ao44 t196.length co44] 28 (0, 0)) (by (with_reducible repeat (first | refine blk_drewN ?_ _ | refine blk_drew ?_ | refine blk_alloc ?_ _)); exact BK199.out)) : gb199 ≠ gb203)); have n9_ := Aside0.mk ((by rw [hg]; exact Nat.ne_of_gt (blk_lt (g := gb199) (o := .cells #[.slice Ao44 t196.length co44] 28 (0, 0)) (by (with_reducible repeat (first | refine blk_drewN ?_ _ | refine blk_drew ?_ | refine blk_alloc ?_ _)); exact BK199.out)) : gb203 ≠ gb199)); clear HO195; clear HO198; clear HO202; clear BK199; clear HB; have HO195 := n0_; have HO198 := n1_; have HO202 := n2_; have BK199 := n3_; have HB := n4_; have BK203 := n5_; have GW203 := n6_; have GE203 := n7_; have NB199_203 := n8_; have NB203_199 := n9_; clear n0_ n1_ n2_ n3_ n4_ n5_ n6_ n7_ n8_ n9_; clear hb hbox hg; obtain ⟨Ao48, co48, eo48⟩ := Kd.R_slice HO202.out; subst eo48; have hnb49 := NB203_199.out; have hnc49 := NB199_203.out; have hcz50_0 : w47.cell? ⟨gb203, 0, none⟩ = some (.slice none 0 0) := (blk_cell BK203.out 0).trans rfl; have hfz50_0 := blk_frozen BK203.out 0) | ((with_reducible refine gate_callee (f := 26) rfl ?_); refine goesL_ (some 19) rfl rfl Try.func26 (by kernel_rfl) rfl #[.int .i64 6, .int .i64 0, .int .i64 9] rfl (by (try simp only [List.map_toArray, List.map_cons, List.map_nil]); first | done | rfl | (simp only [List.length_drop, List.length_take]; rfl)) ?_; (with_reducible refine (sizarlaw35_read.calls 6 0 9 t204 t205 t206 t207 t208 _ A6.out).mono ?_); rintro e w51 ⟨rfl, hb⟩; refine ⟨_, rfl, ?_⟩; have n0_ := Aside0.mk (Kd.N_below (by (with_reducible repeat (first | apply Kd.N_alloc | apply Kd.N_drewN | apply Kd.N_drew)); exact (Kd.N_mono (Kd.N_far (p := ⟨gb203, 0, none⟩) (Kd.N_mono HO195.out (fun k_ hk => (⟨hk, hk.2⟩ : _ ∧ k_ ≠ gb203))) (fun _ hk => hk.2) (.slice Ao48 t200.length co48)) (fun _ h_ => h_.1))) hb); have n1_ := Aside0.mk (Kd.R_below (by (with_reducible repeat (first | apply Kd.R_alloc | apply Kd.R_drewN | apply Kd.R_drew)); exact (Kd.R_mono (Kd.R_far (p := ⟨gb203, 0, none⟩) (Kd.R_types HO198.out BK203.out (by decide)) (fun _ hk => hk.2) (.slice Ao48 t200.length co48)) (fun _ h_ => h_.1))) hb); have n2_ := Aside0.mk (Kd.R_below (by (with_reducible repeat (first | apply Kd.R_alloc | apply Kd.R_drewN | apply Kd.R_drew)); exact (Kd.R_mono (Kd.R_far (p := ⟨gb203, 0, none⟩) (Kd.R_types HO202.out BK203.out (by decide)) (fun _ hk => hk.2) (.slice Ao48 t200.length co48)) (fun _ h_ => h_.1))) hb); have n3_ := Aside0.mk (blk_below (g := gb199) (o := .cells #[.slice Ao44 t196.length co44] 28 (0, 0)) (by (with_reducible repeat (first | refine blk_drewN ?_ _ | refine blk_drew ?_ | refine blk_alloc ?_ _)); refine blk_far ?_ NB199_203.out _; (with_reducible repeat (first | refine blk_drewN ?_ _ | refine blk_drew ?_ | refine blk_alloc ?_ _)); exact BK199.out) hb); have n4_ := Aside0.mk (blk_below (g := gb203) (o := .cells #[.slice Ao48 t200.length co48] 28 (0, 0)) (by (with_reducible repeat (first | refine blk_drewN ?_ _ | refine blk_drew ?_ | refine blk_alloc ?_ _)); refine blk_put (cs := #[.slice none 0 0]) ?_ 0 _ rfl; (with_reducible repeat (first | refine blk_drewN ?_ _ | refine blk_drew ?_ | refine blk_alloc ?_ _)); exact BK203.out) hb); have n5_ := Aside0.mk (below_step (by repeat (first | (with_reducible first | exact HB.out | apply below_alloc | apply pw_below_drewN | apply below_drew1 | refine below_set ?_ GE199.out | refine below_set ?_ GE203.out) | exact HB.out)) hb); clear HO195; clear HO198; clear HO202; clear BK199; clear BK203; clear HB; have HO195 := n0_; have HO198 := n1_; have HO202 := n2_; have BK199 := n3_; have BK203 := n4_; have HB := n5_; clear n0_ n1_ n2_ n3_ n4_ n5_; (try clear hb); (try clear hb2); (try clear hk); (try clear hi)) | ((with_reducible refine gate_callee (f := 26) rfl ?_); refine goesL_ (some 21) rfl rfl Try.func26 (by kernel_rfl) rfl #[.int .i64 7, .int .i64 0, .int .i64 5] rfl (by (try simp only [List.map_toArray, List.map_cons, List.map_nil]); first | done | rfl | (simp only [List.length_drop, List.length_take]; rfl)) ?_; (with_reducible refine (sizarlaw35_read.calls 7 0 5 t209 t210 t211 t212 t213 _ A7.out).mono ?_); rintro e w52 ⟨rfl, hb⟩; refine ⟨_, rfl, ?_⟩; have n0_ := Aside0.mk (Kd.N_below (by (with_reducible repeat (first | apply Kd.N_alloc | apply Kd.N_drewN | apply Kd.N_drew)); exact HO195.out) hb); have n1_ := Aside0.mk (Kd.R_below (by (with_reducible repeat (first | apply Kd.R_alloc | apply Kd.R_drewN | apply Kd.R_drew)); exact HO198.out) hb); have n2_ := Aside0.mk (Kd.R_below (by (with_reducible repeat (first | apply Kd.R_alloc | apply Kd.R_drewN | apply Kd.R_drew)); exact HO202.out) hb); have n3_ := Aside0.mk (blk_below (g := gb199) (o := .cells #[.slice Ao44 t196.length co44] 28 (0, 0)) (by (with_reducible repeat (first | refine blk_drewN ?_ _ | refine blk_drew ?_ | refine blk_alloc ?_ _)); exact BK199.out) hb); have n4_ := Aside0.mk (blk_below (g := gb203) (o := .cells #[.slice Ao48 t200.length co48] 28 (0, 0)) (by (with_reducible repeat (first | refine blk_drewN ?_ _ | refine blk_drew ?_ | refine blk_alloc ?_ _)); exact BK203.out) hb); have n5_ := Aside0.mk (below_step (by repeat (first | (with_reducible first | exact HB.out | apply below_alloc | apply pw_below_drewN | apply below_drew1 | refine below_set ?_ GE199.out | refine below_set ?_ GE203.out) | exact HB.out)) hb); clear HO195; clear HO198; clear HO202; clear BK199; clear BK203; clear HB; have HO195 := n0_; have HO198 := n1_; have HO202 := n2_; have BK199 := n3_; have BK203 := n4_; have HB := n5_; clear n0_ n1_ n2_ n3_ n4_ n5_; (try clear hb); (try clear hb2); (try clear hk); (try clear hi)) | ((with_reducible refine gate_dst (N := 23) rfl ?_); (try (refine gate_guard (by rfl) ?_; dsimp only)); refine Kd.R_lit k49 _ 49 ?hg (N := 23) ?hd (xs := ([(⟨(⟨(⟨t204, t205, t206⟩ : S45), t207, t208⟩ : S47), 1⟩ : S49), (⟨(⟨(⟨t209, t210, t211⟩ : S45), t212, t213⟩ : S47), 0⟩ : S49)] : List (S49))) (inner := [.int .i64 t204, .int .i64 t205, .int .i64 t206, .int .i64 t207, .int .i64 t208, .int .i64 1, .int .i64 t209, .int .i64 t210, .int .i64 t211, .int .i64 t212, .int .i64 t213, .int .i64 0]) (ok := fun _ => True) (okp := fun _ => True) ?hr ?hp (fun _ hk => hk) trivial (Below.refl _ _) (Nat.le_refl _) (by simp) ?_; (case hd => rfl); (case hg => rfl); (case hr => first | (go_simp; done) | (go_simp; rfl)); (case hp => exact (Reps.c6 (show Kd.M k49 _ _ _ (⟨(⟨(⟨t204, t205, t206⟩ : S45), t207, t208⟩ : S47), 1⟩ : S49) [.int .i64 t204, .int .i64 t205, .int .i64 t206, .int .i64 t207, .int .i64 t208, .int .i64 1] from (k49_mkM _ _ _ (⟨(⟨(⟨t204, t205, t206⟩ : S45), t207, t208⟩ : S47), 1⟩ : S49) )) (Reps.c6 (show Kd.M k49 _ _ _ (⟨(⟨(⟨t209, t210, t211⟩ : S45), t212, t213⟩ : S47), 0⟩ : S49) [.int .i64 t209, .int .i64 t210, .int .i64 t211, .int .i64 t212, .int .i64 t213, .int .i64 0] from (k49_mkM _ _ _ (⟨(⟨(⟨t209, t210, t211⟩ : S45), t212, t213⟩ : S47), 0⟩ : S49) )) (Reps.none _ _)))); intro v215 w53 ho54 hb hg_ hnew_; clear hg_ hnew_; (first | rw [← Ny214.out] at ho54 | (simp only [Int.reduceToNat] at ho54; rw [← Ny214.out] at ho54)); have n0_ := Aside0.mk (Kd.N_elder' (by (with_reducible repeat (first | apply Kd.N_alloc | apply Kd.N_drewN | apply Kd.N_drew)); exact HO195.out) (Kd.R_base ho54) hb); have n1_ := Aside0.mk (Kd.R_elder' (by (with_reducible repeat (first | apply Kd.R_alloc | apply Kd.R_drewN | apply Kd.R_drew)); exact HO198.out) (Kd.R_base ho54) hb); have n2_ := Aside0.mk (Kd.R_elder' (by (with_reducible repeat (first | apply Kd.R_alloc | apply Kd.R_drewN | apply Kd.R_drew)); exact HO202.out) (Kd.R_base ho54) hb); have n3_ := Aside0.mk (Kd.R_lower (Kd.R_new' (Kd.R_new' ho54 (Kd.R_lt (by (with_reducible repeat (first | apply Kd.R_alloc | apply Kd.R_drewN | apply Kd.R_drew)); exact HO198.out))) (Kd.R_lt (by (with_reducible repeat (first | apply Kd.R_alloc | apply Kd.R_drewN | apply Kd.R_drew)); exact HO202.out))) (below_size (by repeat (first | (with_reducible first | exact HB.out | apply below_alloc | apply pw_below_drewN | apply below_drew1 | refine below_set ?_ GE199.out | refine below_set ?_ GE203.out) | exact HB.out)))); have n4_ := Aside0.mk (blk_below (g := gb199) (o := .cells #[.slice Ao44 t196.length co44] 28 (0, 0)) (by (with_reducible repeat (first | refine blk_drewN ?_ _ | refine blk_drew ?_ | refine blk_alloc ?_ _)); exact BK199.out) hb); have n5_ := Aside0.mk (blk_below (g := gb203) (o := .cells #[.slice Ao48 t200.length co48] 28 (0, 0)) (by (with_reducible repeat (first | refine blk_drewN ?_ _ | refine blk_drew ?_ | refine blk_alloc ?_ _)); exact BK203.out) hb); have n6_ := Aside0.mk (below_step (by repeat (first | (with_reducible first | exact HB.out | apply below_alloc | apply pw_below_drewN | apply below_drew1 | refine below_set ?_ GE199.out | refine below_set ?_ GE203.out) | exact HB.out)) hb); clear HO195; clear HO198; clear HO202; clear BK199; clear BK203; clear HB; have HO195 := n0_; have HO198 := n1_; have HO202 := n2_; have HO216 := n3_; have BK199 := n4_; have BK203 := n5_; have HB := n6_; clear n0_ n1_ n2_ n3_ n4_ n5_ n6_; clear hb ho54))
          have n0_ := Aside0.mk (Kd.N_drew HO195.out)
          have n1_ := Aside0.mk (Kd.R_drew HO198.out)
          have n2_ := Aside0.mk (Kd.R_drew HO202.out)
          have n3_ := Aside0.mk (Kd.R_drew HO216.out)
          have n4_ := Aside0.mk (blk_drew BK199.out)
          have n5_ := Aside0.mk (blk_drew BK203.out)
          have n6_ := Aside0.mk (below_drew1 HB.out)
          clear HO195
          clear HO198
          clear HO202
          clear HO216
          clear BK199
          clear BK203
          clear HB
          have HO195 := n0_
          have HO198 := n1_
          have HO202 := n2_
          have HO216 := n3_
          have BK199 := n4_
          have BK203 := n5_
          have HB := n6_
          clear n0_ n1_ n2_ n3_ n4_ n5_ n6_
          obtain ⟨Ao56, co56, eo56⟩ := Kd.R_slice HO216.out
          (first | subst eo56 | (injection eo56 with f1_ f2_ f3_; have f4_ := f1_.symm; have f5_ := f3_.symm; clear f1_ f2_ f3_; subst f4_; subst f5_))
          refine start_ (n := 19) (S := fun w' => w'.cell? ⟨gb199, 0, none⟩ = some (.slice Ao44 t196.length co44) ∧ w'.cell? ⟨gb203, 0, none⟩ = some (.slice Ao48 t200.length co48)) (ds := []) #[false, false, false, false, false, false, false, false, false, false, false, false, false, false, false, false, false, false, false] (by kernel_rfl) rfl rfl ⟨(blk_cell BK199.out 0).trans rfl, (blk_cell BK203.out 0).trans rfl⟩ (fun hHeld => ?_); refine with_tabW sizarlaw35_sane.tab6 sizarlaw35_sane.bits6 (fun HT_ HW_ => ?_)
          generalize w53.drew = w55 at HO195 HO198 HO202 HO216 BK199 BK203 HB hHeld ⊢
          refine pure_ (i := 1) (N := some 25) (v := ?_) (a' := ?_) #[false, true, false, false, false, false, false, false, false, false, false, false, false, false, false, false, false, false, false] rfl rfl (any_of HT_.out (by kernel_rfl)) (fun _ _ _ h => h) (Or.inl ⟨by rfl, ?_⟩) ?_ ?_
          rotate_left
          ·intro w'
           go_simp
           with_reducible rfl
          rotate_left
          ·simp only [Act.put, List.setIfInBounds_toArray, List.set_cons_zero, List.set_cons_succ, i64_w, i32_w]
           rfl
          refine pure_ (i := 2) (N := some 26) (v := ?_) (a' := ?_) #[false, true, true, false, false, false, false, false, false, false, false, false, false, false, false, false, false, false, false] rfl rfl (any_of HT_.out (by kernel_rfl)) (fun _ _ _ h => h) (Or.inl ⟨by rfl, ?_⟩) ?_ ?_
          rotate_left
          ·intro w'
           go_simp
           with_reducible rfl
          rotate_left
          ·simp only [Act.put, List.setIfInBounds_toArray, List.set_cons_zero, List.set_cons_succ, i64_w, i32_w]
           rfl
          refine take_ (i := 0) (N := some 24) (v := ?_) (a' := ?_) #[true, true, true, false, false, false, false, false, false, false, false, false, false, false, false, false, false, false, false] rfl rfl (take_ofW HT_.out HW_.out (by kernel_rfl)) (fun _ _ _ h => h) (Or.inl ⟨by rfl, ?_⟩) hHeld ?_ ?_
          rotate_left
          ·rintro w' ⟨s0, s1⟩
           go_simp
           with_reducible rfl
          rotate_left
          ·simp only [Act.put, List.setIfInBounds_toArray, List.set_cons_zero, List.set_cons_succ, i64_w, i32_w]
           rfl
          refine one_ (i := 3) (N := some 27) #[true, true, true, true, false, false, false, false, false, false, false, false, false, false, false, false, false, false, false] rfl rfl (one_of HT_.out (by kernel_rfl)) (by decide) (fun K hK => ?_)
          refine goes_ Try.func12 (by kernel_rfl) rfl #[.agg #[.slice Ao44 t196.length co44], .agg #[.slice Ao56 y214.length co56]] (by rfl) rfl rfl (by (try simp only [List.map_toArray, List.map_cons, List.map_nil]); first | done | rfl | (simp only [List.length_drop, List.length_take]; rfl)) ?_
          with_reducible refine (sizarref35_Same.calls k _ _ t196 _ _ y214 true _ ?side1 ?side2 ?side3 ?side4 A8.out).mono ?_
          (case side1 => repeat (first | exact (Kd.R_reads' HO198.out).2.2 | (with_reducible refine Kd.C_alloc ?_ _) | (with_reducible refine Kd.C_drewN ?_ _) | (with_reducible refine Kd.C_drew ?_)))
          (case side2 => exact (Kd.R_reads' HO198.out).2.1)
          (case side3 => repeat (first | exact (Kd.R_reads' HO216.out).2.2 | (with_reducible refine Kd.C_alloc ?_ _) | (with_reducible refine Kd.C_drewN ?_ _) | (with_reducible refine Kd.C_drew ?_)))
          (case side4 => exact (Kd.R_reads' HO216.out).2.1)
          rintro e w57 ⟨rfl, hb⟩
          refine ⟨_, rfl, ?_⟩
          have n0_ := Aside0.mk (Kd.N_below (by (with_reducible repeat (first | apply Kd.N_alloc | apply Kd.N_drewN | apply Kd.N_drew)); exact HO195.out) hb)
          have n1_ := Aside0.mk (Kd.R_below (by (with_reducible repeat (first | apply Kd.R_alloc | apply Kd.R_drewN | apply Kd.R_drew)); exact HO198.out) hb)
          have n2_ := Aside0.mk (Kd.R_below (by (with_reducible repeat (first | apply Kd.R_alloc | apply Kd.R_drewN | apply Kd.R_drew)); exact HO202.out) hb)
          have n3_ := Aside0.mk (Kd.R_below (by (with_reducible repeat (first | apply Kd.R_alloc | apply Kd.R_drewN | apply Kd.R_drew)); exact HO216.out) hb)
          have n4_ := Aside0.mk (blk_below (g := gb199) (o := .cells #[.slice Ao44 t196.length co44] 28 (0, 0)) (by (with_reducible repeat (first | refine blk_drewN ?_ _ | refine blk_drew ?_ | refine blk_alloc ?_ _)); exact BK199.out) hb)
          have n5_ := Aside0.mk (blk_below (g := gb203) (o := .cells #[.slice Ao48 t200.length co48] 28 (0, 0)) (by (with_reducible repeat (first | refine blk_drewN ?_ _ | refine blk_drew ?_ | refine blk_alloc ?_ _)); exact BK203.out) hb)
          have n6_ := Aside0.mk (below_step (by repeat (first | (with_reducible first | exact HB.out | apply below_alloc | apply pw_below_drewN | apply below_drew1 | refine below_set ?_ GE199.out | refine below_set ?_ GE203.out) | exact HB.out)) hb)
          clear HO195
          clear HO198
          clear HO202
          clear HO216
          clear BK199
          clear BK203
          clear HB
          have HO195 := n0_
          have HO198 := n1_
          have HO202 := n2_
          have HO216 := n3_
          have BK199 := n4_
          have BK203 := n5_
          have HB := n6_
          clear n0_ n1_ n2_ n3_ n4_ n5_ n6_
          (try clear hb)
          (try clear hb2)
          (try clear hk)
          (try clear hi)
          have q58 : (1 : Int) ≤ ((y214.length : Int) : Int) := of_decide_eq_true (by first | (with_reducible assumption) | assumption)
          obtain ⟨i058, hi058, _, hsz58, _⟩ := info_parts info49
          have hroom58 : y214.length ≤ co56 := (Kd.R_reads' HO216.out).2.1
          have hC58 : Kd.F k49 _ _ Ao56 y214.length y214 := (Kd.V_at (base := w.heap.size) (Kd.R_V (Kd.R_types (Kd.R_types (Kd.R_apart' (HO216.out) (Kd.N_typed HO195.out) (by decide)) BK199.out (by decide)) BK203.out (by decide)))).2.2
          have hcut58 := cut_to (P := Try.prog) 26 49 .i64 Try.underlying26 hi058 Ao56 y214.length co56 1 (by omega) q58 hroom58
          have hr58 := Kd.F_take (m := 1) hC58 (by omega)
          have hy58 : y218.length = (1 : Int).toNat := (by rw [Ny218.out, List.length_take]; omega)
          rw [← Ny218.out] at hr58
          rw [← hy58] at hcut58
          have HO222 := Aside0.mk (show Kd.V k49 49 _ w.heap.size _ (.slice Ao56 y218.length co56) y218 from Kd.V_mk (by omega) hr58)
          have HC222 := Aside0.mk (show y218.length ≤ co56 from by omega)
          clear hr58 hC58 hroom58 hi058 hsz58
          have KY58 := Aside0.mk hy58
          clear hy58
          replace q58 := eq_true q58
          refine hK.out _ _ ⟨(blk_cell BK199.out 0).trans rfl, (blk_cell BK203.out 0).trans rfl⟩ (fun hHeld => ?_)
          clear hK K
          refine norm_ (a' := ?_) ?_ ?_
          rotate_left
          ·show Act.put _ (some 27) _ = _
           simp only [Act.put, List.setIfInBounds_toArray, List.set_cons_zero, List.set_cons_succ, i64_w, i32_w]
           rfl
          refine pure_ (i := 4) (N := some 28) (v := ?_) (a' := ?_) #[true, true, true, true, true, false, false, false, false, false, false, false, false, false, false, false, false, false, false] rfl rfl (any_of HT_.out (by kernel_rfl)) (fun _ _ _ h => h) (Or.inl ⟨by rfl, ?_⟩) ?_ ?_
          rotate_left
          ·intro w'
           go_simp
           with_reducible rfl
          rotate_left
          ·simp only [Act.put, List.setIfInBounds_toArray, List.set_cons_zero, List.set_cons_succ, i64_w, i32_w]
           rfl
          refine pure_ (i := 5) (N := some 29) (v := ?_) (a' := ?_) #[true, true, true, true, true, true, false, false, false, false, false, false, false, false, false, false, false, false, false] rfl rfl (any_of HT_.out (by kernel_rfl)) (fun _ _ _ h => h) (Or.inl ⟨by rfl, ?_⟩) ?_ ?_
          rotate_left
          ·intro w'
           go_simp
           with_reducible rfl
          rotate_left
          ·simp only [Act.put, List.setIfInBounds_toArray, List.set_cons_zero, List.set_cons_succ, i64_w, i32_w]
           rfl
          refine pure_ (i := 7) (N := some 31) (v := ?_) (a' := ?_) #[true, true, true, true, true, true, false, true, false, false, false, false, false, false, false, false, false, false, false] rfl rfl (any_of HT_.out (by kernel_rfl)) (fun _ _ _ h => h) (Or.inl ⟨by rfl, ?_⟩) ?_ ?_
          rotate_left
          ·intro w'
           go_simp
           with_reducible rfl
          rotate_left
          ·simp only [Act.put, List.setIfInBounds_toArray, List.set_cons_zero, List.set_cons_succ, i64_w, i32_w]
           rfl
          refine pure_ (i := 8) (N := some 32) (v := ?_) (a' := ?_) #[true, true, true, true, true, true, false, true, true, false, false, false, false, false, false, false, false, false, false] rfl rfl (any_of HT_.out (by kernel_rfl)) (fun _ _ _ h => h) (Or.inl ⟨by rfl, ?_⟩) ?_ ?_
          rotate_left
          ·intro w'
           go_simp
           with_reducible rfl
          rotate_left
          ·simp only [Act.put, List.setIfInBounds_toArray, List.set_cons_zero, List.set_cons_succ, i64_w, i32_w]
           rfl
          refine pure_ (i := 9) (N := some 33) (v := ?_) (a' := ?_) #[true, true, true, true, true, true, false, true, true, true, false, false, false, false, false, false, false, false, false] rfl rfl (any_of HT_.out (by kernel_rfl)) (fun _ _ _ h => h) (Or.inl ⟨by rfl, ?_⟩) ?_ ?_
          rotate_left
          ·intro w'
           go_simp
           with_reducible rfl
          rotate_left
          ·simp only [Act.put, List.setIfInBounds_toArray, List.set_cons_zero, List.set_cons_succ, i64_w, i32_w]
           rfl
          refine take_ (i := 6) (N := some 30) (v := ?_) (a' := ?_) #[true, true, true, true, true, true, true, true, true, true, false, false, false, false, false, false, false, false, false] rfl rfl (take_ofW HT_.out HW_.out (by kernel_rfl)) (fun _ _ _ h => h) (Or.inl ⟨by rfl, ?_⟩) hHeld ?_ ?_
          rotate_left
          ·rintro w' ⟨s0, s1⟩
           go_simp
           with_reducible rfl
          rotate_left
          ·simp only [Act.put, List.setIfInBounds_toArray, List.set_cons_zero, List.set_cons_succ, i64_w, i32_w]
           rfl
          refine one_ (i := 10) (N := some 34) #[true, true, true, true, true, true, true, true, true, true, true, false, false, false, false, false, false, false, false] rfl rfl (one_of HT_.out (by kernel_rfl)) (by decide) (fun K hK => ?_)
          refine goes_ Try.func12 (by kernel_rfl) rfl #[.agg #[.slice Ao48 t200.length co48], .agg #[.slice Ao56 y218.length co56]] (by rfl) rfl rfl (by (try simp only [List.map_toArray, List.map_cons, List.map_nil]); first | done | rfl | (simp only [List.length_drop, List.length_take]; rfl)) ?_
          with_reducible refine (sizarref35_Same.calls k _ _ t200 _ _ y218 true _ ?side1 ?side2 ?side3 ?side4 A11.out).mono ?_
          (case side1 => repeat (first | exact (Kd.R_reads' HO202.out).2.2 | (with_reducible refine Kd.C_alloc ?_ _) | (with_reducible refine Kd.C_drewN ?_ _) | (with_reducible refine Kd.C_drew ?_)))
          (case side2 => exact (Kd.R_reads' HO202.out).2.1)
          (case side3 => repeat (first | exact (Kd.V_reads' HO222.out).2.2 | (with_reducible refine Kd.C_alloc ?_ _) | (with_reducible refine Kd.C_drewN ?_ _) | (with_reducible refine Kd.C_drew ?_)))
          (case side4 => exact (Kd.V_reads' HO222.out).2.1)
          rintro e w59 ⟨rfl, hb⟩
          refine ⟨_, rfl, ?_⟩
          have n0_ := Aside0.mk (Kd.N_below (by (with_reducible repeat (first | apply Kd.N_alloc | apply Kd.N_drewN | apply Kd.N_drew)); exact HO195.out) hb)
          have n1_ := Aside0.mk (Kd.R_below (by (with_reducible repeat (first | apply Kd.R_alloc | apply Kd.R_drewN | apply Kd.R_drew)); exact HO198.out) hb)
          have n2_ := Aside0.mk (Kd.R_below (by (with_reducible repeat (first | apply Kd.R_alloc | apply Kd.R_drewN | apply Kd.R_drew)); exact HO202.out) hb)
          have n3_ := Aside0.mk (Kd.R_below (by (with_reducible repeat (first | apply Kd.R_alloc | apply Kd.R_drewN | apply Kd.R_drew)); exact HO216.out) hb)
          have n4_ := Aside0.mk (Kd.V_below (by (with_reducible repeat (first | apply Kd.V_alloc | apply Kd.V_drewN | apply Kd.V_drew)); exact HO222.out) hb)
          have n5_ := Aside0.mk (blk_below (g := gb199) (o := .cells #[.slice Ao44 t196.length co44] 28 (0, 0)) (by (with_reducible repeat (first | refine blk_drewN ?_ _ | refine blk_drew ?_ | refine blk_alloc ?_ _)); exact BK199.out) hb)
          have n6_ := Aside0.mk (blk_below (g := gb203) (o := .cells #[.slice Ao48 t200.length co48] 28 (0, 0)) (by (with_reducible repeat (first | refine blk_drewN ?_ _ | refine blk_drew ?_ | refine blk_alloc ?_ _)); exact BK203.out) hb)
          have n7_ := Aside0.mk (below_step (by repeat (first | (with_reducible first | exact HB.out | apply below_alloc | apply pw_below_drewN | apply below_drew1 | refine below_set ?_ GE199.out | refine below_set ?_ GE203.out) | exact HB.out)) hb)
          clear HO195
          clear HO198
          clear HO202
          clear HO216
          clear HO222
          clear BK199
          clear BK203
          clear HB
          have HO195 := n0_
          have HO198 := n1_
          have HO202 := n2_
          have HO216 := n3_
          have HO222 := n4_
          have BK199 := n5_
          have BK203 := n6_
          have HB := n7_
          clear n0_ n1_ n2_ n3_ n4_ n5_ n6_ n7_
          (try clear hb)
          (try clear hb2)
          (try clear hk)
          (try clear hi)
          refine hK.out _ _ ⟨(blk_cell BK199.out 0).trans rfl, (blk_cell BK203.out 0).trans rfl⟩ (fun hHeld => ?_)
          clear hK K
          refine norm_ (a' := ?_) ?_ ?_
          rotate_left
          ·show Act.put _ (some 34) _ = _
           simp only [Act.put, List.setIfInBounds_toArray, List.set_cons_zero, List.set_cons_succ, i64_w, i32_w]
           rfl
          refine pure_ (i := 11) (N := some 35) (v := ?_) (a' := ?_) #[true, true, true, true, true, true, true, true, true, true, true, true, false, false, false, false, false, false, false] rfl rfl (any_of HT_.out (by kernel_rfl)) (fun _ _ _ h => h) (Or.inl ⟨by rfl, ?_⟩) ?_ ?_
          rotate_left
          ·intro w'
           go_simp
           with_reducible rfl
          rotate_left
          ·simp only [Act.put, List.setIfInBounds_toArray, List.set_cons_zero, List.set_cons_succ, i64_w, i32_w]
           rfl
          refine pure_ (i := 12) (N := some 36) (v := ?_) (a' := ?_) #[true, true, true, true, true, true, true, true, true, true, true, true, true, false, false, false, false, false, false] rfl rfl (any_of HT_.out (by kernel_rfl)) (fun _ _ _ h => h) (Or.inl ⟨by rfl, ?_⟩) ?_ ?_
          rotate_left
          ·intro w'
           go_simp
           with_reducible rfl
          rotate_left
          ·simp only [Act.put, List.setIfInBounds_toArray, List.set_cons_zero, List.set_cons_succ, i64_w, i32_w]
           rfl
          refine pure_ (i := 13) (N := some 37) (v := ?_) (a' := ?_) #[true, true, true, true, true, true, true, true, true, true, true, true, true, true, false, false, false, false, false] rfl rfl (any_of HT_.out (by kernel_rfl)) (fun _ _ _ h => h) (Or.inl ⟨by rfl, ?_⟩) ?_ ?_
          rotate_left
          ·intro w'
           go_simp
           with_reducible rfl
          rotate_left
          ·simp only [Act.put, List.setIfInBounds_toArray, List.set_cons_zero, List.set_cons_succ, i64_w, i32_w]
           rfl
          refine one_ (i := 14) (N := some 38) #[true, true, true, true, true, true, true, true, true, true, true, true, true, true, true, false, false, false, false] rfl rfl (one_of HT_.out (by kernel_rfl)) (by decide) (fun K hK => ?_)
          refine goes_ Try.func13 (by kernel_rfl) rfl #[.slice none 0 0] (by rfl) rfl rfl (by (try simp only [List.map_toArray, List.map_cons, List.map_nil]); first | done | rfl | (simp only [List.length_drop, List.length_take]; rfl)) ?_
          refine (index_Build.calls _ _ ([] : List (S35)) t224 _ ?side1 ?side2 A13.out).mono ?_
          (case side1 => exact Kd.C_nil _ _)
          (case side2 => exact Nat.le_refl _)
          rintro e w60 ⟨v225, rfl, ho0, hb⟩
          refine ⟨_, rfl, ?_⟩
          have n0_ := Aside0.mk (Kd.N_elder' (by (with_reducible repeat (first | apply Kd.N_alloc | apply Kd.N_drewN | apply Kd.N_drew)); exact HO195.out) (Kd.R_base ho0) hb)
          have n1_ := Aside0.mk (Kd.R_elder' (by (with_reducible repeat (first | apply Kd.R_alloc | apply Kd.R_drewN | apply Kd.R_drew)); exact HO198.out) (Kd.R_base ho0) hb)
          have n2_ := Aside0.mk (Kd.R_elder' (by (with_reducible repeat (first | apply Kd.R_alloc | apply Kd.R_drewN | apply Kd.R_drew)); exact HO202.out) (Kd.R_base ho0) hb)
          have n3_ := Aside0.mk (Kd.R_elder' (by (with_reducible repeat (first | apply Kd.R_alloc | apply Kd.R_drewN | apply Kd.R_drew)); exact HO216.out) (Kd.R_base ho0) hb)
          have n4_ := Aside0.mk (Kd.V_elder' (by (with_reducible repeat (first | apply Kd.V_alloc | apply Kd.V_drewN | apply Kd.V_drew)); exact HO222.out) (Kd.R_base ho0) hb)
          have n5_ := Aside0.mk (Kd.R_lower (Kd.R_new' (Kd.R_new' (Kd.R_new' ho0 (Kd.R_lt (by (with_reducible repeat (first | apply Kd.R_alloc | apply Kd.R_drewN | apply Kd.R_drew)); exact HO198.out))) (Kd.R_lt (by (with_reducible repeat (first | apply Kd.R_alloc | apply Kd.R_drewN | apply Kd.R_drew)); exact HO202.out))) (Kd.R_lt (by (with_reducible repeat (first | apply Kd.R_alloc | apply Kd.R_drewN | apply Kd.R_drew)); exact HO216.out))) (below_size (by repeat (first | (with_reducible first | exact HB.out | apply below_alloc | apply pw_below_drewN | apply below_drew1 | refine below_set ?_ GE199.out | refine below_set ?_ GE203.out) | exact HB.out))))
          have n6_ := Aside0.mk (blk_below (g := gb199) (o := .cells #[.slice Ao44 t196.length co44] 28 (0, 0)) (by (with_reducible repeat (first | refine blk_drewN ?_ _ | refine blk_drew ?_ | refine blk_alloc ?_ _)); exact BK199.out) hb)
          have n7_ := Aside0.mk (blk_below (g := gb203) (o := .cells #[.slice Ao48 t200.length co48] 28 (0, 0)) (by (with_reducible repeat (first | refine blk_drewN ?_ _ | refine blk_drew ?_ | refine blk_alloc ?_ _)); exact BK203.out) hb)
          have n8_ := Aside0.mk (below_step (by repeat (first | (with_reducible first | exact HB.out | apply below_alloc | apply pw_below_drewN | apply below_drew1 | refine below_set ?_ GE199.out | refine below_set ?_ GE203.out) | exact HB.out)) hb)
          clear HO195
          clear HO198
          clear HO202
          clear HO216
          clear HO222
          clear BK199
          clear BK203
          clear HB
          have HO195 := n0_
          have HO198 := n1_
          have HO202 := n2_
          have HO216 := n3_
          have HO222 := n4_
          have HO226 := n5_
          have BK199 := n6_
          have BK203 := n7_
          have HB := n8_
          clear n0_ n1_ n2_ n3_ n4_ n5_ n6_ n7_ n8_
          (try clear hb)
          (try clear hb2)
          (try clear hk)
          (try clear hi)
          (try clear ho0)
          obtain ⟨Ao61, co61, eo61⟩ := Kd.R_slice HO226.out
          (first | subst eo61 | (injection eo61 with f1_ f2_ f3_; have f4_ := f1_.symm; have f5_ := f3_.symm; clear f1_ f2_ f3_; subst f4_; subst f5_))
          refine hK.out _ _ ⟨(blk_cell BK199.out 0).trans rfl, (blk_cell BK203.out 0).trans rfl⟩ (fun hHeld => ?_)
          clear hK K
          refine norm_ (a' := ?_) ?_ ?_
          rotate_left
          ·show Act.put _ (some 38) _ = _
           simp only [Act.put, List.setIfInBounds_toArray, List.set_cons_zero, List.set_cons_succ, i64_w, i32_w]
           rfl
          refine pure_ (i := 15) (N := some 39) (v := ?_) (a' := ?_) #[true, true, true, true, true, true, true, true, true, true, true, true, true, true, true, true, false, false, false] rfl rfl (any_of HT_.out (by kernel_rfl)) (fun _ _ _ h => h) (Or.inl ⟨by rfl, ?_⟩) ?_ ?_
          rotate_left
          ·intro w'
           go_simp
           with_reducible rfl
          rotate_left
          ·simp only [Act.put, List.setIfInBounds_toArray, List.set_cons_zero, List.set_cons_succ, i64_w, i32_w]
           rfl
          refine pure_ (i := 16) (N := some 40) (v := ?_) (a' := ?_) #[true, true, true, true, true, true, true, true, true, true, true, true, true, true, true, true, true, false, false] rfl rfl (any_of HT_.out (by kernel_rfl)) (fun _ _ _ h => h) (Or.inl ⟨by rfl, ?_⟩) ?_ ?_
          rotate_left
          ·intro w'
           go_simp
           with_reducible rfl
          rotate_left
          ·simp only [Act.put, List.setIfInBounds_toArray, List.set_cons_zero, List.set_cons_succ, i64_w, i32_w]
           rfl
          refine pure_ (i := 17) (N := some 41) (v := ?_) (a' := ?_) #[true, true, true, true, true, true, true, true, true, true, true, true, true, true, true, true, true, true, false] rfl rfl (any_of HT_.out (by kernel_rfl)) (fun _ _ _ h => h) (Or.inl ⟨by rfl, ?_⟩) ?_ ?_
          rotate_left
          ·intro w'
           go_simp
           with_reducible rfl
          rotate_left
          ·simp only [Act.put, List.setIfInBounds_toArray, List.set_cons_zero, List.set_cons_succ, i64_w, i32_w]
           rfl
          refine pure_ (i := 18) (N := some 42) (v := ?_) (a' := ?_) #[true, true, true, true, true, true, true, true, true, true, true, true, true, true, true, true, true, true, true] rfl rfl (any_of HT_.out (by kernel_rfl)) (fun _ _ _ h => h) (Or.inl ⟨by rfl, ?_⟩) ?_ ?_
          rotate_left
          ·intro w'
           go_simp
           with_reducible rfl
          rotate_left
          ·simp only [Act.put, List.setIfInBounds_toArray, List.set_cons_zero, List.set_cons_succ, i64_w, i32_w]
           rfl
          refine done_ (done_of HT_.out (by kernel_rfl)) ?_
          try go_wp2
          have n0_ := Aside0.mk (Kd.N_drew HO195.out)
          have n1_ := Aside0.mk (Kd.R_drew HO198.out)
          have n2_ := Aside0.mk (Kd.R_drew HO202.out)
          have n3_ := Aside0.mk (Kd.R_drew HO216.out)
          have n4_ := Aside0.mk (Kd.V_drew HO222.out)
          have n5_ := Aside0.mk (Kd.R_drew HO226.out)
          have n6_ := Aside0.mk (blk_drew BK199.out)
          have n7_ := Aside0.mk (blk_drew BK203.out)
          have n8_ := Aside0.mk (below_drew1 HB.out)
          clear HO195
          clear HO198
          clear HO202
          clear HO216
          clear HO222
          clear HO226
          clear BK199
          clear BK203
          clear HB
          have HO195 := n0_
          have HO198 := n1_
          have HO202 := n2_
          have HO216 := n3_
          have HO222 := n4_
          have HO226 := n5_
          have BK199 := n6_
          have BK203 := n7_
          have HB := n8_
          clear n0_ n1_ n2_ n3_ n4_ n5_ n6_ n7_ n8_
          refine start_ (n := 38) (S := fun w' => w'.cell? ⟨gb199, 0, none⟩ = some (.slice Ao44 t196.length co44)) (ds := []) #[false, false, false, false, false, false, false, false, false, false, false, false, false, false, false, false, false, false, false, false, false, false, false, false, false, false, false, false, false, false, false, false, false, false, false, false, false, false] (by kernel_rfl) rfl rfl ((blk_cell BK199.out 0).trans rfl) (fun hHeld => ?_); refine with_tabW sizarlaw35_sane.tab8 sizarlaw35_sane.bits8 (fun HT_ HW_ => ?_)
          generalize w60.drew = w62 at HO195 HO198 HO202 HO216 HO222 HO226 BK199 BK203 HB hHeld ⊢
          refine take_ (i := 0) (N := some 43) (v := ?_) (a' := ?_) #[true, false, false, false, false, false, false, false, false, false, false, false, false, false, false, false, false, false, false, false, false, false, false, false, false, false, false, false, false, false, false, false, false, false, false, false, false, false] rfl rfl (take_ofW HT_.out HW_.out (by kernel_rfl)) (fun _ _ _ h => h) (Or.inl ⟨by rfl, ?_⟩) hHeld ?_ ?_
          rotate_left
          ·intro w' s0
           go_simp
           with_reducible rfl
          rotate_left
          ·simp only [Act.put, List.setIfInBounds_toArray, List.set_cons_zero, List.set_cons_succ, i64_w, i32_w]
           rfl
          refine one_ (i := 1) (N := some 44) #[true, true, false, false, false, false, false, false, false, false, false, false, false, false, false, false, false, false, false, false, false, false, false, false, false, false, false, false, false, false, false, false, false, false, false, false, false, false] rfl rfl (one_of HT_.out (by kernel_rfl)) (by decide) (fun K hK => ?_)
          refine goes_ Try.func16 (by kernel_rfl) rfl #[.agg #[.slice Ao44 t196.length co44], .int .i64 2] (by rfl) rfl rfl (by (try simp only [List.map_toArray, List.map_cons, List.map_nil]); first | done | rfl | (simp only [List.length_drop, List.length_take]; rfl)) ?_
          with_reducible refine (index_Check.calls k _ _ t196 2 t227 _ ?side1 ?side2 A15.out).mono ?_
          (case side1 => repeat (first | exact (Kd.R_reads' HO198.out).2.2 | (with_reducible refine Kd.C_alloc ?_ _) | (with_reducible refine Kd.C_drewN ?_ _) | (with_reducible refine Kd.C_drew ?_)))
          (case side2 => exact (Kd.R_reads' HO198.out).2.1)
          rintro e w63 ⟨rfl, hb⟩
          refine ⟨_, rfl, ?_⟩
          have n0_ := Aside0.mk (Kd.N_below (by (with_reducible repeat (first | apply Kd.N_alloc | apply Kd.N_drewN | apply Kd.N_drew)); exact HO195.out) hb)
          have n1_ := Aside0.mk (Kd.R_below (by (with_reducible repeat (first | apply Kd.R_alloc | apply Kd.R_drewN | apply Kd.R_drew)); exact HO198.out) hb)
          have n2_ := Aside0.mk (Kd.R_below (by (with_reducible repeat (first | apply Kd.R_alloc | apply Kd.R_drewN | apply Kd.R_drew)); exact HO202.out) hb)
          have n3_ := Aside0.mk (Kd.R_below (by (with_reducible repeat (first | apply Kd.R_alloc | apply Kd.R_drewN | apply Kd.R_drew)); exact HO216.out) hb)
          have n4_ := Aside0.mk (Kd.V_below (by (with_reducible repeat (first | apply Kd.V_alloc | apply Kd.V_drewN | apply Kd.V_drew)); exact HO222.out) hb)
          have n5_ := Aside0.mk (Kd.R_below (by (with_reducible repeat (first | apply Kd.R_alloc | apply Kd.R_drewN | apply Kd.R_drew)); exact HO226.out) hb)
          have n6_ := Aside0.mk (blk_below (g := gb199) (o := .cells #[.slice Ao44 t196.length co44] 28 (0, 0)) (by (with_reducible repeat (first | refine blk_drewN ?_ _ | refine blk_drew ?_ | refine blk_alloc ?_ _)); exact BK199.out) hb)
          have n7_ := Aside0.mk (blk_below (g := gb203) (o := .cells #[.slice Ao48 t200.length co48] 28 (0, 0)) (by (with_reducible repeat (first | refine blk_drewN ?_ _ | refine blk_drew ?_ | refine blk_alloc ?_ _)); exact BK203.out) hb)
          have n8_ := Aside0.mk (below_step (by repeat (first | (with_reducible first | exact HB.out | apply below_alloc | apply pw_below_drewN | apply below_drew1 | refine below_set ?_ GE199.out | refine below_set ?_ GE203.out) | exact HB.out)) hb)
          clear HO195
          clear HO198
          clear HO202
          clear HO216
          clear HO222
          clear HO226
          clear BK199
          clear BK203
          clear HB
          have HO195 := n0_
          have HO198 := n1_
          have HO202 := n2_
          have HO216 := n3_
          have HO222 := n4_
          have HO226 := n5_
          have BK199 := n6_
          have BK203 := n7_
          have HB := n8_
          clear n0_ n1_ n2_ n3_ n4_ n5_ n6_ n7_ n8_
          (try clear hb)
          (try clear hb2)
          (try clear hk)
          (try clear hi)
          refine hK.out _ _ ((blk_cell BK199.out 0).trans rfl) (fun hHeld => ?_)
          clear hK K
          refine norm_ (a' := ?_) ?_ ?_
          rotate_left
          ·show Act.put _ (some 44) _ = _
           simp only [Act.put, List.setIfInBounds_toArray, List.set_cons_zero, List.set_cons_succ, i64_w, i32_w]
           rfl
          refine pure_ (i := 2) (N := some 45) (v := ?_) (a' := ?_) #[true, true, true, false, false, false, false, false, false, false, false, false, false, false, false, false, false, false, false, false, false, false, false, false, false, false, false, false, false, false, false, false, false, false, false, false, false, false] rfl rfl (any_of HT_.out (by kernel_rfl)) (fun _ _ _ h => h) (Or.inl ⟨by rfl, ?_⟩) ?_ ?_
          rotate_left
          ·intro w'
           go_simp
           with_reducible rfl
          rotate_left
          ·simp only [Act.put, List.setIfInBounds_toArray, List.set_cons_zero, List.set_cons_succ, i64_w, i32_w]
           rfl
          refine pure_ (i := 3) (N := some 46) (v := ?_) (a' := ?_) #[true, true, true, true, false, false, false, false, false, false, false, false, false, false, false, false, false, false, false, false, false, false, false, false, false, false, false, false, false, false, false, false, false, false, false, false, false, false] rfl rfl (any_of HT_.out (by kernel_rfl)) (fun _ _ _ h => h) (Or.inl ⟨by rfl, ?_⟩) ?_ ?_
          rotate_left
          ·intro w'
           go_simp
           with_reducible rfl
          rotate_left
          ·simp only [Act.put, List.setIfInBounds_toArray, List.set_cons_zero, List.set_cons_succ, i64_w, i32_w]
           rfl
          refine take_ (i := 4) (N := some 47) (v := ?_) (a' := ?_) #[true, true, true, true, true, false, false, false, false, false, false, false, false, false, false, false, false, false, false, false, false, false, false, false, false, false, false, false, false, false, false, false, false, false, false, false, false, false] rfl rfl (take_ofW HT_.out HW_.out (by kernel_rfl)) (fun _ _ _ h => h) (Or.inl ⟨by rfl, ?_⟩) hHeld ?_ ?_
          rotate_left
          ·intro w' s0
           go_simp
           with_reducible rfl
          rotate_left
          ·simp only [Act.put, List.setIfInBounds_toArray, List.set_cons_zero, List.set_cons_succ, i64_w, i32_w]
           rfl
          refine one_ (i := 5) (N := some 48) #[true, true, true, true, true, true, false, false, false, false, false, false, false, false, false, false, false, false, false, false, false, false, false, false, false, false, false, false, false, false, false, false, false, false, false, false, false, false] rfl rfl (one_of HT_.out (by kernel_rfl)) (by decide) (fun K hK => ?_)
          refine goes_ Try.func16 (by kernel_rfl) rfl #[.agg #[.slice Ao44 t196.length co44], .int .i64 1] (by rfl) rfl rfl (by (try simp only [List.map_toArray, List.map_cons, List.map_nil]); first | done | rfl | (simp only [List.length_drop, List.length_take]; rfl)) ?_
          with_reducible refine (index_Check.calls k _ _ t196 1 t228 _ ?side1 ?side2 A17.out).mono ?_
          (case side1 => repeat (first | exact (Kd.R_reads' HO198.out).2.2 | (with_reducible refine Kd.C_alloc ?_ _) | (with_reducible refine Kd.C_drewN ?_ _) | (with_reducible refine Kd.C_drew ?_)))
          (case side2 => exact (Kd.R_reads' HO198.out).2.1)
          rintro e w64 ⟨rfl, hb⟩
          refine ⟨_, rfl, ?_⟩
          have n0_ := Aside0.mk (Kd.N_below (by (with_reducible repeat (first | apply Kd.N_alloc | apply Kd.N_drewN | apply Kd.N_drew)); exact HO195.out) hb)
          have n1_ := Aside0.mk (Kd.R_below (by (with_reducible repeat (first | apply Kd.R_alloc | apply Kd.R_drewN | apply Kd.R_drew)); exact HO198.out) hb)
          have n2_ := Aside0.mk (Kd.R_below (by (with_reducible repeat (first | apply Kd.R_alloc | apply Kd.R_drewN | apply Kd.R_drew)); exact HO202.out) hb)
          have n3_ := Aside0.mk (Kd.R_below (by (with_reducible repeat (first | apply Kd.R_alloc | apply Kd.R_drewN | apply Kd.R_drew)); exact HO216.out) hb)
          have n4_ := Aside0.mk (Kd.V_below (by (with_reducible repeat (first | apply Kd.V_alloc | apply Kd.V_drewN | apply Kd.V_drew)); exact HO222.out) hb)
          have n5_ := Aside0.mk (Kd.R_below (by (with_reducible repeat (first | apply Kd.R_alloc | apply Kd.R_drewN | apply Kd.R_drew)); exact HO226.out) hb)
          have n6_ := Aside0.mk (blk_below (g := gb199) (o := .cells #[.slice Ao44 t196.length co44] 28 (0, 0)) (by (with_reducible repeat (first | refine blk_drewN ?_ _ | refine blk_drew ?_ | refine blk_alloc ?_ _)); exact BK199.out) hb)
          have n7_ := Aside0.mk (blk_below (g := gb203) (o := .cells #[.slice Ao48 t200.length co48] 28 (0, 0)) (by (with_reducible repeat (first | refine blk_drewN ?_ _ | refine blk_drew ?_ | refine blk_alloc ?_ _)); exact BK203.out) hb)
          have n8_ := Aside0.mk (below_step (by repeat (first | (with_reducible first | exact HB.out | apply below_alloc | apply pw_below_drewN | apply below_drew1 | refine below_set ?_ GE199.out | refine below_set ?_ GE203.out) | exact HB.out)) hb)
          clear HO195
          clear HO198
          clear HO202
          clear HO216
          clear HO222
          clear HO226
          clear BK199
          clear BK203
          clear HB
          have HO195 := n0_
          have HO198 := n1_
          have HO202 := n2_
          have HO216 := n3_
          have HO222 := n4_
          have HO226 := n5_
          have BK199 := n6_
          have BK203 := n7_
          have HB := n8_
          clear n0_ n1_ n2_ n3_ n4_ n5_ n6_ n7_ n8_
          (try clear hb)
          (try clear hb2)
          (try clear hk)
          (try clear hi)
          refine hK.out _ _ ((blk_cell BK199.out 0).trans rfl) (fun hHeld => ?_)
          clear hK K
          refine norm_ (a' := ?_) ?_ ?_
          rotate_left
          ·show Act.put _ (some 48) _ = _
           simp only [Act.put, List.setIfInBounds_toArray, List.set_cons_zero, List.set_cons_succ, i64_w, i32_w]
           rfl
          refine pure_ (i := 6) (N := some 49) (v := ?_) (a' := ?_) #[true, true, true, true, true, true, true, false, false, false, false, false, false, false, false, false, false, false, false, false, false, false, false, false, false, false, false, false, false, false, false, false, false, false, false, false, false, false] rfl rfl (any_of HT_.out (by kernel_rfl)) (fun _ _ _ h => h) (Or.inl ⟨by rfl, ?_⟩) ?_ ?_
          rotate_left
          ·intro w'
           go_simp
           with_reducible rfl
          rotate_left
          ·simp only [Act.put, List.setIfInBounds_toArray, List.set_cons_zero, List.set_cons_succ, i64_w, i32_w]
           rfl
          refine pure_ (i := 7) (N := some 50) (v := ?_) (a' := ?_) #[true, true, true, true, true, true, true, true, false, false, false, false, false, false, false, false, false, false, false, false, false, false, false, false, false, false, false, false, false, false, false, false, false, false, false, false, false, false] rfl rfl (any_of HT_.out (by kernel_rfl)) (fun _ _ _ h => h) (Or.inl ⟨by rfl, ?_⟩) ?_ ?_
          rotate_left
          ·intro w'
           go_simp
           with_reducible rfl
          rotate_left
          ·simp only [Act.put, List.setIfInBounds_toArray, List.set_cons_zero, List.set_cons_succ, i64_w, i32_w]
           rfl
          refine pure_ (i := 8) (N := some 51) (v := ?_) (a' := ?_) #[true, true, true, true, true, true, true, true, true, false, false, false, false, false, false, false, false, false, false, false, false, false, false, false, false, false, false, false, false, false, false, false, false, false, false, false, false, false] rfl rfl (any_of HT_.out (by kernel_rfl)) (fun _ _ _ h => h) (Or.inl ⟨by rfl, ?_⟩) ?_ ?_
          rotate_left
          ·intro w'
           go_simp
           with_reducible rfl
          rotate_left
          ·simp only [Act.put, List.setIfInBounds_toArray, List.set_cons_zero, List.set_cons_succ, i64_w, i32_w]
           rfl
          refine pure_ (i := 9) (N := some 52) (v := ?_) (a' := ?_) #[true, true, true, true, true, true, true, true, true, true, false, false, false, false, false, false, false, false, false, false, false, false, false, false, false, false, false, false, false, false, false, false, false, false, false, false, false, false] rfl rfl (any_of HT_.out (by kernel_rfl)) (fun _ _ _ h => h) (Or.inl ⟨by rfl, ?_⟩) ?_ ?_
          rotate_left
          ·intro w'
           go_simp
           with_reducible rfl
          rotate_left
          ·simp only [Act.put, List.setIfInBounds_toArray, List.set_cons_zero, List.set_cons_succ, i64_w, i32_w]
           rfl
          refine one_ (i := 10) (N := some 53) #[true, true, true, true, true, true, true, true, true, true, true, false, false, false, false, false, false, false, false, false, false, false, false, false, false, false, false, false, false, false, false, false, false, false, false, false, false, false] rfl rfl (one_of HT_.out (by kernel_rfl)) (by decide) (fun K hK => ?_)
          refine goes_ Try.func16 (by kernel_rfl) rfl #[.agg #[.slice none 0 0], .int .i64 0] (by rfl) rfl rfl (by (try simp only [List.map_toArray, List.map_cons, List.map_nil]); first | done | rfl | (simp only [List.length_drop, List.length_take]; rfl)) ?_
          refine (index_Check.calls k _ _ ([] : List (S49)) 0 t229 _ ?side1 ?side2 A19.out).mono ?_
          (case side1 => exact Kd.C_nil _ _)
          (case side2 => exact Nat.le_refl _)
          rintro e w65 ⟨rfl, hb⟩
          refine ⟨_, rfl, ?_⟩
          have n0_ := Aside0.mk (Kd.N_below (by (with_reducible repeat (first | apply Kd.N_alloc | apply Kd.N_drewN | apply Kd.N_drew)); exact HO195.out) hb)
          have n1_ := Aside0.mk (Kd.R_below (by (with_reducible repeat (first | apply Kd.R_alloc | apply Kd.R_drewN | apply Kd.R_drew)); exact HO198.out) hb)
          have n2_ := Aside0.mk (Kd.R_below (by (with_reducible repeat (first | apply Kd.R_alloc | apply Kd.R_drewN | apply Kd.R_drew)); exact HO202.out) hb)
          have n3_ := Aside0.mk (Kd.R_below (by (with_reducible repeat (first | apply Kd.R_alloc | apply Kd.R_drewN | apply Kd.R_drew)); exact HO216.out) hb)
          have n4_ := Aside0.mk (Kd.V_below (by (with_reducible repeat (first | apply Kd.V_alloc | apply Kd.V_drewN | apply Kd.V_drew)); exact HO222.out) hb)
          have n5_ := Aside0.mk (Kd.R_below (by (with_reducible repeat (first | apply Kd.R_alloc | apply Kd.R_drewN | apply Kd.R_drew)); exact HO226.out) hb)
          have n6_ := Aside0.mk (blk_below (g := gb199) (o := .cells #[.slice Ao44 t196.length co44] 28 (0, 0)) (by (with_reducible repeat (first | refine blk_drewN ?_ _ | refine blk_drew ?_ | refine blk_alloc ?_ _)); exact BK199.out) hb)
          have n7_ := Aside0.mk (blk_below (g := gb203) (o := .cells #[.slice Ao48 t200.length co48] 28 (0, 0)) (by (with_reducible repeat (first | refine blk_drewN ?_ _ | refine blk_drew ?_ | refine blk_alloc ?_ _)); exact BK203.out) hb)
          have n8_ := Aside0.mk (below_step (by repeat (first | (with_reducible first | exact HB.out | apply below_alloc | apply pw_below_drewN | apply below_drew1 | refine below_set ?_ GE199.out | refine below_set ?_ GE203.out) | exact HB.out)) hb)
          clear HO195
          clear HO198
          clear HO202
          clear HO216
          clear HO222
          clear HO226
          clear BK199
          clear BK203
          clear HB
          have HO195 := n0_
          have HO198 := n1_
          have HO202 := n2_
          have HO216 := n3_
          have HO222 := n4_
          have HO226 := n5_
          have BK199 := n6_
          have BK203 := n7_
          have HB := n8_
          clear n0_ n1_ n2_ n3_ n4_ n5_ n6_ n7_ n8_
          (try clear hb)
          (try clear hb2)
          (try clear hk)
          (try clear hi)
          refine hK.out _ _ ((blk_cell BK199.out 0).trans rfl) (fun hHeld => ?_)
          clear hK K
          refine norm_ (a' := ?_) ?_ ?_
          rotate_left
          ·show Act.put _ (some 53) _ = _
           simp only [Act.put, List.setIfInBounds_toArray, List.set_cons_zero, List.set_cons_succ, i64_w, i32_w]
           rfl
          refine pure_ (i := 11) (N := some 54) (v := ?_) (a' := ?_) #[true, true, true, true, true, true, true, true, true, true, true, true, false, false, false, false, false, false, false, false, false, false, false, false, false, false, false, false, false, false, false, false, false, false, false, false, false, false] rfl rfl (any_of HT_.out (by kernel_rfl)) (fun _ _ _ h => h) (Or.inl ⟨by rfl, ?_⟩) ?_ ?_
          rotate_left
          ·intro w'
           go_simp
           with_reducible rfl
          rotate_left
          ·simp only [Act.put, List.setIfInBounds_toArray, List.set_cons_zero, List.set_cons_succ, i64_w, i32_w]
           rfl
          refine pure_ (i := 12) (N := some 55) (v := ?_) (a' := ?_) #[true, true, true, true, true, true, true, true, true, true, true, true, true, false, false, false, false, false, false, false, false, false, false, false, false, false, false, false, false, false, false, false, false, false, false, false, false, false] rfl rfl (any_of HT_.out (by kernel_rfl)) (fun _ _ _ h => h) (Or.inl ⟨by rfl, ?_⟩) ?_ ?_
          rotate_left
          ·intro w'
           go_simp
           with_reducible rfl
          rotate_left
          ·simp only [Act.put, List.setIfInBounds_toArray, List.set_cons_zero, List.set_cons_succ, i64_w, i32_w]
           rfl
          refine pure_ (i := 13) (N := some 56) (v := ?_) (a' := ?_) #[true, true, true, true, true, true, true, true, true, true, true, true, true, true, false, false, false, false, false, false, false, false, false, false, false, false, false, false, false, false, false, false, false, false, false, false, false, false] rfl rfl (any_of HT_.out (by kernel_rfl)) (fun _ _ _ h => h) (Or.inl ⟨by rfl, ?_⟩) ?_ ?_
          rotate_left
          ·intro w'
           go_simp
           with_reducible rfl
          rotate_left
          ·simp only [Act.put, List.setIfInBounds_toArray, List.set_cons_zero, List.set_cons_succ, i64_w, i32_w]
           rfl
          refine pure_ (i := 15) (N := some 58) (v := ?_) (a' := ?_) #[true, true, true, true, true, true, true, true, true, true, true, true, true, true, false, true, false, false, false, false, false, false, false, false, false, false, false, false, false, false, false, false, false, false, false, false, false, false] rfl rfl (any_of HT_.out (by kernel_rfl)) (fun _ _ _ h => h) (Or.inl ⟨by rfl, ?_⟩) ?_ ?_
          rotate_left
          ·intro w'
           go_simp
           with_reducible rfl
          rotate_left
          ·simp only [Act.put, List.setIfInBounds_toArray, List.set_cons_zero, List.set_cons_succ, i64_w, i32_w]
           rfl
          refine take_ (i := 14) (N := some 57) (v := ?_) (a' := ?_) #[true, true, true, true, true, true, true, true, true, true, true, true, true, true, true, true, false, false, false, false, false, false, false, false, false, false, false, false, false, false, false, false, false, false, false, false, false, false] rfl rfl (take_ofW HT_.out HW_.out (by kernel_rfl)) (fun _ _ _ h => h) (Or.inl ⟨by rfl, ?_⟩) hHeld ?_ ?_
          rotate_left
          ·intro w' s0
           go_simp
           with_reducible rfl
          rotate_left
          ·simp only [Act.put, List.setIfInBounds_toArray, List.set_cons_zero, List.set_cons_succ, i64_w, i32_w]
           rfl
          refine one_ (i := 16) (N := some 59) #[true, true, true, true, true, true, true, true, true, true, true, true, true, true, true, true, true, false, false, false, false, false, false, false, false, false, false, false, false, false, false, false, false, false, false, false, false, false] rfl rfl (one_of HT_.out (by kernel_rfl)) (by decide) (fun K hK => ?_)
          refine goesV_ Try.func27 (by kernel_rfl) rfl #[.int .i64 5] (by rfl) rfl rfl rfl (by (try simp only [List.map_toArray, List.map_cons, List.map_nil]); first | done | rfl | (simp only [List.length_drop, List.length_take]; rfl)) ?_
          with_reducible refine (sizarlaw35_sane_1.calls 5 t230 _ A21.out).mono ?_
          rintro e w66 ⟨v231, rfl, ho0, hb⟩
          refine ⟨_, rfl, ?_⟩
          have n0_ := Aside0.mk (Kd.N_elder' (by (with_reducible repeat (first | apply Kd.N_alloc | apply Kd.N_drewN | apply Kd.N_drew)); exact HO195.out) (Kd.N_base ho0) hb)
          have n1_ := Aside0.mk (Kd.R_below (by (with_reducible repeat (first | apply Kd.R_alloc | apply Kd.R_drewN | apply Kd.R_drew)); exact HO198.out) hb)
          have n2_ := Aside0.mk (Kd.R_below (by (with_reducible repeat (first | apply Kd.R_alloc | apply Kd.R_drewN | apply Kd.R_drew)); exact HO202.out) hb)
          have n3_ := Aside0.mk (Kd.R_below (by (with_reducible repeat (first | apply Kd.R_alloc | apply Kd.R_drewN | apply Kd.R_drew)); exact HO216.out) hb)
          have n4_ := Aside0.mk (Kd.V_elder' (by (with_reducible repeat (first | apply Kd.V_alloc | apply Kd.V_drewN | apply Kd.V_drew)); exact HO222.out) (Kd.N_base ho0) hb)
          have n5_ := Aside0.mk (Kd.R_below (by (with_reducible repeat (first | apply Kd.R_alloc | apply Kd.R_drewN | apply Kd.R_drew)); exact HO226.out) hb)
          have n6_ := Aside0.mk (Kd.N_lower (Kd.N_mono (ok' := fun k_ => some k_ ≠ (.slice Ao41 y193.length co41 : Value).ownBlock ∧ some k_ ≠ (.slice Ao44 t196.length co44 : Value).ownBlock ∧ some k_ ≠ (.slice Ao48 t200.length co48 : Value).ownBlock ∧ some k_ ≠ (.slice Ao56 y214.length co56 : Value).ownBlock ∧ some k_ ≠ (.slice Ao61 t224.length co61 : Value).ownBlock ∧ k_ ≠ gb199 ∧ k_ ≠ gb203) ho0 (fun k_ hk_ => ⟨(Kd.fresh' (Kd.N_lt (by (with_reducible repeat (first | apply Kd.N_alloc | apply Kd.N_drewN | apply Kd.N_drew)); exact HO195.out)) k_ hk_), (Kd.fresh' (Kd.R_lt (by (with_reducible repeat (first | apply Kd.R_alloc | apply Kd.R_drewN | apply Kd.R_drew)); exact HO198.out)) k_ hk_), (Kd.fresh' (Kd.R_lt (by (with_reducible repeat (first | apply Kd.R_alloc | apply Kd.R_drewN | apply Kd.R_drew)); exact HO202.out)) k_ hk_), (Kd.fresh' (Kd.R_lt (by (with_reducible repeat (first | apply Kd.R_alloc | apply Kd.R_drewN | apply Kd.R_drew)); exact HO216.out)) k_ hk_), (Kd.fresh' (Kd.R_lt (by (with_reducible repeat (first | apply Kd.R_alloc | apply Kd.R_drewN | apply Kd.R_drew)); exact HO226.out)) k_ hk_), (Kd.freshB (g := gb199) (o := .cells #[.slice Ao44 t196.length co44] 28 (0, 0)) (by (with_reducible repeat (first | refine blk_drewN ?_ _ | refine blk_drew ?_ | refine blk_alloc ?_ _)); exact BK199.out) k_ hk_), (Kd.freshB (g := gb203) (o := .cells #[.slice Ao48 t200.length co48] 28 (0, 0)) (by (with_reducible repeat (first | refine blk_drewN ?_ _ | refine blk_drew ?_ | refine blk_alloc ?_ _)); exact BK203.out) k_ hk_)⟩)) (below_size (by repeat (first | (with_reducible first | exact HB.out | apply below_alloc | apply pw_below_drewN | apply below_drew1 | refine below_set ?_ GE199.out | refine below_set ?_ GE203.out) | exact HB.out))))
          have n7_ := Aside0.mk (blk_below (g := gb199) (o := .cells #[.slice Ao44 t196.length co44] 28 (0, 0)) (by (with_reducible repeat (first | refine blk_drewN ?_ _ | refine blk_drew ?_ | refine blk_alloc ?_ _)); exact BK199.out) hb)
          have n8_ := Aside0.mk (blk_below (g := gb203) (o := .cells #[.slice Ao48 t200.length co48] 28 (0, 0)) (by (with_reducible repeat (first | refine blk_drewN ?_ _ | refine blk_drew ?_ | refine blk_alloc ?_ _)); exact BK203.out) hb)
          have n9_ := Aside0.mk (below_step (by repeat (first | (with_reducible first | exact HB.out | apply below_alloc | apply pw_below_drewN | apply below_drew1 | refine below_set ?_ GE199.out | refine below_set ?_ GE203.out) | exact HB.out)) hb)
          clear HO195
          clear HO198
          clear HO202
          clear HO216
          clear HO222
          clear HO226
          clear BK199
          clear BK203
          clear HB
          have HO195 := n0_
          have HO198 := n1_
          have HO202 := n2_
          have HO216 := n3_
          have HO222 := n4_
          have HO226 := n5_
          have HO232 := n6_
          have BK199 := n7_
          have BK203 := n8_
          have HB := n9_
          clear n0_ n1_ n2_ n3_ n4_ n5_ n6_ n7_ n8_ n9_
          (try clear hb)
          (try clear hb2)
          (try clear hk)
          (try clear hi)
          (try clear ho0)
          obtain ⟨Ao67, co67, eo67⟩ := Kd.N_slice HO232.out
          (first | subst eo67 | (injection eo67 with f1_ f2_ f3_; have f4_ := f1_.symm; have f5_ := f3_.symm; clear f1_ f2_ f3_; subst f4_; subst f5_))
          refine hK.out _ _ ((blk_cell BK199.out 0).trans rfl) (fun hHeld => ?_)
          clear hK K
          refine norm_ (a' := ?_) ?_ ?_
          rotate_left
          ·show Act.put _ (some 59) _ = _
           simp only [Act.put, List.setIfInBounds_toArray, List.set_cons_zero, List.set_cons_succ, i64_w, i32_w]
           rfl
          refine one_ (i := 17) (N := some 60) #[true, true, true, true, true, true, true, true, true, true, true, true, true, true, true, true, true, true, false, false, false, false, false, false, false, false, false, false, false, false, false, false, false, false, false, false, false, false] rfl rfl (one_of HT_.out (by kernel_rfl)) (by decide) (fun K hK => ?_)
          refine goes_ Try.func21 (by kernel_rfl) rfl #[.agg #[.slice Ao44 t196.length co44], .slice Ao67 t230.length co67] (by rfl) rfl rfl (by (try simp only [List.map_toArray, List.map_cons, List.map_nil]); first | done | rfl | (simp only [List.length_drop, List.length_take]; rfl)) ?_
          with_reducible refine (index_Affected.calls _ _ t196 _ _ t230 t233 _ ?side1 ?side2 ?side3 ?side4 A22.out).mono ?_
          (case side1 => repeat (first | exact (Kd.R_reads' HO198.out).2.2 | (with_reducible refine Kd.C_alloc ?_ _) | (with_reducible refine Kd.C_drewN ?_ _) | (with_reducible refine Kd.C_drew ?_)))
          (case side2 => exact (Kd.R_reads' HO198.out).2.1)
          (case side3 => repeat (first | exact (Kd.N_reads' HO232.out).2.2 | (with_reducible refine Kd.C_alloc ?_ _) | (with_reducible refine Kd.C_drewN ?_ _) | (with_reducible refine Kd.C_drew ?_)))
          (case side4 => exact (Kd.N_reads' HO232.out).2.1)
          rintro e w68 ⟨v234, rfl, ho0, hb⟩
          refine ⟨_, rfl, ?_⟩
          have n0_ := Aside0.mk (Kd.N_elder' (by (with_reducible repeat (first | apply Kd.N_alloc | apply Kd.N_drewN | apply Kd.N_drew)); exact HO195.out) (Kd.R_base ho0) hb)
          have n1_ := Aside0.mk (Kd.R_below (by (with_reducible repeat (first | apply Kd.R_alloc | apply Kd.R_drewN | apply Kd.R_drew)); exact HO198.out) hb)
          have n2_ := Aside0.mk (Kd.R_below (by (with_reducible repeat (first | apply Kd.R_alloc | apply Kd.R_drewN | apply Kd.R_drew)); exact HO202.out) hb)
          have n3_ := Aside0.mk (Kd.R_below (by (with_reducible repeat (first | apply Kd.R_alloc | apply Kd.R_drewN | apply Kd.R_drew)); exact HO216.out) hb)
          have n4_ := Aside0.mk (Kd.V_elder' (by (with_reducible repeat (first | apply Kd.V_alloc | apply Kd.V_drewN | apply Kd.V_drew)); exact HO222.out) (Kd.R_base ho0) hb)
          have n5_ := Aside0.mk (Kd.R_below (by (with_reducible repeat (first | apply Kd.R_alloc | apply Kd.R_drewN | apply Kd.R_drew)); exact HO226.out) hb)
          have n6_ := Aside0.mk (Kd.N_elder' (by (with_reducible repeat (first | apply Kd.N_alloc | apply Kd.N_drewN | apply Kd.N_drew)); exact HO232.out) (Kd.R_base ho0) hb)
          have n7_ := Aside0.mk (Kd.R_lower ho0 (below_size (by repeat (first | (with_reducible first | exact HB.out | apply below_alloc | apply pw_below_drewN | apply below_drew1 | refine below_set ?_ GE199.out | refine below_set ?_ GE203.out) | exact HB.out))))
          have n8_ := Aside0.mk (blk_below (g := gb199) (o := .cells #[.slice Ao44 t196.length co44] 28 (0, 0)) (by (with_reducible repeat (first | refine blk_drewN ?_ _ | refine blk_drew ?_ | refine blk_alloc ?_ _)); exact BK199.out) hb)
          have n9_ := Aside0.mk (blk_below (g := gb203) (o := .cells #[.slice Ao48 t200.length co48] 28 (0, 0)) (by (with_reducible repeat (first | refine blk_drewN ?_ _ | refine blk_drew ?_ | refine blk_alloc ?_ _)); exact BK203.out) hb)
          have n10_ := Aside0.mk (below_step (by repeat (first | (with_reducible first | exact HB.out | apply below_alloc | apply pw_below_drewN | apply below_drew1 | refine below_set ?_ GE199.out | refine below_set ?_ GE203.out) | exact HB.out)) hb)
          clear HO195
          clear HO198
          clear HO202
          clear HO216
          clear HO222
          clear HO226
          clear HO232
          clear BK199
          clear BK203
          clear HB
          have HO195 := n0_
          have HO198 := n1_
          have HO202 := n2_
          have HO216 := n3_
          have HO222 := n4_
          have HO226 := n5_
          have HO232 := n6_
          have HO235 := n7_
          have BK199 := n8_
          have BK203 := n9_
          have HB := n10_
          clear n0_ n1_ n2_ n3_ n4_ n5_ n6_ n7_ n8_ n9_ n10_
          (try clear hb)
          (try clear hb2)
          (try clear hk)
          (try clear hi)
          (try clear ho0)
          obtain ⟨Ao69, co69, eo69⟩ := Kd.R_slice HO235.out
          (first | subst eo69 | (injection eo69 with f1_ f2_ f3_; have f4_ := f1_.symm; have f5_ := f3_.symm; clear f1_ f2_ f3_; subst f4_; subst f5_))
          refine hK.out _ _ ((blk_cell BK199.out 0).trans rfl) (fun hHeld => ?_)
          clear hK K
          refine norm_ (a' := ?_) ?_ ?_
          rotate_left
          ·show Act.put _ (some 60) _ = _
           simp only [Act.put, List.setIfInBounds_toArray, List.set_cons_zero, List.set_cons_succ, i64_w, i32_w]
           rfl
          refine pure_ (i := 18) (N := some 61) (v := ?_) (a' := ?_) #[true, true, true, true, true, true, true, true, true, true, true, true, true, true, true, true, true, true, true, false, false, false, false, false, false, false, false, false, false, false, false, false, false, false, false, false, false, false] rfl rfl (any_of HT_.out (by kernel_rfl)) (fun _ _ _ h => h) (Or.inl ⟨by rfl, ?_⟩) ?_ ?_
          rotate_left
          ·intro w'
           go_simp
           with_reducible rfl
          rotate_left
          ·simp only [Act.put, List.setIfInBounds_toArray, List.set_cons_zero, List.set_cons_succ, i64_w, i32_w]
           rfl
          refine pure_ (i := 19) (N := some 62) (v := ?_) (a' := ?_) #[true, true, true, true, true, true, true, true, true, true, true, true, true, true, true, true, true, true, true, true, false, false, false, false, false, false, false, false, false, false, false, false, false, false, false, false, false, false] rfl rfl (any_of HT_.out (by kernel_rfl)) (fun _ _ _ h => h) (Or.inl ⟨by rfl, ?_⟩) ?_ ?_
          rotate_left
          ·intro w'
           go_simp
           with_reducible rfl
          rotate_left
          ·simp only [Act.put, List.setIfInBounds_toArray, List.set_cons_zero, List.set_cons_succ, i64_w, i32_w]
           rfl
          refine pure_ (i := 20) (N := some 63) (v := ?_) (a' := ?_) #[true, true, true, true, true, true, true, true, true, true, true, true, true, true, true, true, true, true, true, true, true, false, false, false, false, false, false, false, false, false, false, false, false, false, false, false, false, false] rfl rfl (any_of HT_.out (by kernel_rfl)) (fun _ _ _ h => h) (Or.inl ⟨by rfl, ?_⟩) ?_ ?_
          rotate_left
          ·intro w'
           go_simp
           with_reducible rfl
          rotate_left
          ·simp only [Act.put, List.setIfInBounds_toArray, List.set_cons_zero, List.set_cons_succ, i64_w, i32_w]
           rfl
          refine pure_ (i := 21) (N := some 64) (v := ?_) (a' := ?_) #[true, true, true, true, true, true, true, true, true, true, true, true, true, true, true, true, true, true, true, true, true, true, false, false, false, false, false, false, false, false, false, false, false, false, false, false, false, false] rfl rfl (any_of HT_.out (by kernel_rfl)) (fun _ _ _ h => h) (Or.inl ⟨by rfl, ?_⟩) ?_ ?_
          rotate_left
          ·intro w'
           go_simp
           with_reducible rfl
          rotate_left
          ·simp only [Act.put, List.setIfInBounds_toArray, List.set_cons_zero, List.set_cons_succ, i64_w, i32_w]
           rfl
          refine pure_ (i := 23) (N := some 66) (v := ?_) (a' := ?_) #[true, true, true, true, true, true, true, true, true, true, true, true, true, true, true, true, true, true, true, true, true, true, false, true, false, false, false, false, false, false, false, false, false, false, false, false, false, false] rfl rfl (any_of HT_.out (by kernel_rfl)) (fun _ _ _ h => h) (Or.inl ⟨by rfl, ?_⟩) ?_ ?_
          rotate_left
          ·intro w'
           go_simp
           with_reducible rfl
          rotate_left
          ·simp only [Act.put, List.setIfInBounds_toArray, List.set_cons_zero, List.set_cons_succ, i64_w, i32_w]
           rfl
          refine take_ (i := 22) (N := some 65) (v := ?_) (a' := ?_) #[true, true, true, true, true, true, true, true, true, true, true, true, true, true, true, true, true, true, true, true, true, true, true, true, false, false, false, false, false, false, false, false, false, false, false, false, false, false] rfl rfl (take_ofW HT_.out HW_.out (by kernel_rfl)) (fun _ _ _ h => h) (Or.inl ⟨by rfl, ?_⟩) hHeld ?_ ?_
          rotate_left
          ·intro w' s0
           go_simp
           with_reducible rfl
          rotate_left
          ·simp only [Act.put, List.setIfInBounds_toArray, List.set_cons_zero, List.set_cons_succ, i64_w, i32_w]
           rfl
          refine join_ (σ := Value × Value × Value) 11 #[true, true, true, true, true, true, true, true, true, true, true, true, true, true, true, true, true, true, true, true, true, true, true, true, true, true, true, false, false, false, false, false, false, false, false, false, false, false] (fun s_ => [(67, s_.1), (68, s_.2.1), (69, s_.2.2)]) (fun s_ w' => (w'.cell? ⟨gb199, 0, none⟩ = some (.slice Ao44 t196.length co44)) ∧ (Kd.N k35 35 w' w.heap.size (fun k_ => some k_ ≠ (.slice Ao44 t196.length co44 : Value).ownBlock ∧ some k_ ≠ (.slice Ao48 t200.length co48 : Value).ownBlock ∧ some k_ ≠ (.slice Ao56 y214.length co56 : Value).ownBlock ∧ some k_ ≠ (.slice Ao61 t224.length co61 : Value).ownBlock ∧ some k_ ≠ (.slice Ao67 t230.length co67 : Value).ownBlock ∧ some k_ ≠ (.slice Ao69 t233.length co69 : Value).ownBlock ∧ some k_ ≠ (s_.1 : Value).ownBlock ∧ some k_ ≠ (s_.2.1 : Value).ownBlock ∧ some k_ ≠ (s_.2.2 : Value).ownBlock ∧ k_ ≠ gb199 ∧ k_ ≠ gb203) (.slice Ao41 y193.length co41) y193) ∧ (Kd.R k49 49 w' w.heap.size (fun k_ => some k_ ≠ (.slice Ao48 t200.length co48 : Value).ownBlock ∧ some k_ ≠ (.slice Ao56 y214.length co56 : Value).ownBlock ∧ some k_ ≠ (.slice Ao61 t224.length co61 : Value).ownBlock) (.slice Ao44 t196.length co44) t196) ∧ (Kd.R k49 49 w' w.heap.size (fun k_ => some k_ ≠ (.slice Ao44 t196.length co44 : Value).ownBlock ∧ some k_ ≠ (.slice Ao56 y214.length co56 : Value).ownBlock ∧ some k_ ≠ (.slice Ao61 t224.length co61 : Value).ownBlock) (.slice Ao48 t200.length co48) t200) ∧ (Kd.R k49 49 w' w.heap.size (fun k_ => some k_ ≠ (.slice Ao44 t196.length co44 : Value).ownBlock ∧ some k_ ≠ (.slice Ao48 t200.length co48 : Value).ownBlock ∧ some k_ ≠ (.slice Ao61 t224.length co61 : Value).ownBlock) (.slice Ao56 y214.length co56) y214) ∧ (Kd.V k49 49 w' w.heap.size (fun k_ => some k_ ≠ (.slice Ao41 y193.length co41 : Value).ownBlock ∧ some k_ ≠ (.slice Ao44 t196.length co44 : Value).ownBlock ∧ some k_ ≠ (.slice Ao48 t200.length co48 : Value).ownBlock ∧ some k_ ≠ (.slice Ao61 t224.length co61 : Value).ownBlock ∧ some k_ ≠ (.slice Ao67 t230.length co67 : Value).ownBlock ∧ some k_ ≠ (.slice Ao69 t233.length co69 : Value).ownBlock ∧ some k_ ≠ (s_.1 : Value).ownBlock ∧ some k_ ≠ (s_.2.1 : Value).ownBlock ∧ some k_ ≠ (s_.2.2 : Value).ownBlock ∧ k_ ≠ gb199 ∧ k_ ≠ gb203) (.slice Ao56 y218.length co56) y218) ∧ (Kd.R k49 49 w' w.heap.size (fun k_ => some k_ ≠ (.slice Ao44 t196.length co44 : Value).ownBlock ∧ some k_ ≠ (.slice Ao48 t200.length co48 : Value).ownBlock ∧ some k_ ≠ (.slice Ao56 y214.length co56 : Value).ownBlock) (.slice Ao61 t224.length co61) t224) ∧ (Kd.N k63 63 w' w.heap.size (fun k_ => some k_ ≠ (.slice Ao41 y193.length co41 : Value).ownBlock ∧ some k_ ≠ (.slice Ao44 t196.length co44 : Value).ownBlock ∧ some k_ ≠ (.slice Ao48 t200.length co48 : Value).ownBlock ∧ some k_ ≠ (.slice Ao56 y214.length co56 : Value).ownBlock ∧ some k_ ≠ (.slice Ao61 t224.length co61 : Value).ownBlock ∧ some k_ ≠ (.slice Ao69 t233.length co69 : Value).ownBlock ∧ some k_ ≠ (s_.1 : Value).ownBlock ∧ some k_ ≠ (s_.2.1 : Value).ownBlock ∧ some k_ ≠ (s_.2.2 : Value).ownBlock ∧ k_ ≠ gb199 ∧ k_ ≠ gb203) (.slice Ao67 t230.length co67) t230) ∧ (Kd.R (Kd.int .i64) 3 w' w.heap.size (fun k_ => some k_ ≠ (s_.2.1 : Value).ownBlock ∧ some k_ ≠ (s_.2.2 : Value).ownBlock) (.slice Ao69 t233.length co69) t233) ∧ (Kd.N k63 63 w' w.heap.size (fun k_ => some k_ ≠ (.slice Ao41 y193.length co41 : Value).ownBlock ∧ some k_ ≠ (.slice Ao44 t196.length co44 : Value).ownBlock ∧ some k_ ≠ (.slice Ao48 t200.length co48 : Value).ownBlock ∧ some k_ ≠ (.slice Ao56 y214.length co56 : Value).ownBlock ∧ some k_ ≠ (.slice Ao61 t224.length co61 : Value).ownBlock ∧ some k_ ≠ (.slice Ao67 t230.length co67 : Value).ownBlock ∧ some k_ ≠ (.slice Ao69 t233.length co69 : Value).ownBlock ∧ some k_ ≠ (s_.2.1 : Value).ownBlock ∧ some k_ ≠ (s_.2.2 : Value).ownBlock ∧ k_ ≠ gb199 ∧ k_ ≠ gb203) s_.1 t236) ∧ (Kd.R (Kd.int .i64) 3 w' w.heap.size (fun k_ => some k_ ≠ (.slice Ao69 t233.length co69 : Value).ownBlock ∧ some k_ ≠ (s_.2.2 : Value).ownBlock) s_.2.1 t239) ∧ (Kd.R (Kd.int .i64) 3 w' w.heap.size (fun k_ => some k_ ≠ (.slice Ao69 t233.length co69 : Value).ownBlock ∧ some k_ ≠ (s_.2.1 : Value).ownBlock) s_.2.2 y242) ∧ (w'.heap[gb199]? = some (.cells #[.slice Ao44 t196.length co44] 28 (0, 0))) ∧ (w'.heap[gb203]? = some (.cells #[.slice Ao48 t200.length co48] 28 (0, 0))) ∧ (Below w.heap.size w w')) ?_ ?_
          rotate_left
          ·intro hCont
           refine two_ (i := 24) (j := 26) (Ni := some 67) (Nj := some 69) #[true, true, true, true, true, true, true, true, true, true, true, true, true, true, true, true, true, true, true, true, true, true, true, true, true, false, false, false, false, false, false, false, false, false, false, false, false, false] #[true, true, true, true, true, true, true, true, true, true, true, true, true, true, true, true, true, true, true, true, true, true, true, true, false, false, true, false, false, false, false, false, false, false, false, false, false, false] rfl rfl rfl rfl (two_of HT_.out (by kernel_rfl)) (by decide) (by decide) (fun K hK => ?_) (fun K hK => ?_)
           ·skip
            refine goesV_ Try.func27 (by kernel_rfl) rfl #[.int .i64 4] (by rfl) rfl rfl rfl (by (try simp only [List.map_toArray, List.map_cons, List.map_nil]); first | done | rfl | (simp only [List.length_drop, List.length_take]; rfl)) ?_
            with_reducible refine (sizarlaw35_sane_1.calls 4 t236 _ A24.out).mono ?_
            rintro e w70 ⟨v237, rfl, ho0, hb⟩
            refine ⟨_, rfl, ?_⟩
            have n0_ := Aside0.mk (Kd.N_elder' (by (with_reducible repeat (first | apply Kd.N_alloc | apply Kd.N_drewN | apply Kd.N_drew)); exact HO195.out) (Kd.N_base ho0) hb)
            have n1_ := Aside0.mk (Kd.R_below (by (with_reducible repeat (first | apply Kd.R_alloc | apply Kd.R_drewN | apply Kd.R_drew)); exact HO198.out) hb)
            have n2_ := Aside0.mk (Kd.R_below (by (with_reducible repeat (first | apply Kd.R_alloc | apply Kd.R_drewN | apply Kd.R_drew)); exact HO202.out) hb)
            have n3_ := Aside0.mk (Kd.R_below (by (with_reducible repeat (first | apply Kd.R_alloc | apply Kd.R_drewN | apply Kd.R_drew)); exact HO216.out) hb)
            have n4_ := Aside0.mk (Kd.V_elder' (by (with_reducible repeat (first | apply Kd.V_alloc | apply Kd.V_drewN | apply Kd.V_drew)); exact HO222.out) (Kd.N_base ho0) hb)
            have n5_ := Aside0.mk (Kd.R_below (by (with_reducible repeat (first | apply Kd.R_alloc | apply Kd.R_drewN | apply Kd.R_drew)); exact HO226.out) hb)
            have n6_ := Aside0.mk (Kd.N_elder' (by (with_reducible repeat (first | apply Kd.N_alloc | apply Kd.N_drewN | apply Kd.N_drew)); exact HO232.out) (Kd.N_base ho0) hb)
            have n7_ := Aside0.mk (Kd.R_below (by (with_reducible repeat (first | apply Kd.R_alloc | apply Kd.R_drewN | apply Kd.R_drew)); exact HO235.out) hb)
            have n8_ := Aside0.mk (Kd.N_lower (Kd.N_mono (ok' := fun k_ => some k_ ≠ (.slice Ao41 y193.length co41 : Value).ownBlock ∧ some k_ ≠ (.slice Ao44 t196.length co44 : Value).ownBlock ∧ some k_ ≠ (.slice Ao48 t200.length co48 : Value).ownBlock ∧ some k_ ≠ (.slice Ao56 y214.length co56 : Value).ownBlock ∧ some k_ ≠ (.slice Ao61 t224.length co61 : Value).ownBlock ∧ some k_ ≠ (.slice Ao67 t230.length co67 : Value).ownBlock ∧ some k_ ≠ (.slice Ao69 t233.length co69 : Value).ownBlock ∧ k_ ≠ gb199 ∧ k_ ≠ gb203) ho0 (fun k_ hk_ => ⟨(Kd.fresh' (Kd.N_lt (by (with_reducible repeat (first | apply Kd.N_alloc | apply Kd.N_drewN | apply Kd.N_drew)); exact HO195.out)) k_ hk_), (Kd.fresh' (Kd.R_lt (by (with_reducible repeat (first | apply Kd.R_alloc | apply Kd.R_drewN | apply Kd.R_drew)); exact HO198.out)) k_ hk_), (Kd.fresh' (Kd.R_lt (by (with_reducible repeat (first | apply Kd.R_alloc | apply Kd.R_drewN | apply Kd.R_drew)); exact HO202.out)) k_ hk_), (Kd.fresh' (Kd.R_lt (by (with_reducible repeat (first | apply Kd.R_alloc | apply Kd.R_drewN | apply Kd.R_drew)); exact HO216.out)) k_ hk_), (Kd.fresh' (Kd.R_lt (by (with_reducible repeat (first | apply Kd.R_alloc | apply Kd.R_drewN | apply Kd.R_drew)); exact HO226.out)) k_ hk_), (Kd.fresh' (Kd.N_lt (by (with_reducible repeat (first | apply Kd.N_alloc | apply Kd.N_drewN | apply Kd.N_drew)); exact HO232.out)) k_ hk_), (Kd.fresh' (Kd.R_lt (by (with_reducible repeat (first | apply Kd.R_alloc | apply Kd.R_drewN | apply Kd.R_drew)); exact HO235.out)) k_ hk_), (Kd.freshB (g := gb199) (o := .cells #[.slice Ao44 t196.length co44] 28 (0, 0)) (by (with_reducible repeat (first | refine blk_drewN ?_ _ | refine blk_drew ?_ | refine blk_alloc ?_ _)); exact BK199.out) k_ hk_), (Kd.freshB (g := gb203) (o := .cells #[.slice Ao48 t200.length co48] 28 (0, 0)) (by (with_reducible repeat (first | refine blk_drewN ?_ _ | refine blk_drew ?_ | refine blk_alloc ?_ _)); exact BK203.out) k_ hk_)⟩)) (below_size (by repeat (first | (with_reducible first | exact HB.out | apply below_alloc | apply pw_below_drewN | apply below_drew1 | refine below_set ?_ GE199.out | refine below_set ?_ GE203.out) | exact HB.out))))
            have n9_ := Aside0.mk (blk_below (g := gb199) (o := .cells #[.slice Ao44 t196.length co44] 28 (0, 0)) (by (with_reducible repeat (first | refine blk_drewN ?_ _ | refine blk_drew ?_ | refine blk_alloc ?_ _)); exact BK199.out) hb)
            have n10_ := Aside0.mk (blk_below (g := gb203) (o := .cells #[.slice Ao48 t200.length co48] 28 (0, 0)) (by (with_reducible repeat (first | refine blk_drewN ?_ _ | refine blk_drew ?_ | refine blk_alloc ?_ _)); exact BK203.out) hb)
            have n11_ := Aside0.mk (below_step (by repeat (first | (with_reducible first | exact HB.out | apply below_alloc | apply pw_below_drewN | apply below_drew1 | refine below_set ?_ GE199.out | refine below_set ?_ GE203.out) | exact HB.out)) hb)
            clear HO195
            clear HO198
            clear HO202
            clear HO216
            clear HO222
            clear HO226
            clear HO232
            clear HO235
            clear BK199
            clear BK203
            clear HB
            have HO195 := n0_
            have HO198 := n1_
            have HO202 := n2_
            have HO216 := n3_
            have HO222 := n4_
            have HO226 := n5_
            have HO232 := n6_
            have HO235 := n7_
            have HO238 := n8_
            have BK199 := n9_
            have BK203 := n10_
            have HB := n11_
            clear n0_ n1_ n2_ n3_ n4_ n5_ n6_ n7_ n8_ n9_ n10_ n11_
            (try clear hb)
            (try clear hb2)
            (try clear hk)
            (try clear hi)
            (try clear ho0)
            obtain ⟨Ao71, co71, eo71⟩ := Kd.N_slice HO238.out
            (first | subst eo71 | (injection eo71 with f1_ f2_ f3_; have f4_ := f1_.symm; have f5_ := f3_.symm; clear f1_ f2_ f3_; subst f4_; subst f5_))
            refine hK.out _ _ ((blk_cell BK199.out 0).trans rfl) (fun hHeld => ?_)
            clear hK K
            refine norm_ (a' := ?_) ?_ ?_
            rotate_left
            ·show Act.put _ (some 67) _ = _
             simp only [Act.put, List.setIfInBounds_toArray, List.set_cons_zero, List.set_cons_succ, i64_w, i32_w]
             rfl
            refine two_ (i := 25) (j := 26) (Ni := some 68) (Nj := some 69) #[true, true, true, true, true, true, true, true, true, true, true, true, true, true, true, true, true, true, true, true, true, true, true, true, true, true, false, false, false, false, false, false, false, false, false, false, false, false] #[true, true, true, true, true, true, true, true, true, true, true, true, true, true, true, true, true, true, true, true, true, true, true, true, true, false, true, false, false, false, false, false, false, false, false, false, false, false] rfl rfl rfl rfl (two_of HT_.out (by kernel_rfl)) (by decide) (by decide) (fun K hK => ?_) (fun K hK => ?_)
            ·skip
             refine goes_ Try.func21 (by kernel_rfl) rfl #[.agg #[.slice Ao44 t196.length co44], .slice Ao71 t236.length co71] (by rfl) rfl rfl (by (try simp only [List.map_toArray, List.map_cons, List.map_nil]); first | done | rfl | (simp only [List.length_drop, List.length_take]; rfl)) ?_
             with_reducible refine (index_Affected.calls _ _ t196 _ _ t236 t239 _ ?side1 ?side2 ?side3 ?side4 A25.out).mono ?_
             (case side1 => repeat (first | exact (Kd.R_reads' HO198.out).2.2 | (with_reducible refine Kd.C_alloc ?_ _) | (with_reducible refine Kd.C_drewN ?_ _) | (with_reducible refine Kd.C_drew ?_)))
             (case side2 => exact (Kd.R_reads' HO198.out).2.1)
             (case side3 => repeat (first | exact (Kd.N_reads' HO238.out).2.2 | (with_reducible refine Kd.C_alloc ?_ _) | (with_reducible refine Kd.C_drewN ?_ _) | (with_reducible refine Kd.C_drew ?_)))
             (case side4 => exact (Kd.N_reads' HO238.out).2.1)
             rintro e w72 ⟨v240, rfl, ho0, hb⟩
             refine ⟨_, rfl, ?_⟩
             have n0_ := Aside0.mk (Kd.N_elder' (by (with_reducible repeat (first | apply Kd.N_alloc | apply Kd.N_drewN | apply Kd.N_drew)); exact HO195.out) (Kd.R_base ho0) hb)
             have n1_ := Aside0.mk (Kd.R_below (by (with_reducible repeat (first | apply Kd.R_alloc | apply Kd.R_drewN | apply Kd.R_drew)); exact HO198.out) hb)
             have n2_ := Aside0.mk (Kd.R_below (by (with_reducible repeat (first | apply Kd.R_alloc | apply Kd.R_drewN | apply Kd.R_drew)); exact HO202.out) hb)
             have n3_ := Aside0.mk (Kd.R_below (by (with_reducible repeat (first | apply Kd.R_alloc | apply Kd.R_drewN | apply Kd.R_drew)); exact HO216.out) hb)
             have n4_ := Aside0.mk (Kd.V_elder' (by (with_reducible repeat (first | apply Kd.V_alloc | apply Kd.V_drewN | apply Kd.V_drew)); exact HO222.out) (Kd.R_base ho0) hb)
             have n5_ := Aside0.mk (Kd.R_below (by (with_reducible repeat (first | apply Kd.R_alloc | apply Kd.R_drewN | apply Kd.R_drew)); exact HO226.out) hb)
             have n6_ := Aside0.mk (Kd.N_elder' (by (with_reducible repeat (first | apply Kd.N_alloc | apply Kd.N_drewN | apply Kd.N_drew)); exact HO232.out) (Kd.R_base ho0) hb)
             have n7_ := Aside0.mk (Kd.R_elder' (by (with_reducible repeat (first | apply Kd.R_alloc | apply Kd.R_drewN | apply Kd.R_drew)); exact HO235.out) (Kd.R_base ho0) hb)
             have n8_ := Aside0.mk (Kd.N_elder' (by (with_reducible repeat (first | apply Kd.N_alloc | apply Kd.N_drewN | apply Kd.N_drew)); exact HO238.out) (Kd.R_base ho0) hb)
             have n9_ := Aside0.mk (Kd.R_lower (Kd.R_new' ho0 (Kd.R_lt (by (with_reducible repeat (first | apply Kd.R_alloc | apply Kd.R_drewN | apply Kd.R_drew)); exact HO235.out))) (below_size (by repeat (first | (with_reducible first | exact HB.out | apply below_alloc | apply pw_below_drewN | apply below_drew1 | refine below_set ?_ GE199.out | refine below_set ?_ GE203.out) | exact HB.out))))
             have n10_ := Aside0.mk (blk_below (g := gb199) (o := .cells #[.slice Ao44 t196.length co44] 28 (0, 0)) (by (with_reducible repeat (first | refine blk_drewN ?_ _ | refine blk_drew ?_ | refine blk_alloc ?_ _)); exact BK199.out) hb)
             have n11_ := Aside0.mk (blk_below (g := gb203) (o := .cells #[.slice Ao48 t200.length co48] 28 (0, 0)) (by (with_reducible repeat (first | refine blk_drewN ?_ _ | refine blk_drew ?_ | refine blk_alloc ?_ _)); exact BK203.out) hb)
             have n12_ := Aside0.mk (below_step (by repeat (first | (with_reducible first | exact HB.out | apply below_alloc | apply pw_below_drewN | apply below_drew1 | refine below_set ?_ GE199.out | refine below_set ?_ GE203.out) | exact HB.out)) hb)
             clear HO195
             clear HO198
             clear HO202
             clear HO216
             clear HO222
             clear HO226
             clear HO232
             clear HO235
             clear HO238
             clear BK199
             clear BK203
             clear HB
             have HO195 := n0_
             have HO198 := n1_
             have HO202 := n2_
             have HO216 := n3_
             have HO222 := n4_
             have HO226 := n5_
             have HO232 := n6_
             have HO235 := n7_
             have HO238 := n8_
             have HO241 := n9_
             have BK199 := n10_
             have BK203 := n11_
             have HB := n12_
             clear n0_ n1_ n2_ n3_ n4_ n5_ n6_ n7_ n8_ n9_ n10_ n11_ n12_
             (try clear hb)
             (try clear hb2)
             (try clear hk)
             (try clear hi)
             (try clear ho0)
             refine hK.out _ _ ((blk_cell BK199.out 0).trans rfl) (fun hHeld => ?_)
             clear hK K
             refine norm_ (a' := ?_) ?_ ?_
             rotate_left
             ·show Act.put _ (some 68) _ = _
              simp only [Act.put, List.setIfInBounds_toArray, List.set_cons_zero, List.set_cons_succ, i64_w, i32_w]
              rfl
             refine one_ (i := 26) (N := some 69) #[true, true, true, true, true, true, true, true, true, true, true, true, true, true, true, true, true, true, true, true, true, true, true, true, true, true, true, false, false, false, false, false, false, false, false, false, false, false] rfl rfl (one_of HT_.out (by kernel_rfl)) (by decide) (fun K hK => ?_)
             refine Kd.R_lit_step (Kd.int .i64) _ 3 ?hg (N := 69) ?hd (xs := ([0] : List Int)) (inner := [.int .i64 0]) (ok := fun _ => True) (okp := fun _ => True) ?hr ?hp (fun _ hk => hk) trivial (Below.refl _ _) (Nat.le_refl _) (by simp) ?_; (case hd => rfl); (case hg => rfl); (case hr => first | (go_simp; done) | (go_simp; rfl)); (case hp => exact (Reps.one (show Kd.M (Kd.int .i64) _ _ _ 0 [.int .i64 0] from rfl) (Reps.none _ _)))
             intro v243 w73 ho74 hb hg_ hnew_
             clear hg_ hnew_
             (first | rw [← Ny242.out] at ho74 | (simp only [Int.reduceToNat] at ho74; rw [← Ny242.out] at ho74))
             have n0_ := Aside0.mk (Kd.N_elder' (by (with_reducible repeat (first | apply Kd.N_alloc | apply Kd.N_drewN | apply Kd.N_drew)); exact HO195.out) (Kd.R_base ho74) hb)
             have n1_ := Aside0.mk (Kd.R_below (by (with_reducible repeat (first | apply Kd.R_alloc | apply Kd.R_drewN | apply Kd.R_drew)); exact HO198.out) hb)
             have n2_ := Aside0.mk (Kd.R_below (by (with_reducible repeat (first | apply Kd.R_alloc | apply Kd.R_drewN | apply Kd.R_drew)); exact HO202.out) hb)
             have n3_ := Aside0.mk (Kd.R_below (by (with_reducible repeat (first | apply Kd.R_alloc | apply Kd.R_drewN | apply Kd.R_drew)); exact HO216.out) hb)
             have n4_ := Aside0.mk (Kd.V_elder' (by (with_reducible repeat (first | apply Kd.V_alloc | apply Kd.V_drewN | apply Kd.V_drew)); exact HO222.out) (Kd.R_base ho74) hb)
             have n5_ := Aside0.mk (Kd.R_below (by (with_reducible repeat (first | apply Kd.R_alloc | apply Kd.R_drewN | apply Kd.R_drew)); exact HO226.out) hb)
             have n6_ := Aside0.mk (Kd.N_elder' (by (with_reducible repeat (first | apply Kd.N_alloc | apply Kd.N_drewN | apply Kd.N_drew)); exact HO232.out) (Kd.R_base ho74) hb)
             have n7_ := Aside0.mk (Kd.R_elder' (by (with_reducible repeat (first | apply Kd.R_alloc | apply Kd.R_drewN | apply Kd.R_drew)); exact HO235.out) (Kd.R_base ho74) hb)
             have n8_ := Aside0.mk (Kd.N_elder' (by (with_reducible repeat (first | apply Kd.N_alloc | apply Kd.N_drewN | apply Kd.N_drew)); exact HO238.out) (Kd.R_base ho74) hb)
             have n9_ := Aside0.mk (Kd.R_elder' (by (with_reducible repeat (first | apply Kd.R_alloc | apply Kd.R_drewN | apply Kd.R_drew)); exact HO241.out) (Kd.R_base ho74) hb)
             have n10_ := Aside0.mk (Kd.R_lower (Kd.R_new' (Kd.R_new' ho74 (Kd.R_lt (by (with_reducible repeat (first | apply Kd.R_alloc | apply Kd.R_drewN | apply Kd.R_drew)); exact HO235.out))) (Kd.R_lt (by (with_reducible repeat (first | apply Kd.R_alloc | apply Kd.R_drewN | apply Kd.R_drew)); exact HO241.out))) (below_size (by repeat (first | (with_reducible first | exact HB.out | apply below_alloc | apply pw_below_drewN | apply below_drew1 | refine below_set ?_ GE199.out | refine below_set ?_ GE203.out) | exact HB.out))))
             have n11_ := Aside0.mk (blk_below (g := gb199) (o := .cells #[.slice Ao44 t196.length co44] 28 (0, 0)) (by (with_reducible repeat (first | refine blk_drewN ?_ _ | refine blk_drew ?_ | refine blk_alloc ?_ _)); exact BK199.out) hb)
             have n12_ := Aside0.mk (blk_below (g := gb203) (o := .cells #[.slice Ao48 t200.length co48] 28 (0, 0)) (by (with_reducible repeat (first | refine blk_drewN ?_ _ | refine blk_drew ?_ | refine blk_alloc ?_ _)); exact BK203.out) hb)
             have n13_ := Aside0.mk (below_step (by repeat (first | (with_reducible first | exact HB.out | apply below_alloc | apply pw_below_drewN | apply below_drew1 | refine below_set ?_ GE199.out | refine below_set ?_ GE203.out) | exact HB.out)) hb)
             clear HO195
             clear HO198
             clear HO202
             clear HO216
             clear HO222
             clear HO226
             clear HO232
             clear HO235
             clear HO238
             clear HO241
             clear BK199
             clear BK203
             clear HB
             have HO195 := n0_
             have HO198 := n1_
             have HO202 := n2_
             have HO216 := n3_
             have HO222 := n4_
             have HO226 := n5_
             have HO232 := n6_
             have HO235 := n7_
             have HO238 := n8_
             have HO241 := n9_
             have HO244 := n10_
             have BK199 := n11_
             have BK203 := n12_
             have HB := n13_
             clear n0_ n1_ n2_ n3_ n4_ n5_ n6_ n7_ n8_ n9_ n10_ n11_ n12_ n13_
             clear hb ho74
             refine hK.out _ _ ((blk_cell BK199.out 0).trans rfl) (fun hHeld => ?_)
             clear hK K
             refine norm_ (a' := ?_) ?_ ?_
             rotate_left
             ·show Act.put _ (some 69) _ = _
              simp only [Act.put, List.setIfInBounds_toArray, List.set_cons_zero, List.set_cons_succ, i64_w, i32_w]
              rfl
             exact norm_ (by simp only [putAll, Act.put, List.setIfInBounds_toArray, List.set_cons_zero, List.set_cons_succ]) (hCont (.slice Ao71 t236.length co71, v240, v243) _ ⟨hHeld, (by (with_reducible repeat (first | apply Kd.N_alloc | apply Kd.N_drewN | apply Kd.N_drew)); exact Kd.N_mono HO195.out (fun _ hk => ⟨hk.1.1.1.1.1.1.1.1.1.1.2, ⟨hk.1.1.1.1.1.1.1.1.2, ⟨hk.1.1.1.1.1.1.2, ⟨hk.1.1.1.1.1.2, ⟨hk.1.1.1.1.2, ⟨hk.1.1.1.2, ⟨hk.1.1.2, ⟨hk.1.2, ⟨hk.2, ⟨hk.1.1.1.1.1.1.1.1.1.2, hk.1.1.1.1.1.1.1.2⟩⟩⟩⟩⟩⟩⟩⟩⟩⟩)), (by (with_reducible repeat (first | apply Kd.R_alloc | apply Kd.R_drewN | apply Kd.R_drew)); exact Kd.R_mono HO198.out (fun _ hk => ⟨hk.1.1.2, ⟨hk.1.2, hk.2⟩⟩)), (by (with_reducible repeat (first | apply Kd.R_alloc | apply Kd.R_drewN | apply Kd.R_drew)); exact Kd.R_mono HO202.out (fun _ hk => ⟨hk.1.1.2, ⟨hk.1.2, hk.2⟩⟩)), (by (with_reducible repeat (first | apply Kd.R_alloc | apply Kd.R_drewN | apply Kd.R_drew)); exact Kd.R_mono HO216.out (fun _ hk => ⟨hk.1.1.2, ⟨hk.1.2, hk.2⟩⟩)), (by (with_reducible repeat (first | apply Kd.V_alloc | apply Kd.V_drewN | apply Kd.V_drew)); exact Kd.V_mono HO222.out (fun _ hk => ⟨hk.1.1.1.1.1.1.1.1.2, ⟨hk.1.1.1.1.1.1.1.1.1.1.2, ⟨hk.1.1.1.1.1.1.1.1.1.2, ⟨hk.1.1.1.1.1.2, ⟨hk.1.1.1.1.2, ⟨hk.1.1.1.2, ⟨hk.1.1.2, ⟨hk.1.2, ⟨hk.2, ⟨hk.1.1.1.1.1.1.1.2, hk.1.1.1.1.1.1.2⟩⟩⟩⟩⟩⟩⟩⟩⟩⟩)), (by (with_reducible repeat (first | apply Kd.R_alloc | apply Kd.R_drewN | apply Kd.R_drew)); exact Kd.R_mono HO226.out (fun _ hk => ⟨hk.1.1.2, ⟨hk.1.2, hk.2⟩⟩)), (by (with_reducible repeat (first | apply Kd.N_alloc | apply Kd.N_drewN | apply Kd.N_drew)); exact Kd.N_mono HO232.out (fun _ hk => ⟨hk.1.1.1.1.1, ⟨hk.1.1.1.1.2.1, ⟨hk.1.1.1.1.2.2.1, ⟨hk.1.1.1.1.2.2.2.1, ⟨hk.1.1.1.1.2.2.2.2.1, ⟨hk.1.1.1.2, ⟨hk.1.1.2, ⟨hk.1.2, ⟨hk.2, ⟨hk.1.1.1.1.2.2.2.2.2.1, hk.1.1.1.1.2.2.2.2.2.2⟩⟩⟩⟩⟩⟩⟩⟩⟩⟩)), (by (with_reducible repeat (first | apply Kd.R_alloc | apply Kd.R_drewN | apply Kd.R_drew)); exact Kd.R_mono HO235.out (fun _ hk => ⟨hk.1.2, hk.2⟩)), (by (with_reducible repeat (first | apply Kd.N_alloc | apply Kd.N_drewN | apply Kd.N_drew)); exact Kd.N_mono HO238.out (fun _ hk => ⟨hk.1.1.1, ⟨hk.1.1.2.1, ⟨hk.1.1.2.2.1, ⟨hk.1.1.2.2.2.1, ⟨hk.1.1.2.2.2.2.1, ⟨hk.1.1.2.2.2.2.2.1, ⟨hk.1.1.2.2.2.2.2.2.1, ⟨hk.1.2, ⟨hk.2, ⟨hk.1.1.2.2.2.2.2.2.2.1, hk.1.1.2.2.2.2.2.2.2.2⟩⟩⟩⟩⟩⟩⟩⟩⟩⟩)), (by (with_reducible repeat (first | apply Kd.R_alloc | apply Kd.R_drewN | apply Kd.R_drew)); exact Kd.R_mono HO241.out (fun _ hk => ⟨hk.1.2, hk.2⟩)), (by (with_reducible repeat (first | apply Kd.R_alloc | apply Kd.R_drewN | apply Kd.R_drew)); exact Kd.R_mono HO244.out (fun _ hk => ⟨hk.1.2, hk.2⟩)), (by (with_reducible repeat (first | refine blk_drewN ?_ _ | refine blk_drew ?_ | refine blk_alloc ?_ _)); exact BK199.out), (by (with_reducible repeat (first | refine blk_drewN ?_ _ | refine blk_drew ?_ | refine blk_alloc ?_ _)); exact BK203.out), (by repeat (first | (with_reducible first | exact HB.out | apply below_alloc | apply pw_below_drewN | apply below_drew1 | refine below_set ?_ GE199.out | refine below_set ?_ GE203.out) | exact HB.out))⟩)
            ·skip
             refine Kd.R_lit_step (Kd.int .i64) _ 3 ?hg (N := 69) ?hd (xs := ([0] : List Int)) (inner := [.int .i64 0]) (ok := fun _ => True) (okp := fun _ => True) ?hr ?hp (fun _ hk => hk) trivial (Below.refl _ _) (Nat.le_refl _) (by simp) ?_; (case hd => rfl); (case hg => rfl); (case hr => first | (go_simp; done) | (go_simp; rfl)); (case hp => exact (Reps.one (show Kd.M (Kd.int .i64) _ _ _ 0 [.int .i64 0] from rfl) (Reps.none _ _)))
             intro v243 w71 ho72 hb hg_ hnew_
             clear hg_ hnew_
             (first | rw [← Ny242.out] at ho72 | (simp only [Int.reduceToNat] at ho72; rw [← Ny242.out] at ho72))
             have n0_ := Aside0.mk (Kd.N_elder' (by (with_reducible repeat (first | apply Kd.N_alloc | apply Kd.N_drewN | apply Kd.N_drew)); exact HO195.out) (Kd.R_base ho72) hb)
             have n1_ := Aside0.mk (Kd.R_below (by (with_reducible repeat (first | apply Kd.R_alloc | apply Kd.R_drewN | apply Kd.R_drew)); exact HO198.out) hb)
             have n2_ := Aside0.mk (Kd.R_below (by (with_reducible repeat (first | apply Kd.R_alloc | apply Kd.R_drewN | apply Kd.R_drew)); exact HO202.out) hb)
             have n3_ := Aside0.mk (Kd.R_below (by (with_reducible repeat (first | apply Kd.R_alloc | apply Kd.R_drewN | apply Kd.R_drew)); exact HO216.out) hb)
             have n4_ := Aside0.mk (Kd.V_elder' (by (with_reducible repeat (first | apply Kd.V_alloc | apply Kd.V_drewN | apply Kd.V_drew)); exact HO222.out) (Kd.R_base ho72) hb)
             have n5_ := Aside0.mk (Kd.R_below (by (with_reducible repeat (first | apply Kd.R_alloc | apply Kd.R_drewN | apply Kd.R_drew)); exact HO226.out) hb)
             have n6_ := Aside0.mk (Kd.N_elder' (by (with_reducible repeat (first | apply Kd.N_alloc | apply Kd.N_drewN | apply Kd.N_drew)); exact HO232.out) (Kd.R_base ho72) hb)
             have n7_ := Aside0.mk (Kd.R_elder' (by (with_reducible repeat (first | apply Kd.R_alloc | apply Kd.R_drewN | apply Kd.R_drew)); exact HO235.out) (Kd.R_base ho72) hb)
             have n8_ := Aside0.mk (Kd.N_elder' (by (with_reducible repeat (first | apply Kd.N_alloc | apply Kd.N_drewN | apply Kd.N_drew)); exact HO238.out) (Kd.R_base ho72) hb)
             have n9_ := Aside0.mk (Kd.R_lower (Kd.R_new' ho72 (Kd.R_lt (by (with_reducible repeat (first | apply Kd.R_alloc | apply Kd.R_drewN | apply Kd.R_drew)); exact HO235.out))) (below_size (by repeat (first | (with_reducible first | exact HB.out | apply below_alloc | apply pw_below_drewN | apply below_drew1 | refine below_set ?_ GE199.out | refine below_set ?_ GE203.out) | exact HB.out))))
             have n10_ := Aside0.mk (blk_below (g := gb199) (o := .cells #[.slice Ao44 t196.length co44] 28 (0, 0)) (by (with_reducible repeat (first | refine blk_drewN ?_ _ | refine blk_drew ?_ | refine blk_alloc ?_ _)); exact BK199.out) hb)
             have n11_ := Aside0.mk (blk_below (g := gb203) (o := .cells #[.slice Ao48 t200.length co48] 28 (0, 0)) (by (with_reducible repeat (first | refine blk_drewN ?_ _ | refine blk_drew ?_ | refine blk_alloc ?_ _)); exact BK203.out) hb)
             have n12_ := Aside0.mk (below_step (by repeat (first | (with_reducible first | exact HB.out | apply below_alloc | apply pw_below_drewN | apply below_drew1 | refine below_set ?_ GE199.out | refine below_set ?_ GE203.out) | exact HB.out)) hb)
             clear HO195
             clear HO198
             clear HO202
             clear HO216
             clear HO222
             clear HO226
             clear HO232
             clear HO235
             clear HO238
             clear BK199
             clear BK203
             clear HB
             have HO195 := n0_
             have HO198 := n1_
             have HO202 := n2_
             have HO216 := n3_
             have HO222 := n4_
             have HO226 := n5_
             have HO232 := n6_
             have HO235 := n7_
             have HO238 := n8_
             have HO244 := n9_
             have BK199 := n10_
             have BK203 := n11_
             have HB := n12_
             clear n0_ n1_ n2_ n3_ n4_ n5_ n6_ n7_ n8_ n9_ n10_ n11_ n12_
             clear hb ho72
             obtain ⟨Ao73, co73, eo73⟩ := Kd.N_slice HO238.out
             (first | subst eo73 | (injection eo73 with f1_ f2_ f3_; have f4_ := f1_.symm; have f5_ := f3_.symm; clear f1_ f2_ f3_; subst f4_; subst f5_))
             refine hK.out _ _ ((blk_cell BK199.out 0).trans rfl) (fun hHeld => ?_)
             clear hK K
             refine norm_ (a' := ?_) ?_ ?_
             rotate_left
             ·show Act.put _ (some 69) _ = _
              simp only [Act.put, List.setIfInBounds_toArray, List.set_cons_zero, List.set_cons_succ, i64_w, i32_w]
              rfl
             refine one_ (i := 25) (N := some 68) #[true, true, true, true, true, true, true, true, true, true, true, true, true, true, true, true, true, true, true, true, true, true, true, true, true, true, true, false, false, false, false, false, false, false, false, false, false, false] rfl rfl (one_of HT_.out (by kernel_rfl)) (by decide) (fun K hK => ?_)
             refine goes_ Try.func21 (by kernel_rfl) rfl #[.agg #[.slice Ao44 t196.length co44], .slice Ao73 t236.length co73] (by rfl) rfl rfl (by (try simp only [List.map_toArray, List.map_cons, List.map_nil]); first | done | rfl | (simp only [List.length_drop, List.length_take]; rfl)) ?_
             with_reducible refine (index_Affected.calls _ _ t196 _ _ t236 t239 _ ?side1 ?side2 ?side3 ?side4 A25.out).mono ?_
             (case side1 => repeat (first | exact (Kd.R_reads' HO198.out).2.2 | (with_reducible refine Kd.C_alloc ?_ _) | (with_reducible refine Kd.C_drewN ?_ _) | (with_reducible refine Kd.C_drew ?_)))
             (case side2 => exact (Kd.R_reads' HO198.out).2.1)
             (case side3 => repeat (first | exact (Kd.N_reads' HO238.out).2.2 | (with_reducible refine Kd.C_alloc ?_ _) | (with_reducible refine Kd.C_drewN ?_ _) | (with_reducible refine Kd.C_drew ?_)))
             (case side4 => exact (Kd.N_reads' HO238.out).2.1)
             rintro e w74 ⟨v240, rfl, ho0, hb⟩
             refine ⟨_, rfl, ?_⟩
             have n0_ := Aside0.mk (Kd.N_elder' (by (with_reducible repeat (first | apply Kd.N_alloc | apply Kd.N_drewN | apply Kd.N_drew)); exact HO195.out) (Kd.R_base ho0) hb)
             have n1_ := Aside0.mk (Kd.R_below (by (with_reducible repeat (first | apply Kd.R_alloc | apply Kd.R_drewN | apply Kd.R_drew)); exact HO198.out) hb)
             have n2_ := Aside0.mk (Kd.R_below (by (with_reducible repeat (first | apply Kd.R_alloc | apply Kd.R_drewN | apply Kd.R_drew)); exact HO202.out) hb)
             have n3_ := Aside0.mk (Kd.R_below (by (with_reducible repeat (first | apply Kd.R_alloc | apply Kd.R_drewN | apply Kd.R_drew)); exact HO216.out) hb)
             have n4_ := Aside0.mk (Kd.V_elder' (by (with_reducible repeat (first | apply Kd.V_alloc | apply Kd.V_drewN | apply Kd.V_drew)); exact HO222.out) (Kd.R_base ho0) hb)
             have n5_ := Aside0.mk (Kd.R_below (by (with_reducible repeat (first | apply Kd.R_alloc | apply Kd.R_drewN | apply Kd.R_drew)); exact HO226.out) hb)
             have n6_ := Aside0.mk (Kd.N_elder' (by (with_reducible repeat (first | apply Kd.N_alloc | apply Kd.N_drewN | apply Kd.N_drew)); exact HO232.out) (Kd.R_base ho0) hb)
             have n7_ := Aside0.mk (Kd.R_elder' (by (with_reducible repeat (first | apply Kd.R_alloc | apply Kd.R_drewN | apply Kd.R_drew)); exact HO235.out) (Kd.R_base ho0) hb)
             have n8_ := Aside0.mk (Kd.N_elder' (by (with_reducible repeat (first | apply Kd.N_alloc | apply Kd.N_drewN | apply Kd.N_drew)); exact HO238.out) (Kd.R_base ho0) hb)
             have n9_ := Aside0.mk (Kd.R_elder' (by (with_reducible repeat (first | apply Kd.R_alloc | apply Kd.R_drewN | apply Kd.R_drew)); exact HO244.out) (Kd.R_base ho0) hb)
             have n10_ := Aside0.mk (Kd.R_lower (Kd.R_new' (Kd.R_new' ho0 (Kd.R_lt (by (with_reducible repeat (first | apply Kd.R_alloc | apply Kd.R_drewN | apply Kd.R_drew)); exact HO235.out))) (Kd.R_lt (by (with_reducible repeat (first | apply Kd.R_alloc | apply Kd.R_drewN | apply Kd.R_drew)); exact HO244.out))) (below_size (by repeat (first | (with_reducible first | exact HB.out | apply below_alloc | apply pw_below_drewN | apply below_drew1 | refine below_set ?_ GE199.out | refine below_set ?_ GE203.out) | exact HB.out))))
             have n11_ := Aside0.mk (blk_below (g := gb199) (o := .cells #[.slice Ao44 t196.length co44] 28 (0, 0)) (by (with_reducible repeat (first | refine blk_drewN ?_ _ | refine blk_drew ?_ | refine blk_alloc ?_ _)); exact BK199.out) hb)
             have n12_ := Aside0.mk (blk_below (g := gb203) (o := .cells #[.slice Ao48 t200.length co48] 28 (0, 0)) (by (with_reducible repeat (first | refine blk_drewN ?_ _ | refine blk_drew ?_ | refine blk_alloc ?_ _)); exact BK203.out) hb)
             have n13_ := Aside0.mk (below_step (by repeat (first | (with_reducible first | exact HB.out | apply below_alloc | apply pw_below_drewN | apply below_drew1 | refine below_set ?_ GE199.out | refine below_set ?_ GE203.out) | exact HB.out)) hb)
             clear HO195
             clear HO198
             clear HO202
             clear HO216
             clear HO222
             clear HO226
             clear HO232
             clear HO235
             clear HO238
             clear HO244
             clear BK199
             clear BK203
             clear HB
             have HO195 := n0_
             have HO198 := n1_
             have HO202 := n2_
             have HO216 := n3_
             have HO222 := n4_
             have HO226 := n5_
             have HO232 := n6_
             have HO235 := n7_
             have HO238 := n8_
             have HO244 := n9_
             have HO241 := n10_
             have BK199 := n11_
             have BK203 := n12_
             have HB := n13_
             clear n0_ n1_ n2_ n3_ n4_ n5_ n6_ n7_ n8_ n9_ n10_ n11_ n12_ n13_
             (try clear hb)
             (try clear hb2)
             (try clear hk)
             (try clear hi)
             (try clear ho0)
             refine hK.out _ _ ((blk_cell BK199.out 0).trans rfl) (fun hHeld => ?_)
             clear hK K
             refine norm_ (a' := ?_) ?_ ?_
             rotate_left
             ·show Act.put _ (some 68) _ = _
              simp only [Act.put, List.setIfInBounds_toArray, List.set_cons_zero, List.set_cons_succ, i64_w, i32_w]
              rfl
             exact norm_ (by simp only [putAll, Act.put, List.setIfInBounds_toArray, List.set_cons_zero, List.set_cons_succ]) (hCont (.slice Ao73 t236.length co73, v240, v243) _ ⟨hHeld, (by (with_reducible repeat (first | apply Kd.N_alloc | apply Kd.N_drewN | apply Kd.N_drew)); exact Kd.N_mono HO195.out (fun _ hk => ⟨hk.1.1.1.1.1.1.1.1.1.1.2, ⟨hk.1.1.1.1.1.1.1.1.2, ⟨hk.1.1.1.1.1.1.2, ⟨hk.1.1.1.1.1.2, ⟨hk.1.1.1.1.2, ⟨hk.1.1.1.2, ⟨hk.1.1.2, ⟨hk.2, ⟨hk.1.2, ⟨hk.1.1.1.1.1.1.1.1.1.2, hk.1.1.1.1.1.1.1.2⟩⟩⟩⟩⟩⟩⟩⟩⟩⟩)), (by (with_reducible repeat (first | apply Kd.R_alloc | apply Kd.R_drewN | apply Kd.R_drew)); exact Kd.R_mono HO198.out (fun _ hk => ⟨hk.1.1.2, ⟨hk.1.2, hk.2⟩⟩)), (by (with_reducible repeat (first | apply Kd.R_alloc | apply Kd.R_drewN | apply Kd.R_drew)); exact Kd.R_mono HO202.out (fun _ hk => ⟨hk.1.1.2, ⟨hk.1.2, hk.2⟩⟩)), (by (with_reducible repeat (first | apply Kd.R_alloc | apply Kd.R_drewN | apply Kd.R_drew)); exact Kd.R_mono HO216.out (fun _ hk => ⟨hk.1.1.2, ⟨hk.1.2, hk.2⟩⟩)), (by (with_reducible repeat (first | apply Kd.V_alloc | apply Kd.V_drewN | apply Kd.V_drew)); exact Kd.V_mono HO222.out (fun _ hk => ⟨hk.1.1.1.1.1.1.1.1.2, ⟨hk.1.1.1.1.1.1.1.1.1.1.2, ⟨hk.1.1.1.1.1.1.1.1.1.2, ⟨hk.1.1.1.1.1.2, ⟨hk.1.1.1.1.2, ⟨hk.1.1.1.2, ⟨hk.1.1.2, ⟨hk.2, ⟨hk.1.2, ⟨hk.1.1.1.1.1.1.1.2, hk.1.1.1.1.1.1.2⟩⟩⟩⟩⟩⟩⟩⟩⟩⟩)), (by (with_reducible repeat (first | apply Kd.R_alloc | apply Kd.R_drewN | apply Kd.R_drew)); exact Kd.R_mono HO226.out (fun _ hk => ⟨hk.1.1.2, ⟨hk.1.2, hk.2⟩⟩)), (by (with_reducible repeat (first | apply Kd.N_alloc | apply Kd.N_drewN | apply Kd.N_drew)); exact Kd.N_mono HO232.out (fun _ hk => ⟨hk.1.1.1.1.1, ⟨hk.1.1.1.1.2.1, ⟨hk.1.1.1.1.2.2.1, ⟨hk.1.1.1.1.2.2.2.1, ⟨hk.1.1.1.1.2.2.2.2.1, ⟨hk.1.1.1.2, ⟨hk.1.1.2, ⟨hk.2, ⟨hk.1.2, ⟨hk.1.1.1.1.2.2.2.2.2.1, hk.1.1.1.1.2.2.2.2.2.2⟩⟩⟩⟩⟩⟩⟩⟩⟩⟩)), (by (with_reducible repeat (first | apply Kd.R_alloc | apply Kd.R_drewN | apply Kd.R_drew)); exact Kd.R_mono HO235.out (fun _ hk => ⟨hk.2, hk.1.2⟩)), (by (with_reducible repeat (first | apply Kd.N_alloc | apply Kd.N_drewN | apply Kd.N_drew)); exact Kd.N_mono HO238.out (fun _ hk => ⟨hk.1.1.1, ⟨hk.1.1.2.1, ⟨hk.1.1.2.2.1, ⟨hk.1.1.2.2.2.1, ⟨hk.1.1.2.2.2.2.1, ⟨hk.1.1.2.2.2.2.2.1, ⟨hk.1.1.2.2.2.2.2.2.1, ⟨hk.2, ⟨hk.1.2, ⟨hk.1.1.2.2.2.2.2.2.2.1, hk.1.1.2.2.2.2.2.2.2.2⟩⟩⟩⟩⟩⟩⟩⟩⟩⟩)), (by (with_reducible repeat (first | apply Kd.R_alloc | apply Kd.R_drewN | apply Kd.R_drew)); exact Kd.R_mono HO241.out (fun _ hk => ⟨hk.1.2, hk.2⟩)), (by (with_reducible repeat (first | apply Kd.R_alloc | apply Kd.R_drewN | apply Kd.R_drew)); exact Kd.R_mono HO244.out (fun _ hk => ⟨hk.1.2, hk.2⟩)), (by (with_reducible repeat (first | refine blk_drewN ?_ _ | refine blk_drew ?_ | refine blk_alloc ?_ _)); exact BK199.out), (by (with_reducible repeat (first | refine blk_drewN ?_ _ | refine blk_drew ?_ | refine blk_alloc ?_ _)); exact BK203.out), (by repeat (first | (with_reducible first | exact HB.out | apply below_alloc | apply pw_below_drewN | apply below_drew1 | refine below_set ?_ GE199.out | refine below_set ?_ GE203.out) | exact HB.out))⟩)
           ·skip
            refine Kd.R_lit_step (Kd.int .i64) _ 3 ?hg (N := 69) ?hd (xs := ([0] : List Int)) (inner := [.int .i64 0]) (ok := fun _ => True) (okp := fun _ => True) ?hr ?hp (fun _ hk => hk) trivial (Below.refl _ _) (Nat.le_refl _) (by simp) ?_; (case hd => rfl); (case hg => rfl); (case hr => first | (go_simp; done) | (go_simp; rfl)); (case hp => exact (Reps.one (show Kd.M (Kd.int .i64) _ _ _ 0 [.int .i64 0] from rfl) (Reps.none _ _)))
            intro v243 w70 ho71 hb hg_ hnew_
            clear hg_ hnew_
            (first | rw [← Ny242.out] at ho71 | (simp only [Int.reduceToNat] at ho71; rw [← Ny242.out] at ho71))
            have n0_ := Aside0.mk (Kd.N_elder' (by (with_reducible repeat (first | apply Kd.N_alloc | apply Kd.N_drewN | apply Kd.N_drew)); exact HO195.out) (Kd.R_base ho71) hb)
            have n1_ := Aside0.mk (Kd.R_below (by (with_reducible repeat (first | apply Kd.R_alloc | apply Kd.R_drewN | apply Kd.R_drew)); exact HO198.out) hb)
            have n2_ := Aside0.mk (Kd.R_below (by (with_reducible repeat (first | apply Kd.R_alloc | apply Kd.R_drewN | apply Kd.R_drew)); exact HO202.out) hb)
            have n3_ := Aside0.mk (Kd.R_below (by (with_reducible repeat (first | apply Kd.R_alloc | apply Kd.R_drewN | apply Kd.R_drew)); exact HO216.out) hb)
            have n4_ := Aside0.mk (Kd.V_elder' (by (with_reducible repeat (first | apply Kd.V_alloc | apply Kd.V_drewN | apply Kd.V_drew)); exact HO222.out) (Kd.R_base ho71) hb)
            have n5_ := Aside0.mk (Kd.R_below (by (with_reducible repeat (first | apply Kd.R_alloc | apply Kd.R_drewN | apply Kd.R_drew)); exact HO226.out) hb)
            have n6_ := Aside0.mk (Kd.N_elder' (by (with_reducible repeat (first | apply Kd.N_alloc | apply Kd.N_drewN | apply Kd.N_drew)); exact HO232.out) (Kd.R_base ho71) hb)
            have n7_ := Aside0.mk (Kd.R_elder' (by (with_reducible repeat (first | apply Kd.R_alloc | apply Kd.R_drewN | apply Kd.R_drew)); exact HO235.out) (Kd.R_base ho71) hb)
            have n8_ := Aside0.mk (Kd.R_lower (Kd.R_new' ho71 (Kd.R_lt (by (with_reducible repeat (first | apply Kd.R_alloc | apply Kd.R_drewN | apply Kd.R_drew)); exact HO235.out))) (below_size (by repeat (first | (with_reducible first | exact HB.out | apply below_alloc | apply pw_below_drewN | apply below_drew1 | refine below_set ?_ GE199.out | refine below_set ?_ GE203.out) | exact HB.out))))
            have n9_ := Aside0.mk (blk_below (g := gb199) (o := .cells #[.slice Ao44 t196.length co44] 28 (0, 0)) (by (with_reducible repeat (first | refine blk_drewN ?_ _ | refine blk_drew ?_ | refine blk_alloc ?_ _)); exact BK199.out) hb)
            have n10_ := Aside0.mk (blk_below (g := gb203) (o := .cells #[.slice Ao48 t200.length co48] 28 (0, 0)) (by (with_reducible repeat (first | refine blk_drewN ?_ _ | refine blk_drew ?_ | refine blk_alloc ?_ _)); exact BK203.out) hb)
            have n11_ := Aside0.mk (below_step (by repeat (first | (with_reducible first | exact HB.out | apply below_alloc | apply pw_below_drewN | apply below_drew1 | refine below_set ?_ GE199.out | refine below_set ?_ GE203.out) | exact HB.out)) hb)
            clear HO195
            clear HO198
            clear HO202
            clear HO216
            clear HO222
            clear HO226
            clear HO232
            clear HO235
            clear BK199
            clear BK203
            clear HB
            have HO195 := n0_
            have HO198 := n1_
            have HO202 := n2_
            have HO216 := n3_
            have HO222 := n4_
            have HO226 := n5_
            have HO232 := n6_
            have HO235 := n7_
            have HO244 := n8_
            have BK199 := n9_
            have BK203 := n10_
            have HB := n11_
            clear n0_ n1_ n2_ n3_ n4_ n5_ n6_ n7_ n8_ n9_ n10_ n11_
            clear hb ho71
            refine hK.out _ _ ((blk_cell BK199.out 0).trans rfl) (fun hHeld => ?_)
            clear hK K
            refine norm_ (a' := ?_) ?_ ?_
            rotate_left
            ·show Act.put _ (some 69) _ = _
             simp only [Act.put, List.setIfInBounds_toArray, List.set_cons_zero, List.set_cons_succ, i64_w, i32_w]
             rfl
            refine one_ (i := 24) (N := some 67) #[true, true, true, true, true, true, true, true, true, true, true, true, true, true, true, true, true, true, true, true, true, true, true, true, true, false, true, false, false, false, false, false, false, false, false, false, false, false] rfl rfl (one_of HT_.out (by kernel_rfl)) (by decide) (fun K hK => ?_)
            refine goesV_ Try.func27 (by kernel_rfl) rfl #[.int .i64 4] (by rfl) rfl rfl rfl (by (try simp only [List.map_toArray, List.map_cons, List.map_nil]); first | done | rfl | (simp only [List.length_drop, List.length_take]; rfl)) ?_
            with_reducible refine (sizarlaw35_sane_1.calls 4 t236 _ A24.out).mono ?_
            rintro e w72 ⟨v237, rfl, ho0, hb⟩
            refine ⟨_, rfl, ?_⟩
            have n0_ := Aside0.mk (Kd.N_elder' (by (with_reducible repeat (first | apply Kd.N_alloc | apply Kd.N_drewN | apply Kd.N_drew)); exact HO195.out) (Kd.N_base ho0) hb)
            have n1_ := Aside0.mk (Kd.R_below (by (with_reducible repeat (first | apply Kd.R_alloc | apply Kd.R_drewN | apply Kd.R_drew)); exact HO198.out) hb)
            have n2_ := Aside0.mk (Kd.R_below (by (with_reducible repeat (first | apply Kd.R_alloc | apply Kd.R_drewN | apply Kd.R_drew)); exact HO202.out) hb)
            have n3_ := Aside0.mk (Kd.R_below (by (with_reducible repeat (first | apply Kd.R_alloc | apply Kd.R_drewN | apply Kd.R_drew)); exact HO216.out) hb)
            have n4_ := Aside0.mk (Kd.V_elder' (by (with_reducible repeat (first | apply Kd.V_alloc | apply Kd.V_drewN | apply Kd.V_drew)); exact HO222.out) (Kd.N_base ho0) hb)
            have n5_ := Aside0.mk (Kd.R_below (by (with_reducible repeat (first | apply Kd.R_alloc | apply Kd.R_drewN | apply Kd.R_drew)); exact HO226.out) hb)
            have n6_ := Aside0.mk (Kd.N_elder' (by (with_reducible repeat (first | apply Kd.N_alloc | apply Kd.N_drewN | apply Kd.N_drew)); exact HO232.out) (Kd.N_base ho0) hb)
            have n7_ := Aside0.mk (Kd.R_below (by (with_reducible repeat (first | apply Kd.R_alloc | apply Kd.R_drewN | apply Kd.R_drew)); exact HO235.out) hb)
            have n8_ := Aside0.mk (Kd.R_below (by (with_reducible repeat (first | apply Kd.R_alloc | apply Kd.R_drewN | apply Kd.R_drew)); exact HO244.out) hb)
            have n9_ := Aside0.mk (Kd.N_lower (Kd.N_mono (ok' := fun k_ => some k_ ≠ (.slice Ao41 y193.length co41 : Value).ownBlock ∧ some k_ ≠ (.slice Ao44 t196.length co44 : Value).ownBlock ∧ some k_ ≠ (.slice Ao48 t200.length co48 : Value).ownBlock ∧ some k_ ≠ (.slice Ao56 y214.length co56 : Value).ownBlock ∧ some k_ ≠ (.slice Ao61 t224.length co61 : Value).ownBlock ∧ some k_ ≠ (.slice Ao67 t230.length co67 : Value).ownBlock ∧ some k_ ≠ (.slice Ao69 t233.length co69 : Value).ownBlock ∧ some k_ ≠ (v243 : Value).ownBlock ∧ k_ ≠ gb199 ∧ k_ ≠ gb203) ho0 (fun k_ hk_ => ⟨(Kd.fresh' (Kd.N_lt (by (with_reducible repeat (first | apply Kd.N_alloc | apply Kd.N_drewN | apply Kd.N_drew)); exact HO195.out)) k_ hk_), (Kd.fresh' (Kd.R_lt (by (with_reducible repeat (first | apply Kd.R_alloc | apply Kd.R_drewN | apply Kd.R_drew)); exact HO198.out)) k_ hk_), (Kd.fresh' (Kd.R_lt (by (with_reducible repeat (first | apply Kd.R_alloc | apply Kd.R_drewN | apply Kd.R_drew)); exact HO202.out)) k_ hk_), (Kd.fresh' (Kd.R_lt (by (with_reducible repeat (first | apply Kd.R_alloc | apply Kd.R_drewN | apply Kd.R_drew)); exact HO216.out)) k_ hk_), (Kd.fresh' (Kd.R_lt (by (with_reducible repeat (first | apply Kd.R_alloc | apply Kd.R_drewN | apply Kd.R_drew)); exact HO226.out)) k_ hk_), (Kd.fresh' (Kd.N_lt (by (with_reducible repeat (first | apply Kd.N_alloc | apply Kd.N_drewN | apply Kd.N_drew)); exact HO232.out)) k_ hk_), (Kd.fresh' (Kd.R_lt (by (with_reducible repeat (first | apply Kd.R_alloc | apply Kd.R_drewN | apply Kd.R_drew)); exact HO235.out)) k_ hk_), (Kd.fresh' (Kd.R_lt (by (with_reducible repeat (first | apply Kd.R_alloc | apply Kd.R_drewN | apply Kd.R_drew)); exact HO244.out)) k_ hk_), (Kd.freshB (g := gb199) (o := .cells #[.slice Ao44 t196.length co44] 28 (0, 0)) (by (with_reducible repeat (first | refine blk_drewN ?_ _ | refine blk_drew ?_ | refine blk_alloc ?_ _)); exact BK199.out) k_ hk_), (Kd.freshB (g := gb203) (o := .cells #[.slice Ao48 t200.length co48] 28 (0, 0)) (by (with_reducible repeat (first | refine blk_drewN ?_ _ | refine blk_drew ?_ | refine blk_alloc ?_ _)); exact BK203.out) k_ hk_)⟩)) (below_size (by repeat (first | (with_reducible first | exact HB.out | apply below_alloc | apply pw_below_drewN | apply below_drew1 | refine below_set ?_ GE199.out | refine below_set ?_ GE203.out) | exact HB.out))))
            have n10_ := Aside0.mk (blk_below (g := gb199) (o := .cells #[.slice Ao44 t196.length co44] 28 (0, 0)) (by (with_reducible repeat (first | refine blk_drewN ?_ _ | refine blk_drew ?_ | refine blk_alloc ?_ _)); exact BK199.out) hb)
            have n11_ := Aside0.mk (blk_below (g := gb203) (o := .cells #[.slice Ao48 t200.length co48] 28 (0, 0)) (by (with_reducible repeat (first | refine blk_drewN ?_ _ | refine blk_drew ?_ | refine blk_alloc ?_ _)); exact BK203.out) hb)
            have n12_ := Aside0.mk (below_step (by repeat (first | (with_reducible first | exact HB.out | apply below_alloc | apply pw_below_drewN | apply below_drew1 | refine below_set ?_ GE199.out | refine below_set ?_ GE203.out) | exact HB.out)) hb)
            clear HO195
            clear HO198
            clear HO202
            clear HO216
            clear HO222
            clear HO226
            clear HO232
            clear HO235
            clear HO244
            clear BK199
            clear BK203
            clear HB
            have HO195 := n0_
            have HO198 := n1_
            have HO202 := n2_
            have HO216 := n3_
            have HO222 := n4_
            have HO226 := n5_
            have HO232 := n6_
            have HO235 := n7_
            have HO244 := n8_
            have HO238 := n9_
            have BK199 := n10_
            have BK203 := n11_
            have HB := n12_
            clear n0_ n1_ n2_ n3_ n4_ n5_ n6_ n7_ n8_ n9_ n10_ n11_ n12_
            (try clear hb)
            (try clear hb2)
            (try clear hk)
            (try clear hi)
            (try clear ho0)
            obtain ⟨Ao73, co73, eo73⟩ := Kd.N_slice HO238.out
            (first | subst eo73 | (injection eo73 with f1_ f2_ f3_; have f4_ := f1_.symm; have f5_ := f3_.symm; clear f1_ f2_ f3_; subst f4_; subst f5_))
            refine hK.out _ _ ((blk_cell BK199.out 0).trans rfl) (fun hHeld => ?_)
            clear hK K
            refine norm_ (a' := ?_) ?_ ?_
            rotate_left
            ·show Act.put _ (some 67) _ = _
             simp only [Act.put, List.setIfInBounds_toArray, List.set_cons_zero, List.set_cons_succ, i64_w, i32_w]
             rfl
            refine one_ (i := 25) (N := some 68) #[true, true, true, true, true, true, true, true, true, true, true, true, true, true, true, true, true, true, true, true, true, true, true, true, true, true, true, false, false, false, false, false, false, false, false, false, false, false] rfl rfl (one_of HT_.out (by kernel_rfl)) (by decide) (fun K hK => ?_)
            refine goes_ Try.func21 (by kernel_rfl) rfl #[.agg #[.slice Ao44 t196.length co44], .slice Ao73 t236.length co73] (by rfl) rfl rfl (by (try simp only [List.map_toArray, List.map_cons, List.map_nil]); first | done | rfl | (simp only [List.length_drop, List.length_take]; rfl)) ?_
            with_reducible refine (index_Affected.calls _ _ t196 _ _ t236 t239 _ ?side1 ?side2 ?side3 ?side4 A25.out).mono ?_
            (case side1 => repeat (first | exact (Kd.R_reads' HO198.out).2.2 | (with_reducible refine Kd.C_alloc ?_ _) | (with_reducible refine Kd.C_drewN ?_ _) | (with_reducible refine Kd.C_drew ?_)))
            (case side2 => exact (Kd.R_reads' HO198.out).2.1)
            (case side3 => repeat (first | exact (Kd.N_reads' HO238.out).2.2 | (with_reducible refine Kd.C_alloc ?_ _) | (with_reducible refine Kd.C_drewN ?_ _) | (with_reducible refine Kd.C_drew ?_)))
            (case side4 => exact (Kd.N_reads' HO238.out).2.1)
            rintro e w74 ⟨v240, rfl, ho0, hb⟩
            refine ⟨_, rfl, ?_⟩
            have n0_ := Aside0.mk (Kd.N_elder' (by (with_reducible repeat (first | apply Kd.N_alloc | apply Kd.N_drewN | apply Kd.N_drew)); exact HO195.out) (Kd.R_base ho0) hb)
            have n1_ := Aside0.mk (Kd.R_below (by (with_reducible repeat (first | apply Kd.R_alloc | apply Kd.R_drewN | apply Kd.R_drew)); exact HO198.out) hb)
            have n2_ := Aside0.mk (Kd.R_below (by (with_reducible repeat (first | apply Kd.R_alloc | apply Kd.R_drewN | apply Kd.R_drew)); exact HO202.out) hb)
            have n3_ := Aside0.mk (Kd.R_below (by (with_reducible repeat (first | apply Kd.R_alloc | apply Kd.R_drewN | apply Kd.R_drew)); exact HO216.out) hb)
            have n4_ := Aside0.mk (Kd.V_elder' (by (with_reducible repeat (first | apply Kd.V_alloc | apply Kd.V_drewN | apply Kd.V_drew)); exact HO222.out) (Kd.R_base ho0) hb)
            have n5_ := Aside0.mk (Kd.R_below (by (with_reducible repeat (first | apply Kd.R_alloc | apply Kd.R_drewN | apply Kd.R_drew)); exact HO226.out) hb)
            have n6_ := Aside0.mk (Kd.N_elder' (by (with_reducible repeat (first | apply Kd.N_alloc | apply Kd.N_drewN | apply Kd.N_drew)); exact HO232.out) (Kd.R_base ho0) hb)
            have n7_ := Aside0.mk (Kd.R_elder' (by (with_reducible repeat (first | apply Kd.R_alloc | apply Kd.R_drewN | apply Kd.R_drew)); exact HO235.out) (Kd.R_base ho0) hb)
            have n8_ := Aside0.mk (Kd.R_elder' (by (with_reducible repeat (first | apply Kd.R_alloc | apply Kd.R_drewN | apply Kd.R_drew)); exact HO244.out) (Kd.R_base ho0) hb)
            have n9_ := Aside0.mk (Kd.N_elder' (by (with_reducible repeat (first | apply Kd.N_alloc | apply Kd.N_drewN | apply Kd.N_drew)); exact HO238.out) (Kd.R_base ho0) hb)
            have n10_ := Aside0.mk (Kd.R_lower (Kd.R_new' (Kd.R_new' ho0 (Kd.R_lt (by (with_reducible repeat (first | apply Kd.R_alloc | apply Kd.R_drewN | apply Kd.R_drew)); exact HO235.out))) (Kd.R_lt (by (with_reducible repeat (first | apply Kd.R_alloc | apply Kd.R_drewN | apply Kd.R_drew)); exact HO244.out))) (below_size (by repeat (first | (with_reducible first | exact HB.out | apply below_alloc | apply pw_below_drewN | apply below_drew1 | refine below_set ?_ GE199.out | refine below_set ?_ GE203.out) | exact HB.out))))
            have n11_ := Aside0.mk (blk_below (g := gb199) (o := .cells #[.slice Ao44 t196.length co44] 28 (0, 0)) (by (with_reducible repeat (first | refine blk_drewN ?_ _ | refine blk_drew ?_ | refine blk_alloc ?_ _)); exact BK199.out) hb)
            have n12_ := Aside0.mk (blk_below (g := gb203) (o := .cells #[.slice Ao48 t200.length co48] 28 (0, 0)) (by (with_reducible repeat (first | refine blk_drewN ?_ _ | refine blk_drew ?_ | refine blk_alloc ?_ _)); exact BK203.out) hb)
            have n13_ := Aside0.mk (below_step (by repeat (first | (with_reducible first | exact HB.out | apply below_alloc | apply pw_below_drewN | apply below_drew1 | refine below_set ?_ GE199.out | refine below_set ?_ GE203.out) | exact HB.out)) hb)
            clear HO195
            clear HO198
            clear HO202
            clear HO216
            clear HO222
            clear HO226
            clear HO232
            clear HO235
            clear HO244
            clear HO238
            clear BK199
            clear BK203
            clear HB
            have HO195 := n0_
            have HO198 := n1_
            have HO202 := n2_
            have HO216 := n3_
            have HO222 := n4_
            have HO226 := n5_
            have HO232 := n6_
            have HO235 := n7_
            have HO244 := n8_
            have HO238 := n9_
            have HO241 := n10_
            have BK199 := n11_
            have BK203 := n12_
            have HB := n13_
            clear n0_ n1_ n2_ n3_ n4_ n5_ n6_ n7_ n8_ n9_ n10_ n11_ n12_ n13_
            (try clear hb)
            (try clear hb2)
            (try clear hk)
            (try clear hi)
            (try clear ho0)
            refine hK.out _ _ ((blk_cell BK199.out 0).trans rfl) (fun hHeld => ?_)
            clear hK K
            refine norm_ (a' := ?_) ?_ ?_
            rotate_left
            ·show Act.put _ (some 68) _ = _
             simp only [Act.put, List.setIfInBounds_toArray, List.set_cons_zero, List.set_cons_succ, i64_w, i32_w]
             rfl
            exact norm_ (by simp only [putAll, Act.put, List.setIfInBounds_toArray, List.set_cons_zero, List.set_cons_succ]) (hCont (.slice Ao73 t236.length co73, v240, v243) _ ⟨hHeld, (by (with_reducible repeat (first | apply Kd.N_alloc | apply Kd.N_drewN | apply Kd.N_drew)); exact Kd.N_mono HO195.out (fun _ hk => ⟨hk.1.1.1.1.1.1.1.1.1.1.2, ⟨hk.1.1.1.1.1.1.1.1.2, ⟨hk.1.1.1.1.1.1.2, ⟨hk.1.1.1.1.1.2, ⟨hk.1.1.1.1.2, ⟨hk.1.1.1.2, ⟨hk.1.2, ⟨hk.2, ⟨hk.1.1.2, ⟨hk.1.1.1.1.1.1.1.1.1.2, hk.1.1.1.1.1.1.1.2⟩⟩⟩⟩⟩⟩⟩⟩⟩⟩)), (by (with_reducible repeat (first | apply Kd.R_alloc | apply Kd.R_drewN | apply Kd.R_drew)); exact Kd.R_mono HO198.out (fun _ hk => ⟨hk.1.1.2, ⟨hk.1.2, hk.2⟩⟩)), (by (with_reducible repeat (first | apply Kd.R_alloc | apply Kd.R_drewN | apply Kd.R_drew)); exact Kd.R_mono HO202.out (fun _ hk => ⟨hk.1.1.2, ⟨hk.1.2, hk.2⟩⟩)), (by (with_reducible repeat (first | apply Kd.R_alloc | apply Kd.R_drewN | apply Kd.R_drew)); exact Kd.R_mono HO216.out (fun _ hk => ⟨hk.1.1.2, ⟨hk.1.2, hk.2⟩⟩)), (by (with_reducible repeat (first | apply Kd.V_alloc | apply Kd.V_drewN | apply Kd.V_drew)); exact Kd.V_mono HO222.out (fun _ hk => ⟨hk.1.1.1.1.1.1.1.1.2, ⟨hk.1.1.1.1.1.1.1.1.1.1.2, ⟨hk.1.1.1.1.1.1.1.1.1.2, ⟨hk.1.1.1.1.1.2, ⟨hk.1.1.1.1.2, ⟨hk.1.1.1.2, ⟨hk.1.2, ⟨hk.2, ⟨hk.1.1.2, ⟨hk.1.1.1.1.1.1.1.2, hk.1.1.1.1.1.1.2⟩⟩⟩⟩⟩⟩⟩⟩⟩⟩)), (by (with_reducible repeat (first | apply Kd.R_alloc | apply Kd.R_drewN | apply Kd.R_drew)); exact Kd.R_mono HO226.out (fun _ hk => ⟨hk.1.1.2, ⟨hk.1.2, hk.2⟩⟩)), (by (with_reducible repeat (first | apply Kd.N_alloc | apply Kd.N_drewN | apply Kd.N_drew)); exact Kd.N_mono HO232.out (fun _ hk => ⟨hk.1.1.1.1.1, ⟨hk.1.1.1.1.2.1, ⟨hk.1.1.1.1.2.2.1, ⟨hk.1.1.1.1.2.2.2.1, ⟨hk.1.1.1.1.2.2.2.2.1, ⟨hk.1.1.1.2, ⟨hk.1.2, ⟨hk.2, ⟨hk.1.1.2, ⟨hk.1.1.1.1.2.2.2.2.2.1, hk.1.1.1.1.2.2.2.2.2.2⟩⟩⟩⟩⟩⟩⟩⟩⟩⟩)), (by (with_reducible repeat (first | apply Kd.R_alloc | apply Kd.R_drewN | apply Kd.R_drew)); exact Kd.R_mono HO235.out (fun _ hk => ⟨hk.2, hk.1.2⟩)), (by (with_reducible repeat (first | apply Kd.N_alloc | apply Kd.N_drewN | apply Kd.N_drew)); exact Kd.N_mono HO238.out (fun _ hk => ⟨hk.1.1, ⟨hk.1.2.1, ⟨hk.1.2.2.1, ⟨hk.1.2.2.2.1, ⟨hk.1.2.2.2.2.1, ⟨hk.1.2.2.2.2.2.1, ⟨hk.1.2.2.2.2.2.2.1, ⟨hk.2, ⟨hk.1.2.2.2.2.2.2.2.1, ⟨hk.1.2.2.2.2.2.2.2.2.1, hk.1.2.2.2.2.2.2.2.2.2⟩⟩⟩⟩⟩⟩⟩⟩⟩⟩)), (by (with_reducible repeat (first | apply Kd.R_alloc | apply Kd.R_drewN | apply Kd.R_drew)); exact Kd.R_mono HO241.out (fun _ hk => ⟨hk.1.2, hk.2⟩)), (by (with_reducible repeat (first | apply Kd.R_alloc | apply Kd.R_drewN | apply Kd.R_drew)); exact Kd.R_mono HO244.out (fun _ hk => ⟨hk.1.2, hk.2⟩)), (by (with_reducible repeat (first | refine blk_drewN ?_ _ | refine blk_drew ?_ | refine blk_alloc ?_ _)); exact BK199.out), (by (with_reducible repeat (first | refine blk_drewN ?_ _ | refine blk_drew ?_ | refine blk_alloc ?_ _)); exact BK203.out), (by repeat (first | (with_reducible first | exact HB.out | apply below_alloc | apply pw_below_drewN | apply below_drew1 | refine below_set ?_ GE199.out | refine below_set ?_ GE203.out) | exact HB.out))⟩)
          rintro ⟨v237, v240, v243⟩ w75 ⟨hS_, h0_, h1_, h2_, h3_, h4_, h5_, h6_, h7_, h8_, h9_, h10_, h11_, h12_, h13_⟩
          have n0_ : Aside0 (Kd.N k35 35 w75 w.heap.size (fun k_ => some k_ ≠ (.slice Ao44 t196.length co44 : Value).ownBlock ∧ some k_ ≠ (.slice Ao48 t200.length co48 : Value).ownBlock ∧ some k_ ≠ (.slice Ao56 y214.length co56 : Value).ownBlock ∧ some k_ ≠ (.slice Ao61 t224.length co61 : Value).ownBlock ∧ some k_ ≠ (.slice Ao67 t230.length co67 : Value).ownBlock ∧ some k_ ≠ (.slice Ao69 t233.length co69 : Value).ownBlock ∧ some k_ ≠ (v237 : Value).ownBlock ∧ some k_ ≠ (v240 : Value).ownBlock ∧ some k_ ≠ (v243 : Value).ownBlock ∧ k_ ≠ gb199 ∧ k_ ≠ gb203) (.slice Ao41 y193.length co41) y193) := ⟨h0_⟩
          have n1_ : Aside0 (Kd.R k49 49 w75 w.heap.size (fun k_ => some k_ ≠ (.slice Ao48 t200.length co48 : Value).ownBlock ∧ some k_ ≠ (.slice Ao56 y214.length co56 : Value).ownBlock ∧ some k_ ≠ (.slice Ao61 t224.length co61 : Value).ownBlock) (.slice Ao44 t196.length co44) t196) := ⟨h1_⟩
          have n2_ : Aside0 (Kd.R k49 49 w75 w.heap.size (fun k_ => some k_ ≠ (.slice Ao44 t196.length co44 : Value).ownBlock ∧ some k_ ≠ (.slice Ao56 y214.length co56 : Value).ownBlock ∧ some k_ ≠ (.slice Ao61 t224.length co61 : Value).ownBlock) (.slice Ao48 t200.length co48) t200) := ⟨h2_⟩
          have n3_ : Aside0 (Kd.R k49 49 w75 w.heap.size (fun k_ => some k_ ≠ (.slice Ao44 t196.length co44 : Value).ownBlock ∧ some k_ ≠ (.slice Ao48 t200.length co48 : Value).ownBlock ∧ some k_ ≠ (.slice Ao61 t224.length co61 : Value).ownBlock) (.slice Ao56 y214.length co56) y214) := ⟨h3_⟩
          have n4_ : Aside0 (Kd.V k49 49 w75 w.heap.size (fun k_ => some k_ ≠ (.slice Ao41 y193.length co41 : Value).ownBlock ∧ some k_ ≠ (.slice Ao44 t196.length co44 : Value).ownBlock ∧ some k_ ≠ (.slice Ao48 t200.length co48 : Value).ownBlock ∧ some k_ ≠ (.slice Ao61 t224.length co61 : Value).ownBlock ∧ some k_ ≠ (.slice Ao67 t230.length co67 : Value).ownBlock ∧ some k_ ≠ (.slice Ao69 t233.length co69 : Value).ownBlock ∧ some k_ ≠ (v237 : Value).ownBlock ∧ some k_ ≠ (v240 : Value).ownBlock ∧ some k_ ≠ (v243 : Value).ownBlock ∧ k_ ≠ gb199 ∧ k_ ≠ gb203) (.slice Ao56 y218.length co56) y218) := ⟨h4_⟩
          have n5_ : Aside0 (Kd.R k49 49 w75 w.heap.size (fun k_ => some k_ ≠ (.slice Ao44 t196.length co44 : Value).ownBlock ∧ some k_ ≠ (.slice Ao48 t200.length co48 : Value).ownBlock ∧ some k_ ≠ (.slice Ao56 y214.length co56 : Value).ownBlock) (.slice Ao61 t224.length co61) t224) := ⟨h5_⟩
          have n6_ : Aside0 (Kd.N k63 63 w75 w.heap.size (fun k_ => some k_ ≠ (.slice Ao41 y193.length co41 : Value).ownBlock ∧ some k_ ≠ (.slice Ao44 t196.length co44 : Value).ownBlock ∧ some k_ ≠ (.slice Ao48 t200.length co48 : Value).ownBlock ∧ some k_ ≠ (.slice Ao56 y214.length co56 : Value).ownBlock ∧ some k_ ≠ (.slice Ao61 t224.length co61 : Value).ownBlock ∧ some k_ ≠ (.slice Ao69 t233.length co69 : Value).ownBlock ∧ some k_ ≠ (v237 : Value).ownBlock ∧ some k_ ≠ (v240 : Value).ownBlock ∧ some k_ ≠ (v243 : Value).ownBlock ∧ k_ ≠ gb199 ∧ k_ ≠ gb203) (.slice Ao67 t230.length co67) t230) := ⟨h6_⟩
          have n7_ : Aside0 (Kd.R (Kd.int .i64) 3 w75 w.heap.size (fun k_ => some k_ ≠ (v240 : Value).ownBlock ∧ some k_ ≠ (v243 : Value).ownBlock) (.slice Ao69 t233.length co69) t233) := ⟨h7_⟩
          have n8_ : Aside0 (Kd.N k63 63 w75 w.heap.size (fun k_ => some k_ ≠ (.slice Ao41 y193.length co41 : Value).ownBlock ∧ some k_ ≠ (.slice Ao44 t196.length co44 : Value).ownBlock ∧ some k_ ≠ (.slice Ao48 t200.length co48 : Value).ownBlock ∧ some k_ ≠ (.slice Ao56 y214.length co56 : Value).ownBlock ∧ some k_ ≠ (.slice Ao61 t224.length co61 : Value).ownBlock ∧ some k_ ≠ (.slice Ao67 t230.length co67 : Value).ownBlock ∧ some k_ ≠ (.slice Ao69 t233.length co69 : Value).ownBlock ∧ some k_ ≠ (v240 : Value).ownBlock ∧ some k_ ≠ (v243 : Value).ownBlock ∧ k_ ≠ gb199 ∧ k_ ≠ gb203) v237 t236) := ⟨h8_⟩
          have n9_ : Aside0 (Kd.R (Kd.int .i64) 3 w75 w.heap.size (fun k_ => some k_ ≠ (.slice Ao69 t233.length co69 : Value).ownBlock ∧ some k_ ≠ (v243 : Value).ownBlock) v240 t239) := ⟨h9_⟩
          have n10_ : Aside0 (Kd.R (Kd.int .i64) 3 w75 w.heap.size (fun k_ => some k_ ≠ (.slice Ao69 t233.length co69 : Value).ownBlock ∧ some k_ ≠ (v240 : Value).ownBlock) v243 y242) := ⟨h10_⟩
          have n11_ : Aside0 (w75.heap[gb199]? = some (.cells #[.slice Ao44 t196.length co44] 28 (0, 0))) := ⟨h11_⟩
          have n12_ : Aside0 (w75.heap[gb203]? = some (.cells #[.slice Ao48 t200.length co48] 28 (0, 0))) := ⟨h12_⟩
          have n13_ : Aside0 (Below w.heap.size w w75) := ⟨h13_⟩
          clear HO195
          clear HO198
          clear HO202
          clear HO216
          clear HO222
          clear HO226
          clear BK199
          clear BK203
          clear HB
          clear h0_ h1_ h2_ h3_ h4_ h5_ h6_ h7_ h8_ h9_ h10_ h11_ h12_ h13_
          have HO195 := n0_
          have HO198 := n1_
          have HO202 := n2_
          have HO216 := n3_
          have HO222 := n4_
          have HO226 := n5_
          have HO232 := n6_
          have HO235 := n7_
          have HO238 := n8_
          have HO241 := n9_
          have HO244 := n10_
          have BK199 := n11_
          have BK203 := n12_
          have HB := n13_
          clear n0_ n1_ n2_ n3_ n4_ n5_ n6_ n7_ n8_ n9_ n10_ n11_ n12_ n13_
          have hHeld : w75.cell? ⟨gb199, 0, none⟩ = some (.slice Ao44 t196.length co44) := hS_
          obtain ⟨Ao76, co76, eo76⟩ := Kd.R_slice HO241.out
          (first | subst eo76 | (injection eo76 with f1_ f2_ f3_; have f4_ := f1_.symm; have f5_ := f3_.symm; clear f1_ f2_ f3_; subst f4_; subst f5_))
          obtain ⟨Ao77, co77, eo77⟩ := Kd.R_slice HO244.out
          (first | subst eo77 | (injection eo77 with f1_ f2_ f3_; have f4_ := f1_.symm; have f5_ := f3_.symm; clear f1_ f2_ f3_; subst f4_; subst f5_))
          refine norm_ (a' := ?_) ?_ ?_
          rotate_left
          ·simp only [putAll, Act.put, List.setIfInBounds_toArray, List.set_cons_zero, List.set_cons_succ]
           rfl
          refine one_ (i := 27) (N := some 70) #[true, true, true, true, true, true, true, true, true, true, true, true, true, true, true, true, true, true, true, true, true, true, true, true, true, true, true, true, false, false, false, false, false, false, false, false, false, false] rfl rfl (one_of HT_.out (by kernel_rfl)) (by decide) (fun K hK => ?_)
          refine goes_ Try.func20 (by kernel_rfl) rfl #[.slice Ao76 t239.length co76, .slice Ao77 y242.length co77] (by rfl) rfl rfl (by (try simp only [List.map_toArray, List.map_cons, List.map_nil]); first | done | rfl | (simp only [List.length_drop, List.length_take]; rfl)) ?_
          with_reducible refine (sizarref35_SameInts.calls k _ _ t239 _ _ y242 true _ ?side1 ?side2 ?side3 ?side4 A26.out).mono ?_
          (case side1 => repeat (first | exact (Kd.R_reads' HO241.out).2.2 | (with_reducible refine Kd.C_alloc ?_ _) | (with_reducible refine Kd.C_drewN ?_ _) | (with_reducible refine Kd.C_drew ?_)))
          (case side2 => exact (Kd.R_reads' HO241.out).2.1)
          (case side3 => repeat (first | exact (Kd.R_reads' HO244.out).2.2 | (with_reducible refine Kd.C_alloc ?_ _) | (with_reducible refine Kd.C_drewN ?_ _) | (with_reducible refine Kd.C_drew ?_)))
          (case side4 => exact (Kd.R_reads' HO244.out).2.1)
          rintro e w' ⟨rfl, ⟨nd, rfl⟩⟩
          refine ⟨_, rfl, ?_⟩
          refine hK.out _ _ ((blk_cell BK199.out 0).trans rfl) (fun hHeld => ?_)
          clear hK K
          refine norm_ (a' := ?_) ?_ ?_
          rotate_left
          ·show Act.put _ (some 70) _ = _
           simp only [Act.put, List.setIfInBounds_toArray, List.set_cons_zero, List.set_cons_succ, i64_w, i32_w]
           rfl
          refine pure_ (i := 28) (N := some 71) (v := ?_) (a' := ?_) #[true, true, true, true, true, true, true, true, true, true, true, true, true, true, true, true, true, true, true, true, true, true, true, true, true, true, true, true, true, false, false, false, false, false, false, false, false, false] rfl rfl (any_of HT_.out (by kernel_rfl)) (fun _ _ _ h => h) (Or.inl ⟨by rfl, ?_⟩) ?_ ?_
          rotate_left
          ·intro w'
           go_simp
           with_reducible rfl
          rotate_left
          ·simp only [Act.put, List.setIfInBounds_toArray, List.set_cons_zero, List.set_cons_succ, i64_w, i32_w]
           rfl
          refine pure_ (i := 29) (N := some 72) (v := ?_) (a' := ?_) #[true, true, true, true, true, true, true, true, true, true, true, true, true, true, true, true, true, true, true, true, true, true, true, true, true, true, true, true, true, true, false, false, false, false, false, false, false, false] rfl rfl (any_of HT_.out (by kernel_rfl)) (fun _ _ _ h => h) (Or.inl ⟨by rfl, ?_⟩) ?_ ?_
          rotate_left
          ·intro w'
           go_simp
           with_reducible rfl
          rotate_left
          ·simp only [Act.put, List.setIfInBounds_toArray, List.set_cons_zero, List.set_cons_succ, i64_w, i32_w]
           rfl
          refine pure_ (i := 30) (N := some 73) (v := ?_) (a' := ?_) #[true, true, true, true, true, true, true, true, true, true, true, true, true, true, true, true, true, true, true, true, true, true, true, true, true, true, true, true, true, true, true, false, false, false, false, false, false, false] rfl rfl (any_of HT_.out (by kernel_rfl)) (fun _ _ _ h => h) (Or.inl ⟨by rfl, ?_⟩) ?_ ?_
          rotate_left
          ·intro w'
           go_simp
           with_reducible rfl
          rotate_left
          ·simp only [Act.put, List.setIfInBounds_toArray, List.set_cons_zero, List.set_cons_succ, i64_w, i32_w]
           rfl
          refine pure_ (i := 31) (N := some 74) (v := ?_) (a' := ?_) #[true, true, true, true, true, true, true, true, true, true, true, true, true, true, true, true, true, true, true, true, true, true, true, true, true, true, true, true, true, true, true, true, false, false, false, false, false, false] rfl rfl (any_of HT_.out (by kernel_rfl)) (fun _ _ _ h => h) (Or.inl ⟨by rfl, ?_⟩) ?_ ?_
          rotate_left
          ·intro w'
           go_simp
           with_reducible rfl
          rotate_left
          ·simp only [Act.put, List.setIfInBounds_toArray, List.set_cons_zero, List.set_cons_succ, i64_w, i32_w]
           rfl
          refine one_ (i := 32) (N := some 75) #[true, true, true, true, true, true, true, true, true, true, true, true, true, true, true, true, true, true, true, true, true, true, true, true, true, true, true, true, true, true, true, true, true, false, false, false, false, false] rfl rfl (one_of HT_.out (by kernel_rfl)) (by decide) (fun K hK => ?_)
          refine goesV_ Try.func27 (by kernel_rfl) rfl #[.int .i64 4] (by rfl) rfl rfl rfl (by (try simp only [List.map_toArray, List.map_cons, List.map_nil]); first | done | rfl | (simp only [List.length_drop, List.length_take]; rfl)) ?_
          with_reducible refine (sizarlaw35_sane_1.calls 4 t246 _ A28.out).mono ?_
          rintro e w78 ⟨v247, rfl, ho0, hb⟩
          refine ⟨_, rfl, ?_⟩
          have n0_ := Aside0.mk (Kd.N_elder' (by (with_reducible repeat (first | apply Kd.N_alloc | apply Kd.N_drewN | apply Kd.N_drew)); exact HO195.out) (Kd.N_base ho0) hb)
          have n1_ := Aside0.mk (Kd.R_below (by (with_reducible repeat (first | apply Kd.R_alloc | apply Kd.R_drewN | apply Kd.R_drew)); exact HO198.out) hb)
          have n2_ := Aside0.mk (Kd.R_below (by (with_reducible repeat (first | apply Kd.R_alloc | apply Kd.R_drewN | apply Kd.R_drew)); exact HO202.out) hb)
          have n3_ := Aside0.mk (Kd.R_below (by (with_reducible repeat (first | apply Kd.R_alloc | apply Kd.R_drewN | apply Kd.R_drew)); exact HO216.out) hb)
          have n4_ := Aside0.mk (Kd.V_elder' (by (with_reducible repeat (first | apply Kd.V_alloc | apply Kd.V_drewN | apply Kd.V_drew)); exact HO222.out) (Kd.N_base ho0) hb)
          have n5_ := Aside0.mk (Kd.R_below (by (with_reducible repeat (first | apply Kd.R_alloc | apply Kd.R_drewN | apply Kd.R_drew)); exact HO226.out) hb)
          have n6_ := Aside0.mk (Kd.N_elder' (by (with_reducible repeat (first | apply Kd.N_alloc | apply Kd.N_drewN | apply Kd.N_drew)); exact HO232.out) (Kd.N_base ho0) hb)
          have n7_ := Aside0.mk (Kd.R_below (by (with_reducible repeat (first | apply Kd.R_alloc | apply Kd.R_drewN | apply Kd.R_drew)); exact HO235.out) hb)
          have n8_ := Aside0.mk (Kd.N_elder' (by (with_reducible repeat (first | apply Kd.N_alloc | apply Kd.N_drewN | apply Kd.N_drew)); exact HO238.out) (Kd.N_base ho0) hb)
          have n9_ := Aside0.mk (Kd.R_below (by (with_reducible repeat (first | apply Kd.R_alloc | apply Kd.R_drewN | apply Kd.R_drew)); exact HO241.out) hb)
          have n10_ := Aside0.mk (Kd.R_below (by (with_reducible repeat (first | apply Kd.R_alloc | apply Kd.R_drewN | apply Kd.R_drew)); exact HO244.out) hb)
          have n11_ := Aside0.mk (Kd.N_lower (Kd.N_mono (ok' := fun k_ => some k_ ≠ (.slice Ao41 y193.length co41 : Value).ownBlock ∧ some k_ ≠ (.slice Ao44 t196.length co44 : Value).ownBlock ∧ some k_ ≠ (.slice Ao48 t200.length co48 : Value).ownBlock ∧ some k_ ≠ (.slice Ao56 y214.length co56 : Value).ownBlock ∧ some k_ ≠ (.slice Ao61 t224.length co61 : Value).ownBlock ∧ some k_ ≠ (.slice Ao67 t230.length co67 : Value).ownBlock ∧ some k_ ≠ (.slice Ao69 t233.length co69 : Value).ownBlock ∧ some k_ ≠ (v237 : Value).ownBlock ∧ some k_ ≠ (.slice Ao76 t239.length co76 : Value).ownBlock ∧ some k_ ≠ (.slice Ao77 y242.length co77 : Value).ownBlock ∧ k_ ≠ gb199 ∧ k_ ≠ gb203) ho0 (fun k_ hk_ => ⟨(Kd.fresh' (Kd.N_lt (by (with_reducible repeat (first | apply Kd.N_alloc | apply Kd.N_drewN | apply Kd.N_drew)); exact HO195.out)) k_ hk_), (Kd.fresh' (Kd.R_lt (by (with_reducible repeat (first | apply Kd.R_alloc | apply Kd.R_drewN | apply Kd.R_drew)); exact HO198.out)) k_ hk_), (Kd.fresh' (Kd.R_lt (by (with_reducible repeat (first | apply Kd.R_alloc | apply Kd.R_drewN | apply Kd.R_drew)); exact HO202.out)) k_ hk_), (Kd.fresh' (Kd.R_lt (by (with_reducible repeat (first | apply Kd.R_alloc | apply Kd.R_drewN | apply Kd.R_drew)); exact HO216.out)) k_ hk_), (Kd.fresh' (Kd.R_lt (by (with_reducible repeat (first | apply Kd.R_alloc | apply Kd.R_drewN | apply Kd.R_drew)); exact HO226.out)) k_ hk_), (Kd.fresh' (Kd.N_lt (by (with_reducible repeat (first | apply Kd.N_alloc | apply Kd.N_drewN | apply Kd.N_drew)); exact HO232.out)) k_ hk_), (Kd.fresh' (Kd.R_lt (by (with_reducible repeat (first | apply Kd.R_alloc | apply Kd.R_drewN | apply Kd.R_drew)); exact HO235.out)) k_ hk_), (Kd.fresh' (Kd.N_lt (by (with_reducible repeat (first | apply Kd.N_alloc | apply Kd.N_drewN | apply Kd.N_drew)); exact HO238.out)) k_ hk_), (Kd.fresh' (Kd.R_lt (by (with_reducible repeat (first | apply Kd.R_alloc | apply Kd.R_drewN | apply Kd.R_drew)); exact HO241.out)) k_ hk_), (Kd.fresh' (Kd.R_lt (by (with_reducible repeat (first | apply Kd.R_alloc | apply Kd.R_drewN | apply Kd.R_drew)); exact HO244.out)) k_ hk_), (Kd.freshB (g := gb199) (o := .cells #[.slice Ao44 t196.length co44] 28 (0, 0)) (by (with_reducible repeat (first | refine blk_drewN ?_ _ | refine blk_drew ?_ | refine blk_alloc ?_ _)); exact BK199.out) k_ hk_), (Kd.freshB (g := gb203) (o := .cells #[.slice Ao48 t200.length co48] 28 (0, 0)) (by (with_reducible repeat (first | refine blk_drewN ?_ _ | refine blk_drew ?_ | refine blk_alloc ?_ _)); exact BK203.out) k_ hk_)⟩)) (below_size (by repeat (first | (with_reducible first | exact HB.out | apply below_alloc | apply pw_below_drewN | apply below_drew1 | refine below_set ?_ GE199.out | refine below_set ?_ GE203.out) | exact HB.out))))
          have n12_ := Aside0.mk (blk_below (g := gb199) (o := .cells #[.slice Ao44 t196.length co44] 28 (0, 0)) (by (with_reducible repeat (first | refine blk_drewN ?_ _ | refine blk_drew ?_ | refine blk_alloc ?_ _)); exact BK199.out) hb)
          have n13_ := Aside0.mk (blk_below (g := gb203) (o := .cells #[.slice Ao48 t200.length co48] 28 (0, 0)) (by (with_reducible repeat (first | refine blk_drewN ?_ _ | refine blk_drew ?_ | refine blk_alloc ?_ _)); exact BK203.out) hb)
          have n14_ := Aside0.mk (below_step (by repeat (first | (with_reducible first | exact HB.out | apply below_alloc | apply pw_below_drewN | apply below_drew1 | refine below_set ?_ GE199.out | refine below_set ?_ GE203.out) | exact HB.out)) hb)
          clear HO195
          clear HO198
          clear HO202
          clear HO216
          clear HO222
          clear HO226
          clear HO232
          clear HO235
          clear HO238
          clear HO241
          clear HO244
          clear BK199
          clear BK203
          clear HB
          have HO195 := n0_
          have HO198 := n1_
          have HO202 := n2_
          have HO216 := n3_
          have HO222 := n4_
          have HO226 := n5_
          have HO232 := n6_
          have HO235 := n7_
          have HO238 := n8_
          have HO241 := n9_
          have HO244 := n10_
          have HO248 := n11_
          have BK199 := n12_
          have BK203 := n13_
          have HB := n14_
          clear n0_ n1_ n2_ n3_ n4_ n5_ n6_ n7_ n8_ n9_ n10_ n11_ n12_ n13_ n14_
          (try clear hb)
          (try clear hb2)
          (try clear hk)
          (try clear hi)
          (try clear ho0)
          obtain ⟨Ao79, co79, eo79⟩ := Kd.N_slice HO248.out
          (first | subst eo79 | (injection eo79 with f1_ f2_ f3_; have f4_ := f1_.symm; have f5_ := f3_.symm; clear f1_ f2_ f3_; subst f4_; subst f5_))
          refine hK.out _ _ ((blk_cell BK199.out 0).trans rfl) (fun hHeld => ?_)
          clear hK K
          refine norm_ (a' := ?_) ?_ ?_
          rotate_left
          ·show Act.put _ (some 75) _ = _
           simp only [Act.put, List.setIfInBounds_toArray, List.set_cons_zero, List.set_cons_succ, i64_w, i32_w]
           rfl
          refine one_ (i := 33) (N := some 76) #[true, true, true, true, true, true, true, true, true, true, true, true, true, true, true, true, true, true, true, true, true, true, true, true, true, true, true, true, true, true, true, true, true, true, false, false, false, false] rfl rfl (one_of HT_.out (by kernel_rfl)) (by decide) (fun K hK => ?_)
          refine goes_ Try.func21 (by kernel_rfl) rfl #[.agg #[.slice none 0 0], .slice Ao79 t246.length co79] (by rfl) rfl rfl (by (try simp only [List.map_toArray, List.map_cons, List.map_nil]); first | done | rfl | (simp only [List.length_drop, List.length_take]; rfl)) ?_
          refine (index_Affected.calls _ _ ([] : List (S49)) _ _ t246 t249 _ ?side1 ?side2 ?side3 ?side4 A29.out).mono ?_
          (case side1 => exact Kd.C_nil _ _)
          (case side2 => exact Nat.le_refl _)
          (case side3 => repeat (first | exact (Kd.N_reads' HO248.out).2.2 | (with_reducible refine Kd.C_alloc ?_ _) | (with_reducible refine Kd.C_drewN ?_ _) | (with_reducible refine Kd.C_drew ?_)))
          (case side4 => exact (Kd.N_reads' HO248.out).2.1)
          rintro e w80 ⟨v250, rfl, ho0, hb⟩
          refine ⟨_, rfl, ?_⟩
          have n0_ := Aside0.mk (Kd.N_elder' (by (with_reducible repeat (first | apply Kd.N_alloc | apply Kd.N_drewN | apply Kd.N_drew)); exact HO195.out) (Kd.R_base ho0) hb)
          have n1_ := Aside0.mk (Kd.R_below (by (with_reducible repeat (first | apply Kd.R_alloc | apply Kd.R_drewN | apply Kd.R_drew)); exact HO198.out) hb)
          have n2_ := Aside0.mk (Kd.R_below (by (with_reducible repeat (first | apply Kd.R_alloc | apply Kd.R_drewN | apply Kd.R_drew)); exact HO202.out) hb)
          have n3_ := Aside0.mk (Kd.R_below (by (with_reducible repeat (first | apply Kd.R_alloc | apply Kd.R_drewN | apply Kd.R_drew)); exact HO216.out) hb)
          have n4_ := Aside0.mk (Kd.V_elder' (by (with_reducible repeat (first | apply Kd.V_alloc | apply Kd.V_drewN | apply Kd.V_drew)); exact HO222.out) (Kd.R_base ho0) hb)
          have n5_ := Aside0.mk (Kd.R_below (by (with_reducible repeat (first | apply Kd.R_alloc | apply Kd.R_drewN | apply Kd.R_drew)); exact HO226.out) hb)
          have n6_ := Aside0.mk (Kd.N_elder' (by (with_reducible repeat (first | apply Kd.N_alloc | apply Kd.N_drewN | apply Kd.N_drew)); exact HO232.out) (Kd.R_base ho0) hb)
          have n7_ := Aside0.mk (Kd.R_elder' (by (with_reducible repeat (first | apply Kd.R_alloc | apply Kd.R_drewN | apply Kd.R_drew)); exact HO235.out) (Kd.R_base ho0) hb)
          have n8_ := Aside0.mk (Kd.N_elder' (by (with_reducible repeat (first | apply Kd.N_alloc | apply Kd.N_drewN | apply Kd.N_drew)); exact HO238.out) (Kd.R_base ho0) hb)
          have n9_ := Aside0.mk (Kd.R_elder' (by (with_reducible repeat (first | apply Kd.R_alloc | apply Kd.R_drewN | apply Kd.R_drew)); exact HO241.out) (Kd.R_base ho0) hb)
          have n10_ := Aside0.mk (Kd.R_elder' (by (with_reducible repeat (first | apply Kd.R_alloc | apply Kd.R_drewN | apply Kd.R_drew)); exact HO244.out) (Kd.R_base ho0) hb)
          have n11_ := Aside0.mk (Kd.N_elder' (by (with_reducible repeat (first | apply Kd.N_alloc | apply Kd.N_drewN | apply Kd.N_drew)); exact HO248.out) (Kd.R_base ho0) hb)
          have n12_ := Aside0.mk (Kd.R_lower (Kd.R_new' (Kd.R_new' (Kd.R_new' ho0 (Kd.R_lt (by (with_reducible repeat (first | apply Kd.R_alloc | apply Kd.R_drewN | apply Kd.R_drew)); exact HO235.out))) (Kd.R_lt (by (with_reducible repeat (first | apply Kd.R_alloc | apply Kd.R_drewN | apply Kd.R_drew)); exact HO241.out))) (Kd.R_lt (by (with_reducible repeat (first | apply Kd.R_alloc | apply Kd.R_drewN | apply Kd.R_drew)); exact HO244.out))) (below_size (by repeat (first | (with_reducible first | exact HB.out | apply below_alloc | apply pw_below_drewN | apply below_drew1 | refine below_set ?_ GE199.out | refine below_set ?_ GE203.out) | exact HB.out))))
          have n13_ := Aside0.mk (blk_below (g := gb199) (o := .cells #[.slice Ao44 t196.length co44] 28 (0, 0)) (by (with_reducible repeat (first | refine blk_drewN ?_ _ | refine blk_drew ?_ | refine blk_alloc ?_ _)); exact BK199.out) hb)
          have n14_ := Aside0.mk (blk_below (g := gb203) (o := .cells #[.slice Ao48 t200.length co48] 28 (0, 0)) (by (with_reducible repeat (first | refine blk_drewN ?_ _ | refine blk_drew ?_ | refine blk_alloc ?_ _)); exact BK203.out) hb)
          have n15_ := Aside0.mk (below_step (by repeat (first | (with_reducible first | exact HB.out | apply below_alloc | apply pw_below_drewN | apply below_drew1 | refine below_set ?_ GE199.out | refine below_set ?_ GE203.out) | exact HB.out)) hb)
          clear HO195
          clear HO198
          clear HO202
          clear HO216
          clear HO222
          clear HO226
          clear HO232
          clear HO235
          clear HO238
          clear HO241
          clear HO244
          clear HO248
          clear BK199
          clear BK203
          clear HB
          have HO195 := n0_
          have HO198 := n1_
          have HO202 := n2_
          have HO216 := n3_
          have HO222 := n4_
          have HO226 := n5_
          have HO232 := n6_
          have HO235 := n7_
          have HO238 := n8_
          have HO241 := n9_
          have HO244 := n10_
          have HO248 := n11_
          have HO251 := n12_
          have BK199 := n13_
          have BK203 := n14_
          have HB := n15_
          clear n0_ n1_ n2_ n3_ n4_ n5_ n6_ n7_ n8_ n9_ n10_ n11_ n12_ n13_ n14_ n15_
          (try clear hb)
          (try clear hb2)
          (try clear hk)
          (try clear hi)
          (try clear ho0)
          obtain ⟨Ao81, co81, eo81⟩ := Kd.R_slice HO251.out
          (first | subst eo81 | (injection eo81 with f1_ f2_ f3_; have f4_ := f1_.symm; have f5_ := f3_.symm; clear f1_ f2_ f3_; subst f4_; subst f5_))
          refine hK.out _ _ ((blk_cell BK199.out 0).trans rfl) (fun hHeld => ?_)
          clear hK K
          refine norm_ (a' := ?_) ?_ ?_
          rotate_left
          ·show Act.put _ (some 76) _ = _
           simp only [Act.put, List.setIfInBounds_toArray, List.set_cons_zero, List.set_cons_succ, i64_w, i32_w]
           rfl
          refine pure_ (i := 34) (N := some 77) (v := ?_) (a' := ?_) #[true, true, true, true, true, true, true, true, true, true, true, true, true, true, true, true, true, true, true, true, true, true, true, true, true, true, true, true, true, true, true, true, true, true, true, false, false, false] rfl rfl (any_of HT_.out (by kernel_rfl)) (fun _ _ _ h => h) (Or.inl ⟨by rfl, ?_⟩) ?_ ?_
          rotate_left
          ·intro w'
           go_simp
           with_reducible rfl
          rotate_left
          ·simp only [Act.put, List.setIfInBounds_toArray, List.set_cons_zero, List.set_cons_succ, i64_w, i32_w]
           rfl
          refine pure_ (i := 35) (N := some 78) (v := ?_) (a' := ?_) #[true, true, true, true, true, true, true, true, true, true, true, true, true, true, true, true, true, true, true, true, true, true, true, true, true, true, true, true, true, true, true, true, true, true, true, true, false, false] rfl rfl (any_of HT_.out (by kernel_rfl)) (fun _ _ _ h => h) (Or.inl ⟨by rfl, ?_⟩) ?_ ?_
          rotate_left
          ·intro w'
           go_simp
           with_reducible rfl
          rotate_left
          ·simp only [Act.put, List.setIfInBounds_toArray, List.set_cons_zero, List.set_cons_succ, i64_w, i32_w]
           rfl
          refine pure_ (i := 36) (N := some 79) (v := ?_) (a' := ?_) #[true, true, true, true, true, true, true, true, true, true, true, true, true, true, true, true, true, true, true, true, true, true, true, true, true, true, true, true, true, true, true, true, true, true, true, true, true, false] rfl rfl (any_of HT_.out (by kernel_rfl)) (fun _ _ _ h => h) (Or.inl ⟨by rfl, ?_⟩) ?_ ?_
          rotate_left
          ·intro w'
           go_simp
           with_reducible rfl
          rotate_left
          ·simp only [Act.put, List.setIfInBounds_toArray, List.set_cons_zero, List.set_cons_succ, i64_w, i32_w]
           rfl
          refine pure_ (i := 37) (N := some 0) (v := ?_) (a' := ?_) #[true, true, true, true, true, true, true, true, true, true, true, true, true, true, true, true, true, true, true, true, true, true, true, true, true, true, true, true, true, true, true, true, true, true, true, true, true, true] rfl rfl (any_of HT_.out (by kernel_rfl)) (fun _ _ _ h => h) (Or.inl ⟨by rfl, ?_⟩) ?_ ?_
          rotate_left
          ·intro w'
           go_simp
           with_reducible rfl
          rotate_left
          ·simp only [Act.put, List.setIfInBounds_toArray, List.set_cons_zero, List.set_cons_succ, i64_w, i32_w]
           rfl
          refine done_ (done_of HT_.out (by kernel_rfl)) ?_
          try go_wp2
          go_ret
          exact ⟨by first | rfl | (simp [errW_none, errW_some] <;> rfl) | (simp [*, errW_none, errW_some] <;> rfl), by repeat (first | (with_reducible first | exact HB.out | apply below_alloc | apply pw_below_drewN | apply below_drew1 | refine below_set ?_ GE199.out | refine below_set ?_ GE203.out) | exact HB.out)⟩
         ·replace c27 := Bool.eq_false_iff.mpr c27
          subst c27
          have H1 : (none) = some r := by rw [if_neg (show ¬ (false = true) by decide)] at H; exact H
          clear H
          have H := H1
          clear H1
          exact absurd H (by simp)
        ·rw [if_neg c23] at H
         exact absurd H (by simp)
       ·rw [if_neg c20] at H
        exact absurd H (by simp)
      ·rw [if_neg c18] at H
       exact absurd H (by simp)
     ·rw [if_neg c16] at H
      exact absurd H (by simp)
    ·rw [if_neg c14] at H
     exact absurd H (by simp)
   ·replace c12 := Bool.eq_false_iff.mpr c12
    subst c12
    have H1 : (none) = some r := by rw [if_neg (show ¬ (false = true) by decide)] at H; exact H
    clear H
    have H := H1
    clear H1
    exact absurd H (by simp)
  ·rw [if_neg c10] at H
   exact absurd H (by simp)
 ·replace c9 := Bool.eq_false_iff.mpr c9
  subst c9
  have H1 : (none) = some r := by rw [if_neg (show ¬ (false = true) by decide)] at H; exact H
  clear H
  have H := H1
  clear H1
  exact absurd H (by simp)
end Go.Proofs.Ytodmmckieoakjaa.P
namespace Go.Proofs.Ytodmmckieoakjaa.P
open Go.RowKit Go.Proofs.YtodmmckieoakjaaW.PrintWords Go.Proofs.YtodmmckieoakjaaW.PrintLast Go.Proofs.YtodmmckieoakjaaW.PrintMore
attribute [local go_sem] max2_int min2_int max_two min_two max_three min_three max_four min_four   -- for this text's walks alone
set_option linter.unusedVariables false
set_option linter.unusedSimpArgs false
def sizarref35_Few.l0 : Nat → List (S35) → Int → Int → Option (Bool)
 | 0, _, _, _ => none
 | k + 1, x0, x3, x4 => if x4 < (x0.length : Int) then (if 0 ≤ x4 then (sizarref35_Few.l0 k x0 (wrap64 (x3 + (((rd_T35 x0 x4).f5).length : Int))) (wrap64 (x4 + 1))) else (none)) else (if (x0.length : Int) ≤ 12 then (some (decide (x3 ≤ 60))) else (some false))
def sizarref35_Few.f (k : Nat) (l0 : List (S35)) : Option (Bool) := sizarref35_Few.l0 k l0 0 0
set_option maxHeartbeats 8000000 in
set_option maxRecDepth 100000 in
theorem sizarref35_Few.calls (k : Nat) (A0 : Option Addr) (c0 : Nat) (l0 : List (S35)) (r : Bool) (w : World) (hr0 : Kd.C k35 w A0 l0.length l0) (hc0 : l0.length ≤ c0) (h : sizarref35_Few.f k l0 = some r) :
  Calls Try.prog 11 #[.slice A0 l0.length c0] w fun e w' => e = .returned (.bool r) ∧ Drawn0 w w' := by
 have HR0 := Aside0.mk hr0
 have HC0 := Aside0.mk hc0
 clear hr0 hc0
 have H : (sizarref35_Few.l0 k l0 0 0) = some r := h
 clear h
 have H' := Aside0.mk H
 clear H
 go_enter Try.func11, Try.ntmps11
 go_wp2
 go_loopg [3, 4] k (fun kq v3 v4 w' => ∃ (x3_1 : Int) (x4_1 : Int), v3 = .int .i64 x3_1 ∧ v4 = .int .i64 x4_1 ∧ Aside0 (sizarref35_Few.l0 kq l0 x3_1 x4_1 = some r) ∧ Aside0 (kq ≤ k) ∧ Drawn0 w w')
 case atStart => exact ⟨(0), (0), (by first | rfl | (simp; done) | (simp [*]; done)), (by first | rfl | (simp; done) | (simp [*]; done)), H', ⟨Nat.le_refl _⟩, by repeat (first | exact Drawn0.refl _ | apply Drawn0.step)⟩
 case round =>
  clear H'
  try clear c1
  obtain ⟨x3_1, x4_1, rfl, rfl, HA, HK1, ⟨m1, rfl⟩⟩ := hrel
  cases gk with
  | zero => exact absurd HA.out (by simp [sizarref35_Few.l0])
  | succ k1 =>
   have H := HA.out
   clear HA
   simp only [sizarref35_Few.l0] at H
   by_cases c2 : x4_1 < (l0.length : Int)
   ·rw [if_pos c2] at H
    have c2b0 : decide (x4_1 < (l0.length : Int)) = true := decide_eq_true c2
    clear c2
    by_cases c3 : 0 ≤ x4_1
    ·rw [if_pos c3] at H
     have c3b0 : decide (0 ≤ x4_1) = true := decide_eq_true c3
     clear c3
     have H' := Aside0.mk H
     clear H
     have p252 : 0 ≤ (x4_1 : Int) := of_decide_eq_true (by first | (with_reducible assumption) | assumption)
     have q252 : x4_1 < (l0.length : Int) := of_decide_eq_true (by first | (with_reducible assumption) | assumption)
     obtain ⟨ad252, A252_7, c252_7, A252_8, c252_8, A252_9, c252_9, e252, hx252_0, hx252_1, hx252_2, hx252_3, hx252_4, hx252_5, hx252_6, hx252_7, hx252_8, hx252_9, hl252_7, hi252_7, hl252_8, hi252_8, hl252_9, hi252_9⟩ := at_T35 HR0.out x4_1 p252 q252
     cases e252
     have HR252_7 := Aside0.mk hi252_7
     have HC252_7 := Aside0.mk hl252_7
     clear hi252_7 hl252_7
     have HR252_8 := Aside0.mk hi252_8
     have HC252_8 := Aside0.mk hl252_8
     clear hi252_8 hl252_8
     have HR252_9 := Aside0.mk hi252_9
     have HC252_9 := Aside0.mk hl252_9
     clear hi252_9 hl252_9
     replace p252 := eq_true p252
     replace q252 := eq_true q252
     go_wp2
     go_roundg k1
     case measure => have := HK1.out; omega
     case rel => exact ⟨(wrap64 (x3_1 + (((rd_T35 l0 x4_1).f5).length : Int))), (wrap64 (x4_1 + 1)), (by first | rfl | (simp; done) | (simp [*]; done)), (by first | rfl | (simp; done) | (simp [*]; done)), H', ⟨by have := HK1.out; omega⟩, by repeat (first | exact Drawn0.refl _ | apply Drawn0.step)⟩
    ·rw [if_neg c3] at H
     exact absurd H (by simp)
   ·rw [if_neg c2] at H
    have c2b0 : decide (x4_1 < (l0.length : Int)) = false := decide_eq_false c2
    clear c2
    by_cases c4 : (l0.length : Int) ≤ 12
    ·rw [if_pos c4] at H
     have c4b0 : decide ((l0.length : Int) ≤ 12) = true := decide_eq_true c4
     have c4b1 : decide (l0.length ≤ 12) = true := decide_eq_true (by omega)
     clear c4
     obtain rfl := Option.some.inj H
     go_wp2
     go_ret
     exact ⟨by first | rfl | (simp; done) | (simp [*]; done), by repeat (first | exact Drawn0.refl _ | apply Drawn0.step)⟩
    ·rw [if_neg c4] at H
     have c4b0 : decide ((l0.length : Int) ≤ 12) = false := decide_eq_false c4
     have c4b1 : decide (l0.length ≤ 12) = false := decide_eq_false (by omega)
     clear c4
     obtain rfl := Option.some.inj H
     go_wp2
     go_ret
     exact ⟨by first | rfl | (simp; done) | (simp [*]; done), by repeat (first | exact Drawn0.refl _ | apply Drawn0.step)⟩
end Go.Proofs.Ytodmmckieoakjaa.P
namespace Go.Proofs.Ytodmmckieoakjaa.P
open Go.RowKit Go.Proofs.YtodmmckieoakjaaW.PrintWords Go.Proofs.YtodmmckieoakjaaW.PrintLast Go.Proofs.YtodmmckieoakjaaW.PrintMore
/-- From some number of rounds on: r. -/
def Ev {α : Type} (f : Nat → Option α) (r : α) : Prop := ∃ K, ∀ k, K ≤ k → f k = some r
section
variable {α β : Type} {f g : Nat → Option α} {r : α}
theorem Ev.now (h : ∀ k, f k = some r) : Ev f r := ⟨0, fun k _ => h k⟩
theorem Ev.next (h : Ev g r) (hf : ∀ k, f (k + 1) = g k) : Ev f r := by
  obtain ⟨K, hK⟩ := h
  refine ⟨K + 1, fun k hk => ?_⟩
  obtain ⟨m, rfl⟩ : ∃ m, k = m + 1 := ⟨k - 1, by omega⟩
  rw [hf, hK m (by omega)]
theorem Ev.first (h : ∀ k, f (k + 1) = some r) : Ev f r := Ev.next (g := fun _ => some r) (Ev.now fun _ => rfl) h
theorem Ev.congr (h : Ev g r) (hf : ∀ k, f k = g k) : Ev f r := by
  obtain ⟨K, hK⟩ := h
  exact ⟨K, fun k hk => (hf k).trans (hK k hk)⟩
theorem Ev.bind {c : Nat → α → Option β} {b : β} (h : Ev f r) (hc : Ev (fun k => c k r) b) : Ev (fun k => (f k).bind (c k)) b := by
  obtain ⟨K, hK⟩ := h
  obtain ⟨L, hL⟩ := hc
  exact ⟨max K L, fun k hk => by show (f k).bind (c k) = some b; rw [hK k (by omega), Option.bind_some]; exact hL k (by omega)⟩
theorem Ev.get (h : Ev f r) : ∃ k, f k = some r := by
  obtain ⟨K, hK⟩ := h
  exact ⟨K, hK K (Nat.le_refl _)⟩
end
theorem rd49 (l : List S49) (i : Nat) (h : i < l.length) : rd_T49 l (i : Int) = l[i] := by simp [rd_T49, List.getD_eq_getElem?_getD, h]
theorem w64 (i : Nat) (h : i < 9223372036854775807) : wrap64 ((i : Int) + 1) = ((i + 1 : Nat) : Int) := by unfold wrap64; omega
theorem same_ev (a b : List S49) (ha : a.length ≤ 1000000) : Ev (fun k => sizarref35_Same.f k a b) (decide (a = b)) := by
  by_cases hl : a.length = b.length
  · have key : ∀ (d i : Nat), i + d = a.length → Ev (fun k => sizarref35_Same.l0 k (i : Int) a b) (decide (a.drop i = b.drop i)) := by
      intro d
      induction d with
      | zero =>
        intro i hi
        refine Ev.first fun k => ?_
        simp only [sizarref35_Same.l0]
        rw [if_neg (by omega), List.drop_eq_nil_of_le (by omega), List.drop_eq_nil_of_le (by omega)]
        simp
      | succ d ih =>
        intro i hi
        have hia : i < a.length := by omega
        have hib : i < b.length := by omega
        have hra := rd49 a i hia
        have hrb := rd49 b i hib
        have hdrop : (a.drop i = b.drop i) ↔ (a[i] = b[i] ∧ a.drop (i + 1) = b.drop (i + 1)) := by
          rw [List.drop_eq_getElem_cons hia, List.drop_eq_getElem_cons hib, List.cons.injEq]
        have he := eqL_iff a[i] b[i]
        unfold eqL at he
        by_cases hab : a[i] = b[i]
        · have hd : decide (a.drop (i + 1) = b.drop (i + 1)) = decide (a.drop i = b.drop i) := decide_eq_decide.2 (by rw [hdrop]; simp [hab])
          rw [← hd]
          refine Ev.next (ih (i + 1) (by omega)) fun k => ?_
          simp only [sizarref35_Same.l0]
          rw [if_pos (by omega), if_pos (by omega), if_pos (by omega), hra, hrb, if_neg (by rw [hab]; simp), w64 i (by omega)]
        · refine Ev.first fun k => ?_
          simp only [sizarref35_Same.l0]
          rw [if_pos (by omega), if_pos (by omega), if_pos (by omega), hra, hrb, if_pos ?_]
          · rw [decide_eq_false (fun h => hab (hdrop.1 h).1)]
          · have := mt he.1 hab
            revert this
            simp only [Bool.and_eq_true, beq_iff_eq, Bool.or_eq_true, Bool.not_eq_true', beq_eq_false_iff_ne]
            omega
    have h := key a.length 0 (by omega)
    simp only [List.drop_zero] at h
    refine h.congr fun k => ?_
    unfold sizarref35_Same.f
    rw [if_pos (by omega)]
    rfl
  · refine Ev.now fun k => ?_
    unfold sizarref35_Same.f
    rw [if_neg (by omega), decide_eq_false (fun h => hl (by rw [h]))]
theorem rd35 (l : List S35) (i : Nat) (h : i < l.length) : rd_T35 l (i : Int) = l[i] := by simp [rd_T35, List.getD_eq_getElem?_getD, h]
/-- 'Few' tells, at whatever decisions; where it tells 'true' they are few. -/
theorem few_ev (l : List S35) (hl : l.length ≤ 1000000000000000) (hd : ∀ d ∈ l, d.f5.length ≤ 1000000000000000) : ∃ b, Ev (fun k => sizarref35_Few.f k l) b ∧ (b = true → l.length ≤ 12 ∧ ∀ d ∈ l, d.f5.length ≤ 60) := by
  have key : ∀ (d i : Nat) (n : Int), i + d = l.length → ∃ b, Ev (fun k => sizarref35_Few.l0 k l n (i : Int)) b ∧
      (b = true → l.length ≤ 12 ∧ (0 ≤ n → n + d * 1000000000000000 ≤ 9000000000000000000 → n ≤ 60 ∧ ∀ x ∈ l.drop i, n + x.f5.length ≤ 60)) := by
    intro d
    induction d with
    | zero =>
      intro i n hi
      by_cases h : l.length ≤ 12
      · refine ⟨decide (n ≤ 60), Ev.first fun k => ?_, fun hb => ⟨h, fun _ _ => ⟨of_decide_eq_true hb, fun x hx => ?_⟩⟩⟩
        · simp only [sizarref35_Few.l0]
          rw [if_neg (by omega), if_pos (by omega)]
        · rw [List.drop_eq_nil_of_le (by omega)] at hx; simp at hx
      · refine ⟨false, Ev.first fun k => ?_, fun hb => by cases hb⟩
        simp only [sizarref35_Few.l0]
        rw [if_neg (by omega), if_neg (by omega)]
    | succ d ih =>
      intro i n hi
      have hil : i < l.length := by omega
      have hr := rd35 l i hil
      obtain ⟨b, h1, h2⟩ := ih (i + 1) (wrap64 (n + (l[i].f5.length : Int))) (by omega)
      refine ⟨b, Ev.next h1 fun k => ?_, fun hb => ⟨(h2 hb).1, fun hn hs => ?_⟩⟩
      · simp only [sizarref35_Few.l0]
        rw [if_pos (by omega), if_pos (by omega), hr, w64 i (by omega)]
      · have hli := hd l[i] (List.getElem_mem hil)
        have hw : wrap64 (n + (l[i].f5.length : Int)) = n + l[i].f5.length := by unfold wrap64; omega
        rw [hw] at h2
        obtain ⟨h3, h4⟩ := (h2 hb).2 (by omega) (by omega)
        refine ⟨by omega, fun x hx => ?_⟩
        rw [List.drop_eq_getElem_cons hil] at hx
        rcases List.mem_cons.1 hx with rfl | hx
        · omega
        · have := h4 x hx; omega
  obtain ⟨b, h1, h2⟩ := key l.length 0 0 (by omega)
  refine ⟨b, h1.congr fun k => rfl, fun hb => ⟨(h2 hb).1, fun d hd' => ?_⟩⟩
  have h3 := (h2 hb).1
  have := ((h2 hb).2 (by omega) (by omega)).2 d (by simpa using hd')
  omega
theorem withL_len (x : S49) : ∀ l : List S49, (withL l x).length ≤ l.length + 1
  | [] => by simp [withL]
  | y :: r => by
    unfold withL
    have := withL_len x r
    split
    · simp; omega
    · split <;> simp
theorem foldl_len : ∀ (xs l : List S49), (xs.foldl withL l).length ≤ l.length + xs.length
  | [], l => by simp
  | x :: xs, l => by
    have h1 := foldl_len xs (withL l x)
    have h2 := withL_len x l
    simp only [List.foldl_cons, List.length_cons]
    omega
theorem linksUpto_len (l : List S35) (hl : l.length ≤ 12) (hd : ∀ d ∈ l, d.f5.length ≤ 60) : ∀ k, k ≤ l.length → (linksUpto l k).length ≤ k * 60
  | 0, _ => by simp [linksUpto]
  | k + 1, hk => by
    have h1 := linksUpto_len l hl hd k (by omega)
    rw [linksUpto_succ, List.length_append, linksOf_len, rd35 l k (by omega)]
    have := hd l[k] (List.getElem_mem (by omega))
    omega
end Go.Proofs.Ytodmmckieoakjaa.P
namespace Go.Proofs.Ytodmmckieoakjaa.P
open Go.RowKit Go.Proofs.YtodmmckieoakjaaW.PrintWords Go.Proofs.YtodmmckieoakjaaW.PrintLast Go.Proofs.YtodmmckieoakjaaW.PrintMore
theorem Ev.mono {α : Type} {f : Nat → Option α} {r : α} {K : Nat} (h : f K = some r) (hm : ∀ k, LeO (f k) (f (k + 1))) : Ev f r :=
  ⟨K, fun k hk => by
    induction k with
    | zero => have : K = 0 := by omega
              subst this; exact h
    | succ k ih =>
      rcases Nat.lt_or_ge k K with h1 | h1
      · have : K = k + 1 := by omega
        subst this; exact h
      · exact hm k _ (ih h1)⟩
theorem compare_ev (x y : S49) : Ev (fun k => index_compare.f k x.f0.f0.f0 x.f0.f0.f1 x.f0.f0.f2 x.f0.f1 x.f0.f2 x.f1 y.f0.f0.f0 y.f0.f0.f1 y.f0.f0.f2 y.f0.f1 y.f0.f2 y.f1) (cfL x y) :=
  Ev.mono (K := 10) (index_compare_f x y) (fun k => index_compare.mono _ _ _ _ _ _ _ _ _ _ _ _ k)
/-- Every number within 0..n-1, every link behind the one ahead of it. -/
def chk (n : Int) : Option S49 → List S49 → Int
  | _, [] => 0
  | p, x :: r => if x.f1 < 0 then 350 else if x.f1 ≥ n then 350 else
    match p with
    | none => chk n (some x) r
    | some q => if LtL q x then chk n (some x) r else 350
def prevOf (l : List S49) (i : Nat) : Option S49 := if i = 0 then none else l[i - 1]?
theorem chk_step (n : Int) (l : List S49) (i : Nat) (hi : i < l.length) : chk n (prevOf l i) (l.drop i) =
    if l[i].f1 < 0 then 350 else if l[i].f1 ≥ n then 350 else if h : 0 < i then (if LtL (l[i - 1]'(by omega)) l[i] then chk n (prevOf l (i + 1)) (l.drop (i + 1)) else 350) else chk n (prevOf l (i + 1)) (l.drop (i + 1)) := by
  rw [List.drop_eq_getElem_cons hi]
  have hp : prevOf l (i + 1) = some l[i] := by simp [prevOf, hi]
  rw [hp]
  by_cases h0 : i = 0
  · subst h0
    simp [prevOf, chk]
  · have hq : prevOf l i = some (l[i - 1]'(by omega)) := by simp only [prevOf, if_neg h0]; exact List.getElem?_eq_getElem (by omega)
    rw [hq, dif_pos (by omega)]
    simp [chk]
set_option maxHeartbeats 1000000 in
theorem index_check_ev (l : List S49) (hl : l.length ≤ 1000000000000000) (n : Int) : Ev (fun k => index_Check.f k l n) (chk n none l) := by
  have key : ∀ (d i : Nat), i + d = l.length → Ev (fun k => index_Check.l0 k n l (l.length : Int) (i : Int) l) (chk n (prevOf l i) (l.drop i)) := by
    intro d
    induction d with
    | zero =>
      intro i hi
      refine Ev.first fun k => ?_
      simp only [index_Check.l0]
      rw [if_neg (by omega), List.drop_eq_nil_of_le (by omega)]
      cases prevOf l i <;> rfl
    | succ d ih =>
      intro i hi
      have hil : i < l.length := by omega
      have hr := rd49 l i hil
      have hn := ih (i + 1) (by omega)
      rw [chk_step n l i hil]
      by_cases h1 : l[i].f1 < 0
      · rw [if_pos h1]
        refine Ev.first fun k => ?_
        simp only [index_Check.l0]
        rw [if_pos (by omega), if_pos (by omega), if_pos (by omega), hr, if_pos h1]
      · rw [if_neg h1]
        by_cases h2 : l[i].f1 ≥ n
        · rw [if_pos h2]
          refine Ev.first fun k => ?_
          simp only [index_Check.l0]
          rw [if_pos (by omega), if_pos (by omega), if_pos (by omega), hr, if_neg h1, if_pos h2]
        · rw [if_neg h2]
          by_cases h3 : 0 < i
          · rw [dif_pos h3]
            have hw : wrap64 ((i : Int) - 1) = ((i - 1 : Nat) : Int) := by unfold wrap64; omega
            have hr2 := rd49 l (i - 1) (by omega)
            have hc := cfL_lt (l[i - 1]'(by omega)) l[i]
            by_cases h4 : LtL (l[i - 1]'(by omega)) l[i]
            · rw [if_pos h4]
              have hb := Ev.bind (c := fun k t => if t ≥ 0 then some 350 else index_Check.l0 k n l (l.length : Int) ((i + 1 : Nat) : Int) l) (compare_ev (l[i - 1]'(by omega)) l[i]) (hn.congr fun k => by rw [if_neg (by have := hc.2 h4; omega)])
              refine Ev.next hb fun k => ?_
              simp only [index_Check.l0]
              rw [if_pos (by omega), if_pos (by omega), if_pos (by omega), hr, if_neg h1, if_neg h2, if_pos (by omega), hw, if_pos (by omega), if_pos (by omega), hr2, w64 i (by omega)]
            · rw [if_neg h4]
              have hb := Ev.bind (c := fun k t => if t ≥ 0 then some 350 else index_Check.l0 k n l (l.length : Int) ((i + 1 : Nat) : Int) l) (compare_ev (l[i - 1]'(by omega)) l[i]) (b := 350) (Ev.now fun k => by rw [if_pos (by have := mt hc.1 h4; omega)])
              refine Ev.next hb fun k => ?_
              simp only [index_Check.l0]
              rw [if_pos (by omega), if_pos (by omega), if_pos (by omega), hr, if_neg h1, if_neg h2, if_pos (by omega), hw, if_pos (by omega), if_pos (by omega), hr2, w64 i (by omega)]
          · rw [dif_neg h3]
            refine Ev.next hn fun k => ?_
            simp only [index_Check.l0]
            rw [if_pos (by omega), if_pos (by omega), if_pos (by omega), hr, if_neg h1, if_neg h2, if_neg (by omega), w64 i (by omega)]
  have h := key l.length 0 (by omega)
  rw [List.drop_zero] at h
  exact h.congr fun k => rfl
theorem sameInts_ev (a b : List Int) (ha : a.length ≤ 1000000000000000) : Ev (fun k => sizarref35_SameInts.f k a b) (decide (a = b)) := by
  by_cases hl : a.length = b.length
  · have key : ∀ (d i : Nat), i + d = a.length → Ev (fun k => sizarref35_SameInts.l0 k a b (i : Int)) (decide (a.drop i = b.drop i)) := by
      intro d
      induction d with
      | zero =>
        intro i hi
        refine Ev.first fun k => ?_
        simp only [sizarref35_SameInts.l0]
        rw [if_neg (by omega), List.drop_eq_nil_of_le (by omega), List.drop_eq_nil_of_le (by omega)]
        simp
      | succ d ih =>
        intro i hi
        have hia : i < a.length := by omega
        have hib : i < b.length := by omega
        have hra : rd a (i : Int) = a[i] := by simp [rd, hia]
        have hrb : rd b (i : Int) = b[i] := by simp [rd, hib]
        have hdrop : (a.drop i = b.drop i) ↔ (a[i] = b[i] ∧ a.drop (i + 1) = b.drop (i + 1)) := by
          rw [List.drop_eq_getElem_cons hia, List.drop_eq_getElem_cons hib, List.cons.injEq]
        by_cases hab : a[i] = b[i]
        · have hd : decide (a.drop (i + 1) = b.drop (i + 1)) = decide (a.drop i = b.drop i) := decide_eq_decide.2 (by rw [hdrop]; simp [hab])
          rw [← hd]
          refine Ev.next (ih (i + 1) (by omega)) fun k => ?_
          simp only [sizarref35_SameInts.l0]
          rw [if_pos (by omega), if_pos (by omega), if_pos (by omega), hra, hrb, if_pos hab, w64 i (by omega)]
        · refine Ev.first fun k => ?_
          simp only [sizarref35_SameInts.l0]
          rw [if_pos (by omega), if_pos (by omega), if_pos (by omega), hra, hrb, if_neg hab, decide_eq_false (fun h => hab (hdrop.1 h).1)]
    have h := key a.length 0 (by omega)
    simp only [List.drop_zero] at h
    refine h.congr fun k => ?_
    unfold sizarref35_SameInts.f
    rw [if_pos (by omega)]
    rfl
  · refine Ev.now fun k => ?_
    unfold sizarref35_SameInts.f
    rw [if_neg (by omega), decide_eq_false (fun h => hl (by rw [h]))]
end Go.Proofs.Ytodmmckieoakjaa.P
namespace Go.Proofs.Ytodmmckieoakjaa.P
open Go.RowKit Go.Proofs.YtodmmckieoakjaaW.PrintWords Go.Proofs.YtodmmckieoakjaaW.PrintLast Go.Proofs.YtodmmckieoakjaaW.PrintMore
/-- A number put into a list in order. -/
def insI : List Int → Int → List Int
  | [], a => [a]
  | y :: r, a => if y < a then y :: insI r a else if y = a then y :: r else a :: y :: r
/-- Does the change touch the link? -/
def hit (x : S49) (c : S63) : Bool := atKey c.f0 x && touches x.f0.f1 x.f0.f2 c.f1
/-- The numbers of the touched links, in order. -/
def affR (l : List S49) (cs : List S63) : List Int := ((l.filter fun x => cs.any (hit x)).map (·.f1)).foldl insI []
end Go.Proofs.Ytodmmckieoakjaa.P
namespace Go.Proofs.Ytodmmckieoakjaa.P
open Go.RowKit Go.Maps Go.Proofs.YtodmmckieoakjaaW.PrintWords Go.Proofs.YtodmmckieoakjaaW.PrintLast Go.Proofs.YtodmmckieoakjaaW.PrintMore
abbrev SI (l : List Int) : Prop := l.Pairwise (· < ·)
theorem SI.ext : ∀ {l m : List Int}, SI l → SI m → (∀ x, x ∈ l ↔ x ∈ m) → l = m
  | [], [], _, _, _ => rfl
  | [], y :: m, _, _, h => by have := (h y).2 (by simp); simp at this
  | x :: l, [], _, _, h => by have := (h x).1 (by simp); simp at this
  | x :: l, y :: m, hl, hm, h => by
    obtain ⟨h1, h2⟩ := List.pairwise_cons.1 hl
    obtain ⟨k1, k2⟩ := List.pairwise_cons.1 hm
    have hxy : x = y := by
      rcases List.mem_cons.1 ((h x).1 (by simp)) with e | e
      · exact e
      · rcases List.mem_cons.1 ((h y).2 (by simp)) with e' | e'
        · exact e'.symm
        · have := k1 x e; have := h1 y e'; omega
    subst hxy
    have : l = m := SI.ext h2 k2 (fun z => by
      constructor
      · intro hz
        rcases List.mem_cons.1 ((h z).1 (List.mem_cons_of_mem _ hz)) with e | e
        · subst e; have := h1 _ hz; omega
        · exact e
      · intro hz
        rcases List.mem_cons.1 ((h z).2 (List.mem_cons_of_mem _ hz)) with e | e
        · subst e; have := k1 _ hz; omega
        · exact e)
    rw [this]
theorem mem_insI (a : Int) : ∀ (l : List Int) (z : Int), z ∈ insI l a ↔ z = a ∨ z ∈ l
  | [], z => by simp [insI]
  | y :: r, z => by
    unfold insI
    split
    · rw [List.mem_cons, mem_insI a r z, List.mem_cons]; exact ⟨fun h => by rcases h with h | h | h <;> simp [h], fun h => by rcases h with h | h | h <;> simp [h]⟩
    · split
      · rename_i h; subst h; simp
      · simp
theorem si_insI (a : Int) : ∀ l : List Int, SI l → SI (insI l a)
  | [], _ => by simp [insI]
  | y :: r, h => by
    obtain ⟨h1, h2⟩ := List.pairwise_cons.1 h
    unfold insI
    split
    · rename_i hl
      refine List.pairwise_cons.2 ⟨fun z hz => ?_, si_insI a r h2⟩
      rcases (mem_insI a r z).1 hz with rfl | hz
      · exact hl
      · exact h1 z hz
    · split
      · exact h
      · refine List.pairwise_cons.2 ⟨fun z hz => ?_, h⟩
        rcases List.mem_cons.1 hz with rfl | hz
        · omega
        · have := h1 z hz; omega
theorem foldl_insI : ∀ (xs l : List Int), SI l → SI (xs.foldl insI l) ∧ ∀ z, z ∈ xs.foldl insI l ↔ z ∈ l ∨ z ∈ xs
  | [], l, h => ⟨h, fun z => by simp⟩
  | x :: xs, l, h => by
    obtain ⟨h1, h2⟩ := foldl_insI xs (insI l x) (si_insI x l h)
    refine ⟨h1, fun z => ?_⟩
    rw [List.foldl_cons, h2 z, mem_insI, List.mem_cons]
    exact ⟨fun h => by rcases h with (h | h) | h <;> simp [h], fun h => by rcases h with h | h | h <;> simp [h]⟩
theorem insert_perm {H : Type} (x : Lit × DataW H) : ∀ l : List (Lit × DataW H), (DataW.insert x l).Perm (x :: l)
  | [] => List.Perm.refl _
  | y :: r => by
    unfold DataW.insert
    split
    · exact List.Perm.refl _
    · exact ((insert_perm x r).cons y).trans (List.Perm.swap x y r)
/-- The set holds just the numbers S, each once. -/
def SetI (D : DataW Unit) (S : Int → Prop) : Prop := ∃ es, D = .map es ∧ (∀ p ∈ es, ∃ x, p.1 = .int .i64 x) ∧ (intKeys D).Nodup ∧ ∀ a, a ∈ intKeys D ↔ S a
theorem SetI.empty : SetI (.map []) fun _ => False := ⟨[], rfl, fun p h => by simp at h, by simp [intKeys], fun a => by simp [intKeys]⟩
theorem SetI.put {D : DataW Unit} {S : Int → Prop} (h : SetI D S) (a : Int) (v : DataW Unit) : SetI (D.put (.int .i64 a) v) fun z => z = a ∨ S z := by
  obtain ⟨es, rfl, h1, h2, h3⟩ := h
  have hp := insert_perm (Lit.int .i64 a, v) (es.filter fun p => !p.1.sameKey (.int .i64 a))
  have hk : (intKeys (DataW.put (.map es) (.int .i64 a) v)).Perm (a :: (es.filter fun p => !p.1.sameKey (.int .i64 a)).map fun p => Go.intOf p.1) := hp.map _
  have hmem : ∀ z, z ∈ (es.filter fun p => !p.1.sameKey (.int .i64 a)).map (fun p => Go.intOf p.1) ↔ z ∈ intKeys (.map es) ∧ z ≠ a := by
    intro z
    simp only [intKeys, List.mem_map, List.mem_filter]
    constructor
    · rintro ⟨p, ⟨hp, hs⟩, rfl⟩
      refine ⟨⟨p, hp, rfl⟩, fun e => ?_⟩
      obtain ⟨x, hx⟩ := h1 p hp
      rw [hx] at hs e
      have e' : x = a := e
      subst e'
      simp [Lit.sameKey] at hs
    · rintro ⟨⟨p, hp, rfl⟩, hne⟩
      refine ⟨p, ⟨hp, ?_⟩, rfl⟩
      obtain ⟨x, hx⟩ := h1 p hp
      rw [hx] at hne ⊢
      have hne' : x ≠ a := hne
      simp [Lit.sameKey, hne']
  refine ⟨_, rfl, fun p hp' => ?_, hk.nodup_iff.2 (List.nodup_cons.2 ⟨fun h => ((hmem a).1 h).2 rfl, ?_⟩), fun z => ?_⟩
  · rcases List.mem_cons.1 (hp.mem_iff.1 hp') with rfl | hp'
    · exact ⟨a, rfl⟩
    · exact h1 p (List.mem_filter.1 hp').1
  · exact h2.sublist (List.filter_sublist.map _)
  · rw [hk.mem_iff, List.mem_cons, hmem z, h3 z]
    constructor
    · rintro (h | h)
      · exact .inl h
      · exact .inr h.1
    · rintro (h | h)
      · exact .inl h
      · by_cases e : z = a
        · exact .inl e
        · exact .inr ⟨h, e⟩
theorem SetI.congr {D : DataW Unit} {S S' : Int → Prop} (h : SetI D S) (hS : ∀ a, S a ↔ S' a) : SetI D S' := by
  obtain ⟨es, h0, h1, h2, h3⟩ := h
  exact ⟨es, h0, h1, h2, fun a => (h3 a).trans (hS a)⟩
theorem affIn_set (c : S63) : ∀ (ys : List Lw) {D : DataW Unit} {S : Int → Prop}, SetI D S → SetI (affIn c D ys) fun a => S a ∨ ∃ y ∈ ys, touches y.1.f0.f1 y.1.f0.f2 c.f1 = true ∧ y.1.f1 = a
  | [], D, S, h => h.congr fun a => by simp
  | y :: ys, D, S, h => by
    have e : affIn c D (y :: ys) = affIn c (affPut c D y) ys := rfl
    rw [e]
    by_cases ht : touches y.1.f0.f1 y.1.f0.f2 c.f1 = true
    · have h1 : SetI (affPut c D y) fun z => z = y.1.f1 ∨ S z := by unfold affPut; rw [if_pos ht]; exact h.put _ _
      refine (affIn_set c ys h1).congr fun a => ?_
      constructor
      · rintro ((rfl | h) | ⟨z, hz, h2⟩)
        · exact .inr ⟨y, by simp, ht, rfl⟩
        · exact .inl h
        · exact .inr ⟨z, by simp [hz], h2⟩
      · rintro (h | ⟨z, hz, h2, h3⟩)
        · exact .inl (.inr h)
        · rcases List.mem_cons.1 hz with rfl | hz
          · exact .inl (.inl h3.symm)
          · exact .inr ⟨z, hz, h2, h3⟩
    · have h1 : SetI (affPut c D y) S := by unfold affPut; rw [if_neg ht]; exact h
      refine (affIn_set c ys h1).congr fun a => ?_
      constructor
      · rintro (h | ⟨z, hz, h2⟩)
        · exact .inl h
        · exact .inr ⟨z, by simp [hz], h2⟩
      · rintro (h | ⟨z, hz, h2, h3⟩)
        · exact .inl h
        · rcases List.mem_cons.1 hz with rfl | hz
          · exact absurd h2 ht
          · exact .inr ⟨z, hz, h2, h3⟩
theorem affAll_set (xs : List Lw) : ∀ (cs : List S63) {D : DataW Unit} {S : Int → Prop}, SetI D S → SetI (affAll xs D cs) fun a => S a ∨ ∃ c ∈ cs, ∃ y ∈ xs, hit y.1 c = true ∧ y.1.f1 = a
  | [], D, S, h => h.congr fun a => by simp
  | c :: cs, D, S, h => by
    have e : affAll xs D (c :: cs) = affAll xs (affIn c D (ofKey c.f0 xs)) cs := rfl
    rw [e]
    refine (affAll_set xs cs (affIn_set c (ofKey c.f0 xs) h)).congr fun a => ?_
    have hm : (∃ y ∈ ofKey c.f0 xs, touches y.1.f0.f1 y.1.f0.f2 c.f1 = true ∧ y.1.f1 = a) ↔ ∃ y ∈ xs, hit y.1 c = true ∧ y.1.f1 = a := by
      constructor
      · rintro ⟨y, hy, h1, h2⟩
        obtain ⟨h3, h4⟩ := List.mem_filter.1 hy
        exact ⟨y, h3, by unfold hit; rw [h4, h1]; rfl, h2⟩
      · rintro ⟨y, hy, h1, h2⟩
        unfold hit at h1
        rw [Bool.and_eq_true] at h1
        exact ⟨y, List.mem_filter.2 ⟨hy, h1.1⟩, h1.2, h2⟩
    rw [hm]
    constructor
    · rintro ((h | h) | ⟨c', hc, h⟩)
      · exact .inl h
      · exact .inr ⟨c, by simp, h⟩
      · exact .inr ⟨c', by simp [hc], h⟩
    · rintro (h | ⟨c', hc, h⟩)
      · exact .inl (.inl h)
      · rcases List.mem_cons.1 hc with rfl | hc
        · exact .inl (.inr h)
        · exact .inr ⟨c', hc, h⟩
theorem index_affected_f (l : List S49) (cs : List S63) (hl : l.length ≤ 100000) (hc : cs.length ≤ 100000) (hw : ∀ x ∈ l, (Lit.int .i64 x.f1).wf = true) : index_Affected.f l cs = some (affR l cs) := by
  unfold index_Affected.f
  rw [dif_pos ⟨hl, hc, hw⟩]
  refine congrArg some ?_
  obtain ⟨es, h0, _, h2, h3⟩ := affAll_set (l.attachWith _ hw) cs SetI.empty
  obtain ⟨k1, k2⟩ := foldl_insI ((l.filter fun x => cs.any (hit x)).map (·.f1)) [] List.Pairwise.nil
  refine SI.ext ?_ k1 fun z => ?_
  · have hs := List.pairwise_mergeSort (le := leI) (fun a b c h1 h2 => by simp only [decide_eq_true_eq] at *; omega) (fun a b => by simp only [Bool.or_eq_true, decide_eq_true_eq]; omega) (intKeys (affAll (l.attachWith _ hw) (.map []) cs))
    have hn := (List.mergeSort_perm (intKeys (affAll (l.attachWith _ hw) (.map []) cs)) leI).nodup_iff.2 h2
    have hn' := List.nodup_iff_pairwise_ne.1 hn
    refine (hs.and hn').imp ?_
    rintro a b ⟨h1, h2⟩
    simp only [decide_eq_true_eq] at h1
    omega
  · have e1 := (List.mergeSort_perm (intKeys (affAll (l.attachWith _ hw) (.map []) cs)) leI).mem_iff (a := z)
    rw [e1, h3 z]
    unfold affR
    rw [k2 z]
    simp only [List.mem_map, List.mem_filter, List.any_eq_true, List.not_mem_nil, false_or]
    constructor
    · rintro ⟨c, hc, y, hy, h1, h2⟩
      exact ⟨y.1, ⟨by simpa using hy, c, hc, h1⟩, h2⟩
    · rintro ⟨x, ⟨hx, c, hc, h1⟩, h2⟩
      exact ⟨c, hc, ⟨x, hw x hx⟩, by simpa using hx, h1, h2⟩
end Go.Proofs.Ytodmmckieoakjaa.P
namespace Go.Proofs.Ytodmmckieoakjaa.P
open Go.RowKit Go.Proofs.YtodmmckieoakjaaW.PrintWords Go.Proofs.YtodmmckieoakjaaW.PrintLast Go.Proofs.YtodmmckieoakjaaW.PrintMore
def sA : S49 := ⟨⟨⟨5, 4, 6⟩, 0, 9⟩, 1⟩
def sB : S49 := ⟨⟨⟨5, 4, 7⟩, 0, 5⟩, 0⟩
def sD : List S35 := [⟨⟨0, 0, 0, 0⟩, 0, 0, 0, [], [⟨⟨5, 4, 7⟩, 0, 5⟩, ⟨⟨5, 4, 7⟩, 0, 5⟩], []⟩, ⟨⟨0, 0, 0, 0⟩, 0, 0, 0, [], [⟨⟨5, 4, 6⟩, 0, 9⟩], []⟩]
theorem read_f (a b c : Int) : sizarlaw35_read.f a b c = some (5, 4, a, b, c) := rfl
theorem sane_build : index_Build.f sD = some [sA, sB] := by
  unfold index_Build.f
  rw [if_pos (by decide), normL_eq]
  exact congrArg some (by decide +kernel)
theorem sane_build0 : index_Build.f [] = some [] := by
  unfold index_Build.f
  rw [if_pos (by decide), normL_eq]
  exact congrArg some (by decide +kernel)
theorem sane_replace : index_Replace.f [sA, sB] 0 0 0 0 0 0 0 0 [] [] [] = some [sA] := by
  unfold index_Replace.f
  rw [if_pos (by decide), normL_eq]
  exact congrArg some (by decide +kernel)
theorem sane_aff (t : Int) : sizarlaw35_sane_1.f t = some [⟨⟨5, 4, 7⟩, [⟨t, wrap64 (t + 1)⟩]⟩] := rfl
theorem sane_aff5 : index_Affected.f [sA, sB] [⟨⟨5, 4, 7⟩, [⟨5, wrap64 (5 + 1)⟩]⟩] = some [] := by
  rw [index_affected_f _ _ (by decide) (by decide) (by decide +kernel)]
  exact congrArg some (by decide +kernel)
theorem sane_aff4 : index_Affected.f [sA, sB] [⟨⟨5, 4, 7⟩, [⟨4, wrap64 (4 + 1)⟩]⟩] = some [0] := by
  rw [index_affected_f _ _ (by decide) (by decide) (by decide +kernel)]
  exact congrArg some (by decide +kernel)
theorem sane_aff0 : index_Affected.f [] [⟨⟨5, 4, 7⟩, [⟨4, wrap64 (4 + 1)⟩]⟩] = some [] := by
  rw [index_affected_f _ _ (by decide) (by decide) (by decide +kernel)]
  exact congrArg some (by decide +kernel)
theorem sane_ev : Ev (fun k => sizarlaw35_sane.f k) true := by
  have s1 := same_ev [sA, sB] [sA, sB] (by decide)
  have s2 := same_ev [sA] [sA] (by decide)
  have c1 := index_check_ev [sA, sB] (by decide) 2
  have c2 := index_check_ev [sA, sB] (by decide) 1
  have c3 := index_check_ev [] (by decide) 0
  have i1 := sameInts_ev [0] [0] (by decide)
  have e1 : chk 2 none [sA, sB] = 0 := by decide +kernel
  have e2 : chk 1 none [sA, sB] = 350 := by decide +kernel
  have e3 : chk 0 none [] = 0 := rfl
  rw [e1] at c1
  rw [e2] at c2
  rw [e3] at c3
  rw [decide_eq_true rfl] at s1 s2 i1
  have h6 := Ev.bind (c := fun k t => if t = true then (sizarlaw35_sane_1.f 4).bind fun t241 => (index_Affected.f [] t241).bind fun t244 => some ((t244.length : Int) == 0) else none) i1 (b := true) (Ev.now fun k => by rw [if_pos rfl, sane_aff, Option.bind_some, sane_aff0]; rfl)
  have h5 := Ev.bind (c := fun k (t : Int) => if t = 0 then (sizarlaw35_sane_1.f 5).bind fun t225 => (index_Affected.f [sA, sB] t225).bind fun t228 => if (t228.length : Int) = 0 then (sizarlaw35_sane_1.f 4).bind fun t231 => (index_Affected.f [sA, sB] t231).bind fun t234 => (sizarref35_SameInts.f k t234 [0]).bind fun t240 => if t240 = true then (sizarlaw35_sane_1.f 4).bind fun t241 => (index_Affected.f [] t241).bind fun t244 => some ((t244.length : Int) == 0) else none else none else none) c3
    (h6.congr fun k => by rw [if_pos rfl, sane_aff, Option.bind_some, sane_aff5, Option.bind_some, if_pos (show (([] : List Int).length : Int) = 0 from rfl), sane_aff, Option.bind_some, sane_aff4, Option.bind_some])
  have h4 := Ev.bind (c := fun k (t : Int) => if t = 350 then (index_Check.f k [] 0).bind fun t224 => if t224 = 0 then (sizarlaw35_sane_1.f 5).bind fun t225 => (index_Affected.f [sA, sB] t225).bind fun t228 => if (t228.length : Int) = 0 then (sizarlaw35_sane_1.f 4).bind fun t231 => (index_Affected.f [sA, sB] t231).bind fun t234 => (sizarref35_SameInts.f k t234 [0]).bind fun t240 => if t240 = true then (sizarlaw35_sane_1.f 4).bind fun t241 => (index_Affected.f [] t241).bind fun t244 => some ((t244.length : Int) == 0) else none else none else none else none) c2
    (h5.congr fun k => by rw [if_pos rfl])
  have h3 := Ev.bind (c := fun k (t : Int) => if t = 0 then (index_Check.f k [sA, sB] 1).bind fun t223 => if t223 = 350 then (index_Check.f k [] 0).bind fun t224 => if t224 = 0 then (sizarlaw35_sane_1.f 5).bind fun t225 => (index_Affected.f [sA, sB] t225).bind fun t228 => if (t228.length : Int) = 0 then (sizarlaw35_sane_1.f 4).bind fun t231 => (index_Affected.f [sA, sB] t231).bind fun t234 => (sizarref35_SameInts.f k t234 [0]).bind fun t240 => if t240 = true then (sizarlaw35_sane_1.f 4).bind fun t241 => (index_Affected.f [] t241).bind fun t244 => some ((t244.length : Int) == 0) else none else none else none else none else none) c1
    (h4.congr fun k => by rw [if_pos rfl])
  obtain ⟨K1, hK1⟩ := s1
  obtain ⟨K2, hK2⟩ := s2
  obtain ⟨K3, hK3⟩ := h3
  refine ⟨max K1 (max K2 K3), fun k hk => ?_⟩
  have r1 := hK1 k (by omega)
  have r2 := hK2 k (by omega)
  have r3 := hK3 k (by omega)
  show sizarlaw35_sane.f k = some true
  unfold sizarlaw35_sane.f
  simp only [read_f, Option.bind_some]
  have b1 : index_Build.f [(⟨(⟨0, 0, 0, 0⟩ : S31), 0, 0, 0, ([] : List Int), [(⟨(⟨5, 4, 7⟩ : S45), 0, 5⟩ : S47), (⟨(⟨5, 4, 7⟩ : S45), 0, 5⟩ : S47)], ([] : List Int)⟩ : S35), (⟨(⟨0, 0, 0, 0⟩ : S31), 0, 0, 0, ([] : List Int), [(⟨(⟨5, 4, 6⟩ : S45), 0, 9⟩ : S47)], ([] : List Int)⟩ : S35)] = some [sA, sB] := sane_build
  rw [b1, Option.bind_some, sane_replace, Option.bind_some]
  have r1' : sizarref35_Same.f k [sA, sB] [(⟨(⟨(⟨5, 4, 6⟩ : S45), 0, 9⟩ : S47), 1⟩ : S49), (⟨(⟨(⟨5, 4, 7⟩ : S45), 0, 5⟩ : S47), 0⟩ : S49)] = some true := r1
  rw [r1', Option.bind_some, if_pos rfl, if_pos (by simp)]
  have r2' : sizarref35_Same.f k [sA] ([(⟨(⟨(⟨5, 4, 6⟩ : S45), 0, 9⟩ : S47), 1⟩ : S49), (⟨(⟨(⟨5, 4, 7⟩ : S45), 0, 5⟩ : S47), 0⟩ : S49)].take 1) = some true := r2
  rw [r2', Option.bind_some, if_pos rfl, sane_build0, Option.bind_some, if_pos (show (([] : List S49).length : Int) = 0 from rfl)]
  exact r3
end Go.Proofs.Ytodmmckieoakjaa.P
namespace Go.Proofs.Ytodmmckieoakjaa.P
open Go.RowKit Go.ChangeShapes Go.WideShapes Go.Deep Go.Proofs.YtodmmckieoakjaaW.PrintWords Go.Proofs.YtodmmckieoakjaaW.PrintLast Go.Proofs.YtodmmckieoakjaaW.PrintMore
set_option linter.unusedVariables false
set_option linter.unusedSimpArgs false
section
variable {H : Type} {P : Program}
def light (P : Program) (t : TypeId) (d : DataW H) : Prop := (DataW.weights P t d).all (· ≤ reachBytes) = true
theorem light_each : ∀ (ts : List TypeId) (ds : List (DataW H)), (DataW.weightsEach P ts ds).all (· ≤ reachBytes) = true → ∀ (i : Nat) t d, ts[i]? = some t → ds[i]? = some d → light P t d
  | [], _, _, i, t, d, ht, _ => by simp at ht
  | _ :: _, [], _, i, t, d, _, hd => by simp at hd
  | t0 :: ts, d0 :: ds, h, i, t, d, ht, hd => by
    unfold DataW.weightsEach at h
    rw [List.all_append, Bool.and_eq_true] at h
    cases i with
    | zero =>
      have e1 : t0 = t := by simpa using ht
      have e2 : d0 = d := by simpa using hd
      subst e1 e2
      exact h.1
    | succ i => exact light_each ts ds h.2 i t d (by simpa using ht) (by simpa using hd)
theorem light_all {e : TypeId} : ∀ (ds : List (DataW H)), (DataW.weightsAll P e ds).all (· ≤ reachBytes) = true → ∀ d ∈ ds, light P e d
  | [], _, d, hd => by simp at hd
  | d0 :: ds, h, d, hd => by
    unfold DataW.weightsAll at h
    rw [List.all_append, Bool.and_eq_true] at h
    rcases List.mem_cons.1 hd with rfl | hd
    · exact h.1
    · exact light_all ds h.2 d hd
/-- Whatever reads as a datum of type t is an element of kind d; G holds of it. -/
def Opn {α : Type} (P : Program) (d : Kd α) (t : TypeId) (G : α → Prop) : Prop :=
  ∀ (H : Type) (enc : TypeId × Value → H) (W : World) (base : Nat) (spare : Nat → Bool) (held : Bool) (fuel : Nat) (cs : List Value) (x : DataW H × List MemPlace), DataW.trod enc P W base spare held fuel t cs = some x → light P t x.1 → ∃ y, d.K W y cs ∧ G y
theorem opn_struct {enc : TypeId × Value → H} {W : World} {base : Nat} {spare : Nat → Bool} {held : Bool} {fuel : Nat} {t : TypeId} {fs : Array Field} {cs : List Value} {x : DataW H × List MemPlace} (ht : P.underlying t = some (.struct fs)) (h : DataW.trod enc P W base spare held fuel t cs = some x) (hw : light P t x.1) :
    cs.length = P.cellsOf t ∧ ∃ n, ∀ (i : Nat) (f : Field), fs[i]? = some f → ∃ y, DataW.trod enc P W base spare held n f.type ((cs.drop f.offset).take (P.cellsOf f.type)) = some y ∧ light P f.type y.1 := by
  obtain ⟨xs, n, _, rfl, hl, hlen, hf⟩ := DataW.trod_struct ht h
  refine ⟨hl, n, fun i f hi => ?_⟩
  have hil : i < fs.size := (Array.getElem?_eq_some_iff.1 hi).1
  have hx : xs[i]? = some (xs[i]'(by omega)) := List.getElem?_eq_getElem (by omega)
  refine ⟨_, (hf i f hi).trans hx, ?_⟩
  unfold light at hw
  simp only [DataW.weights, ht] at hw
  exact light_each _ _ hw i _ _ (by simp [hi]) (by simp [hx])
theorem list_of {α : Type} {p : Nat → α → Prop} : ∀ (n : Nat), (∀ i, i < n → ∃ y, p i y) → ∃ ys : List α, ys.length = n ∧ ∀ i y, ys[i]? = some y → p i y
  | 0, _ => ⟨[], rfl, fun i y h => by simp at h⟩
  | n + 1, h => by
    obtain ⟨ys, hl, hy⟩ := list_of n (fun i hi => h i (by omega))
    obtain ⟨y, hp⟩ := h n (by omega)
    refine ⟨ys ++ [y], by simp [hl], fun i z hz => ?_⟩
    rcases Nat.lt_or_ge i n with hi | hi
    · rw [List.getElem?_append_left (by omega)] at hz
      exact hy i z hz
    · have : i = n := by
        have := (List.getElem?_eq_some_iff.1 hz).1
        simp at this; omega
      subst this
      rw [List.getElem?_append_right (by omega)] at hz
      have : y = z := by simpa [hl] using hz
      subst this
      exact hp
theorem opn_slice {α : Type} {d : Kd α} {t e : TypeId} {G : α → Prop} (ht : P.underlying t = some (.slice e)) (hd : Opn P d e G) (hsz : P.cellsOf e = d.sz) (h0 : 0 < d.sz) :
    Opn P (Kd.slice e d) t (fun xs => (∀ x ∈ xs, G x) ∧ xs.length * P.bytesOf e ≤ reachBytes) := by
  intro H enc W base spare held fuel cs x h hw
  rcases open_slice ht h with ⟨rfl, rfl⟩ | ⟨a, len, cap, m, n, D, Pl, rfl, hb, hl, hm, hmm, rfl, hi⟩
  · refine ⟨[], ⟨none, 0, rfl, Nat.le_refl _, rfl, Nat.zero_le _, fun h => absurd h (by simp)⟩, fun x hx => by simp at hx, by simp⟩
  · have hlm : len ≤ m := by rw [hmm]; split <;> omega
    unfold light at hw
    simp only [DataW.weights, ht, List.all_cons, List.all_append, Bool.and_eq_true, List.length_map, List.length_range, decide_eq_true_eq] at hw
    obtain ⟨hw0, hw1, hw2⟩ := hw
    obtain ⟨ys, hyl, hy⟩ := list_of (p := fun i y => (∃ c, c.length = d.sz ∧ d.K W y c ∧ ∀ j u, c[j]? = some u → W.cell? (a.add (i * d.sz + j)) = some u) ∧ G y) len (fun i hil => by
      obtain ⟨cs', hc, htr⟩ := hi i (by omega)
      obtain ⟨_, hcl, hat⟩ := World.cells?_some hc
      obtain ⟨y, hk, hg⟩ := hd H enc W base spare held n cs' _ htr (light_all _ hw1 _ (List.mem_map.2 ⟨i, List.mem_range.2 hil, rfl⟩))
      refine ⟨y, ⟨cs', hcl.trans hsz, hk, fun j u hj => ?_⟩, hg⟩
      have hjl := (List.getElem?_eq_some_iff.1 hj).1
      have := hat j (by omega)
      rw [hsz, Go.Deep.add_add] at this
      rw [this]; exact hj)
    refine ⟨ys, ⟨some a, cap, by rw [hyl], by omega, hyl ▸ rfl, ?_, fun _ => ⟨a, rfl, fun j p hj => (hy j p hj).1⟩⟩, fun x hx => ?_, ?_⟩
    · rw [hyl]; simp only [maxLen] at hm; omega
    · obtain ⟨i, hi', rfl⟩ := List.getElem_of_mem hx
      exact (hy i _ (List.getElem?_eq_getElem hi')).2
    · rw [hyl]
      exact Nat.le_trans (Nat.mul_le_mul_right _ (by omega)) hw0
end
def wfI (n : Int) : Prop := (Lit.int .i64 n).wf = true
theorem opn_int : Opn Try.prog (Kd.int .i64) 3 wfI := by
  intro H enc W base spare held fuel cs x h hw
  obtain ⟨n, rfl, _, hwf⟩ := DataW.trod_int Try.underlying3 h
  exact ⟨n, rfl, hwf⟩
end Go.Proofs.Ytodmmckieoakjaa.P
namespace Go.Proofs.Ytodmmckieoakjaa.P
open Go.RowKit Go.ChangeShapes Go.WideShapes Go.Deep Go.Proofs.YtodmmckieoakjaaW.PrintWords Go.Proofs.YtodmmckieoakjaaW.PrintLast Go.Proofs.YtodmmckieoakjaaW.PrintMore
set_option linter.unusedVariables false
set_option linter.unusedSimpArgs false
def ok45 (x : S45) : Prop := (wfI x.f0) ∧ (wfI x.f1) ∧ (wfI x.f2)
theorem len_3 (cs : List Value) (h : cs.length = 3) : ∃ c0 c1 c2, cs = [c0, c1, c2] := by match cs, h with | [c0, c1, c2], _ => exact ⟨c0, c1, c2, rfl⟩
theorem opn45 : Opn Try.prog k45 45 ok45 := by
  intro H enc W base spare held fuel cs x h hw
  obtain ⟨hl, n, hf⟩ := opn_struct Try.underlying45 h hw
  have hl' : cs.length = 3 := hl.trans (by kernel_rfl)
  obtain ⟨c0, c1, c2, rfl⟩ := len_3 cs hl'
  have e0 : Try.prog.cellsOf 3 = 1 := by kernel_rfl
  obtain ⟨y0, t0, w0⟩ := hf 0 _ rfl
  replace t0 : DataW.trod enc Try.prog W base spare held n 3 (([c0, c1, c2].drop 0).take (Try.prog.cellsOf 3)) = some y0 := t0
  replace w0 : light Try.prog 3 y0.1 := w0
  rw [e0] at t0
  replace t0 : DataW.trod enc Try.prog W base spare held n 3 [c0] = some y0 := t0
  obtain ⟨z0, q0, g0⟩ := opn_int H enc W base spare held n _ _ t0 w0
  replace q0 : [c0] = [Value.int .i64 z0] := q0
  have e1 : Try.prog.cellsOf 3 = 1 := by kernel_rfl
  obtain ⟨y1, t1, w1⟩ := hf 1 _ rfl
  replace t1 : DataW.trod enc Try.prog W base spare held n 3 (([c0, c1, c2].drop 1).take (Try.prog.cellsOf 3)) = some y1 := t1
  replace w1 : light Try.prog 3 y1.1 := w1
  rw [e1] at t1
  replace t1 : DataW.trod enc Try.prog W base spare held n 3 [c1] = some y1 := t1
  obtain ⟨z1, q1, g1⟩ := opn_int H enc W base spare held n _ _ t1 w1
  replace q1 : [c1] = [Value.int .i64 z1] := q1
  have e2 : Try.prog.cellsOf 3 = 1 := by kernel_rfl
  obtain ⟨y2, t2, w2⟩ := hf 2 _ rfl
  replace t2 : DataW.trod enc Try.prog W base spare held n 3 (([c0, c1, c2].drop 2).take (Try.prog.cellsOf 3)) = some y2 := t2
  replace w2 : light Try.prog 3 y2.1 := w2
  rw [e2] at t2
  replace t2 : DataW.trod enc Try.prog W base spare held n 3 [c2] = some y2 := t2
  obtain ⟨z2, q2, g2⟩ := opn_int H enc W base spare held n _ _ t2 w2
  replace q2 : [c2] = [Value.int .i64 z2] := q2
  simp only [List.cons.injEq, and_true] at q0 q1 q2
  obtain rfl := q0
  obtain rfl := q1
  obtain rfl := q2
  exact ⟨(⟨z0, z1, z2⟩ : S45), k45_mk W (⟨z0, z1, z2⟩ : S45) , g0, g1, g2⟩
def ok31 (x : S31) : Prop := (wfI x.f0) ∧ (wfI x.f1) ∧ (wfI x.f2) ∧ (wfI x.f3)
theorem len_4 (cs : List Value) (h : cs.length = 4) : ∃ c0 c1 c2 c3, cs = [c0, c1, c2, c3] := by match cs, h with | [c0, c1, c2, c3], _ => exact ⟨c0, c1, c2, c3, rfl⟩
theorem opn31 : Opn Try.prog k31 31 ok31 := by
  intro H enc W base spare held fuel cs x h hw
  obtain ⟨hl, n, hf⟩ := opn_struct Try.underlying31 h hw
  have hl' : cs.length = 4 := hl.trans (by kernel_rfl)
  obtain ⟨c0, c1, c2, c3, rfl⟩ := len_4 cs hl'
  have e0 : Try.prog.cellsOf 3 = 1 := by kernel_rfl
  obtain ⟨y0, t0, w0⟩ := hf 0 _ rfl
  replace t0 : DataW.trod enc Try.prog W base spare held n 3 (([c0, c1, c2, c3].drop 0).take (Try.prog.cellsOf 3)) = some y0 := t0
  replace w0 : light Try.prog 3 y0.1 := w0
  rw [e0] at t0
  replace t0 : DataW.trod enc Try.prog W base spare held n 3 [c0] = some y0 := t0
  obtain ⟨z0, q0, g0⟩ := opn_int H enc W base spare held n _ _ t0 w0
  replace q0 : [c0] = [Value.int .i64 z0] := q0
  have e1 : Try.prog.cellsOf 3 = 1 := by kernel_rfl
  obtain ⟨y1, t1, w1⟩ := hf 1 _ rfl
  replace t1 : DataW.trod enc Try.prog W base spare held n 3 (([c0, c1, c2, c3].drop 1).take (Try.prog.cellsOf 3)) = some y1 := t1
  replace w1 : light Try.prog 3 y1.1 := w1
  rw [e1] at t1
  replace t1 : DataW.trod enc Try.prog W base spare held n 3 [c1] = some y1 := t1
  obtain ⟨z1, q1, g1⟩ := opn_int H enc W base spare held n _ _ t1 w1
  replace q1 : [c1] = [Value.int .i64 z1] := q1
  have e2 : Try.prog.cellsOf 3 = 1 := by kernel_rfl
  obtain ⟨y2, t2, w2⟩ := hf 2 _ rfl
  replace t2 : DataW.trod enc Try.prog W base spare held n 3 (([c0, c1, c2, c3].drop 2).take (Try.prog.cellsOf 3)) = some y2 := t2
  replace w2 : light Try.prog 3 y2.1 := w2
  rw [e2] at t2
  replace t2 : DataW.trod enc Try.prog W base spare held n 3 [c2] = some y2 := t2
  obtain ⟨z2, q2, g2⟩ := opn_int H enc W base spare held n _ _ t2 w2
  replace q2 : [c2] = [Value.int .i64 z2] := q2
  have e3 : Try.prog.cellsOf 3 = 1 := by kernel_rfl
  obtain ⟨y3, t3, w3⟩ := hf 3 _ rfl
  replace t3 : DataW.trod enc Try.prog W base spare held n 3 (([c0, c1, c2, c3].drop 3).take (Try.prog.cellsOf 3)) = some y3 := t3
  replace w3 : light Try.prog 3 y3.1 := w3
  rw [e3] at t3
  replace t3 : DataW.trod enc Try.prog W base spare held n 3 [c3] = some y3 := t3
  obtain ⟨z3, q3, g3⟩ := opn_int H enc W base spare held n _ _ t3 w3
  replace q3 : [c3] = [Value.int .i64 z3] := q3
  simp only [List.cons.injEq, and_true] at q0 q1 q2 q3
  obtain rfl := q0
  obtain rfl := q1
  obtain rfl := q2
  obtain rfl := q3
  exact ⟨(⟨z0, z1, z2, z3⟩ : S31), k31_mk W (⟨z0, z1, z2, z3⟩ : S31) , g0, g1, g2, g3⟩
def ok47 (x : S47) : Prop := (ok45 x.f0) ∧ (wfI x.f1) ∧ (wfI x.f2)
theorem len_5 (cs : List Value) (h : cs.length = 5) : ∃ c0 c1 c2 c3 c4, cs = [c0, c1, c2, c3, c4] := by match cs, h with | [c0, c1, c2, c3, c4], _ => exact ⟨c0, c1, c2, c3, c4, rfl⟩
theorem opn47 : Opn Try.prog k47 47 ok47 := by
  intro H enc W base spare held fuel cs x h hw
  obtain ⟨hl, n, hf⟩ := opn_struct Try.underlying47 h hw
  have hl' : cs.length = 5 := hl.trans (by kernel_rfl)
  obtain ⟨c0, c1, c2, c3, c4, rfl⟩ := len_5 cs hl'
  have e0 : Try.prog.cellsOf 45 = 3 := by kernel_rfl
  obtain ⟨y0, t0, w0⟩ := hf 0 _ rfl
  replace t0 : DataW.trod enc Try.prog W base spare held n 45 (([c0, c1, c2, c3, c4].drop 0).take (Try.prog.cellsOf 45)) = some y0 := t0
  replace w0 : light Try.prog 45 y0.1 := w0
  rw [e0] at t0
  replace t0 : DataW.trod enc Try.prog W base spare held n 45 [c0, c1, c2] = some y0 := t0
  obtain ⟨z0, q0, g0⟩ := opn45 H enc W base spare held n _ _ t0 w0
  replace q0 := k45_open q0
  have e1 : Try.prog.cellsOf 3 = 1 := by kernel_rfl
  obtain ⟨y1, t1, w1⟩ := hf 1 _ rfl
  replace t1 : DataW.trod enc Try.prog W base spare held n 3 (([c0, c1, c2, c3, c4].drop 3).take (Try.prog.cellsOf 3)) = some y1 := t1
  replace w1 : light Try.prog 3 y1.1 := w1
  rw [e1] at t1
  replace t1 : DataW.trod enc Try.prog W base spare held n 3 [c3] = some y1 := t1
  obtain ⟨z1, q1, g1⟩ := opn_int H enc W base spare held n _ _ t1 w1
  replace q1 : [c3] = [Value.int .i64 z1] := q1
  have e2 : Try.prog.cellsOf 3 = 1 := by kernel_rfl
  obtain ⟨y2, t2, w2⟩ := hf 2 _ rfl
  replace t2 : DataW.trod enc Try.prog W base spare held n 3 (([c0, c1, c2, c3, c4].drop 4).take (Try.prog.cellsOf 3)) = some y2 := t2
  replace w2 : light Try.prog 3 y2.1 := w2
  rw [e2] at t2
  replace t2 : DataW.trod enc Try.prog W base spare held n 3 [c4] = some y2 := t2
  obtain ⟨z2, q2, g2⟩ := opn_int H enc W base spare held n _ _ t2 w2
  replace q2 : [c4] = [Value.int .i64 z2] := q2
  simp only [List.cons.injEq, and_true] at q0 q1 q2
  obtain ⟨rfl, rfl, rfl⟩ := q0
  obtain rfl := q1
  obtain rfl := q2
  exact ⟨(⟨z0, z1, z2⟩ : S47), k47_mk W (⟨z0, z1, z2⟩ : S47) , g0, g1, g2⟩
def ok35 (x : S35) : Prop := (ok31 x.f0) ∧ (wfI x.f1) ∧ (wfI x.f2) ∧ (wfI x.f3) ∧ ((∀ z ∈ x.f4, wfI z) ∧ x.f4.length * Try.prog.bytesOf 3 ≤ reachBytes) ∧ ((∀ z ∈ x.f5, ok47 z) ∧ x.f5.length * Try.prog.bytesOf 47 ≤ reachBytes) ∧ ((∀ z ∈ x.f6, wfI z) ∧ x.f6.length * Try.prog.bytesOf 3 ≤ reachBytes)
theorem len_10 (cs : List Value) (h : cs.length = 10) : ∃ c0 c1 c2 c3 c4 c5 c6 c7 c8 c9, cs = [c0, c1, c2, c3, c4, c5, c6, c7, c8, c9] := by match cs, h with | [c0, c1, c2, c3, c4, c5, c6, c7, c8, c9], _ => exact ⟨c0, c1, c2, c3, c4, c5, c6, c7, c8, c9, rfl⟩
theorem opn35 : Opn Try.prog k35 35 ok35 := by
  intro H enc W base spare held fuel cs x h hw
  obtain ⟨hl, n, hf⟩ := opn_struct Try.underlying35 h hw
  have hl' : cs.length = 10 := hl.trans (by kernel_rfl)
  obtain ⟨c0, c1, c2, c3, c4, c5, c6, c7, c8, c9, rfl⟩ := len_10 cs hl'
  have e0 : Try.prog.cellsOf 31 = 4 := by kernel_rfl
  obtain ⟨y0, t0, w0⟩ := hf 0 _ rfl
  replace t0 : DataW.trod enc Try.prog W base spare held n 31 (([c0, c1, c2, c3, c4, c5, c6, c7, c8, c9].drop 0).take (Try.prog.cellsOf 31)) = some y0 := t0
  replace w0 : light Try.prog 31 y0.1 := w0
  rw [e0] at t0
  replace t0 : DataW.trod enc Try.prog W base spare held n 31 [c0, c1, c2, c3] = some y0 := t0
  obtain ⟨z0, q0, g0⟩ := opn31 H enc W base spare held n _ _ t0 w0
  replace q0 := k31_open q0
  have e1 : Try.prog.cellsOf 3 = 1 := by kernel_rfl
  obtain ⟨y1, t1, w1⟩ := hf 1 _ rfl
  replace t1 : DataW.trod enc Try.prog W base spare held n 3 (([c0, c1, c2, c3, c4, c5, c6, c7, c8, c9].drop 4).take (Try.prog.cellsOf 3)) = some y1 := t1
  replace w1 : light Try.prog 3 y1.1 := w1
  rw [e1] at t1
  replace t1 : DataW.trod enc Try.prog W base spare held n 3 [c4] = some y1 := t1
  obtain ⟨z1, q1, g1⟩ := opn_int H enc W base spare held n _ _ t1 w1
  replace q1 : [c4] = [Value.int .i64 z1] := q1
  have e2 : Try.prog.cellsOf 3 = 1 := by kernel_rfl
  obtain ⟨y2, t2, w2⟩ := hf 2 _ rfl
  replace t2 : DataW.trod enc Try.prog W base spare held n 3 (([c0, c1, c2, c3, c4, c5, c6, c7, c8, c9].drop 5).take (Try.prog.cellsOf 3)) = some y2 := t2
  replace w2 : light Try.prog 3 y2.1 := w2
  rw [e2] at t2
  replace t2 : DataW.trod enc Try.prog W base spare held n 3 [c5] = some y2 := t2
  obtain ⟨z2, q2, g2⟩ := opn_int H enc W base spare held n _ _ t2 w2
  replace q2 : [c5] = [Value.int .i64 z2] := q2
  have e3 : Try.prog.cellsOf 3 = 1 := by kernel_rfl
  obtain ⟨y3, t3, w3⟩ := hf 3 _ rfl
  replace t3 : DataW.trod enc Try.prog W base spare held n 3 (([c0, c1, c2, c3, c4, c5, c6, c7, c8, c9].drop 6).take (Try.prog.cellsOf 3)) = some y3 := t3
  replace w3 : light Try.prog 3 y3.1 := w3
  rw [e3] at t3
  replace t3 : DataW.trod enc Try.prog W base spare held n 3 [c6] = some y3 := t3
  obtain ⟨z3, q3, g3⟩ := opn_int H enc W base spare held n _ _ t3 w3
  replace q3 : [c6] = [Value.int .i64 z3] := q3
  have e4 : Try.prog.cellsOf 32 = 1 := by kernel_rfl
  obtain ⟨y4, t4, w4⟩ := hf 4 _ rfl
  replace t4 : DataW.trod enc Try.prog W base spare held n 32 (([c0, c1, c2, c3, c4, c5, c6, c7, c8, c9].drop 7).take (Try.prog.cellsOf 32)) = some y4 := t4
  replace w4 : light Try.prog 32 y4.1 := w4
  rw [e4] at t4
  replace t4 : DataW.trod enc Try.prog W base spare held n 32 [c7] = some y4 := t4
  obtain ⟨z4, ⟨A4, b4, q4, l4, r4⟩, g4⟩ := opn_slice Try.underlying32 opn_int (by kernel_rfl) (by decide) H enc W base spare held n _ _ t4 w4
  have e5 : Try.prog.cellsOf 33 = 1 := by kernel_rfl
  obtain ⟨y5, t5, w5⟩ := hf 5 _ rfl
  replace t5 : DataW.trod enc Try.prog W base spare held n 33 (([c0, c1, c2, c3, c4, c5, c6, c7, c8, c9].drop 8).take (Try.prog.cellsOf 33)) = some y5 := t5
  replace w5 : light Try.prog 33 y5.1 := w5
  rw [e5] at t5
  replace t5 : DataW.trod enc Try.prog W base spare held n 33 [c8] = some y5 := t5
  obtain ⟨z5, ⟨A5, b5, q5, l5, r5⟩, g5⟩ := opn_slice Try.underlying33 opn47 (by kernel_rfl) (by decide) H enc W base spare held n _ _ t5 w5
  have e6 : Try.prog.cellsOf 32 = 1 := by kernel_rfl
  obtain ⟨y6, t6, w6⟩ := hf 6 _ rfl
  replace t6 : DataW.trod enc Try.prog W base spare held n 32 (([c0, c1, c2, c3, c4, c5, c6, c7, c8, c9].drop 9).take (Try.prog.cellsOf 32)) = some y6 := t6
  replace w6 : light Try.prog 32 y6.1 := w6
  rw [e6] at t6
  replace t6 : DataW.trod enc Try.prog W base spare held n 32 [c9] = some y6 := t6
  obtain ⟨z6, ⟨A6, b6, q6, l6, r6⟩, g6⟩ := opn_slice Try.underlying32 opn_int (by kernel_rfl) (by decide) H enc W base spare held n _ _ t6 w6
  simp only [List.cons.injEq, and_true] at q0 q1 q2 q3 q4 q5 q6
  obtain ⟨rfl, rfl, rfl, rfl⟩ := q0
  obtain rfl := q1
  obtain rfl := q2
  obtain rfl := q3
  obtain rfl := q4
  obtain rfl := q5
  obtain rfl := q6
  exact ⟨(⟨z0, z1, z2, z3, z4, z5, z6⟩ : S35), k35_mk W (⟨z0, z1, z2, z3, z4, z5, z6⟩ : S35) l4 r4 l5 r5 l6 r6, g0, g1, g2, g3, g4, g5, g6⟩
end Go.Proofs.Ytodmmckieoakjaa.P
namespace Go.Proofs.Ytodmmckieoakjaa.P
open Go.RowKit Go.Proofs.YtodmmckieoakjaaW.PrintWords Go.Proofs.YtodmmckieoakjaaW.PrintLast Go.Proofs.YtodmmckieoakjaaW.PrintMore
theorem bytes35 : Try.prog.bytesOf 35 = 128 := by kernel_rfl
theorem bytes47 : Try.prog.bytesOf 47 = 40 := by kernel_rfl
theorem reads_le {d : S35} (h : ok35 d) : d.f5.length ≤ 1000000000000000 := by
  have h1 := h.2.2.2.2.2.1.2
  rw [bytes47] at h1
  simp only [reachBytes] at h1
  omega
end Go.Proofs.Ytodmmckieoakjaa.P
namespace Go.Proofs.Ytodmmckieoakjaa.P
open Go.RowKit Go.Proofs.YtodmmckieoakjaaW.PrintWords Go.Proofs.YtodmmckieoakjaaW.PrintLast Go.Proofs.YtodmmckieoakjaaW.PrintMore
set_option linter.unusedVariables false
theorem mem_linksUpto (l : List S35) (z : S49) : ∀ k, k ≤ l.length → (z ∈ linksUpto l k ↔ ∃ i, i < k ∧ ∃ h : i < l.length, ∃ r ∈ l[i].f5, z = ⟨r, (i : Int)⟩)
  | 0, _ => by simp [linksUpto]
  | k + 1, hk => by
    rw [linksUpto_succ, List.mem_append, mem_linksUpto l z k (by omega), rd35 l k (by omega)]
    constructor
    · rintro (⟨i, hi, h, r, hr, e⟩ | h)
      · exact ⟨i, by omega, h, r, hr, e⟩
      · unfold linksOf at h
        obtain ⟨r, hr, e⟩ := List.mem_map.1 h
        exact ⟨k, by omega, by omega, r, hr, e.symm⟩
    · rintro ⟨i, hi, h, r, hr, e⟩
      rcases Nat.lt_or_ge i k with h1 | h1
      · exact .inl ⟨i, h1, h, r, hr, e⟩
      · have : i = k := by omega
        subst this
        exact .inr (List.mem_map.2 ⟨r, hr, e.symm⟩)
end Go.Proofs.Ytodmmckieoakjaa.P
namespace Go.Proofs.Ytodmmckieoakjaa.P
open Go.RowKit Go.Proofs.YtodmmckieoakjaaW.PrintWords Go.Proofs.YtodmmckieoakjaaW.PrintLast Go.Proofs.YtodmmckieoakjaaW.PrintMore
theorem k45_heap' : Kd.Heap k45 := Kd.heap_iso _ (Kd.heap_pair (Kd.heap_int _) (Kd.heap_pair (Kd.heap_int _) (Kd.heap_int _)))
theorem k47_heap' : Kd.Heap k47 := Kd.heap_iso _ (Kd.heap_pair k45_heap' (Kd.heap_pair (Kd.heap_int _) (Kd.heap_int _)))
theorem k31_heap' : Kd.Heap k31 := Kd.heap_iso _ (Kd.heap_pair (Kd.heap_int _) (Kd.heap_pair (Kd.heap_int _) (Kd.heap_pair (Kd.heap_int _) (Kd.heap_int _))))
theorem k35_heap' : Kd.Heap k35 := Kd.heap_iso _ (Kd.heap_pair k31_heap' (Kd.heap_pair (Kd.heap_int _) (Kd.heap_pair (Kd.heap_int _) (Kd.heap_pair (Kd.heap_int _) (Kd.heap_pair (Kd.heap_slice 3 (Kd.heap_int _)) (Kd.heap_pair (Kd.heap_slice 47 k47_heap') (Kd.heap_slice 3 (Kd.heap_int _))))))))
theorem int_heap' : Kd.Heap (Kd.int .i64) := Kd.heap_int _
/-- A row that is read, as a row that is shared. -/
theorem V_of_C {α : Type} {d : Kd α} {e : Nat} {w : World} {A : Option Addr} {c : Nat} {xs : List α} (hd : Kd.Heap d) (hl : xs.length ≤ c) (h : d.C w A xs.length xs) : Kd.V d e w w.heap.size (fun k => k < w.heap.size) (.slice A xs.length c) xs := Kd.V_mk hl (Kd.C_F hd h)
theorem tmod_at (a : Int) (h0 : 0 ≤ a) (h1 : a < 18446744073709551616) (n : Nat) (hn : 0 < n) (hn2 : n ≤ 12) : ∃ j : Nat, j < n ∧ IntKind.u64.wrap (n : Int) = n ∧ wrap64 (Int.tmod a (IntKind.u64.wrap (n : Int))) = (j : Int) := by
  have e : IntKind.u64.wrap (n : Int) = n := by simp [IntKind.wrap, IntKind.signed, IntKind.bits]; omega
  have e2 : Int.tmod a (n : Int) = a % n := Int.tmod_eq_emod_of_nonneg h0
  have e3 := Int.emod_nonneg a (b := (n : Int)) (by omega)
  have e4 := Int.emod_lt_of_pos a (b := (n : Int)) (by omega)
  refine ⟨(a % n).toNat, by omega, e, ?_⟩
  rw [e, e2]
  unfold wrap64
  omega
end Go.Proofs.Ytodmmckieoakjaa.P
