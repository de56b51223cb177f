/- Texts of this claim, one behind the other: Px9, Px10, Ev. Merged by wip/mkmerge.py. -/
import Derived.Test.YtodmmckieoakjaaCaBs2
import Derived.Test.YtodmmckieoakjaaCaBs1
import Derived.Test.YtodmmckieoakjaaCaBs3
namespace Go.Proofs.Ytodmmckieoakjaa.P
open Go.RowKit Go.Proofs.YtodmmckieoakjaaW.PrintWords Go.Proofs.YtodmmckieoakjaaW.PrintLast Go.Proofs.YtodmmckieoakjaaW.PrintMore
attribute [local go_sem] max2_int min2_int max_two min_two max_three min_three max_four min_four   -- for this text's walks alone
set_option linter.unusedVariables false
set_option linter.unusedSimpArgs false
def sizarlaw35_sane.f (k : Nat)  : Option (Bool) := (sizarlaw35_read.f 7 0 5).bind fun bt172 => ((sizarlaw35_read.f 7 0 5).bind fun bt177 => ((sizarlaw35_read.f 6 0 9).bind fun bt185 => ((index_Build.f (([(⟨(⟨0, 0, 0, 0⟩ : S31), 0, 0, 0, ([] : List Int), (([(⟨(⟨bt172.1, bt172.2.1, bt172.2.2.1⟩ : S45), bt172.2.2.2.1, bt172.2.2.2.2⟩ : S47), (⟨(⟨bt177.1, bt177.2.1, bt177.2.2.1⟩ : S45), bt177.2.2.2.1, bt177.2.2.2.2⟩ : S47)] : List (S47))), ([] : List Int)⟩ : S35), (⟨(⟨0, 0, 0, 0⟩ : S31), 0, 0, 0, ([] : List Int), (([(⟨(⟨bt185.1, bt185.2.1, bt185.2.2.1⟩ : S45), bt185.2.2.2.1, bt185.2.2.2.2⟩ : S47)] : List (S47))), ([] : List Int)⟩ : S35)] : List (S35)))).bind fun t196 => ((index_Replace.f t196 0 0 0 0 0 0 0 0 ([] : List Int) ([] : List (S47)) ([] : List Int)).bind fun t200 => ((sizarlaw35_read.f 6 0 9).bind fun bt204 => ((sizarlaw35_read.f 7 0 5).bind fun bt209 => ((some (([(⟨(⟨(⟨bt204.1, bt204.2.1, bt204.2.2.1⟩ : S45), bt204.2.2.2.1, bt204.2.2.2.2⟩ : S47), 1⟩ : S49), (⟨(⟨(⟨bt209.1, bt209.2.1, bt209.2.2.1⟩ : S45), bt209.2.2.2.1, bt209.2.2.2.2⟩ : S47), 0⟩ : S49)] : List (S49)) : List (S49))).bind fun y214 => ((sizarref35_Same.f k t196 y214).bind fun t217 => (if t217 = true then (if 1 ≤ (y214.length : Int) then ((sizarref35_Same.f k t200 (y214.take 1)).bind fun t223 => (if t223 = true then ((index_Build.f ([] : List (S35))).bind fun t224 => (if (t224.length : Int) = 0 then ((index_Check.f k t196 2).bind fun t227 => (if t227 = 0 then ((index_Check.f k t196 1).bind fun t228 => (if t228 = 350 then ((index_Check.f k ([] : List (S49)) 0).bind fun t229 => (if t229 = 0 then ((sizarlaw35_sane_1.f 5).bind fun t230 => ((index_Affected.f t196 t230).bind fun t233 => (if (t233.length : Int) = 0 then ((sizarlaw35_sane_1.f 4).bind fun t236 => ((index_Affected.f t196 t236).bind fun t239 => ((sizarref35_SameInts.f k t239 (([0] : List Int))).bind fun t245 => (if t245 = true then ((sizarlaw35_sane_1.f 4).bind fun t246 => ((index_Affected.f ([] : List (S49)) t246).bind fun t249 => (some ((t249.length : Int) == 0)))) else (none))))) else (none)))) else (none))) else (none))) else (none))) else (none))) else (none))) else (none)) else (none))))))))))
def sizarlaw35_sane.T6 : Bool × List (List Nat × List Nat) := (true, [([], []), ([], []), ([1], [1]), ([0, 2], [0, 2]), ([3], [3]), ([4, 3], [4]), ([5], [5]), ([5], [5]), ([7, 5], [5, 7]), ([8, 5], [5, 8]), ([6, 9, 5, 5], [5, 6, 9]), ([10, 5], [5, 10]), ([5, 11], [5, 11]), ([12, 10], [12]), ([13, 13], [13]), ([14, 13], [13, 14]), ([15, 13], [13, 15]), ([16, 13], [13, 16]), ([13, 17], [13, 17])])
def sizarlaw35_sane.B6 : List Nat := [0, 0, 2, 7, 15, 31, 63, 63, 191, 447, 1023, 2047, 4095, 8191, 16383, 32767, 65535, 131071, 262143]
theorem sizarlaw35_sane.tab6 : rtab .any (opsOf Try.f10 6) = sizarlaw35_sane.T6 := by kernel_rfl
theorem sizarlaw35_sane.bits6 : waitsOk sizarlaw35_sane.T6.2 sizarlaw35_sane.B6 = true := by kernel_rfl
def sizarlaw35_sane.T8 : Bool × List (List Nat × List Nat) := (true, [([], []), ([0], [0]), ([1], [1]), ([2, 1], [2]), ([3], [3]), ([4, 3, 3], [3, 4]), ([5, 3], [3, 5]), ([3, 6], [3, 6]), ([7, 5], [7]), ([8], [8]), ([9, 8, 8], [8, 9]), ([10, 8], [8, 10]), ([8, 11], [8, 11]), ([12, 10], [12]), ([13], [13]), ([13], [13]), ([15, 13, 13], [13, 15]), ([14, 16, 16, 13], [13, 14, 16]), ([17, 13], [13, 17]), ([18, 13], [13, 18]), ([13, 19], [13, 19]), ([20, 17], [20]), ([21], [21]), ([21], [21]), ([23, 21, 21], [21, 23]), ([22, 24, 24, 21], [21, 22, 24]), ([21], [21]), ([25, 26, 25, 21], [21, 25, 26]), ([21, 27], [21, 27]), ([28, 27], [28]), ([29], [29]), ([29], [29]), ([31, 29, 29], [29, 31]), ([30, 32, 32, 29], [29, 30, 32]), ([33, 29], [29, 33]), ([34, 29], [29, 34]), ([29, 35], [29, 35]), ([36, 33, 0, 1, 2, 3, 4, 5, 6, 7, 8, 9, 10, 11, 12, 13, 14, 15, 16, 17, 18, 19, 20, 21, 22, 23, 24, 25, 26, 27, 28, 29, 30, 31, 32, 33, 34, 35, 36], [36])])
def sizarlaw35_sane.B8 : List Nat := [0, 1, 3, 7, 15, 31, 63, 127, 255, 511, 1023, 2047, 4095, 8191, 16383, 16383, 49151, 131071, 262143, 524287, 1048575, 2097151, 4194303, 4194303, 12582911, 33554431, 4194303, 134217727, 268435455, 536870911, 1073741823, 1073741823, 3221225471, 8589934591, 17179869183, 34359738367, 68719476735, 137438953471]
theorem sizarlaw35_sane.tab8 : rtab .any (opsOf Try.f10 8) = sizarlaw35_sane.T8 := by kernel_rfl
theorem sizarlaw35_sane.bits8 : waitsOk sizarlaw35_sane.T8.2 sizarlaw35_sane.B8 = true := by kernel_rfl
set_option maxHeartbeats 8000000 in
set_option maxRecDepth 100000 in
theorem sizarlaw35_sane.calls (k : Nat)  (r : Bool) (w : World) (h : sizarlaw35_sane.f k  = some r) :
  Calls Try.prog 10 #[] w fun e w' => e = .returned (.bool r) ∧ Below w.heap.size w w' := by
 have hfd : ∀ (A : Option Addr) (n c : Nat) (w : World), (Instr.field 28 (.agg #[.slice A n c]) 0).run Try.prog w = .ok (.slice A n c) w := fun _ _ _ _ => by kernel_rfl
 have hu35 := Try.underlying35
 have hu28 := Try.underlying28
 have hu49 := Try.underlying49
 have HB := Aside0.mk (Below.refl w.heap.size w)
 have H : ((sizarlaw35_read.f 7 0 5).bind fun bt172 => ((sizarlaw35_read.f 7 0 5).bind fun bt177 => ((sizarlaw35_read.f 6 0 9).bind fun bt185 => ((index_Build.f (([(⟨(⟨0, 0, 0, 0⟩ : S31), 0, 0, 0, ([] : List Int), (([(⟨(⟨bt172.1, bt172.2.1, bt172.2.2.1⟩ : S45), bt172.2.2.2.1, bt172.2.2.2.2⟩ : S47), (⟨(⟨bt177.1, bt177.2.1, bt177.2.2.1⟩ : S45), bt177.2.2.2.1, bt177.2.2.2.2⟩ : S47)] : List (S47))), ([] : List Int)⟩ : S35), (⟨(⟨0, 0, 0, 0⟩ : S31), 0, 0, 0, ([] : List Int), (([(⟨(⟨bt185.1, bt185.2.1, bt185.2.2.1⟩ : S45), bt185.2.2.2.1, bt185.2.2.2.2⟩ : S47)] : List (S47))), ([] : List Int)⟩ : S35)] : List (S35)))).bind fun t196 => ((index_Replace.f t196 0 0 0 0 0 0 0 0 ([] : List Int) ([] : List (S47)) ([] : List Int)).bind fun t200 => ((sizarlaw35_read.f 6 0 9).bind fun bt204 => ((sizarlaw35_read.f 7 0 5).bind fun bt209 => ((some (([(⟨(⟨(⟨bt204.1, bt204.2.1, bt204.2.2.1⟩ : S45), bt204.2.2.2.1, bt204.2.2.2.2⟩ : S47), 1⟩ : S49), (⟨(⟨(⟨bt209.1, bt209.2.1, bt209.2.2.1⟩ : S45), bt209.2.2.2.1, bt209.2.2.2.2⟩ : S47), 0⟩ : S49)] : List (S49)) : List (S49))).bind fun y214 => ((sizarref35_Same.f k t196 y214).bind fun t217 => (if t217 = true then (if 1 ≤ (y214.length : Int) then ((sizarref35_Same.f k t200 (y214.take 1)).bind fun t223 => (if t223 = true then ((index_Build.f ([] : List (S35))).bind fun t224 => (if (t224.length : Int) = 0 then ((index_Check.f k t196 2).bind fun t227 => (if t227 = 0 then ((index_Check.f k t196 1).bind fun t228 => (if t228 = 350 then ((index_Check.f k ([] : List (S49)) 0).bind fun t229 => (if t229 = 0 then ((sizarlaw35_sane_1.f 5).bind fun t230 => ((index_Affected.f t196 t230).bind fun t233 => (if (t233.length : Int) = 0 then ((sizarlaw35_sane_1.f 4).bind fun t236 => ((index_Affected.f t196 t236).bind fun t239 => ((sizarref35_SameInts.f k t239 (([0] : List Int))).bind fun t245 => (if t245 = true then ((sizarlaw35_sane_1.f 4).bind fun t246 => ((index_Affected.f ([] : List (S49)) t246).bind fun t249 => (some ((t249.length : Int) == 0)))) else (none))))) else (none)))) else (none))) else (none))) else (none))) else (none))) else (none))) else (none)) else (none))))))))))) = some r := h
 clear h
 replace H := Option.bind_eq_some_iff.mp H
 obtain ⟨⟨t172, t173, t174, t175, t176⟩, A10, H⟩ := H
 replace H : ((sizarlaw35_read.f 7 0 5).bind fun bt177 => ((sizarlaw35_read.f 6 0 9).bind fun bt185 => ((index_Build.f (([(⟨(⟨0, 0, 0, 0⟩ : S31), 0, 0, 0, ([] : List Int), (([(⟨(⟨t172, t173, t174⟩ : S45), t175, t176⟩ : S47), (⟨(⟨bt177.1, bt177.2.1, bt177.2.2.1⟩ : S45), bt177.2.2.2.1, bt177.2.2.2.2⟩ : S47)] : List (S47))), ([] : List Int)⟩ : S35), (⟨(⟨0, 0, 0, 0⟩ : S31), 0, 0, 0, ([] : List Int), (([(⟨(⟨bt185.1, bt185.2.1, bt185.2.2.1⟩ : S45), bt185.2.2.2.1, bt185.2.2.2.2⟩ : S47)] : List (S47))), ([] : List Int)⟩ : S35)] : List (S35)))).bind fun t196 => ((index_Replace.f t196 0 0 0 0 0 0 0 0 ([] : List Int) ([] : List (S47)) ([] : List Int)).bind fun t200 => ((sizarlaw35_read.f 6 0 9).bind fun bt204 => ((sizarlaw35_read.f 7 0 5).bind fun bt209 => ((some (([(⟨(⟨(⟨bt204.1, bt204.2.1, bt204.2.2.1⟩ : S45), bt204.2.2.2.1, bt204.2.2.2.2⟩ : S47), 1⟩ : S49), (⟨(⟨(⟨bt209.1, bt209.2.1, bt209.2.2.1⟩ : S45), bt209.2.2.2.1, bt209.2.2.2.2⟩ : S47), 0⟩ : S49)] : List (S49)) : List (S49))).bind fun y214 => ((sizarref35_Same.f k t196 y214).bind fun t217 => (if t217 = true then (if 1 ≤ (y214.length : Int) then ((sizarref35_Same.f k t200 (y214.take 1)).bind fun t223 => (if t223 = true then ((index_Build.f ([] : List (S35))).bind fun t224 => (if (t224.length : Int) = 0 then ((index_Check.f k t196 2).bind fun t227 => (if t227 = 0 then ((index_Check.f k t196 1).bind fun t228 => (if t228 = 350 then ((index_Check.f k ([] : List (S49)) 0).bind fun t229 => (if t229 = 0 then ((sizarlaw35_sane_1.f 5).bind fun t230 => ((index_Affected.f t196 t230).bind fun t233 => (if (t233.length : Int) = 0 then ((sizarlaw35_sane_1.f 4).bind fun t236 => ((index_Affected.f t196 t236).bind fun t239 => ((sizarref35_SameInts.f k t239 (([0] : List Int))).bind fun t245 => (if t245 = true then ((sizarlaw35_sane_1.f 4).bind fun t246 => ((index_Affected.f ([] : List (S49)) t246).bind fun t249 => (some ((t249.length : Int) == 0)))) else (none))))) else (none)))) else (none))) else (none))) else (none))) else (none))) else (none))) else (none)) else (none)))))))))) = some r := H
 have A1 := Aside0.mk A10
 clear A10
 replace H := Option.bind_eq_some_iff.mp H
 obtain ⟨⟨t177, t178, t179, t180, t181⟩, A20, H⟩ := H
 replace H : ((sizarlaw35_read.f 6 0 9).bind fun bt185 => ((index_Build.f (([(⟨(⟨0, 0, 0, 0⟩ : S31), 0, 0, 0, ([] : List Int), (([(⟨(⟨t172, t173, t174⟩ : S45), t175, t176⟩ : S47), (⟨(⟨t177, t178, t179⟩ : S45), t180, t181⟩ : S47)] : List (S47))), ([] : List Int)⟩ : S35), (⟨(⟨0, 0, 0, 0⟩ : S31), 0, 0, 0, ([] : List Int), (([(⟨(⟨bt185.1, bt185.2.1, bt185.2.2.1⟩ : S45), bt185.2.2.2.1, bt185.2.2.2.2⟩ : S47)] : List (S47))), ([] : List Int)⟩ : S35)] : List (S35)))).bind fun t196 => ((index_Replace.f t196 0 0 0 0 0 0 0 0 ([] : List Int) ([] : List (S47)) ([] : List Int)).bind fun t200 => ((sizarlaw35_read.f 6 0 9).bind fun bt204 => ((sizarlaw35_read.f 7 0 5).bind fun bt209 => ((some (([(⟨(⟨(⟨bt204.1, bt204.2.1, bt204.2.2.1⟩ : S45), bt204.2.2.2.1, bt204.2.2.2.2⟩ : S47), 1⟩ : S49), (⟨(⟨(⟨bt209.1, bt209.2.1, bt209.2.2.1⟩ : S45), bt209.2.2.2.1, bt209.2.2.2.2⟩ : S47), 0⟩ : S49)] : List (S49)) : List (S49))).bind fun y214 => ((sizarref35_Same.f k t196 y214).bind fun t217 => (if t217 = true then (if 1 ≤ (y214.length : Int) then ((sizarref35_Same.f k t200 (y214.take 1)).bind fun t223 => (if t223 = true then ((index_Build.f ([] : List (S35))).bind fun t224 => (if (t224.length : Int) = 0 then ((index_Check.f k t196 2).bind fun t227 => (if t227 = 0 then ((index_Check.f k t196 1).bind fun t228 => (if t228 = 350 then ((index_Check.f k ([] : List (S49)) 0).bind fun t229 => (if t229 = 0 then ((sizarlaw35_sane_1.f 5).bind fun t230 => ((index_Affected.f t196 t230).bind fun t233 => (if (t233.length : Int) = 0 then ((sizarlaw35_sane_1.f 4).bind fun t236 => ((index_Affected.f t196 t236).bind fun t239 => ((sizarref35_SameInts.f k t239 (([0] : List Int))).bind fun t245 => (if t245 = true then ((sizarlaw35_sane_1.f 4).bind fun t246 => ((index_Affected.f ([] : List (S49)) t246).bind fun t249 => (some ((t249.length : Int) == 0)))) else (none))))) else (none)))) else (none))) else (none))) else (none))) else (none))) else (none))) else (none)) else (none))))))))) = some r := H
 have A2 := Aside0.mk A20
 clear A20
 obtain ⟨y182, hy182⟩ : ∃ y_ : List (S47), y_ = (([(⟨(⟨t172, t173, t174⟩ : S45), t175, t176⟩ : S47), (⟨(⟨t177, t178, t179⟩ : S45), t180, t181⟩ : S47)] : List (S47))) := ⟨_, rfl⟩
 replace H : ((sizarlaw35_read.f 6 0 9).bind fun bt185 => ((index_Build.f (([(⟨(⟨0, 0, 0, 0⟩ : S31), 0, 0, 0, ([] : List Int), y182, ([] : List Int)⟩ : S35), (⟨(⟨0, 0, 0, 0⟩ : S31), 0, 0, 0, ([] : List Int), (([(⟨(⟨bt185.1, bt185.2.1, bt185.2.2.1⟩ : S45), bt185.2.2.2.1, bt185.2.2.2.2⟩ : S47)] : List (S47))), ([] : List Int)⟩ : S35)] : List (S35)))).bind fun t196 => ((index_Replace.f t196 0 0 0 0 0 0 0 0 ([] : List Int) ([] : List (S47)) ([] : List Int)).bind fun t200 => ((sizarlaw35_read.f 6 0 9).bind fun bt204 => ((sizarlaw35_read.f 7 0 5).bind fun bt209 => ((some (([(⟨(⟨(⟨bt204.1, bt204.2.1, bt204.2.2.1⟩ : S45), bt204.2.2.2.1, bt204.2.2.2.2⟩ : S47), 1⟩ : S49), (⟨(⟨(⟨bt209.1, bt209.2.1, bt209.2.2.1⟩ : S45), bt209.2.2.2.1, bt209.2.2.2.2⟩ : S47), 0⟩ : S49)] : List (S49)) : List (S49))).bind fun y214 => ((sizarref35_Same.f k t196 y214).bind fun t217 => (if t217 = true then (if 1 ≤ (y214.length : Int) then ((sizarref35_Same.f k t200 (y214.take 1)).bind fun t223 => (if t223 = true then ((index_Build.f ([] : List (S35))).bind fun t224 => (if (t224.length : Int) = 0 then ((index_Check.f k t196 2).bind fun t227 => (if t227 = 0 then ((index_Check.f k t196 1).bind fun t228 => (if t228 = 350 then ((index_Check.f k ([] : List (S49)) 0).bind fun t229 => (if t229 = 0 then ((sizarlaw35_sane_1.f 5).bind fun t230 => ((index_Affected.f t196 t230).bind fun t233 => (if (t233.length : Int) = 0 then ((sizarlaw35_sane_1.f 4).bind fun t236 => ((index_Affected.f t196 t236).bind fun t239 => ((sizarref35_SameInts.f k t239 (([0] : List Int))).bind fun t245 => (if t245 = true then ((sizarlaw35_sane_1.f 4).bind fun t246 => ((index_Affected.f ([] : List (S49)) t246).bind fun t249 => (some ((t249.length : Int) == 0)))) else (none))))) else (none)))) else (none))) else (none))) else (none))) else (none))) else (none))) else (none)) else (none))))))))) = some r := by first | (rw [hy182]; with_reducible exact H) | (have H2_ := (Option.bind_some _ _).symm.trans H; rw [hy182]; with_reducible exact H2_) | (have H2_ := (Option.bind_some _ _).symm.trans H; with_reducible exact H2_) | with_reducible exact H | (rw [hy182]; exact H) | exact H
 have Ny182 := Aside0.mk hy182
 clear hy182
 replace H := Option.bind_eq_some_iff.mp H
 obtain ⟨⟨t185, t186, t187, t188, t189⟩, A30, H⟩ := H
 replace H : ((index_Build.f (([(⟨(⟨0, 0, 0, 0⟩ : S31), 0, 0, 0, ([] : List Int), y182, ([] : List Int)⟩ : S35), (⟨(⟨0, 0, 0, 0⟩ : S31), 0, 0, 0, ([] : List Int), (([(⟨(⟨t185, t186, t187⟩ : S45), t188, t189⟩ : S47)] : List (S47))), ([] : List Int)⟩ : S35)] : List (S35)))).bind fun t196 => ((index_Replace.f t196 0 0 0 0 0 0 0 0 ([] : List Int) ([] : List (S47)) ([] : List Int)).bind fun t200 => ((sizarlaw35_read.f 6 0 9).bind fun bt204 => ((sizarlaw35_read.f 7 0 5).bind fun bt209 => ((some (([(⟨(⟨(⟨bt204.1, bt204.2.1, bt204.2.2.1⟩ : S45), bt204.2.2.2.1, bt204.2.2.2.2⟩ : S47), 1⟩ : S49), (⟨(⟨(⟨bt209.1, bt209.2.1, bt209.2.2.1⟩ : S45), bt209.2.2.2.1, bt209.2.2.2.2⟩ : S47), 0⟩ : S49)] : List (S49)) : List (S49))).bind fun y214 => ((sizarref35_Same.f k t196 y214).bind fun t217 => (if t217 = true then (if 1 ≤ (y214.length : Int) then ((sizarref35_Same.f k t200 (y214.take 1)).bind fun t223 => (if t223 = true then ((index_Build.f ([] : List (S35))).bind fun t224 => (if (t224.length : Int) = 0 then ((index_Check.f k t196 2).bind fun t227 => (if t227 = 0 then ((index_Check.f k t196 1).bind fun t228 => (if t228 = 350 then ((index_Check.f k ([] : List (S49)) 0).bind fun t229 => (if t229 = 0 then ((sizarlaw35_sane_1.f 5).bind fun t230 => ((index_Affected.f t196 t230).bind fun t233 => (if (t233.length : Int) = 0 then ((sizarlaw35_sane_1.f 4).bind fun t236 => ((index_Affected.f t196 t236).bind fun t239 => ((sizarref35_SameInts.f k t239 (([0] : List Int))).bind fun t245 => (if t245 = true then ((sizarlaw35_sane_1.f 4).bind fun t246 => ((index_Affected.f ([] : List (S49)) t246).bind fun t249 => (some ((t249.length : Int) == 0)))) else (none))))) else (none)))) else (none))) else (none))) else (none))) else (none))) else (none))) else (none)) else (none)))))))) = some r := H
 have A3 := Aside0.mk A30
 clear A30
 obtain ⟨y190, hy190⟩ : ∃ y_ : List (S47), y_ = (([(⟨(⟨t185, t186, t187⟩ : S45), t188, t189⟩ : S47)] : List (S47))) := ⟨_, rfl⟩
 replace H : ((index_Build.f (([(⟨(⟨0, 0, 0, 0⟩ : S31), 0, 0, 0, ([] : List Int), y182, ([] : List Int)⟩ : S35), (⟨(⟨0, 0, 0, 0⟩ : S31), 0, 0, 0, ([] : List Int), y190, ([] : List Int)⟩ : S35)] : List (S35)))).bind fun t196 => ((index_Replace.f t196 0 0 0 0 0 0 0 0 ([] : List Int) ([] : List (S47)) ([] : List Int)).bind fun t200 => ((sizarlaw35_read.f 6 0 9).bind fun bt204 => ((sizarlaw35_read.f 7 0 5).bind fun bt209 => ((some (([(⟨(⟨(⟨bt204.1, bt204.2.1, bt204.2.2.1⟩ : S45), bt204.2.2.2.1, bt204.2.2.2.2⟩ : S47), 1⟩ : S49), (⟨(⟨(⟨bt209.1, bt209.2.1, bt209.2.2.1⟩ : S45), bt209.2.2.2.1, bt209.2.2.2.2⟩ : S47), 0⟩ : S49)] : List (S49)) : List (S49))).bind fun y214 => ((sizarref35_Same.f k t196 y214).bind fun t217 => (if t217 = true then (if 1 ≤ (y214.length : Int) then ((sizarref35_Same.f k t200 (y214.take 1)).bind fun t223 => (if t223 = true then ((index_Build.f ([] : List (S35))).bind fun t224 => (if (t224.length : Int) = 0 then ((index_Check.f k t196 2).bind fun t227 => (if t227 = 0 then ((index_Check.f k t196 1).bind fun t228 => (if t228 = 350 then ((index_Check.f k ([] : List (S49)) 0).bind fun t229 => (if t229 = 0 then ((sizarlaw35_sane_1.f 5).bind fun t230 => ((index_Affected.f t196 t230).bind fun t233 => (if (t233.length : Int) = 0 then ((sizarlaw35_sane_1.f 4).bind fun t236 => ((index_Affected.f t196 t236).bind fun t239 => ((sizarref35_SameInts.f k t239 (([0] : List Int))).bind fun t245 => (if t245 = true then ((sizarlaw35_sane_1.f 4).bind fun t246 => ((index_Affected.f ([] : List (S49)) t246).bind fun t249 => (some ((t249.length : Int) == 0)))) else (none))))) else (none)))) else (none))) else (none))) else (none))) else (none))) else (none))) else (none)) else (none)))))))) = some r := by first | (rw [hy190]; with_reducible exact H) | (have H2_ := (Option.bind_some _ _).symm.trans H; rw [hy190]; with_reducible exact H2_) | (have H2_ := (Option.bind_some _ _).symm.trans H; with_reducible exact H2_) | with_reducible exact H | (rw [hy190]; exact H) | exact H
 have Ny190 := Aside0.mk hy190
 clear hy190
 obtain ⟨y193, hy193⟩ : ∃ y_ : List (S35), y_ = (([(⟨(⟨0, 0, 0, 0⟩ : S31), 0, 0, 0, ([] : List Int), y182, ([] : List Int)⟩ : S35), (⟨(⟨0, 0, 0, 0⟩ : S31), 0, 0, 0, ([] : List Int), y190, ([] : List Int)⟩ : S35)] : List (S35))) := ⟨_, rfl⟩
 replace H : ((index_Build.f y193).bind fun t196 => ((index_Replace.f t196 0 0 0 0 0 0 0 0 ([] : List Int) ([] : List (S47)) ([] : List Int)).bind fun t200 => ((sizarlaw35_read.f 6 0 9).bind fun bt204 => ((sizarlaw35_read.f 7 0 5).bind fun bt209 => ((some (([(⟨(⟨(⟨bt204.1, bt204.2.1, bt204.2.2.1⟩ : S45), bt204.2.2.2.1, bt204.2.2.2.2⟩ : S47), 1⟩ : S49), (⟨(⟨(⟨bt209.1, bt209.2.1, bt209.2.2.1⟩ : S45), bt209.2.2.2.1, bt209.2.2.2.2⟩ : S47), 0⟩ : S49)] : List (S49)) : List (S49))).bind fun y214 => ((sizarref35_Same.f k t196 y214).bind fun t217 => (if t217 = true then (if 1 ≤ (y214.length : Int) then ((sizarref35_Same.f k t200 (y214.take 1)).bind fun t223 => (if t223 = true then ((index_Build.f ([] : List (S35))).bind fun t224 => (if (t224.length : Int) = 0 then ((index_Check.f k t196 2).bind fun t227 => (if t227 = 0 then ((index_Check.f k t196 1).bind fun t228 => (if t228 = 350 then ((index_Check.f k ([] : List (S49)) 0).bind fun t229 => (if t229 = 0 then ((sizarlaw35_sane_1.f 5).bind fun t230 => ((index_Affected.f t196 t230).bind fun t233 => (if (t233.length : Int) = 0 then ((sizarlaw35_sane_1.f 4).bind fun t236 => ((index_Affected.f t196 t236).bind fun t239 => ((sizarref35_SameInts.f k t239 (([0] : List Int))).bind fun t245 => (if t245 = true then ((sizarlaw35_sane_1.f 4).bind fun t246 => ((index_Affected.f ([] : List (S49)) t246).bind fun t249 => (some ((t249.length : Int) == 0)))) else (none))))) else (none)))) else (none))) else (none))) else (none))) else (none))) else (none))) else (none)) else (none)))))))) = some r := by first | (rw [hy193]; with_reducible exact H) | (have H2_ := (Option.bind_some _ _).symm.trans H; rw [hy193]; with_reducible exact H2_) | (have H2_ := (Option.bind_some _ _).symm.trans H; with_reducible exact H2_) | with_reducible exact H | (rw [hy193]; exact H) | exact H
 have Ny193 := Aside0.mk hy193
 clear hy193
 replace H := Option.bind_eq_some_iff.mp H
 obtain ⟨t196, A40, H⟩ := H
 replace H : ((index_Replace.f t196 0 0 0 0 0 0 0 0 ([] : List Int) ([] : List (S47)) ([] : List Int)).bind fun t200 => ((sizarlaw35_read.f 6 0 9).bind fun bt204 => ((sizarlaw35_read.f 7 0 5).bind fun bt209 => ((some (([(⟨(⟨(⟨bt204.1, bt204.2.1, bt204.2.2.1⟩ : S45), bt204.2.2.2.1, bt204.2.2.2.2⟩ : S47), 1⟩ : S49), (⟨(⟨(⟨bt209.1, bt209.2.1, bt209.2.2.1⟩ : S45), bt209.2.2.2.1, bt209.2.2.2.2⟩ : S47), 0⟩ : S49)] : List (S49)) : List (S49))).bind fun y214 => ((sizarref35_Same.f k t196 y214).bind fun t217 => (if t217 = true then (if 1 ≤ (y214.length : Int) then ((sizarref35_Same.f k t200 (y214.take 1)).bind fun t223 => (if t223 = true then ((index_Build.f ([] : List (S35))).bind fun t224 => (if (t224.length : Int) = 0 then ((index_Check.f k t196 2).bind fun t227 => (if t227 = 0 then ((index_Check.f k t196 1).bind fun t228 => (if t228 = 350 then ((index_Check.f k ([] : List (S49)) 0).bind fun t229 => (if t229 = 0 then ((sizarlaw35_sane_1.f 5).bind fun t230 => ((index_Affected.f t196 t230).bind fun t233 => (if (t233.length : Int) = 0 then ((sizarlaw35_sane_1.f 4).bind fun t236 => ((index_Affected.f t196 t236).bind fun t239 => ((sizarref35_SameInts.f k t239 (([0] : List Int))).bind fun t245 => (if t245 = true then ((sizarlaw35_sane_1.f 4).bind fun t246 => ((index_Affected.f ([] : List (S49)) t246).bind fun t249 => (some ((t249.length : Int) == 0)))) else (none))))) else (none)))) else (none))) else (none))) else (none))) else (none))) else (none))) else (none)) else (none))))))) = some r := H
 have A4 := Aside0.mk A40
 clear A40
 replace H := Option.bind_eq_some_iff.mp H
 obtain ⟨t200, A50, H⟩ := H
 replace H : ((sizarlaw35_read.f 6 0 9).bind fun bt204 => ((sizarlaw35_read.f 7 0 5).bind fun bt209 => ((some (([(⟨(⟨(⟨bt204.1, bt204.2.1, bt204.2.2.1⟩ : S45), bt204.2.2.2.1, bt204.2.2.2.2⟩ : S47), 1⟩ : S49), (⟨(⟨(⟨bt209.1, bt209.2.1, bt209.2.2.1⟩ : S45), bt209.2.2.2.1, bt209.2.2.2.2⟩ : S47), 0⟩ : S49)] : List (S49)) : List (S49))).bind fun y214 => ((sizarref35_Same.f k t196 y214).bind fun t217 => (if t217 = true then (if 1 ≤ (y214.length : Int) then ((sizarref35_Same.f k t200 (y214.take 1)).bind fun t223 => (if t223 = true then ((index_Build.f ([] : List (S35))).bind fun t224 => (if (t224.length : Int) = 0 then ((index_Check.f k t196 2).bind fun t227 => (if t227 = 0 then ((index_Check.f k t196 1).bind fun t228 => (if t228 = 350 then ((index_Check.f k ([] : List (S49)) 0).bind fun t229 => (if t229 = 0 then ((sizarlaw35_sane_1.f 5).bind fun t230 => ((index_Affected.f t196 t230).bind fun t233 => (if (t233.length : Int) = 0 then ((sizarlaw35_sane_1.f 4).bind fun t236 => ((index_Affected.f t196 t236).bind fun t239 => ((sizarref35_SameInts.f k t239 (([0] : List Int))).bind fun t245 => (if t245 = true then ((sizarlaw35_sane_1.f 4).bind fun t246 => ((index_Affected.f ([] : List (S49)) t246).bind fun t249 => (some ((t249.length : Int) == 0)))) else (none))))) else (none)))) else (none))) else (none))) else (none))) else (none))) else (none))) else (none)) else (none)))))) = some r := H
 have A5 := Aside0.mk A50
 clear A50
 replace H := Option.bind_eq_some_iff.mp H
 obtain ⟨⟨t204, t205, t206, t207, t208⟩, A60, H⟩ := H
 replace H : ((sizarlaw35_read.f 7 0 5).bind fun bt209 => ((some (([(⟨(⟨(⟨t204, t205, t206⟩ : S45), t207, t208⟩ : S47), 1⟩ : S49), (⟨(⟨(⟨bt209.1, bt209.2.1, bt209.2.2.1⟩ : S45), bt209.2.2.2.1, bt209.2.2.2.2⟩ : S47), 0⟩ : S49)] : List (S49)) : List (S49))).bind fun y214 => ((sizarref35_Same.f k t196 y214).bind fun t217 => (if t217 = true then (if 1 ≤ (y214.length : Int) then ((sizarref35_Same.f k t200 (y214.take 1)).bind fun t223 => (if t223 = true then ((index_Build.f ([] : List (S35))).bind fun t224 => (if (t224.length : Int) = 0 then ((index_Check.f k t196 2).bind fun t227 => (if t227 = 0 then ((index_Check.f k t196 1).bind fun t228 => (if t228 = 350 then ((index_Check.f k ([] : List (S49)) 0).bind fun t229 => (if t229 = 0 then ((sizarlaw35_sane_1.f 5).bind fun t230 => ((index_Affected.f t196 t230).bind fun t233 => (if (t233.length : Int) = 0 then ((sizarlaw35_sane_1.f 4).bind fun t236 => ((index_Affected.f t196 t236).bind fun t239 => ((sizarref35_SameInts.f k t239 (([0] : List Int))).bind fun t245 => (if t245 = true then ((sizarlaw35_sane_1.f 4).bind fun t246 => ((index_Affected.f ([] : List (S49)) t246).bind fun t249 => (some ((t249.length : Int) == 0)))) else (none))))) else (none)))) else (none))) else (none))) else (none))) else (none))) else (none))) else (none)) else (none))))) = some r := H
 have A6 := Aside0.mk A60
 clear A60
 replace H := Option.bind_eq_some_iff.mp H
 obtain ⟨⟨t209, t210, t211, t212, t213⟩, A70, H⟩ := H
 replace H : ((some (([(⟨(⟨(⟨t204, t205, t206⟩ : S45), t207, t208⟩ : S47), 1⟩ : S49), (⟨(⟨(⟨t209, t210, t211⟩ : S45), t212, t213⟩ : S47), 0⟩ : S49)] : List (S49)) : List (S49))).bind fun y214 => ((sizarref35_Same.f k t196 y214).bind fun t217 => (if t217 = true then (if 1 ≤ (y214.length : Int) then ((sizarref35_Same.f k t200 (y214.take 1)).bind fun t223 => (if t223 = true then ((index_Build.f ([] : List (S35))).bind fun t224 => (if (t224.length : Int) = 0 then ((index_Check.f k t196 2).bind fun t227 => (if t227 = 0 then ((index_Check.f k t196 1).bind fun t228 => (if t228 = 350 then ((index_Check.f k ([] : List (S49)) 0).bind fun t229 => (if t229 = 0 then ((sizarlaw35_sane_1.f 5).bind fun t230 => ((index_Affected.f t196 t230).bind fun t233 => (if (t233.length : Int) = 0 then ((sizarlaw35_sane_1.f 4).bind fun t236 => ((index_Affected.f t196 t236).bind fun t239 => ((sizarref35_SameInts.f k t239 (([0] : List Int))).bind fun t245 => (if t245 = true then ((sizarlaw35_sane_1.f 4).bind fun t246 => ((index_Affected.f ([] : List (S49)) t246).bind fun t249 => (some ((t249.length : Int) == 0)))) else (none))))) else (none)))) else (none))) else (none))) else (none))) else (none))) else (none))) else (none)) else (none)))) = some r := H
 have A7 := Aside0.mk A70
 clear A70
 obtain ⟨y214, hy214⟩ : ∃ y_ : List (S49), y_ = (([(⟨(⟨(⟨t204, t205, t206⟩ : S45), t207, t208⟩ : S47), 1⟩ : S49), (⟨(⟨(⟨t209, t210, t211⟩ : S45), t212, t213⟩ : S47), 0⟩ : S49)] : List (S49))) := ⟨_, rfl⟩
 replace H : ((sizarref35_Same.f k t196 y214).bind fun t217 => (if t217 = true then (if 1 ≤ (y214.length : Int) then ((sizarref35_Same.f k t200 (y214.take 1)).bind fun t223 => (if t223 = true then ((index_Build.f ([] : List (S35))).bind fun t224 => (if (t224.length : Int) = 0 then ((index_Check.f k t196 2).bind fun t227 => (if t227 = 0 then ((index_Check.f k t196 1).bind fun t228 => (if t228 = 350 then ((index_Check.f k ([] : List (S49)) 0).bind fun t229 => (if t229 = 0 then ((sizarlaw35_sane_1.f 5).bind fun t230 => ((index_Affected.f t196 t230).bind fun t233 => (if (t233.length : Int) = 0 then ((sizarlaw35_sane_1.f 4).bind fun t236 => ((index_Affected.f t196 t236).bind fun t239 => ((sizarref35_SameInts.f k t239 (([0] : List Int))).bind fun t245 => (if t245 = true then ((sizarlaw35_sane_1.f 4).bind fun t246 => ((index_Affected.f ([] : List (S49)) t246).bind fun t249 => (some ((t249.length : Int) == 0)))) else (none))))) else (none)))) else (none))) else (none))) else (none))) else (none))) else (none))) else (none)) else (none))) = some r := by first | (rw [hy214]; with_reducible exact H) | (have H2_ := (Option.bind_some _ _).symm.trans H; rw [hy214]; with_reducible exact H2_) | (have H2_ := (Option.bind_some _ _).symm.trans H; with_reducible exact H2_) | with_reducible exact H | (rw [hy214]; exact H) | exact H
 have Ny214 := Aside0.mk hy214
 clear hy214
 replace H := Option.bind_eq_some_iff.mp H
 obtain ⟨t217, A80, H⟩ := H
 replace H : (if t217 = true then (if 1 ≤ (y214.length : Int) then ((sizarref35_Same.f k t200 (y214.take 1)).bind fun t223 => (if t223 = true then ((index_Build.f ([] : List (S35))).bind fun t224 => (if (t224.length : Int) = 0 then ((index_Check.f k t196 2).bind fun t227 => (if t227 = 0 then ((index_Check.f k t196 1).bind fun t228 => (if t228 = 350 then ((index_Check.f k ([] : List (S49)) 0).bind fun t229 => (if t229 = 0 then ((sizarlaw35_sane_1.f 5).bind fun t230 => ((index_Affected.f t196 t230).bind fun t233 => (if (t233.length : Int) = 0 then ((sizarlaw35_sane_1.f 4).bind fun t236 => ((index_Affected.f t196 t236).bind fun t239 => ((sizarref35_SameInts.f k t239 (([0] : List Int))).bind fun t245 => (if t245 = true then ((sizarlaw35_sane_1.f 4).bind fun t246 => ((index_Affected.f ([] : List (S49)) t246).bind fun t249 => (some ((t249.length : Int) == 0)))) else (none))))) else (none)))) else (none))) else (none))) else (none))) else (none))) else (none))) else (none)) else (none)) = some r := H
 have A8 := Aside0.mk A80
 clear A80
 by_cases c9 : t217 = true
 ·subst c9
  have H1 : (if 1 ≤ (y214.length : Int) then ((sizarref35_Same.f k t200 (y214.take 1)).bind fun t223 => (if t223 = true then ((index_Build.f ([] : List (S35))).bind fun t224 => (if (t224.length : Int) = 0 then ((index_Check.f k t196 2).bind fun t227 => (if t227 = 0 then ((index_Check.f k t196 1).bind fun t228 => (if t228 = 350 then ((index_Check.f k ([] : List (S49)) 0).bind fun t229 => (if t229 = 0 then ((sizarlaw35_sane_1.f 5).bind fun t230 => ((index_Affected.f t196 t230).bind fun t233 => (if (t233.length : Int) = 0 then ((sizarlaw35_sane_1.f 4).bind fun t236 => ((index_Affected.f t196 t236).bind fun t239 => ((sizarref35_SameInts.f k t239 (([0] : List Int))).bind fun t245 => (if t245 = true then ((sizarlaw35_sane_1.f 4).bind fun t246 => ((index_Affected.f ([] : List (S49)) t246).bind fun t249 => (some ((t249.length : Int) == 0)))) else (none))))) else (none)))) else (none))) else (none))) else (none))) else (none))) else (none))) else (none)) = some r := by rw [if_pos rfl] at H; exact H
  clear H
  have H := H1
  clear H1
  by_cases c10 : 1 ≤ (y214.length : Int)
  ·rw [if_pos c10] at H
   have c10b0 := eq_true c10
   have c10b1 : decide (1 ≤ (y214.length : Int)) = true := decide_eq_true c10
   clear c10
   obtain ⟨y218, hy218⟩ : ∃ y_ : List (S49), y_ = (y214.take 1) := ⟨_, rfl⟩
   replace H : ((sizarref35_Same.f k t200 y218).bind fun t223 => (if t223 = true then ((index_Build.f ([] : List (S35))).bind fun t224 => (if (t224.length : Int) = 0 then ((index_Check.f k t196 2).bind fun t227 => (if t227 = 0 then ((index_Check.f k t196 1).bind fun t228 => (if t228 = 350 then ((index_Check.f k ([] : List (S49)) 0).bind fun t229 => (if t229 = 0 then ((sizarlaw35_sane_1.f 5).bind fun t230 => ((index_Affected.f t196 t230).bind fun t233 => (if (t233.length : Int) = 0 then ((sizarlaw35_sane_1.f 4).bind fun t236 => ((index_Affected.f t196 t236).bind fun t239 => ((sizarref35_SameInts.f k t239 (([0] : List Int))).bind fun t245 => (if t245 = true then ((sizarlaw35_sane_1.f 4).bind fun t246 => ((index_Affected.f ([] : List (S49)) t246).bind fun t249 => (some ((t249.length : Int) == 0)))) else (none))))) else (none)))) else (none))) else (none))) else (none))) else (none))) else (none))) = some r := by first | (rw [hy218]; with_reducible exact H) | (have H2_ := (Option.bind_some _ _).symm.trans H; rw [hy218]; with_reducible exact H2_) | (have H2_ := (Option.bind_some _ _).symm.trans H; with_reducible exact H2_) | with_reducible exact H | (rw [hy218]; exact H) | exact H
   have Ny218 := Aside0.mk hy218
   clear hy218
   replace H := Option.bind_eq_some_iff.mp H
   obtain ⟨t223, A110, H⟩ := H
   replace H : (if t223 = true then ((index_Build.f ([] : List (S35))).bind fun t224 => (if (t224.length : Int) = 0 then ((index_Check.f k t196 2).bind fun t227 => (if t227 = 0 then ((index_Check.f k t196 1).bind fun t228 => (if t228 = 350 then ((index_Check.f k ([] : List (S49)) 0).bind fun t229 => (if t229 = 0 then ((sizarlaw35_sane_1.f 5).bind fun t230 => ((index_Affected.f t196 t230).bind fun t233 => (if (t233.length : Int) = 0 then ((sizarlaw35_sane_1.f 4).bind fun t236 => ((index_Affected.f t196 t236).bind fun t239 => ((sizarref35_SameInts.f k t239 (([0] : List Int))).bind fun t245 => (if t245 = true then ((sizarlaw35_sane_1.f 4).bind fun t246 => ((index_Affected.f ([] : List (S49)) t246).bind fun t249 => (some ((t249.length : Int) == 0)))) else (none))))) else (none)))) else (none))) else (none))) else (none))) else (none))) else (none)) = some r := H
   have A11 := Aside0.mk A110
   clear A110
   by_cases c12 : t223 = true
   ·subst c12
    have H1 : ((index_Build.f ([] : List (S35))).bind fun t224 => (if (t224.length : Int) = 0 then ((index_Check.f k t196 2).bind fun t227 => (if t227 = 0 then ((index_Check.f k t196 1).bind fun t228 => (if t228 = 350 then ((index_Check.f k ([] : List (S49)) 0).bind fun t229 => (if t229 = 0 then ((sizarlaw35_sane_1.f 5).bind fun t230 => ((index_Affected.f t196 t230).bind fun t233 => (if (t233.length : Int) = 0 then ((sizarlaw35_sane_1.f 4).bind fun t236 => ((index_Affected.f t196 t236).bind fun t239 => ((sizarref35_SameInts.f k t239 (([0] : List Int))).bind fun t245 => (if t245 = true then ((sizarlaw35_sane_1.f 4).bind fun t246 => ((index_Affected.f ([] : List (S49)) t246).bind fun t249 => (some ((t249.length : Int) == 0)))) else (none))))) else (none)))) else (none))) else (none))) else (none))) else (none))) = some r := by rw [if_pos rfl] at H; exact H
    clear H
    have H := H1
    clear H1
    replace H := Option.bind_eq_some_iff.mp H
    obtain ⟨t224, A130, H⟩ := H
    replace H : (if (t224.length : Int) = 0 then ((index_Check.f k t196 2).bind fun t227 => (if t227 = 0 then ((index_Check.f k t196 1).bind fun t228 => (if t228 = 350 then ((index_Check.f k ([] : List (S49)) 0).bind fun t229 => (if t229 = 0 then ((sizarlaw35_sane_1.f 5).bind fun t230 => ((index_Affected.f t196 t230).bind fun t233 => (if (t233.length : Int) = 0 then ((sizarlaw35_sane_1.f 4).bind fun t236 => ((index_Affected.f t196 t236).bind fun t239 => ((sizarref35_SameInts.f k t239 (([0] : List Int))).bind fun t245 => (if t245 = true then ((sizarlaw35_sane_1.f 4).bind fun t246 => ((index_Affected.f ([] : List (S49)) t246).bind fun t249 => (some ((t249.length : Int) == 0)))) else (none))))) else (none)))) else (none))) else (none))) else (none))) else (none)) = some r := H
    have A13 := Aside0.mk A130
    clear A130
    by_cases c14 : (t224.length : Int) = 0
    ·rw [if_pos c14] at H
     have c14b0 : ((t224.length : Int) == 0) = true := beq_iff_eq.mpr c14
     have c14b1 : ((t224.length : Int) != 0) = false := bne_eq_false_iff_eq.mpr c14
     clear c14
     replace H := Option.bind_eq_some_iff.mp H
     obtain ⟨t227, A150, H⟩ := H
     replace H : (if t227 = 0 then ((index_Check.f k t196 1).bind fun t228 => (if t228 = 350 then ((index_Check.f k ([] : List (S49)) 0).bind fun t229 => (if t229 = 0 then ((sizarlaw35_sane_1.f 5).bind fun t230 => ((index_Affected.f t196 t230).bind fun t233 => (if (t233.length : Int) = 0 then ((sizarlaw35_sane_1.f 4).bind fun t236 => ((index_Affected.f t196 t236).bind fun t239 => ((sizarref35_SameInts.f k t239 (([0] : List Int))).bind fun t245 => (if t245 = true then ((sizarlaw35_sane_1.f 4).bind fun t246 => ((index_Affected.f ([] : List (S49)) t246).bind fun t249 => (some ((t249.length : Int) == 0)))) else (none))))) else (none)))) else (none))) else (none))) else (none)) = some r := H
     have A15 := Aside0.mk A150
     clear A150
     by_cases c16 : t227 = 0
     ·rw [if_pos c16] at H
      have c16b0 : (t227 == 0) = true := beq_iff_eq.mpr c16
      have c16b1 : (t227 != 0) = false := bne_eq_false_iff_eq.mpr c16
      clear c16
      replace H := Option.bind_eq_some_iff.mp H
      obtain ⟨t228, A170, H⟩ := H
      replace H : (if t228 = 350 then ((index_Check.f k ([] : List (S49)) 0).bind fun t229 => (if t229 = 0 then ((sizarlaw35_sane_1.f 5).bind fun t230 => ((index_Affected.f t196 t230).bind fun t233 => (if (t233.length : Int) = 0 then ((sizarlaw35_sane_1.f 4).bind fun t236 => ((index_Affected.f t196 t236).bind fun t239 => ((sizarref35_SameInts.f k t239 (([0] : List Int))).bind fun t245 => (if t245 = true then ((sizarlaw35_sane_1.f 4).bind fun t246 => ((index_Affected.f ([] : List (S49)) t246).bind fun t249 => (some ((t249.length : Int) == 0)))) else (none))))) else (none)))) else (none))) else (none)) = some r := H
      have A17 := Aside0.mk A170
      clear A170
      by_cases c18 : t228 = 350
      ·rw [if_pos c18] at H
       have c18b0 : (t228 == 350) = true := beq_iff_eq.mpr c18
       have c18b1 : (t228 != 350) = false := bne_eq_false_iff_eq.mpr c18
       clear c18
       replace H := Option.bind_eq_some_iff.mp H
       obtain ⟨t229, A190, H⟩ := H
       replace H : (if t229 = 0 then ((sizarlaw35_sane_1.f 5).bind fun t230 => ((index_Affected.f t196 t230).bind fun t233 => (if (t233.length : Int) = 0 then ((sizarlaw35_sane_1.f 4).bind fun t236 => ((index_Affected.f t196 t236).bind fun t239 => ((sizarref35_SameInts.f k t239 (([0] : List Int))).bind fun t245 => (if t245 = true then ((sizarlaw35_sane_1.f 4).bind fun t246 => ((index_Affected.f ([] : List (S49)) t246).bind fun t249 => (some ((t249.length : Int) == 0)))) else (none))))) else (none)))) else (none)) = some r := H
       have A19 := Aside0.mk A190
       clear A190
       by_cases c20 : t229 = 0
       ·rw [if_pos c20] at H
        have c20b0 : (t229 == 0) = true := beq_iff_eq.mpr c20
        have c20b1 : (t229 != 0) = false := bne_eq_false_iff_eq.mpr c20
        clear c20
        replace H := Option.bind_eq_some_iff.mp H
        obtain ⟨t230, A210, H⟩ := H
        replace H : ((index_Affected.f t196 t230).bind fun t233 => (if (t233.length : Int) = 0 then ((sizarlaw35_sane_1.f 4).bind fun t236 => ((index_Affected.f t196 t236).bind fun t239 => ((sizarref35_SameInts.f k t239 (([0] : List Int))).bind fun t245 => (if t245 = true then ((sizarlaw35_sane_1.f 4).bind fun t246 => ((index_Affected.f ([] : List (S49)) t246).bind fun t249 => (some ((t249.length : Int) == 0)))) else (none))))) else (none))) = some r := H
        have A21 := Aside0.mk A210
        clear A210
        replace H := Option.bind_eq_some_iff.mp H
        obtain ⟨t233, A220, H⟩ := H
        replace H : (if (t233.length : Int) = 0 then ((sizarlaw35_sane_1.f 4).bind fun t236 => ((index_Affected.f t196 t236).bind fun t239 => ((sizarref35_SameInts.f k t239 (([0] : List Int))).bind fun t245 => (if t245 = true then ((sizarlaw35_sane_1.f 4).bind fun t246 => ((index_Affected.f ([] : List (S49)) t246).bind fun t249 => (some ((t249.length : Int) == 0)))) else (none))))) else (none)) = some r := H
        have A22 := Aside0.mk A220
        clear A220
        by_cases c23 : (t233.length : Int) = 0
        ·rw [if_pos c23] at H
         have c23b0 : ((t233.length : Int) == 0) = true := beq_iff_eq.mpr c23
         have c23b1 : ((t233.length : Int) != 0) = false := bne_eq_false_iff_eq.mpr c23
         clear c23
         replace H := Option.bind_eq_some_iff.mp H
         obtain ⟨t236, A240, H⟩ := H
         replace H : ((index_Affected.f t196 t236).bind fun t239 => ((sizarref35_SameInts.f k t239 (([0] : List Int))).bind fun t245 => (if t245 = true then ((sizarlaw35_sane_1.f 4).bind fun t246 => ((index_Affected.f ([] : List (S49)) t246).bind fun t249 => (some ((t249.length : Int) == 0)))) else (none)))) = some r := H
         have A24 := Aside0.mk A240
         clear A240
         replace H := Option.bind_eq_some_iff.mp H
         obtain ⟨t239, A250, H⟩ := H
         replace H : ((sizarref35_SameInts.f k t239 (([0] : List Int))).bind fun t245 => (if t245 = true then ((sizarlaw35_sane_1.f 4).bind fun t246 => ((index_Affected.f ([] : List (S49)) t246).bind fun t249 => (some ((t249.length : Int) == 0)))) else (none))) = some r := H
         have A25 := Aside0.mk A250
         clear A250
         obtain ⟨y242, hy242⟩ : ∃ y_ : List Int, y_ = (([0] : List Int)) := ⟨_, rfl⟩
         replace H : ((sizarref35_SameInts.f k t239 y242).bind fun t245 => (if t245 = true then ((sizarlaw35_sane_1.f 4).bind fun t246 => ((index_Affected.f ([] : List (S49)) t246).bind fun t249 => (some ((t249.length : Int) == 0)))) else (none))) = some r := by first | (rw [hy242]; with_reducible exact H) | (have H2_ := (Option.bind_some _ _).symm.trans H; rw [hy242]; with_reducible exact H2_) | (have H2_ := (Option.bind_some _ _).symm.trans H; with_reducible exact H2_) | with_reducible exact H | (rw [hy242]; exact H) | exact H
         have Ny242 := Aside0.mk hy242
         clear hy242
         replace H := Option.bind_eq_some_iff.mp H
         obtain ⟨t245, A260, H⟩ := H
         replace H : (if t245 = true then ((sizarlaw35_sane_1.f 4).bind fun t246 => ((index_Affected.f ([] : List (S49)) t246).bind fun t249 => (some ((t249.length : Int) == 0)))) else (none)) = some r := H
         have A26 := Aside0.mk A260
         clear A260
         by_cases c27 : t245 = true
         ·subst c27
          have H1 : ((sizarlaw35_sane_1.f 4).bind fun t246 => ((index_Affected.f ([] : List (S49)) t246).bind fun t249 => (some ((t249.length : Int) == 0)))) = some r := by rw [if_pos rfl] at H; exact H
          clear H
          have H := H1
          clear H1
          replace H := Option.bind_eq_some_iff.mp H
          obtain ⟨t246, A280, H⟩ := H
          replace H : ((index_Affected.f ([] : List (S49)) t246).bind fun t249 => (some ((t249.length : Int) == 0))) = some r := H
          have A28 := Aside0.mk A280
          clear A280
          replace H := Option.bind_eq_some_iff.mp H
          obtain ⟨t249, A290, H⟩ := H
          replace H : (some ((t249.length : Int) == 0)) = some r := H
          have A29 := Aside0.mk A290
          clear A290
          obtain rfl := Option.some.inj H
          go_enter Try.func10, Try.ntmps10
          try go_wp2_with (first | ((with_reducible refine gate_callee (f := 26) rfl ?_); refine goesL_ (some 6) rfl rfl Try.func26 (by kernel_rfl) rfl #[.int .i64 7, .int .i64 0, .int .i64 5] rfl (by (try simp only [List.map_toArray, List.map_cons, List.map_nil]); first | done | rfl | (simp only [List.length_drop, List.length_take]; rfl)) ?_; (with_reducible refine (sizarlaw35_read.calls 7 0 5 t172 t173 t174 t175 t176 _ A1.out).mono ?_); rintro e w30 ⟨rfl, hb⟩; refine ⟨_, rfl, ?_⟩; have n0_ := Aside0.mk (below_step (by repeat (first | (with_reducible first | exact HB.out | apply below_alloc | apply pw_below_drewN | apply below_drew1) | exact HB.out)) hb); clear HB; have HB := n0_; clear n0_; (try clear hb); (try clear hb2); (try clear hk); (try clear hi)) | ((with_reducible refine gate_callee (f := 26) rfl ?_); refine goesL_ (some 7) rfl rfl Try.func26 (by kernel_rfl) rfl #[.int .i64 7, .int .i64 0, .int .i64 5] rfl (by (try simp only [List.map_toArray, List.map_cons, List.map_nil]); first | done | rfl | (simp only [List.length_drop, List.length_take]; rfl)) ?_; (with_reducible refine (sizarlaw35_read.calls 7 0 5 t177 t178 t179 t180 t181 _ A2.out).mono ?_); rintro e w31 ⟨rfl, hb⟩; refine ⟨_, rfl, ?_⟩; have n0_ := Aside0.mk (below_step (by repeat (first | (with_reducible first | exact HB.out | apply below_alloc | apply pw_below_drewN | apply below_drew1) | exact HB.out)) hb); clear HB; have HB := n0_; clear n0_; (try clear hb); (try clear hb2); (try clear hk); (try clear hi)) | ((with_reducible refine gate_dst (N := 8) rfl ?_); (try (refine gate_guard (by rfl) ?_; dsimp only)); refine Kd.R_lit k47 _ 47 ?hg (N := 8) ?hd (xs := ([(⟨(⟨t172, t173, t174⟩ : S45), t175, t176⟩ : S47), (⟨(⟨t177, t178, t179⟩ : S45), t180, t181⟩ : S47)] : List (S47))) (inner := [.int .i64 t172, .int .i64 t173, .int .i64 t174, .int .i64 t175, .int .i64 t176, .int .i64 t177, .int .i64 t178, .int .i64 t179, .int .i64 t180, .int .i64 t181]) (ok := fun _ => True) (okp := fun _ => True) ?hr ?hp (fun _ hk => hk) trivial (Below.refl _ _) (Nat.le_refl _) (by simp) ?_; (case hd => rfl); (case hg => rfl); (case hr => first | (go_simp; done) | (go_simp; rfl)); (case hp => exact (Reps.c5 (show Kd.M k47 _ _ _ (⟨(⟨t172, t173, t174⟩ : S45), t175, t176⟩ : S47) [.int .i64 t172, .int .i64 t173, .int .i64 t174, .int .i64 t175, .int .i64 t176] from (k47_mkM _ _ _ (⟨(⟨t172, t173, t174⟩ : S45), t175, t176⟩ : S47) )) (Reps.c5 (show Kd.M k47 _ _ _ (⟨(⟨t177, t178, t179⟩ : S45), t180, t181⟩ : S47) [.int .i64 t177, .int .i64 t178, .int .i64 t179, .int .i64 t180, .int .i64 t181] from (k47_mkM _ _ _ (⟨(⟨t177, t178, t179⟩ : S45), t180, t181⟩ : S47) )) (Reps.none _ _)))); intro v183 w32 ho33 hb hg_ hnew_; clear hg_ hnew_; (first | rw [← Ny182.out] at ho33 | (simp only [Int.reduceToNat] at ho33; rw [← Ny182.out] at ho33)); have n0_ := Aside0.mk (Kd.R_lower ho33 (below_size (by repeat (first | (with_reducible first | exact HB.out | apply below_alloc | apply pw_below_drewN | apply below_drew1) | exact HB.out)))); have n1_ := Aside0.mk (below_step (by repeat (first | (with_reducible first | exact HB.out | apply below_alloc | apply pw_below_drewN | apply below_drew1) | exact HB.out)) hb); clear HB; have HO184 := n0_; have HB := n1_; clear n0_ n1_; clear hb ho33; obtain ⟨Ao34, co34, eo34⟩ := Kd.R_slice HO184.out; subst eo34) | ((with_reducible refine gate_callee (f := 26) rfl ?_); refine goesL_ (some 10) rfl rfl Try.func26 (by kernel_rfl) rfl #[.int .i64 6, .int .i64 0, .int .i64 9] rfl (by (try simp only [List.map_toArray, List.map_cons, List.map_nil]); first | done | rfl | (simp only [List.length_drop, List.length_take]; rfl)) ?_; (with_reducible refine (sizarlaw35_read.calls 6 0 9 t185 t186 t187 t188 t189 _ A3.out).mono ?_); rintro e w35 ⟨rfl, hb⟩; refine ⟨_, rfl, ?_⟩; have n0_ := Aside0.mk (Kd.R_below (by (with_reducible repeat (first | apply Kd.R_alloc | apply Kd.R_drewN | apply Kd.R_drew)); exact HO184.out) hb); have n1_ := Aside0.mk (below_step (by repeat (first | (with_reducible first | exact HB.out | apply below_alloc | apply pw_below_drewN | apply below_drew1) | exact HB.out)) hb); clear HO184; clear HB; have HO184 := n0_; have HB := n1_; clear n0_ n1_; (try clear hb); (try clear hb2); (try clear hk); (try clear hi)) | ((with_reducible refine gate_dst (N := 11) rfl ?_); (try (refine gate_guard (by rfl) ?_; dsimp only)); refine Kd.R_lit k47 _ 47 ?hg (N := 11) ?hd (xs := ([(⟨(⟨t185, t186, t187⟩ : S45), t188, t189⟩ : S47)] : List (S47))) (inner := [.int .i64 t185, .int .i64 t186, .int .i64 t187, .int .i64 t188, .int .i64 t189]) (ok := fun _ => True) (okp := fun _ => True) ?hr ?hp (fun _ hk => hk) trivial (Below.refl _ _) (Nat.le_refl _) (by simp) ?_; (case hd => rfl); (case hg => rfl); (case hr => first | (go_simp; done) | (go_simp; rfl)); (case hp => exact (Reps.c5 (show Kd.M k47 _ _ _ (⟨(⟨t185, t186, t187⟩ : S45), t188, t189⟩ : S47) [.int .i64 t185, .int .i64 t186, .int .i64 t187, .int .i64 t188, .int .i64 t189] from (k47_mkM _ _ _ (⟨(⟨t185, t186, t187⟩ : S45), t188, t189⟩ : S47) )) (Reps.none _ _))); intro v191 w36 ho37 hb hg_ hnew_; clear hg_ hnew_; (first | rw [← Ny190.out] at ho37 | (simp only [Int.reduceToNat] at ho37; rw [← Ny190.out] at ho37)); have n0_ := Aside0.mk (Kd.R_elder' (by (with_reducible repeat (first | apply Kd.R_alloc | apply Kd.R_drewN | apply Kd.R_drew)); exact HO184.out) (Kd.R_base ho37) hb); have n1_ := Aside0.mk (Kd.R_lower (Kd.R_new' ho37 (Kd.R_lt (by (with_reducible repeat (first | apply Kd.R_alloc | apply Kd.R_drewN | apply Kd.R_drew)); exact HO184.out))) (below_size (by repeat (first | (with_reducible first | exact HB.out | apply below_alloc | apply pw_below_drewN | apply below_drew1) | exact HB.out)))); have n2_ := Aside0.mk (below_step (by repeat (first | (with_reducible first | exact HB.out | apply below_alloc | apply pw_below_drewN | apply below_drew1) | exact HB.out)) hb); clear HO184; clear HB; have HO184 := n0_; have HO192 := n1_; have HB := n2_; clear n0_ n1_ n2_; clear hb ho37; obtain ⟨Ao38, co38, eo38⟩ := Kd.R_slice HO192.out; subst eo38) | ((with_reducible refine gate_dst (N := 13) rfl ?_); (try (refine gate_guard (by rfl) ?_; dsimp only)); refine Kd.N_lit k35 _ 35 ?hg (N' := 13) ?hd (xs := ([(⟨(⟨0, 0, 0, 0⟩ : S31), 0, 0, 0, ([] : List Int), y182, ([] : List Int)⟩ : S35), (⟨(⟨0, 0, 0, 0⟩ : S31), 0, 0, 0, ([] : List Int), y190, ([] : List Int)⟩ : S35)] : List (S35))) (inner := [.int .i64 0, .int .i64 0, .int .i64 0, .int .i64 0, .int .i64 0, .int .i64 0, .int .i64 0, .slice none 0 0, .slice Ao34 y182.length co34, .slice none 0 0, .int .i64 0, .int .i64 0, .int .i64 0, .int .i64 0, .int .i64 0, .int .i64 0, .int .i64 0, .slice none 0 0, .slice Ao38 y190.length co38, .slice none 0 0]) (ok := (fun _ => True)) (okp := (fun _ => True)) ?hr ?hp (fun _ hk => hk) ((show ∀ k_, w36.heap.size ≤ k_ → (fun _ => True) k_ from fun k_ hk => trivial) _ (Nat.le_refl _)) (Below.refl _ _) (Nat.le_refl _) (by simp) ?_; (case hd => rfl); (case hg => rfl); (case hr => first | (go_simp; done) | (go_simp; rfl)); (case hp => exact (Reps.c10 (show Kd.FK k35 _ _ (⟨(⟨0, 0, 0, 0⟩ : S31), 0, 0, 0, ([] : List Int), y182, ([] : List Int)⟩ : S35) [.int .i64 0, .int .i64 0, .int .i64 0, .int .i64 0, .int .i64 0, .int .i64 0, .int .i64 0, .slice none 0 0, .slice Ao34 y182.length co34, .slice none 0 0] from (k35_mkF _ _ (⟨(⟨0, 0, 0, 0⟩ : S31), 0, 0, 0, ([] : List Int), y182, ([] : List Int)⟩ : S35) (Nat.le_refl _) (Kd.F_nil _ _ _) (Kd.R_reads' (Kd.R_mono (ok' := (fun _ => True)) (HO184.out) (fun k_ hk => trivial))).2.1 (Kd.R_F (Kd.R_mono (ok' := (fun _ => True)) (HO184.out) (fun k_ hk => trivial))) (Nat.le_refl _) (Kd.F_nil _ _ _))) (Reps.c10 (show Kd.FK k35 _ _ (⟨(⟨0, 0, 0, 0⟩ : S31), 0, 0, 0, ([] : List Int), y190, ([] : List Int)⟩ : S35) [.int .i64 0, .int .i64 0, .int .i64 0, .int .i64 0, .int .i64 0, .int .i64 0, .int .i64 0, .slice none 0 0, .slice Ao38 y190.length co38, .slice none 0 0] from (k35_mkF _ _ (⟨(⟨0, 0, 0, 0⟩ : S31), 0, 0, 0, ([] : List Int), y190, ([] : List Int)⟩ : S35) (Nat.le_refl _) (Kd.F_nil _ _ _) (Kd.R_reads' (Kd.R_mono (ok' := (fun _ => True)) (HO192.out) (fun k_ hk => trivial))).2.1 (Kd.R_F (Kd.R_mono (ok' := (fun _ => True)) (HO192.out) (fun k_ hk => trivial))) (Nat.le_refl _) (Kd.F_nil _ _ _))) (Reps.none _ _)))); intro v194 w39 ho40 hb hg_ hnew_; clear hg_ hnew_; (first | rw [← Ny193.out] at ho40 | (simp only [Int.reduceToNat] at ho40; rw [← Ny193.out] at ho40)); have n0_ := Aside0.mk (Kd.N_lower ho40 (below_size (by repeat (first | (with_reducible first | exact HB.out | apply below_alloc | apply pw_below_drewN | apply below_drew1) | exact HB.out)))); have n1_ := Aside0.mk (below_step (by repeat (first | (with_reducible first | exact HB.out | apply below_alloc | apply pw_below_drewN | apply below_drew1) | exact HB.out)) hb); clear HB; clear HO184; clear HO192; have HO195 := n0_; have HB := n1_; clear n0_ n1_; clear hb ho40; obtain ⟨Ao41, co41, eo41⟩ := Kd.N_slice HO195.out; subst eo41) | ((with_reducible refine gate_callee (f := 13) rfl ?_); refine goesL_ (some 15) rfl rfl Try.func13 (by kernel_rfl) rfl #[.slice Ao41 y193.length co41] rfl (by (try simp only [List.map_toArray, List.map_cons, List.map_nil]); first | done | rfl | (simp only [List.length_drop, List.length_take]; rfl)) ?_; (with_reducible refine (index_Build.calls _ _ y193 t196 _ ?side1 ?side2 A4.out).mono ?_); (case side1 => repeat (first | exact (Kd.N_reads' HO195.out).2.2 | (with_reducible refine Kd.C_alloc ?_ _) | (with_reducible refine Kd.C_drewN ?_ _) | (with_reducible refine Kd.C_drew ?_))); (case side2 => exact (Kd.N_reads' HO195.out).2.1); rintro e w42 ⟨v197, rfl, ho0, hb⟩; refine ⟨_, rfl, ?_⟩; have n0_ := Aside0.mk (Kd.N_elder' (by (with_reducible repeat (first | apply Kd.N_alloc | apply Kd.N_drewN | apply Kd.N_drew)); exact HO195.out) (Kd.R_base ho0) hb); have n1_ := Aside0.mk (Kd.R_lower ho0 (below_size (by repeat (first | (with_reducible first | exact HB.out | apply below_alloc | apply pw_below_drewN | apply below_drew1) | exact HB.out)))); have n2_ := Aside0.mk (below_step (by repeat (first | (with_reducible first | exact HB.out | apply below_alloc | apply pw_below_drewN | apply below_drew1) | exact HB.out)) hb); clear HO195; clear HB; have HO195 := n0_; have HO198 := n1_; have HB := n2_; clear n0_ n1_ n2_; (try clear hb); (try clear hb2); (try clear hk); (try clear hi); (try clear ho0)) | ((with_reducible refine gate_dst (N := 2) rfl ?_); (try (refine gate_guard (by rfl) ?_; dsimp only)); refine box_event ?hg (N := 2) ?hd (cs := #[.slice none 0 0]) (t := 28) ?hr ?_; (case hd => rfl); (case hg => rfl); (case hr => first | (go_simp; done) | (go_simp; rfl)); intro gb199 hg w43 hbox hb; have n0_ := Aside0.mk (Kd.N_below (Kd.N_elderB (by (with_reducible repeat (first | apply Kd.N_alloc | apply Kd.N_drewN | apply Kd.N_drew)); exact HO195.out) gb199 (Nat.le_of_eq hg.symm)) hb); have n1_ := Aside0.mk (Kd.R_below (by (with_reducible repeat (first | apply Kd.R_alloc | apply Kd.R_drewN | apply Kd.R_drew)); exact HO198.out) hb); have n2_ := Aside0.mk (below_step (by repeat (first | (with_reducible first | exact HB.out | apply below_alloc | apply pw_below_drewN | apply below_drew1) | exact HB.out)) hb); have n3_ := Aside0.mk (hbox); have n4_ := Aside0.mk ((by rw [hg]; exact (below_size (by repeat (first | (with_reducible first | exact HB.out | apply below_alloc | apply pw_below_drewN | apply below_drew1) | exact HB.out))) : w.heap.size ≤ gb199)); have n5_ := Aside0.mk ((by rw [hg]; exact (below_size (by repeat (first | (with_reducible first | exact HB.out | apply below_alloc | apply pw_below_drewN | apply below_drew1) | exact HB.out))) : w.heap.size ≤ gb199)); clear HO195; clear HO198; clear HB; have HO195 := n0_; have HO198 := n1_; have HB := n2_; have BK199 := n3_; have GW199 := n4_; have GE199 := n5_; clear n0_ n1_ n2_ n3_ n4_ n5_; clear hb hbox hg; obtain ⟨Ao44, co44, eo44⟩ := Kd.R_slice HO198.out; subst eo44; have hcz45_0 : w43.cell? ⟨gb199, 0, none⟩ = some (.slice none 0 0) := (blk_cell BK199.out 0).trans rfl; have hfz45_0 := blk_frozen BK199.out 0) | ((with_reducible refine gate_callee (f := 18) rfl ?_); refine goesL_ (some 18) rfl rfl Try.func18 (by kernel_rfl) rfl #[.agg #[.slice Ao44 t196.length co44], .int .i64 0, .agg #[.int .i64 0, .int .i64 0, .int .i64 0, .int .i64 0, .int .i64 0, .int .i64 0, .int .i64 0, .slice none 0 0, .slice none 0 0, .slice none 0 0]] rfl (by (try simp only [List.map_toArray, List.map_cons, List.map_nil]); first | done | rfl | (simp only [List.length_drop, List.length_take]; rfl)) ?_; (refine (index_Replace.calls _ _ t196 0 0 0 0 0 0 0 0 _ _ ([] : List Int) _ _ ([] : List (S47)) _ _ ([] : List Int) t200 _ ?side1 ?side2 ?side3 ?side4 ?side5 ?side6 ?side7 ?side8 A5.out).mono ?_); (case side1 => refine (Kd.R_reads' (e := 49) (base := w.heap.size) (ok := fun k_ => True) (n := t196.length) (c := co44) ?_).2.2; exact (by (with_reducible repeat (first | apply Kd.R_alloc | apply Kd.R_drewN | apply Kd.R_drew)); exact (Kd.R_mono (Kd.R_far (p := ⟨gb199, 0, none⟩) (Kd.R_types HO198.out BK199.out (by decide)) (fun _ hk => hk.2) (.slice Ao44 t196.length co44)) (fun _ h_ => h_.1)))); (case side2 => exact (Kd.R_reads' HO198.out).2.1); (case side3 => exact Kd.C_nil _ _); (case side4 => exact Nat.le_refl _); (case side5 => exact Kd.C_nil _ _); (case side6 => exact Nat.le_refl _); (case side7 => exact Kd.C_nil _ _); (case side8 => exact Nat.le_refl _); rintro e w46 ⟨v201, rfl, ho0, hb⟩; refine ⟨_, rfl, ?_⟩; have n0_ := Aside0.mk (Kd.N_elder' (by (with_reducible repeat (first | apply Kd.N_alloc | apply Kd.N_drewN | apply Kd.N_drew)); exact (Kd.N_mono (Kd.N_far (p := ⟨gb199, 0, none⟩) (Kd.N_mono HO195.out (fun k_ hk => (⟨hk, hk.2⟩ : _ ∧ k_ ≠ gb199))) (fun _ hk => hk.2) (.slice Ao44 t196.length co44)) (fun _ h_ => h_.1))) (Kd.R_base ho0) hb); have n1_ := Aside0.mk (Kd.R_elder' (by (with_reducible repeat (first | apply Kd.R_alloc | apply Kd.R_drewN | apply Kd.R_drew)); exact (Kd.R_mono (Kd.R_far (p := ⟨gb199, 0, none⟩) (Kd.R_types HO198.out BK199.out (by decide)) (fun _ hk => hk.2) (.slice Ao44 t196.length co44)) (fun _ h_ => h_.1))) (Kd.R_base ho0) hb); have n2_ := Aside0.mk (Kd.R_lower (Kd.R_new' ho0 (Kd.R_lt (by (with_reducible repeat (first | apply Kd.R_alloc | apply Kd.R_drewN | apply Kd.R_drew)); exact (Kd.R_mono (Kd.R_far (p := ⟨gb199, 0, none⟩) (Kd.R_types HO198.out BK199.out (by decide)) (fun _ hk => hk.2) (.slice Ao44 t196.length co44)) (fun _ h_ => h_.1))))) (below_size (by repeat (first | (with_reducible first | exact HB.out | apply below_alloc | apply pw_below_drewN | apply below_drew1 | refine below_set ?_ GE199.out) | exact HB.out)))); have n3_ := Aside0.mk (blk_below (g := gb199) (o := .cells #[.slice Ao44 t196.length co44] 28 (0, 0)) (by (with_reducible repeat (first | refine blk_drewN ?_ _ | refine blk_drew ?_ | refine blk_alloc ?_ _)); refine blk_put (cs := #[.slice none 0 0]) ?_ 0 _ rfl; (with_reducible repeat (first | refine blk_drewN ?_ _ | refine blk_drew ?_ | refine blk_alloc ?_ _)); exact BK199.out) hb); have n4_ := Aside0.mk (below_step (by repeat (first | (with_reducible first | exact HB.out | apply below_alloc | apply pw_below_drewN | apply below_drew1 | refine below_set ?_ GE199.out) | exact HB.out)) hb); clear HO195; clear HO198; clear BK199; clear HB; have HO195 := n0_; have HO198 := n1_; have HO202 := n2_; have BK199 := n3_; have HB := n4_; clear n0_ n1_ n2_ n3_ n4_; (try clear hb); (try clear hb2); (try clear hk); (try clear hi); (try clear ho0)) | ((with_reducible refine gate_dst (N := 3) rfl ?_); (try (refine gate_guard (by rfl) ?_; dsimp only)); refine box_event ?hg (N := 3) ?hd (cs := #[.slice none 0 0]) (t := 28) ?hr ?_; (case hd => rfl); (case hg => rfl); (case hr => first | (go_simp; done) | (go_simp; rfl)); intro gb203 hg w47 hbox hb; have n0_ := Aside0.mk (Kd.N_below (Kd.N_elderB (by (with_reducible repeat (first | apply Kd.N_alloc | apply Kd.N_drewN | apply Kd.N_drew)); exact HO195.out) gb203 (Nat.le_of_eq hg.symm)) hb); have n1_ := Aside0.mk (Kd.R_below (by (with_reducible repeat (first | apply Kd.R_alloc | apply Kd.R_drewN | apply Kd.R_drew)); exact HO198.out) hb); have n2_ := Aside0.mk (Kd.R_below (by (with_reducible repeat (first | apply Kd.R_alloc | apply Kd.R_drewN | apply Kd.R_drew)); exact HO202.out) hb); have n3_ := Aside0.mk (blk_below (g := gb199) (o := .cells #[.slice Ao44 t196.length co44] 28 (0, 0)) (by (with_reducible repeat (first | refine blk_drewN ?_ _ | refine blk_drew ?_ | refine blk_alloc ?_ _)); exact BK199.out) hb); have n4_ := Aside0.mk (below_step (by repeat (first | (with_reducible first | exact HB.out | apply below_alloc | apply pw_below_drewN | apply below_drew1 | refine below_set ?_ GE199.out) | exact HB.out)) hb); have n5_ := Aside0.mk (hbox); have n6_ := Aside0.mk ((by rw [hg]; exact (below_size (by repeat (first | (with_reducible first | exact HB.out | apply below_alloc | apply pw_below_drewN | apply below_drew1 | refine below_set ?_ GE199.out) | exact HB.out))) : w.heap.size ≤ gb203)); have n7_ := Aside0.mk ((by rw [hg]; exact (below_size (by repeat (first | (with_reducible first | exact HB.out | apply below_alloc | apply pw_below_drewN | apply below_drew1 | refine below_set ?_ GE199.out) | exact HB.out))) : w.heap.size ≤ gb203)); have n8_ := Aside0.mk ((by rw [hg]; exact Nat.ne_of_lt (blk_lt (g := gb199) (o := .cells #[.slice Ao44 t196.length co44] 28 (0, 0)) (by (with_reducible repeat (first | refine blk_drewN ?_ _ | refine blk_drew ?_ | refine blk_alloc ?_ _)); exact BK199.out)) : gb199 ≠ gb203)); have n9_ := Aside0.mk ((by rw [hg]; exact Nat.ne_of_gt (blk_lt (g := gb199) (o := .cells #[.slice Ao44 t196.length co44] 28 (0, 0)) (by (with_reducible repeat (first | refine blk_drewN ?_ _ | refine blk_drew ?_ | refine blk_alloc ?_ _)); exact BK199.out)) : gb203 ≠ gb199)); clear HO195; clear HO198; clear HO202; clear BK199; clear HB; have HO195 := n0_; have HO198 := n1_; have HO202 := n2_; have BK199 := n3_; have HB := n4_; have BK203 := n5_; have GW203 := n6_; have GE203 := n7_; have NB199_203 := n8_; have NB203_199 := n9_; clear n0_ n1_ n2_ n3_ n4_ n5_ n6_ n7_ n8_ n9_; clear hb hbox hg; obtain ⟨Ao48, co48, eo48⟩ := Kd.R_slice HO202.out; subst eo48; have hnb49 := NB203_199.out; have hnc49 := NB199_203.out; have hcz50_0 : w47.cell? ⟨gb203, 0, none⟩ = some (.slice none 0 0) := (blk_cell BK203.out 0).trans rfl; have hfz50_0 := blk_frozen BK203.out 0) | ((with_reducible refine gate_callee (f := 26) rfl ?_); refine goesL_ (some 19) rfl rfl Try.func26 (by kernel_rfl) rfl #[.int .i64 6, .int .i64 0, .int .i64 9] rfl (by (try simp only [List.map_toArray, List.map_cons, List.map_nil]); first | done | rfl | (simp only [List.length_drop, List.length_take]; rfl)) ?_; (with_reducible refine (sizarlaw35_read.calls 6 0 9 t204 t205 t206 t207 t208 _ A6.out).mono ?_); rintro e w51 ⟨rfl, hb⟩; refine ⟨_, rfl, ?_⟩; have n0_ := Aside0.mk (Kd.N_below (by (with_reducible repeat (first | apply Kd.N_alloc | apply Kd.N_drewN | apply Kd.N_drew)); exact (Kd.N_mono (Kd.N_far (p := ⟨gb203, 0, none⟩) (Kd.N_mono HO195.out (fun k_ hk => (⟨hk, hk.2⟩ : _ ∧ k_ ≠ gb203))) (fun _ hk => hk.2) (.slice Ao48 t200.length co48)) (fun _ h_ => h_.1))) hb); have n1_ := Aside0.mk (Kd.R_below (by (with_reducible repeat (first | apply Kd.R_alloc | apply Kd.R_drewN | apply Kd.R_drew)); exact (Kd.R_mono (Kd.R_far (p := ⟨gb203, 0, none⟩) (Kd.R_types HO198.out BK203.out (by decide)) (fun _ hk => hk.2) (.slice Ao48 t200.length co48)) (fun _ h_ => h_.1))) hb); have n2_ := Aside0.mk (Kd.R_below (by (with_reducible repeat (first | apply Kd.R_alloc | apply Kd.R_drewN | apply Kd.R_drew)); exact (Kd.R_mono (Kd.R_far (p := ⟨gb203, 0, none⟩) (Kd.R_types HO202.out BK203.out (by decide)) (fun _ hk => hk.2) (.slice Ao48 t200.length co48)) (fun _ h_ => h_.1))) hb); have n3_ := Aside0.mk (blk_below (g := gb199) (o := .cells #[.slice Ao44 t196.length co44] 28 (0, 0)) (by (with_reducible repeat (first | refine blk_drewN ?_ _ | refine blk_drew ?_ | refine blk_alloc ?_ _)); refine blk_far ?_ NB199_203.out _; (with_reducible repeat (first | refine blk_drewN ?_ _ | refine blk_drew ?_ | refine blk_alloc ?_ _)); exact BK199.out) hb); have n4_ := Aside0.mk (blk_below (g := gb203) (o := .cells #[.slice Ao48 t200.length co48] 28 (0, 0)) (by (with_reducible repeat (first | refine blk_drewN ?_ _ | refine blk_drew ?_ | refine blk_alloc ?_ _)); refine blk_put (cs := #[.slice none 0 0]) ?_ 0 _ rfl; (with_reducible repeat (first | refine blk_drewN ?_ _ | refine blk_drew ?_ | refine blk_alloc ?_ _)); exact BK203.out) hb); have n5_ := Aside0.mk (below_step (by repeat (first | (with_reducible first | exact HB.out | apply below_alloc | apply pw_below_drewN | apply below_drew1 | refine below_set ?_ GE199.out | refine below_set ?_ GE203.out) | exact HB.out)) hb); clear HO195; clear HO198; clear HO202; clear BK199; clear BK203; clear HB; have HO195 := n0_; have HO198 := n1_; have HO202 := n2_; have BK199 := n3_; have BK203 := n4_; have HB := n5_; clear n0_ n1_ n2_ n3_ n4_ n5_; (try clear hb); (try clear hb2); (try clear hk); (try clear hi)) | ((with_reducible refine gate_callee (f := 26) rfl ?_); refine goesL_ (some 21) rfl rfl Try.func26 (by kernel_rfl) rfl #[.int .i64 7, .int .i64 0, .int .i64 5] rfl (by (try simp only [List.map_toArray, List.map_cons, List.map_nil]); first | done | rfl | (simp only [List.length_drop, List.length_take]; rfl)) ?_; (with_reducible refine (sizarlaw35_read.calls 7 0 5 t209 t210 t211 t212 t213 _ A7.out).mono ?_); rintro e w52 ⟨rfl, hb⟩; refine ⟨_, rfl, ?_⟩; have n0_ := Aside0.mk (Kd.N_below (by (with_reducible repeat (first | apply Kd.N_alloc | apply Kd.N_drewN | apply Kd.N_drew)); exact HO195.out) hb); have n1_ := Aside0.mk (Kd.R_below (by (with_reducible repeat (first | apply Kd.R_alloc | apply Kd.R_drewN | apply Kd.R_drew)); exact HO198.out) hb); have n2_ := Aside0.mk (Kd.R_below (by (with_reducible repeat (first | apply Kd.R_alloc | apply Kd.R_drewN | apply Kd.R_drew)); exact HO202.out) hb); have n3_ := Aside0.mk (blk_below (g := gb199) (o := .cells #[.slice Ao44 t196.length co44] 28 (0, 0)) (by (with_reducible repeat (first | refine blk_drewN ?_ _ | refine blk_drew ?_ | refine blk_alloc ?_ _)); exact BK199.out) hb); have n4_ := Aside0.mk (blk_below (g := gb203) (o := .cells #[.slice Ao48 t200.length co48] 28 (0, 0)) (by (with_reducible repeat (first | refine blk_drewN ?_ _ | refine blk_drew ?_ | refine blk_alloc ?_ _)); exact BK203.out) hb); have n5_ := Aside0.mk (below_step (by repeat (first | (with_reducible first | exact HB.out | apply below_alloc | apply pw_below_drewN | apply below_drew1 | refine below_set ?_ GE199.out | refine below_set ?_ GE203.out) | exact HB.out)) hb); clear HO195; clear HO198; clear HO202; clear BK199; clear BK203; clear HB; have HO195 := n0_; have HO198 := n1_; have HO202 := n2_; have BK199 := n3_; have BK203 := n4_; have HB := n5_; clear n0_ n1_ n2_ n3_ n4_ n5_; (try clear hb); (try clear hb2); (try clear hk); (try clear hi)) | ((with_reducible refine gate_dst (N := 23) rfl ?_); (try (refine gate_guard (by rfl) ?_; dsimp only)); refine Kd.R_lit k49 _ 49 ?hg (N := 23) ?hd (xs := ([(⟨(⟨(⟨t204, t205, t206⟩ : S45), t207, t208⟩ : S47), 1⟩ : S49), (⟨(⟨(⟨t209, t210, t211⟩ : S45), t212, t213⟩ : S47), 0⟩ : S49)] : List (S49))) (inner := [.int .i64 t204, .int .i64 t205, .int .i64 t206, .int .i64 t207, .int .i64 t208, .int .i64 1, .int .i64 t209, .int .i64 t210, .int .i64 t211, .int .i64 t212, .int .i64 t213, .int .i64 0]) (ok := fun _ => True) (okp := fun _ => True) ?hr ?hp (fun _ hk => hk) trivial (Below.refl _ _) (Nat.le_refl _) (by simp) ?_; (case hd => rfl); (case hg => rfl); (case hr => first | (go_simp; done) | (go_simp; rfl)); (case hp => exact (Reps.c6 (show Kd.M k49 _ _ _ (⟨(⟨(⟨t204, t205, t206⟩ : S45), t207, t208⟩ : S47), 1⟩ : S49) [.int .i64 t204, .int .i64 t205, .int .i64 t206, .int .i64 t207, .int .i64 t208, .int .i64 1] from (k49_mkM _ _ _ (⟨(⟨(⟨t204, t205, t206⟩ : S45), t207, t208⟩ : S47), 1⟩ : S49) )) (Reps.c6 (show Kd.M k49 _ _ _ (⟨(⟨(⟨t209, t210, t211⟩ : S45), t212, t213⟩ : S47), 0⟩ : S49) [.int .i64 t209, .int .i64 t210, .int .i64 t211, .int .i64 t212, .int .i64 t213, .int .i64 0] from (k49_mkM _ _ _ (⟨(⟨(⟨t209, t210, t211⟩ : S45), t212, t213⟩ : S47), 0⟩ : S49) )) (Reps.none _ _)))); intro v215 w53 ho54 hb hg_ hnew_; clear hg_ hnew_; (first | rw [← Ny214.out] at ho54 | (simp only [Int.reduceToNat] at ho54; rw [← Ny214.out] at ho54)); have n0_ := Aside0.mk (Kd.N_elder' (by (with_reducible repeat (first | apply Kd.N_alloc | apply Kd.N_drewN | apply Kd.N_drew)); exact HO195.out) (Kd.R_base ho54) hb); have n1_ := Aside0.mk (Kd.R_elder' (by (with_reducible repeat (first | apply Kd.R_alloc | apply Kd.R_drewN | apply Kd.R_drew)); exact HO198.out) (Kd.R_base ho54) hb); have n2_ := Aside0.mk (Kd.R_elder' (by (with_reducible repeat (first | apply Kd.R_alloc | apply Kd.R_drewN | apply Kd.R_drew)); exact HO202.out) (Kd.R_base ho54) hb); have n3_ := Aside0.mk (Kd.R_lower (Kd.R_new' (Kd.R_new' ho54 (Kd.R_lt (by (with_reducible repeat (first | apply Kd.R_alloc | apply Kd.R_drewN | apply Kd.R_drew)); exact HO198.out))) (Kd.R_lt (by (with_reducible repeat (first | apply Kd.R_alloc | apply Kd.R_drewN | apply Kd.R_drew)); exact HO202.out))) (below_size (by repeat (first | (with_reducible first | exact HB.out | apply below_alloc | apply pw_below_drewN | apply below_drew1 | refine below_set ?_ GE199.out | refine below_set ?_ GE203.out) | exact HB.out)))); have n4_ := Aside0.mk (blk_below (g := gb199) (o := .cells #[.slice Ao44 t196.length co44] 28 (0, 0)) (by (with_reducible repeat (first | refine blk_drewN ?_ _ | refine blk_drew ?_ | refine blk_alloc ?_ _)); exact BK199.out) hb); have n5_ := Aside0.mk (blk_below (g := gb203) (o := .cells #[.slice Ao48 t200.length co48] 28 (0, 0)) (by (with_reducible repeat (first | refine blk_drewN ?_ _ | refine blk_drew ?_ | refine blk_alloc ?_ _)); exact BK203.out) hb); have n6_ := Aside0.mk (below_step (by repeat (first | (with_reducible first | exact HB.out | apply below_alloc | apply pw_below_drewN | apply below_drew1 | refine below_set ?_ GE199.out | refine below_set ?_ GE203.out) | exact HB.out)) hb); clear HO195; clear HO198; clear HO202; clear BK199; clear BK203; clear HB; have HO195 := n0_; have HO198 := n1_; have HO202 := n2_; have HO216 := n3_; have BK199 := n4_; have BK203 := n5_; have HB := n6_; clear n0_ n1_ n2_ n3_ n4_ n5_ n6_; clear hb ho54))
          have n0_ := Aside0.mk (Kd.N_drew HO195.out)
          have n1_ := Aside0.mk (Kd.R_drew HO198.out)
          have n2_ := Aside0.mk (Kd.R_drew HO202.out)
          have n3_ := Aside0.mk (Kd.R_drew HO216.out)
          have n4_ := Aside0.mk (blk_drew BK199.out)
          have n5_ := Aside0.mk (blk_drew BK203.out)
          have n6_ := Aside0.mk (below_drew1 HB.out)
          clear HO195
          clear HO198
          clear HO202
          clear HO216
          clear BK199
          clear BK203
          clear HB
          have HO195 := n0_
          have HO198 := n1_
          have HO202 := n2_
          have HO216 := n3_
          have BK199 := n4_
          have BK203 := n5_
          have HB := n6_
          clear n0_ n1_ n2_ n3_ n4_ n5_ n6_
          obtain ⟨Ao56, co56, eo56⟩ := Kd.R_slice HO216.out
          (first | subst eo56 | (injection eo56 with f1_ f2_ f3_; have f4_ := f1_.symm; have f5_ := f3_.symm; clear f1_ f2_ f3_; subst f4_; subst f5_))
          refine start_ (n := 19) (S := fun w' => w'.cell? ⟨gb199, 0, none⟩ = some (.slice Ao44 t196.length co44) ∧ w'.cell? ⟨gb203, 0, none⟩ = some (.slice Ao48 t200.length co48)) (ds := []) #[false, false, false, false, false, false, false, false, false, false, false, false, false, false, false, false, false, false, false] (by kernel_rfl) rfl rfl ⟨(blk_cell BK199.out 0).trans rfl, (blk_cell BK203.out 0).trans rfl⟩ (fun hHeld => ?_); refine with_tabW sizarlaw35_sane.tab6 sizarlaw35_sane.bits6 (fun HT_ HW_ => ?_)
          generalize w53.drew = w55 at HO195 HO198 HO202 HO216 BK199 BK203 HB hHeld ⊢
          refine pure_ (i := 1) (N := some 25) (v := ?_) (a' := ?_) #[false, true, false, false, false, false, false, false, false, false, false, false, false, false, false, false, false, false, false] rfl rfl (any_of HT_.out (by kernel_rfl)) (fun _ _ _ h => h) (Or.inl ⟨by rfl, ?_⟩) ?_ ?_
          rotate_left
          ·intro w'
           go_simp
           with_reducible rfl
          rotate_left
          ·simp only [Act.put, List.setIfInBounds_toArray, List.set_cons_zero, List.set_cons_succ, i64_w, i32_w]
           rfl
          refine pure_ (i := 2) (N := some 26) (v := ?_) (a' := ?_) #[false, true, true, false, false, false, false, false, false, false, false, false, false, false, false, false, false, false, false] rfl rfl (any_of HT_.out (by kernel_rfl)) (fun _ _ _ h => h) (Or.inl ⟨by rfl, ?_⟩) ?_ ?_
          rotate_left
          ·intro w'
           go_simp
           with_reducible rfl
          rotate_left
          ·simp only [Act.put, List.setIfInBounds_toArray, List.set_cons_zero, List.set_cons_succ, i64_w, i32_w]
           rfl
          refine take_ (i := 0) (N := some 24) (v := ?_) (a' := ?_) #[true, true, true, false, false, false, false, false, false, false, false, false, false, false, false, false, false, false, false] rfl rfl (take_ofW HT_.out HW_.out (by kernel_rfl)) (fun _ _ _ h => h) (Or.inl ⟨by rfl, ?_⟩) hHeld ?_ ?_
          rotate_left
          ·rintro w' ⟨s0, s1⟩
           go_simp
           with_reducible rfl
          rotate_left
          ·simp only [Act.put, List.setIfInBounds_toArray, List.set_cons_zero, List.set_cons_succ, i64_w, i32_w]
           rfl
          refine one_ (i := 3) (N := some 27) #[true, true, true, true, false, false, false, false, false, false, false, false, false, false, false, false, false, false, false] rfl rfl (one_of HT_.out (by kernel_rfl)) (by decide) (fun K hK => ?_)
          refine goes_ Try.func12 (by kernel_rfl) rfl #[.agg #[.slice Ao44 t196.length co44], .agg #[.slice Ao56 y214.length co56]] (by rfl) rfl rfl (by (try simp only [List.map_toArray, List.map_cons, List.map_nil]); first | done | rfl | (simp only [List.length_drop, List.length_take]; rfl)) ?_
          with_reducible refine (sizarref35_Same.calls k _ _ t196 _ _ y214 true _ ?side1 ?side2 ?side3 ?side4 A8.out).mono ?_
          (case side1 => repeat (first | exact (Kd.R_reads' HO198.out).2.2 | (with_reducible refine Kd.C_alloc ?_ _) | (with_reducible refine Kd.C_drewN ?_ _) | (with_reducible refine Kd.C_drew ?_)))
          (case side2 => exact (Kd.R_reads' HO198.out).2.1)
          (case side3 => repeat (first | exact (Kd.R_reads' HO216.out).2.2 | (with_reducible refine Kd.C_alloc ?_ _) | (with_reducible refine Kd.C_drewN ?_ _) | (with_reducible refine Kd.C_drew ?_)))
          (case side4 => exact (Kd.R_reads' HO216.out).2.1)
          rintro e w57 ⟨rfl, hb⟩
          refine ⟨_, rfl, ?_⟩
          have n0_ := Aside0.mk (Kd.N_below (by (with_reducible repeat (first | apply Kd.N_alloc | apply Kd.N_drewN | apply Kd.N_drew)); exact HO195.out) hb)
          have n1_ := Aside0.mk (Kd.R_below (by (with_reducible repeat (first | apply Kd.R_alloc | apply Kd.R_drewN | apply Kd.R_drew)); exact HO198.out) hb)
          have n2_ := Aside0.mk (Kd.R_below (by (with_reducible repeat (first | apply Kd.R_alloc | apply Kd.R_drewN | apply Kd.R_drew)); exact HO202.out) hb)
          have n3_ := Aside0.mk (Kd.R_below (by (with_reducible repeat (first | apply Kd.R_alloc | apply Kd.R_drewN | apply Kd.R_drew)); exact HO216.out) hb)
          have n4_ := Aside0.mk (blk_below (g := gb199) (o := .cells #[.slice Ao44 t196.length co44] 28 (0, 0)) (by (with_reducible repeat (first | refine blk_drewN ?_ _ | refine blk_drew ?_ | refine blk_alloc ?_ _)); exact BK199.out) hb)
          have n5_ := Aside0.mk (blk_below (g := gb203) (o := .cells #[.slice Ao48 t200.length co48] 28 (0, 0)) (by (with_reducible repeat (first | refine blk_drewN ?_ _ | refine blk_drew ?_ | refine blk_alloc ?_ _)); exact BK203.out) hb)
          have n6_ := Aside0.mk (below_step (by repeat (first | (with_reducible first | exact HB.out | apply below_alloc | apply pw_below_drewN | apply below_drew1 | refine below_set ?_ GE199.out | refine below_set ?_ GE203.out) | exact HB.out)) hb)
          clear HO195
          clear HO198
          clear HO202
          clear HO216
          clear BK199
          clear BK203
          clear HB
          have HO195 := n0_
          have HO198 := n1_
          have HO202 := n2_
          have HO216 := n3_
          have BK199 := n4_
          have BK203 := n5_
          have HB := n6_
          clear n0_ n1_ n2_ n3_ n4_ n5_ n6_
          (try clear hb)
          (try clear hb2)
          (try clear hk)
          (try clear hi)
          have q58 : (1 : Int) ≤ ((y214.length : Int) : Int) := of_decide_eq_true (by first | (with_reducible assumption) | assumption)
          obtain ⟨i058, hi058, _, hsz58, _⟩ := info_parts info49
          have hroom58 : y214.length ≤ co56 := (Kd.R_reads' HO216.out).2.1
          have hC58 : Kd.F k49 _ _ Ao56 y214.length y214 := (Kd.V_at (base := w.heap.size) (Kd.R_V (Kd.R_types (Kd.R_types (Kd.R_apart' (HO216.out) (Kd.N_typed HO195.out) (by decide)) BK199.out (by decide)) BK203.out (by decide)))).2.2
          have hcut58 := cut_to (P := Try.prog) 26 49 .i64 Try.underlying26 hi058 Ao56 y214.length co56 1 (by omega) q58 hroom58
          have hr58 := Kd.F_take (m := 1) hC58 (by omega)
          have hy58 : y218.length = (1 : Int).toNat := (by rw [Ny218.out, List.length_take]; omega)
          rw [← Ny218.out] at hr58
          rw [← hy58] at hcut58
          have HO222 := Aside0.mk (show Kd.V k49 49 _ w.heap.size _ (.slice Ao56 y218.length co56) y218 from Kd.V_mk (by omega) hr58)
          have HC222 := Aside0.mk (show y218.length ≤ co56 from by omega)
          clear hr58 hC58 hroom58 hi058 hsz58
          have KY58 := Aside0.mk hy58
          clear hy58
          replace q58 := eq_true q58
          refine hK.out _ _ ⟨(blk_cell BK199.out 0).trans rfl, (blk_cell BK203.out 0).trans rfl⟩ (fun hHeld => ?_)
          clear hK K
          refine norm_ (a' := ?_) ?_ ?_
          rotate_left
          ·show Act.put _ (some 27) _ = _
           simp only [Act.put, List.setIfInBounds_toArray, List.set_cons_zero, List.set_cons_succ, i64_w, i32_w]
           rfl
          refine pure_ (i := 4) (N := some 28) (v := ?_) (a' := ?_) #[true, true, true, true, true, false, false, false, false, false, false, false, false, false, false, false, false, false, false] rfl rfl (any_of HT_.out (by kernel_rfl)) (fun _ _ _ h => h) (Or.inl ⟨by rfl, ?_⟩) ?_ ?_
          rotate_left
          ·intro w'
           go_simp
           with_reducible rfl
          rotate_left
          ·simp only [Act.put, List.setIfInBounds_toArray, List.set_cons_zero, List.set_cons_succ, i64_w, i32_w]
           rfl
          refine pure_ (i := 5) (N := some 29) (v := ?_) (a' := ?_) #[true, true, true, true, true, true, false, false, false, false, false, false, false, false, false, false, false, false, false] rfl rfl (any_of HT_.out (by kernel_rfl)) (fun _ _ _ h => h) (Or.inl ⟨by rfl, ?_⟩) ?_ ?_
          rotate_left
          ·intro w'
           go_simp
           with_reducible rfl
          rotate_left
          ·simp only [Act.put, List.setIfInBounds_toArray, List.set_cons_zero, List.set_cons_succ, i64_w, i32_w]
           rfl
          refine pure_ (i := 7) (N := some 31) (v := ?_) (a' := ?_) #[true, true, true, true, true, true, false, true, false, false, false, false, false, false, false, false, false, false, false] rfl rfl (any_of HT_.out (by kernel_rfl)) (fun _ _ _ h => h) (Or.inl ⟨by rfl, ?_⟩) ?_ ?_
          rotate_left
          ·intro w'
           go_simp
           with_reducible rfl
          rotate_left
          ·simp only [Act.put, List.setIfInBounds_toArray, List.set_cons_zero, List.set_cons_succ, i64_w, i32_w]
           rfl
          refine pure_ (i := 8) (N := some 32) (v := ?_) (a' := ?_) #[true, true, true, true, true, true, false, true, true, false, false, false, false, false, false, false, false, false, false] rfl rfl (any_of HT_.out (by kernel_rfl)) (fun _ _ _ h => h) (Or.inl ⟨by rfl, ?_⟩) ?_ ?_
          rotate_left
          ·intro w'
           go_simp
           with_reducible rfl
          rotate_left
          ·simp only [Act.put, List.setIfInBounds_toArray, List.set_cons_zero, List.set_cons_succ, i64_w, i32_w]
           rfl
          refine pure_ (i := 9) (N := some 33) (v := ?_) (a' := ?_) #[true, true, true, true, true, true, false, true, true, true, false, false, false, false, false, false, false, false, false] rfl rfl (any_of HT_.out (by kernel_rfl)) (fun _ _ _ h => h) (Or.inl ⟨by rfl, ?_⟩) ?_ ?_
          rotate_left
          ·intro w'
           go_simp
           with_reducible rfl
          rotate_left
          ·simp only [Act.put, List.setIfInBounds_toArray, List.set_cons_zero, List.set_cons_succ, i64_w, i32_w]
           rfl
          refine take_ (i := 6) (N := some 30) (v := ?_) (a' := ?_) #[true, true, true, true, true, true, true, true, true, true, false, false, false, false, false, false, false, false, false] rfl rfl (take_ofW HT_.out HW_.out (by kernel_rfl)) (fun _ _ _ h => h) (Or.inl ⟨by rfl, ?_⟩) hHeld ?_ ?_
          rotate_left
          ·rintro w' ⟨s0, s1⟩
           go_simp
           with_reducible rfl
          rotate_left
          ·simp only [Act.put, List.setIfInBounds_toArray, List.set_cons_zero, List.set_cons_succ, i64_w, i32_w]
           rfl
          refine one_ (i := 10) (N := some 34) #[true, true, true, true, true, true, true, true, true, true, true, false, false, false, false, false, false, false, false] rfl rfl (one_of HT_.out (by kernel_rfl)) (by decide) (fun K hK => ?_)
          refine goes_ Try.func12 (by kernel_rfl) rfl #[.agg #[.slice Ao48 t200.length co48], .agg #[.slice Ao56 y218.length co56]] (by rfl) rfl rfl (by (try simp only [List.map_toArray, List.map_cons, List.map_nil]); first | done | rfl | (simp only [List.length_drop, List.length_take]; rfl)) ?_
          with_reducible refine (sizarref35_Same.calls k _ _ t200 _ _ y218 true _ ?side1 ?side2 ?side3 ?side4 A11.out).mono ?_
          (case side1 => repeat (first | exact (Kd.R_reads' HO202.out).2.2 | (with_reducible refine Kd.C_alloc ?_ _) | (with_reducible refine Kd.C_drewN ?_ _) | (with_reducible refine Kd.C_drew ?_)))
          (case side2 => exact (Kd.R_reads' HO202.out).2.1)
          (case side3 => repeat (first | exact (Kd.V_reads' HO222.out).2.2 | (with_reducible refine Kd.C_alloc ?_ _) | (with_reducible refine Kd.C_drewN ?_ _) | (with_reducible refine Kd.C_drew ?_)))
          (case side4 => exact (Kd.V_reads' HO222.out).2.1)
          rintro e w59 ⟨rfl, hb⟩
          refine ⟨_, rfl, ?_⟩
          have n0_ := Aside0.mk (Kd.N_below (by (with_reducible repeat (first | apply Kd.N_alloc | apply Kd.N_drewN | apply Kd.N_drew)); exact HO195.out) hb)
          have n1_ := Aside0.mk (Kd.R_below (by (with_reducible repeat (first | apply Kd.R_alloc | apply Kd.R_drewN | apply Kd.R_drew)); exact HO198.out) hb)
          have n2_ := Aside0.mk (Kd.R_below (by (with_reducible repeat (first | apply Kd.R_alloc | apply Kd.R_drewN | apply Kd.R_drew)); exact HO202.out) hb)
          have n3_ := Aside0.mk (Kd.R_below (by (with_reducible repeat (first | apply Kd.R_alloc | apply Kd.R_drewN | apply Kd.R_drew)); exact HO216.out) hb)
          have n4_ := Aside0.mk (Kd.V_below (by (with_reducible repeat (first | apply Kd.V_alloc | apply Kd.V_drewN | apply Kd.V_drew)); exact HO222.out) hb)
          have n5_ := Aside0.mk (blk_below (g := gb199) (o := .cells #[.slice Ao44 t196.length co44] 28 (0, 0)) (by (with_reducible repeat (first | refine blk_drewN ?_ _ | refine blk_drew ?_ | refine blk_alloc ?_ _)); exact BK199.out) hb)
          have n6_ := Aside0.mk (blk_below (g := gb203) (o := .cells #[.slice Ao48 t200.length co48] 28 (0, 0)) (by (with_reducible repeat (first | refine blk_drewN ?_ _ | refine blk_drew ?_ | refine blk_alloc ?_ _)); exact BK203.out) hb)
          have n7_ := Aside0.mk (below_step (by repeat (first | (with_reducible first | exact HB.out | apply below_alloc | apply pw_below_drewN | apply below_drew1 | refine below_set ?_ GE199.out | refine below_set ?_ GE203.out) | exact HB.out)) hb)
          clear HO195
          clear HO198
          clear HO202
          clear HO216
          clear HO222
          clear BK199
          clear BK203
          clear HB
          have HO195 := n0_
          have HO198 := n1_
          have HO202 := n2_
          have HO216 := n3_
          have HO222 := n4_
          have BK199 := n5_
          have BK203 := n6_
          have HB := n7_
          clear n0_ n1_ n2_ n3_ n4_ n5_ n6_ n7_
          (try clear hb)
          (try clear hb2)
          (try clear hk)
          (try clear hi)
          refine hK.out _ _ ⟨(blk_cell BK199.out 0).trans rfl, (blk_cell BK203.out 0).trans rfl⟩ (fun hHeld => ?_)
          clear hK K
          refine norm_ (a' := ?_) ?_ ?_
          rotate_left
          ·show Act.put _ (some 34) _ = _
           simp only [Act.put, List.setIfInBounds_toArray, List.set_cons_zero, List.set_cons_succ, i64_w, i32_w]
           rfl
          refine pure_ (i := 11) (N := some 35) (v := ?_) (a' := ?_) #[true, true, true, true, true, true, true, true, true, true, true, true, false, false, false, false, false, false, false] rfl rfl (any_of HT_.out (by kernel_rfl)) (fun _ _ _ h => h) (Or.inl ⟨by rfl, ?_⟩) ?_ ?_
          rotate_left
          ·intro w'
           go_simp
           with_reducible rfl
          rotate_left
          ·simp only [Act.put, List.setIfInBounds_toArray, List.set_cons_zero, List.set_cons_succ, i64_w, i32_w]
           rfl
          refine pure_ (i := 12) (N := some 36) (v := ?_) (a' := ?_) #[true, true, true, true, true, true, true, true, true, true, true, true, true, false, false, false, false, false, false] rfl rfl (any_of HT_.out (by kernel_rfl)) (fun _ _ _ h => h) (Or.inl ⟨by rfl, ?_⟩) ?_ ?_
          rotate_left
          ·intro w'
           go_simp
           with_reducible rfl
          rotate_left
          ·simp only [Act.put, List.setIfInBounds_toArray, List.set_cons_zero, List.set_cons_succ, i64_w, i32_w]
           rfl
          refine pure_ (i := 13) (N := some 37) (v := ?_) (a' := ?_) #[true, true, true, true, true, true, true, true, true, true, true, true, true, true, false, false, false, false, false] rfl rfl (any_of HT_.out (by kernel_rfl)) (fun _ _ _ h => h) (Or.inl ⟨by rfl, ?_⟩) ?_ ?_
          rotate_left
          ·intro w'
           go_simp
           with_reducible rfl
          rotate_left
          ·simp only [Act.put, List.setIfInBounds_toArray, List.set_cons_zero, List.set_cons_succ, i64_w, i32_w]
           rfl
          refine one_ (i := 14) (N := some 38) #[true, true, true, true, true, true, true, true, true, true, true, true, true, true, true, false, false, false, false] rfl rfl (one_of HT_.out (by kernel_rfl)) (by decide) (fun K hK => ?_)
          refine goes_ Try.func13 (by kernel_rfl) rfl #[.slice none 0 0] (by rfl) rfl rfl (by (try simp only [List.map_toArray, List.map_cons, List.map_nil]); first | done | rfl | (simp only [List.length_drop, List.length_take]; rfl)) ?_
          refine (index_Build.calls _ _ ([] : List (S35)) t224 _ ?side1 ?side2 A13.out).mono ?_
          (case side1 => exact Kd.C_nil _ _)
          (case side2 => exact Nat.le_refl _)
          rintro e w60 ⟨v225, rfl, ho0, hb⟩
          refine ⟨_, rfl, ?_⟩
          have n0_ := Aside0.mk (Kd.N_elder' (by (with_reducible repeat (first | apply Kd.N_alloc | apply Kd.N_drewN | apply Kd.N_drew)); exact HO195.out) (Kd.R_base ho0) hb)
          have n1_ := Aside0.mk (Kd.R_elder' (by (with_reducible repeat (first | apply Kd.R_alloc | apply Kd.R_drewN | apply Kd.R_drew)); exact HO198.out) (Kd.R_base ho0) hb)
          have n2_ := Aside0.mk (Kd.R_elder' (by (with_reducible repeat (first | apply Kd.R_alloc | apply Kd.R_drewN | apply Kd.R_drew)); exact HO202.out) (Kd.R_base ho0) hb)
          have n3_ := Aside0.mk (Kd.R_elder' (by (with_reducible repeat (first | apply Kd.R_alloc | apply Kd.R_drewN | apply Kd.R_drew)); exact HO216.out) (Kd.R_base ho0) hb)
          have n4_ := Aside0.mk (Kd.V_elder' (by (with_reducible repeat (first | apply Kd.V_alloc | apply Kd.V_drewN | apply Kd.V_drew)); exact HO222.out) (Kd.R_base ho0) hb)
          have n5_ := Aside0.mk (Kd.R_lower (Kd.R_new' (Kd.R_new' (Kd.R_new' ho0 (Kd.R_lt (by (with_reducible repeat (first | apply Kd.R_alloc | apply Kd.R_drewN | apply Kd.R_drew)); exact HO198.out))) (Kd.R_lt (by (with_reducible repeat (first | apply Kd.R_alloc | apply Kd.R_drewN | apply Kd.R_drew)); exact HO202.out))) (Kd.R_lt (by (with_reducible repeat (first | apply Kd.R_alloc | apply Kd.R_drewN | apply Kd.R_drew)); exact HO216.out))) (below_size (by repeat (first | (with_reducible first | exact HB.out | apply below_alloc | apply pw_below_drewN | apply below_drew1 | refine below_set ?_ GE199.out | refine below_set ?_ GE203.out) | exact HB.out))))
          have n6_ := Aside0.mk (blk_below (g := gb199) (o := .cells #[.slice Ao44 t196.length co44] 28 (0, 0)) (by (with_reducible repeat (first | refine blk_drewN ?_ _ | refine blk_drew ?_ | refine blk_alloc ?_ _)); exact BK199.out) hb)
          have n7_ := Aside0.mk (blk_below (g := gb203) (o := .cells #[.slice Ao48 t200.length co48] 28 (0, 0)) (by (with_reducible repeat (first | refine blk_drewN ?_ _ | refine blk_drew ?_ | refine blk_alloc ?_ _)); exact BK203.out) hb)
          have n8_ := Aside0.mk (below_step (by repeat (first | (with_reducible first | exact HB.out | apply below_alloc | apply pw_below_drewN | apply below_drew1 | refine below_set ?_ GE199.out | refine below_set ?_ GE203.out) | exact HB.out)) hb)
          clear HO195
          clear HO198
          clear HO202
          clear HO216
          clear HO222
          clear BK199
          clear BK203
          clear HB
          have HO195 := n0_
          have HO198 := n1_
          have HO202 := n2_
          have HO216 := n3_
          have HO222 := n4_
          have HO226 := n5_
          have BK199 := n6_
          have BK203 := n7_
          have HB := n8_
          clear n0_ n1_ n2_ n3_ n4_ n5_ n6_ n7_ n8_
          (try clear hb)
          (try clear hb2)
          (try clear hk)
          (try clear hi)
          (try clear ho0)
          obtain ⟨Ao61, co61, eo61⟩ := Kd.R_slice HO226.out
          (first | subst eo61 | (injection eo61 with f1_ f2_ f3_; have f4_ := f1_.symm; have f5_ := f3_.symm; clear f1_ f2_ f3_; subst f4_; subst f5_))
          refine hK.out _ _ ⟨(blk_cell BK199.out 0).trans rfl, (blk_cell BK203.out 0).trans rfl⟩ (fun hHeld => ?_)
          clear hK K
          refine norm_ (a' := ?_) ?_ ?_
          rotate_left
          ·show Act.put _ (some 38) _ = _
           simp only [Act.put, List.setIfInBounds_toArray, List.set_cons_zero, List.set_cons_succ, i64_w, i32_w]
           rfl
          refine pure_ (i := 15) (N := some 39) (v := ?_) (a' := ?_) #[true, true, true, true, true, true, true, true, true, true, true, true, true, true, true, true, false, false, false] rfl rfl (any_of HT_.out (by kernel_rfl)) (fun _ _ _ h => h) (Or.inl ⟨by rfl, ?_⟩) ?_ ?_
          rotate_left
          ·intro w'
           go_simp
           with_reducible rfl
          rotate_left
          ·simp only [Act.put, List.setIfInBounds_toArray, List.set_cons_zero, List.set_cons_succ, i64_w, i32_w]
           rfl
          refine pure_ (i := 16) (N := some 40) (v := ?_) (a' := ?_) #[true, true, true, true, true, true, true, true, true, true, true, true, true, true, true, true, true, false, false] rfl rfl (any_of HT_.out (by kernel_rfl)) (fun _ _ _ h => h) (Or.inl ⟨by rfl, ?_⟩) ?_ ?_
          rotate_left
          ·intro w'
           go_simp
           with_reducible rfl
          rotate_left
          ·simp only [Act.put, List.setIfInBounds_toArray, List.set_cons_zero, List.set_cons_succ, i64_w, i32_w]
           rfl
          refine pure_ (i := 17) (N := some 41) (v := ?_) (a' := ?_) #[true, true, true, true, true, true, true, true, true, true, true, true, true, true, true, true, true, true, false] rfl rfl (any_of HT_.out (by kernel_rfl)) (fun _ _ _ h => h) (Or.inl ⟨by rfl, ?_⟩) ?_ ?_
          rotate_left
          ·intro w'
           go_simp
           with_reducible rfl
          rotate_left
          ·simp only [Act.put, List.setIfInBounds_toArray, List.set_cons_zero, List.set_cons_succ, i64_w, i32_w]
           rfl
          refine pure_ (i := 18) (N := some 42) (v := ?_) (a' := ?_) #[true, true, true, true, true, true, true, true, true, true, true, true, true, true, true, true, true, true, true] rfl rfl (any_of HT_.out (by kernel_rfl)) (fun _ _ _ h => h) (Or.inl ⟨by rfl, ?_⟩) ?_ ?_
          rotate_left
          ·intro w'
           go_simp
           with_reducible rfl
          rotate_left
          ·simp only [Act.put, List.setIfInBounds_toArray, List.set_cons_zero, List.set_cons_succ, i64_w, i32_w]
           rfl
          refine done_ (done_of HT_.out (by kernel_rfl)) ?_
          try go_wp2
          have n0_ := Aside0.mk (Kd.N_drew HO195.out)
          have n1_ := Aside0.mk (Kd.R_drew HO198.out)
          have n2_ := Aside0.mk (Kd.R_drew HO202.out)
          have n3_ := Aside0.mk (Kd.R_drew HO216.out)
          have n4_ := Aside0.mk (Kd.V_drew HO222.out)
          have n5_ := Aside0.mk (Kd.R_drew HO226.out)
          have n6_ := Aside0.mk (blk_drew BK199.out)
          have n7_ := Aside0.mk (blk_drew BK203.out)
          have n8_ := Aside0.mk (below_drew1 HB.out)
          clear HO195
          clear HO198
          clear HO202
          clear HO216
          clear HO222
          clear HO226
          clear BK199
          clear BK203
          clear HB
          have HO195 := n0_
          have HO198 := n1_
          have HO202 := n2_
          have HO216 := n3_
          have HO222 := n4_
          have HO226 := n5_
          have BK199 := n6_
          have BK203 := n7_
          have HB := n8_
          clear n0_ n1_ n2_ n3_ n4_ n5_ n6_ n7_ n8_
          refine start_ (n := 38) (S := fun w' => w'.cell? ⟨gb199, 0, none⟩ = some (.slice Ao44 t196.length co44)) (ds := []) #[false, false, false, false, false, false, false, false, false, false, false, false, false, false, false, false, false, false, false, false, false, false, false, false, false, false, false, false, false, false, false, false, false, false, false, false, false, false] (by kernel_rfl) rfl rfl ((blk_cell BK199.out 0).trans rfl) (fun hHeld => ?_); refine with_tabW sizarlaw35_sane.tab8 sizarlaw35_sane.bits8 (fun HT_ HW_ => ?_)
          generalize w60.drew = w62 at HO195 HO198 HO202 HO216 HO222 HO226 BK199 BK203 HB hHeld ⊢
          refine take_ (i := 0) (N := some 43) (v := ?_) (a' := ?_) #[true, false, false, false, false, false, false, false, false, false, false, false, false, false, false, false, false, false, false, false, false, false, false, false, false, false, false, false, false, false, false, false, false, false, false, false, false, false] rfl rfl (take_ofW HT_.out HW_.out (by kernel_rfl)) (fun _ _ _ h => h) (Or.inl ⟨by rfl, ?_⟩) hHeld ?_ ?_
          rotate_left
          ·intro w' s0
           go_simp
           with_reducible rfl
          rotate_left
          ·simp only [Act.put, List.setIfInBounds_toArray, List.set_cons_zero, List.set_cons_succ, i64_w, i32_w]
           rfl
          refine one_ (i := 1) (N := some 44) #[true, true, false, false, false, false, false, false, false, false, false, false, false, false, false, false, false, false, false, false, false, false, false, false, false, false, false, false, false, false, false, false, false, false, false, false, false, false] rfl rfl (one_of HT_.out (by kernel_rfl)) (by decide) (fun K hK => ?_)
          refine goes_ Try.func16 (by kernel_rfl) rfl #[.agg #[.slice Ao44 t196.length co44], .int .i64 2] (by rfl) rfl rfl (by (try simp only [List.map_toArray, List.map_cons, List.map_nil]); first | done | rfl | (simp only [List.length_drop, List.length_take]; rfl)) ?_
          with_reducible refine (index_Check.calls k _ _ t196 2 t227 _ ?side1 ?side2 A15.out).mono ?_
          (case side1 => repeat (first | exact (Kd.R_reads' HO198.out).2.2 | (with_reducible refine Kd.C_alloc ?_ _) | (with_reducible refine Kd.C_drewN ?_ _) | (with_reducible refine Kd.C_drew ?_)))
          (case side2 => exact (Kd.R_reads' HO198.out).2.1)
          rintro e w63 ⟨rfl, hb⟩
          refine ⟨_, rfl, ?_⟩
          have n0_ := Aside0.mk (Kd.N_below (by (with_reducible repeat (first | apply Kd.N_alloc | apply Kd.N_drewN | apply Kd.N_drew)); exact HO195.out) hb)
          have n1_ := Aside0.mk (Kd.R_below (by (with_reducible repeat (first | apply Kd.R_alloc | apply Kd.R_drewN | apply Kd.R_drew)); exact HO198.out) hb)
          have n2_ := Aside0.mk (Kd.R_below (by (with_reducible repeat (first | apply Kd.R_alloc | apply Kd.R_drewN | apply Kd.R_drew)); exact HO202.out) hb)
          have n3_ := Aside0.mk (Kd.R_below (by (with_reducible repeat (first | apply Kd.R_alloc | apply Kd.R_drewN | apply Kd.R_drew)); exact HO216.out) hb)
          have n4_ := Aside0.mk (Kd.V_below (by (with_reducible repeat (first | apply Kd.V_alloc | apply Kd.V_drewN | apply Kd.V_drew)); exact HO222.out) hb)
          have n5_ := Aside0.mk (Kd.R_below (by (with_reducible repeat (first | apply Kd.R_alloc | apply Kd.R_drewN | apply Kd.R_drew)); exact HO226.out) hb)
          have n6_ := Aside0.mk (blk_below (g := gb199) (o := .cells #[.slice Ao44 t196.length co44] 28 (0, 0)) (by (with_reducible repeat (first | refine blk_drewN ?_ _ | refine blk_drew ?_ | refine blk_alloc ?_ _)); exact BK199.out) hb)
          have n7_ := Aside0.mk (blk_below (g := gb203) (o := .cells #[.slice Ao48 t200.length co48] 28 (0, 0)) (by (with_reducible repeat (first | refine blk_drewN ?_ _ | refine blk_drew ?_ | refine blk_alloc ?_ _)); exact BK203.out) hb)
          have n8_ := Aside0.mk (below_step (by repeat (first | (with_reducible first | exact HB.out | apply below_alloc | apply pw_below_drewN | apply below_drew1 | refine below_set ?_ GE199.out | refine below_set ?_ GE203.out) | exact HB.out)) hb)
          clear HO195
          clear HO198
          clear HO202
          clear HO216
          clear HO222
          clear HO226
          clear BK199
          clear BK203
          clear HB
          have HO195 := n0_
          have HO198 := n1_
          have HO202 := n2_
          have HO216 := n3_
          have HO222 := n4_
          have HO226 := n5_
          have BK199 := n6_
          have BK203 := n7_
          have HB := n8_
          clear n0_ n1_ n2_ n3_ n4_ n5_ n6_ n7_ n8_
          (try clear hb)
          (try clear hb2)
          (try clear hk)
          (try clear hi)
          refine hK.out _ _ ((blk_cell BK199.out 0).trans rfl) (fun hHeld => ?_)
          clear hK K
          refine norm_ (a' := ?_) ?_ ?_
          rotate_left
          ·show Act.put _ (some 44) _ = _
           simp only [Act.put, List.setIfInBounds_toArray, List.set_cons_zero, List.set_cons_succ, i64_w, i32_w]
           rfl
          refine pure_ (i := 2) (N := some 45) (v := ?_) (a' := ?_) #[true, true, true, false, false, false, false, false, false, false, false, false, false, false, false, false, false, false, false, false, false, false, false, false, false, false, false, false, false, false, false, false, false, false, false, false, false, false] rfl rfl (any_of HT_.out (by kernel_rfl)) (fun _ _ _ h => h) (Or.inl ⟨by rfl, ?_⟩) ?_ ?_
          rotate_left
          ·intro w'
           go_simp
           with_reducible rfl
          rotate_left
          ·simp only [Act.put, List.setIfInBounds_toArray, List.set_cons_zero, List.set_cons_succ, i64_w, i32_w]
           rfl
          refine pure_ (i := 3) (N := some 46) (v := ?_) (a' := ?_) #[true, true, true, true, false, false, false, false, false, false, false, false, false, false, false, false, false, false, false, false, false, false, false, false, false, false, false, false, false, false, false, false, false, false, false, false, false, false] rfl rfl (any_of HT_.out (by kernel_rfl)) (fun _ _ _ h => h) (Or.inl ⟨by rfl, ?_⟩) ?_ ?_
          rotate_left
          ·intro w'
           go_simp
           with_reducible rfl
          rotate_left
          ·simp only [Act.put, List.setIfInBounds_toArray, List.set_cons_zero, List.set_cons_succ, i64_w, i32_w]
           rfl
          refine take_ (i := 4) (N := some 47) (v := ?_) (a' := ?_) #[true, true, true, true, true, false, false, false, false, false, false, false, false, false, false, false, false, false, false, false, false, false, false, false, false, false, false, false, false, false, false, false, false, false, false, false, false, false] rfl rfl (take_ofW HT_.out HW_.out (by kernel_rfl)) (fun _ _ _ h => h) (Or.inl ⟨by rfl, ?_⟩) hHeld ?_ ?_
          rotate_left
          ·intro w' s0
           go_simp
           with_reducible rfl
          rotate_left
          ·simp only [Act.put, List.setIfInBounds_toArray, List.set_cons_zero, List.set_cons_succ, i64_w, i32_w]
           rfl
          refine one_ (i := 5) (N := some 48) #[true, true, true, true, true, true, false, false, false, false, false, false, false, false, false, false, false, false, false, false, false, false, false, false, false, false, false, false, false, false, false, false, false, false, false, false, false, false] rfl rfl (one_of HT_.out (by kernel_rfl)) (by decide) (fun K hK => ?_)
          refine goes_ Try.func16 (by kernel_rfl) rfl #[.agg #[.slice Ao44 t196.length co44], .int .i64 1] (by rfl) rfl rfl (by (try simp only [List.map_toArray, List.map_cons, List.map_nil]); first | done | rfl | (simp only [List.length_drop, List.length_take]; rfl)) ?_
          with_reducible refine (index_Check.calls k _ _ t196 1 t228 _ ?side1 ?side2 A17.out).mono ?_
          (case side1 => repeat (first | exact (Kd.R_reads' HO198.out).2.2 | (with_reducible refine Kd.C_alloc ?_ _) | (with_reducible refine Kd.C_drewN ?_ _) | (with_reducible refine Kd.C_drew ?_)))
          (case side2 => exact (Kd.R_reads' HO198.out).2.1)
          rintro e w64 ⟨rfl, hb⟩
          refine ⟨_, rfl, ?_⟩
          have n0_ := Aside0.mk (Kd.N_below (by (with_reducible repeat (first | apply Kd.N_alloc | apply Kd.N_drewN | apply Kd.N_drew)); exact HO195.out) hb)
          have n1_ := Aside0.mk (Kd.R_below (by (with_reducible repeat (first | apply Kd.R_alloc | apply Kd.R_drewN | apply Kd.R_drew)); exact HO198.out) hb)
          have n2_ := Aside0.mk (Kd.R_below (by (with_reducible repeat (first | apply Kd.R_alloc | apply Kd.R_drewN | apply Kd.R_drew)); exact HO202.out) hb)
          have n3_ := Aside0.mk (Kd.R_below (by (with_reducible repeat (first | apply Kd.R_alloc | apply Kd.R_drewN | apply Kd.R_drew)); exact HO216.out) hb)
          have n4_ := Aside0.mk (Kd.V_below (by (with_reducible repeat (first | apply Kd.V_alloc | apply Kd.V_drewN | apply Kd.V_drew)); exact HO222.out) hb)
          have n5_ := Aside0.mk (Kd.R_below (by (with_reducible repeat (first | apply Kd.R_alloc | apply Kd.R_drewN | apply Kd.R_drew)); exact HO226.out) hb)
          have n6_ := Aside0.mk (blk_below (g := gb199) (o := .cells #[.slice Ao44 t196.length co44] 28 (0, 0)) (by (with_reducible repeat (first | refine blk_drewN ?_ _ | refine blk_drew ?_ | refine blk_alloc ?_ _)); exact BK199.out) hb)
          have n7_ := Aside0.mk (blk_below (g := gb203) (o := .cells #[.slice Ao48 t200.length co48] 28 (0, 0)) (by (with_reducible repeat (first | refine blk_drewN ?_ _ | refine blk_drew ?_ | refine blk_alloc ?_ _)); exact BK203.out) hb)
          have n8_ := Aside0.mk (below_step (by repeat (first | (with_reducible first | exact HB.out | apply below_alloc | apply pw_below_drewN | apply below_drew1 | refine below_set ?_ GE199.out | refine below_set ?_ GE203.out) | exact HB.out)) hb)
          clear HO195
          clear HO198
          clear HO202
          clear HO216
          clear HO222
          clear HO226
          clear BK199
          clear BK203
          clear HB
          have HO195 := n0_
          have HO198 := n1_
          have HO202 := n2_
          have HO216 := n3_
          have HO222 := n4_
          have HO226 := n5_
          have BK199 := n6_
          have BK203 := n7_
          have HB := n8_
          clear n0_ n1_ n2_ n3_ n4_ n5_ n6_ n7_ n8_
          (try clear hb)
          (try clear hb2)
          (try clear hk)
          (try clear hi)
          refine hK.out _ _ ((blk_cell BK199.out 0).trans rfl) (fun hHeld => ?_)
          clear hK K
          refine norm_ (a' := ?_) ?_ ?_
          rotate_left
          ·show Act.put _ (some 48) _ = _
           simp only [Act.put, List.setIfInBounds_toArray, List.set_cons_zero, List.set_cons_succ, i64_w, i32_w]
           rfl
          refine pure_ (i := 6) (N := some 49) (v := ?_) (a' := ?_) #[true, true, true, true, true, true, true, false, false, false, false, false, false, false, false, false, false, false, false, false, false, false, false, false, false, false, false, false, false, false, false, false, false, false, false, false, false, false] rfl rfl (any_of HT_.out (by kernel_rfl)) (fun _ _ _ h => h) (Or.inl ⟨by rfl, ?_⟩) ?_ ?_
          rotate_left
          ·intro w'
           go_simp
           with_reducible rfl
          rotate_left
          ·simp only [Act.put, List.setIfInBounds_toArray, List.set_cons_zero, List.set_cons_succ, i64_w, i32_w]
           rfl
          refine pure_ (i := 7) (N := some 50) (v := ?_) (a' := ?_) #[true, true, true, true, true, true, true, true, false, false, false, false, false, false, false, false, false, false, false, false, false, false, false, false, false, false, false, false, false, false, false, false, false, false, false, false, false, false] rfl rfl (any_of HT_.out (by kernel_rfl)) (fun _ _ _ h => h) (Or.inl ⟨by rfl, ?_⟩) ?_ ?_
          rotate_left
          ·intro w'
           go_simp
           with_reducible rfl
          rotate_left
          ·simp only [Act.put, List.setIfInBounds_toArray, List.set_cons_zero, List.set_cons_succ, i64_w, i32_w]
           rfl
          refine pure_ (i := 8) (N := some 51) (v := ?_) (a' := ?_) #[true, true, true, true, true, true, true, true, true, false, false, false, false, false, false, false, false, false, false, false, false, false, false, false, false, false, false, false, false, false, false, false, false, false, false, false, false, false] rfl rfl (any_of HT_.out (by kernel_rfl)) (fun _ _ _ h => h) (Or.inl ⟨by rfl, ?_⟩) ?_ ?_
          rotate_left
          ·intro w'
           go_simp
           with_reducible rfl
          rotate_left
          ·simp only [Act.put, List.setIfInBounds_toArray, List.set_cons_zero, List.set_cons_succ, i64_w, i32_w]
           rfl
          refine pure_ (i := 9) (N := some 52) (v := ?_) (a' := ?_) #[true, true, true, true, true, true, true, true, true, true, false, false, false, false, false, false, false, false, false, false, false, false, false, false, false, false, false, false, false, false, false, false, false, false, false, false, false, false] rfl rfl (any_of HT_.out (by kernel_rfl)) (fun _ _ _ h => h) (Or.inl ⟨by rfl, ?_⟩) ?_ ?_
          rotate_left
          ·intro w'
           go_simp
           with_reducible rfl
          rotate_left
          ·simp only [Act.put, List.setIfInBounds_toArray, List.set_cons_zero, List.set_cons_succ, i64_w, i32_w]
           rfl
          refine one_ (i := 10) (N := some 53) #[true, true, true, true, true, true, true, true, true, true, true, false, false, false, false, false, false, false, false, false, false, false, false, false, false, false, false, false, false, false, false, false, false, false, false, false, false, false] rfl rfl (one_of HT_.out (by kernel_rfl)) (by decide) (fun K hK => ?_)
          refine goes_ Try.func16 (by kernel_rfl) rfl #[.agg #[.slice none 0 0], .int .i64 0] (by rfl) rfl rfl (by (try simp only [List.map_toArray, List.map_cons, List.map_nil]); first | done | rfl | (simp only [List.length_drop, List.length_take]; rfl)) ?_
          refine (index_Check.calls k _ _ ([] : List (S49)) 0 t229 _ ?side1 ?side2 A19.out).mono ?_
          (case side1 => exact Kd.C_nil _ _)
          (case side2 => exact Nat.le_refl _)
          rintro e w65 ⟨rfl, hb⟩
          refine ⟨_, rfl, ?_⟩
          have n0_ := Aside0.mk (Kd.N_below (by (with_reducible repeat (first | apply Kd.N_alloc | apply Kd.N_drewN | apply Kd.N_drew)); exact HO195.out) hb)
          have n1_ := Aside0.mk (Kd.R_below (by (with_reducible repeat (first | apply Kd.R_alloc | apply Kd.R_drewN | apply Kd.R_drew)); exact HO198.out) hb)
          have n2_ := Aside0.mk (Kd.R_below (by (with_reducible repeat (first | apply Kd.R_alloc | apply Kd.R_drewN | apply Kd.R_drew)); exact HO202.out) hb)
          have n3_ := Aside0.mk (Kd.R_below (by (with_reducible repeat (first | apply Kd.R_alloc | apply Kd.R_drewN | apply Kd.R_drew)); exact HO216.out) hb)
          have n4_ := Aside0.mk (Kd.V_below (by (with_reducible repeat (first | apply Kd.V_alloc | apply Kd.V_drewN | apply Kd.V_drew)); exact HO222.out) hb)
          have n5_ := Aside0.mk (Kd.R_below (by (with_reducible repeat (first | apply Kd.R_alloc | apply Kd.R_drewN | apply Kd.R_drew)); exact HO226.out) hb)
          have n6_ := Aside0.mk (blk_below (g := gb199) (o := .cells #[.slice Ao44 t196.length co44] 28 (0, 0)) (by (with_reducible repeat (first | refine blk_drewN ?_ _ | refine blk_drew ?_ | refine blk_alloc ?_ _)); exact BK199.out) hb)
          have n7_ := Aside0.mk (blk_below (g := gb203) (o := .cells #[.slice Ao48 t200.length co48] 28 (0, 0)) (by (with_reducible repeat (first | refine blk_drewN ?_ _ | refine blk_drew ?_ | refine blk_alloc ?_ _)); exact BK203.out) hb)
          have n8_ := Aside0.mk (below_step (by repeat (first | (with_reducible first | exact HB.out | apply below_alloc | apply pw_below_drewN | apply below_drew1 | refine below_set ?_ GE199.out | refine below_set ?_ GE203.out) | exact HB.out)) hb)
          clear HO195
          clear HO198
          clear HO202
          clear HO216
          clear HO222
          clear HO226
          clear BK199
          clear BK203
          clear HB
          have HO195 := n0_
          have HO198 := n1_
          have HO202 := n2_
          have HO216 := n3_
          have HO222 := n4_
          have HO226 := n5_
          have BK199 := n6_
          have BK203 := n7_
          have HB := n8_
          clear n0_ n1_ n2_ n3_ n4_ n5_ n6_ n7_ n8_
          (try clear hb)
          (try clear hb2)
          (try clear hk)
          (try clear hi)
          refine hK.out _ _ ((blk_cell BK199.out 0).trans rfl) (fun hHeld => ?_)
          clear hK K
          refine norm_ (a' := ?_) ?_ ?_
          rotate_left
          ·show Act.put _ (some 53) _ = _
           simp only [Act.put, List.setIfInBounds_toArray, List.set_cons_zero, List.set_cons_succ, i64_w, i32_w]
           rfl
          refine pure_ (i := 11) (N := some 54) (v := ?_) (a' := ?_) #[true, true, true, true, true, true, true, true, true, true, true, true, false, false, false, false, false, false, false, false, false, false, false, false, false, false, false, false, false, false, false, false, false, false, false, false, false, false] rfl rfl (any_of HT_.out (by kernel_rfl)) (fun _ _ _ h => h) (Or.inl ⟨by rfl, ?_⟩) ?_ ?_
          rotate_left
          ·intro w'
           go_simp
           with_reducible rfl
          rotate_left
          ·simp only [Act.put, List.setIfInBounds_toArray, List.set_cons_zero, List.set_cons_succ, i64_w, i32_w]
           rfl
          refine pure_ (i := 12) (N := some 55) (v := ?_) (a' := ?_) #[true, true, true, true, true, true, true, true, true, true, true, true, true, false, false, false, false, false, false, false, false, false, false, false, false, false, false, false, false, false, false, false, false, false, false, false, false, false] rfl rfl (any_of HT_.out (by kernel_rfl)) (fun _ _ _ h => h) (Or.inl ⟨by rfl, ?_⟩) ?_ ?_
          rotate_left
          ·intro w'
           go_simp
           with_reducible rfl
          rotate_left
          ·simp only [Act.put, List.setIfInBounds_toArray, List.set_cons_zero, List.set_cons_succ, i64_w, i32_w]
           rfl
          refine pure_ (i := 13) (N := some 56) (v := ?_) (a' := ?_) #[true, true, true, true, true, true, true, true, true, true, true, true, true, true, false, false, false, false, false, false, false, false, false, false, false, false, false, false, false, false, false, false, false, false, false, false, false, false] rfl rfl (any_of HT_.out (by kernel_rfl)) (fun _ _ _ h => h) (Or.inl ⟨by rfl, ?_⟩) ?_ ?_
          rotate_left
          ·intro w'
           go_simp
           with_reducible rfl
          rotate_left
          ·simp only [Act.put, List.setIfInBounds_toArray, List.set_cons_zero, List.set_cons_succ, i64_w, i32_w]
           rfl
          refine pure_ (i := 15) (N := some 58) (v := ?_) (a' := ?_) #[true, true, true, true, true, true, true, true, true, true, true, true, true, true, false, true, false, false, false, false, false, false, false, false, false, false, false, false, false, false, false, false, false, false, false, false, false, false] rfl rfl (any_of HT_.out (by kernel_rfl)) (fun _ _ _ h => h) (Or.inl ⟨by rfl, ?_⟩) ?_ ?_
          rotate_left
          ·intro w'
           go_simp
           with_reducible rfl
          rotate_left
          ·simp only [Act.put, List.setIfInBounds_toArray, List.set_cons_zero, List.set_cons_succ, i64_w, i32_w]
           rfl
          refine take_ (i := 14) (N := some 57) (v := ?_) (a' := ?_) #[true, true, true, true, true, true, true, true, true, true, true, true, true, true, true, true, false, false, false, false, false, false, false, false, false, false, false, false, false, false, false, false, false, false, false, false, false, false] rfl rfl (take_ofW HT_.out HW_.out (by kernel_rfl)) (fun _ _ _ h => h) (Or.inl ⟨by rfl, ?_⟩) hHeld ?_ ?_
          rotate_left
          ·intro w' s0
           go_simp
           with_reducible rfl
          rotate_left
          ·simp only [Act.put, List.setIfInBounds_toArray, List.set_cons_zero, List.set_cons_succ, i64_w, i32_w]
           rfl
          refine one_ (i := 16) (N := some 59) #[true, true, true, true, true, true, true, true, true, true, true, true, true, true, true, true, true, false, false, false, false, false, false, false, false, false, false, false, false, false, false, false, false, false, false, false, false, false] rfl rfl (one_of HT_.out (by kernel_rfl)) (by decide) (fun K hK => ?_)
          refine goesV_ Try.func27 (by kernel_rfl) rfl #[.int .i64 5] (by rfl) rfl rfl rfl (by (try simp only [List.map_toArray, List.map_cons, List.map_nil]); first | done | rfl | (simp only [List.length_drop, List.length_take]; rfl)) ?_
          with_reducible refine (sizarlaw35_sane_1.calls 5 t230 _ A21.out).mono ?_
          rintro e w66 ⟨v231, rfl, ho0, hb⟩
          refine ⟨_, rfl, ?_⟩
          have n0_ := Aside0.mk (Kd.N_elder' (by (with_reducible repeat (first | apply Kd.N_alloc | apply Kd.N_drewN | apply Kd.N_drew)); exact HO195.out) (Kd.N_base ho0) hb)
          have n1_ := Aside0.mk (Kd.R_below (by (with_reducible repeat (first | apply Kd.R_alloc | apply Kd.R_drewN | apply Kd.R_drew)); exact HO198.out) hb)
          have n2_ := Aside0.mk (Kd.R_below (by (with_reducible repeat (first | apply Kd.R_alloc | apply Kd.R_drewN | apply Kd.R_drew)); exact HO202.out) hb)
          have n3_ := Aside0.mk (Kd.R_below (by (with_reducible repeat (first | apply Kd.R_alloc | apply Kd.R_drewN | apply Kd.R_drew)); exact HO216.out) hb)
          have n4_ := Aside0.mk (Kd.V_elder' (by (with_reducible repeat (first | apply Kd.V_alloc | apply Kd.V_drewN | apply Kd.V_drew)); exact HO222.out) (Kd.N_base ho0) hb)
          have n5_ := Aside0.mk (Kd.R_below (by (with_reducible repeat (first | apply Kd.R_alloc | apply Kd.R_drewN | apply Kd.R_drew)); exact HO226.out) hb)
          have n6_ := Aside0.mk (Kd.N_lower (Kd.N_mono (ok' := fun k_ => some k_ ≠ (.slice Ao41 y193.length co41 : Value).ownBlock ∧ some k_ ≠ (.slice Ao44 t196.length co44 : Value).ownBlock ∧ some k_ ≠ (.slice Ao48 t200.length co48 : Value).ownBlock ∧ some k_ ≠ (.slice Ao56 y214.length co56 : Value).ownBlock ∧ some k_ ≠ (.slice Ao61 t224.length co61 : Value).ownBlock ∧ k_ ≠ gb199 ∧ k_ ≠ gb203) ho0 (fun k_ hk_ => ⟨(Kd.fresh' (Kd.N_lt (by (with_reducible repeat (first | apply Kd.N_alloc | apply Kd.N_drewN | apply Kd.N_drew)); exact HO195.out)) k_ hk_), (Kd.fresh' (Kd.R_lt (by (with_reducible repeat (first | apply Kd.R_alloc | apply Kd.R_drewN | apply Kd.R_drew)); exact HO198.out)) k_ hk_), (Kd.fresh' (Kd.R_lt (by (with_reducible repeat (first | apply Kd.R_alloc | apply Kd.R_drewN | apply Kd.R_drew)); exact HO202.out)) k_ hk_), (Kd.fresh' (Kd.R_lt (by (with_reducible repeat (first | apply Kd.R_alloc | apply Kd.R_drewN | apply Kd.R_drew)); exact HO216.out)) k_ hk_), (Kd.fresh' (Kd.R_lt (by (with_reducible repeat (first | apply Kd.R_alloc | apply Kd.R_drewN | apply Kd.R_drew)); exact HO226.out)) k_ hk_), (Kd.freshB (g := gb199) (o := .cells #[.slice Ao44 t196.length co44] 28 (0, 0)) (by (with_reducible repeat (first | refine blk_drewN ?_ _ | refine blk_drew ?_ | refine blk_alloc ?_ _)); exact BK199.out) k_ hk_), (Kd.freshB (g := gb203) (o := .cells #[.slice Ao48 t200.length co48] 28 (0, 0)) (by (with_reducible repeat (first | refine blk_drewN ?_ _ | refine blk_drew ?_ | refine blk_alloc ?_ _)); exact BK203.out) k_ hk_)⟩)) (below_size (by repeat (first | (with_reducible first | exact HB.out | apply below_alloc | apply pw_below_drewN | apply below_drew1 | refine below_set ?_ GE199.out | refine below_set ?_ GE203.out) | exact HB.out))))
          have n7_ := Aside0.mk (blk_below (g := gb199) (o := .cells #[.slice Ao44 t196.length co44] 28 (0, 0)) (by (with_reducible repeat (first | refine blk_drewN ?_ _ | refine blk_drew ?_ | refine blk_alloc ?_ _)); exact BK199.out) hb)
          have n8_ := Aside0.mk (blk_below (g := gb203) (o := .cells #[.slice Ao48 t200.length co48] 28 (0, 0)) (by (with_reducible repeat (first | refine blk_drewN ?_ _ | refine blk_drew ?_ | refine blk_alloc ?_ _)); exact BK203.out) hb)
          have n9_ := Aside0.mk (below_step (by repeat (first | (with_reducible first | exact HB.out | apply below_alloc | apply pw_below_drewN | apply below_drew1 | refine below_set ?_ GE199.out | refine below_set ?_ GE203.out) | exact HB.out)) hb)
          clear HO195
          clear HO198
          clear HO202
          clear HO216
          clear HO222
          clear HO226
          clear BK199
          clear BK203
          clear HB
          have HO195 := n0_
          have HO198 := n1_
          have HO202 := n2_
          have HO216 := n3_
          have HO222 := n4_
          have HO226 := n5_
          have HO232 := n6_
          have BK199 := n7_
          have BK203 := n8_
          have HB := n9_
          clear n0_ n1_ n2_ n3_ n4_ n5_ n6_ n7_ n8_ n9_
          (try clear hb)
          (try clear hb2)
          (try clear hk)
          (try clear hi)
          (try clear ho0)
          obtain ⟨Ao67, co67, eo67⟩ := Kd.N_slice HO232.out
          (first | subst eo67 | (injection eo67 with f1_ f2_ f3_; have f4_ := f1_.symm; have f5_ := f3_.symm; clear f1_ f2_ f3_; subst f4_; subst f5_))
          refine hK.out _ _ ((blk_cell BK199.out 0).trans rfl) (fun hHeld => ?_)
          clear hK K
          refine norm_ (a' := ?_) ?_ ?_
          rotate_left
          ·show Act.put _ (some 59) _ = _
           simp only [Act.put, List.setIfInBounds_toArray, List.set_cons_zero, List.set_cons_succ, i64_w, i32_w]
           rfl
          refine one_ (i := 17) (N := some 60) #[true, true, true, true, true, true, true, true, true, true, true, true, true, true, true, true, true, true, false, false, false, false, false, false, false, false, false, false, false, false, false, false, false, false, false, false, false, false] rfl rfl (one_of HT_.out (by kernel_rfl)) (by decide) (fun K hK => ?_)
          refine goes_ Try.func21 (by kernel_rfl) rfl #[.agg #[.slice Ao44 t196.length co44], .slice Ao67 t230.length co67] (by rfl) rfl rfl (by (try simp only [List.map_toArray, List.map_cons, List.map_nil]); first | done | rfl | (simp only [List.length_drop, List.length_take]; rfl)) ?_
          with_reducible refine (index_Affected.calls _ _ t196 _ _ t230 t233 _ ?side1 ?side2 ?side3 ?side4 A22.out).mono ?_
          (case side1 => repeat (first | exact (Kd.R_reads' HO198.out).2.2 | (with_reducible refine Kd.C_alloc ?_ _) | (with_reducible refine Kd.C_drewN ?_ _) | (with_reducible refine Kd.C_drew ?_)))
          (case side2 => exact (Kd.R_reads' HO198.out).2.1)
          (case side3 => repeat (first | exact (Kd.N_reads' HO232.out).2.2 | (with_reducible refine Kd.C_alloc ?_ _) | (with_reducible refine Kd.C_drewN ?_ _) | (with_reducible refine Kd.C_drew ?_)))
          (case side4 => exact (Kd.N_reads' HO232.out).2.1)
          rintro e w68 ⟨v234, rfl, ho0, hb⟩
          refine ⟨_, rfl, ?_⟩
          have n0_ := Aside0.mk (Kd.N_elder' (by (with_reducible repeat (first | apply Kd.N_alloc | apply Kd.N_drewN | apply Kd.N_drew)); exact HO195.out) (Kd.R_base ho0) hb)
          have n1_ := Aside0.mk (Kd.R_below (by (with_reducible repeat (first | apply Kd.R_alloc | apply Kd.R_drewN | apply Kd.R_drew)); exact HO198.out) hb)
          have n2_ := Aside0.mk (Kd.R_below (by (with_reducible repeat (first | apply Kd.R_alloc | apply Kd.R_drewN | apply Kd.R_drew)); exact HO202.out) hb)
          have n3_ := Aside0.mk (Kd.R_below (by (with_reducible repeat (first | apply Kd.R_alloc | apply Kd.R_drewN | apply Kd.R_drew)); exact HO216.out) hb)
          have n4_ := Aside0.mk (Kd.V_elder' (by (with_reducible repeat (first | apply Kd.V_alloc | apply Kd.V_drewN | apply Kd.V_drew)); exact HO222.out) (Kd.R_base ho0) hb)
          have n5_ := Aside0.mk (Kd.R_below (by (with_reducible repeat (first | apply Kd.R_alloc | apply Kd.R_drewN | apply Kd.R_drew)); exact HO226.out) hb)
          have n6_ := Aside0.mk (Kd.N_elder' (by (with_reducible repeat (first | apply Kd.N_alloc | apply Kd.N_drewN | apply Kd.N_drew)); exact HO232.out) (Kd.R_base ho0) hb)
          have n7_ := Aside0.mk (Kd.R_lower ho0 (below_size (by repeat (first | (with_reducible first | exact HB.out | apply below_alloc | apply pw_below_drewN | apply below_drew1 | refine below_set ?_ GE199.out | refine below_set ?_ GE203.out) | exact HB.out))))
          have n8_ := Aside0.mk (blk_below (g := gb199) (o := .cells #[.slice Ao44 t196.length co44] 28 (0, 0)) (by (with_reducible repeat (first | refine blk_drewN ?_ _ | refine blk_drew ?_ | refine blk_alloc ?_ _)); exact BK199.out) hb)
          have n9_ := Aside0.mk (blk_below (g := gb203) (o := .cells #[.slice Ao48 t200.length co48] 28 (0, 0)) (by (with_reducible repeat (first | refine blk_drewN ?_ _ | refine blk_drew ?_ | refine blk_alloc ?_ _)); exact BK203.out) hb)
          have n10_ := Aside0.mk (below_step (by repeat (first | (with_reducible first | exact HB.out | apply below_alloc | apply pw_below_drewN | apply below_drew1 | refine below_set ?_ GE199.out | refine below_set ?_ GE203.out) | exact HB.out)) hb)
          clear HO195
          clear HO198
          clear HO202
          clear HO216
          clear HO222
          clear HO226
          clear HO232
          clear BK199
          clear BK203
          clear HB
          have HO195 := n0_
          have HO198 := n1_
          have HO202 := n2_
          have HO216 := n3_
          have HO222 := n4_
          have HO226 := n5_
          have HO232 := n6_
          have HO235 := n7_
          have BK199 := n8_
          have BK203 := n9_
          have HB := n10_
          clear n0_ n1_ n2_ n3_ n4_ n5_ n6_ n7_ n8_ n9_ n10_
          (try clear hb)
          (try clear hb2)
          (try clear hk)
          (try clear hi)
          (try clear ho0)
          obtain ⟨Ao69, co69, eo69⟩ := Kd.R_slice HO235.out
          (first | subst eo69 | (injection eo69 with f1_ f2_ f3_; have f4_ := f1_.symm; have f5_ := f3_.symm; clear f1_ f2_ f3_; subst f4_; subst f5_))
          refine hK.out _ _ ((blk_cell BK199.out 0).trans rfl) (fun hHeld => ?_)
          clear hK K
          refine norm_ (a' := ?_) ?_ ?_
          rotate_left
          ·show Act.put _ (some 60) _ = _
           simp only [Act.put, List.setIfInBounds_toArray, List.set_cons_zero, List.set_cons_succ, i64_w, i32_w]
           rfl
          refine pure_ (i := 18) (N := some 61) (v := ?_) (a' := ?_) #[true, true, true, true, true, true, true, true, true, true, true, true, true, true, true, true, true, true, true, false, false, false, false, false, false, false, false, false, false, false, false, false, false, false, false, false, false, false] rfl rfl (any_of HT_.out (by kernel_rfl)) (fun _ _ _ h => h) (Or.inl ⟨by rfl, ?_⟩) ?_ ?_
          rotate_left
          ·intro w'
           go_simp
           with_reducible rfl
          rotate_left
          ·simp only [Act.put, List.setIfInBounds_toArray, List.set_cons_zero, List.set_cons_succ, i64_w, i32_w]
           rfl
          refine pure_ (i := 19) (N := some 62) (v := ?_) (a' := ?_) #[true, true, true, true, true, true, true, true, true, true, true, true, true, true, true, true, true, true, true, true, false, false, false, false, false, false, false, false, false, false, false, false, false, false, false, false, false, false] rfl rfl (any_of HT_.out (by kernel_rfl)) (fun _ _ _ h => h) (Or.inl ⟨by rfl, ?_⟩) ?_ ?_
          rotate_left
          ·intro w'
           go_simp
           with_reducible rfl
          rotate_left
          ·simp only [Act.put, List.setIfInBounds_toArray, List.set_cons_zero, List.set_cons_succ, i64_w, i32_w]
           rfl
          refine pure_ (i := 20) (N := some 63) (v := ?_) (a' := ?_) #[true, true, true, true, true, true, true, true, true, true, true, true, true, true, true, true, true, true, true, true, true, false, false, false, false, false, false, false, false, false, false, false, false, false, false, false, false, false] rfl rfl (any_of HT_.out (by kernel_rfl)) (fun _ _ _ h => h) (Or.inl ⟨by rfl, ?_⟩) ?_ ?_
          rotate_left
          ·intro w'
           go_simp
           with_reducible rfl
          rotate_left
          ·simp only [Act.put, List.setIfInBounds_toArray, List.set_cons_zero, List.set_cons_succ, i64_w, i32_w]
           rfl
          refine pure_ (i := 21) (N := some 64) (v := ?_) (a' := ?_) #[true, true, true, true, true, true, true, true, true, true, true, true, true, true, true, true, true, true, true, true, true, true, false, false, false, false, false, false, false, false, false, false, false, false, false, false, false, false] rfl rfl (any_of HT_.out (by kernel_rfl)) (fun _ _ _ h => h) (Or.inl ⟨by rfl, ?_⟩) ?_ ?_
          rotate_left
          ·intro w'
           go_simp
           with_reducible rfl
          rotate_left
          ·simp only [Act.put, List.setIfInBounds_toArray, List.set_cons_zero, List.set_cons_succ, i64_w, i32_w]
           rfl
          refine pure_ (i := 23) (N := some 66) (v := ?_) (a' := ?_) #[true, true, true, true, true, true, true, true, true, true, true, true, true, true, true, true, true, true, true, true, true, true, false, true, false, false, false, false, false, false, false, false, false, false, false, false, false, false] rfl rfl (any_of HT_.out (by kernel_rfl)) (fun _ _ _ h => h) (Or.inl ⟨by rfl, ?_⟩) ?_ ?_
          rotate_left
          ·intro w'
           go_simp
           with_reducible rfl
          rotate_left
          ·simp only [Act.put, List.setIfInBounds_toArray, List.set_cons_zero, List.set_cons_succ, i64_w, i32_w]
           rfl
          refine take_ (i := 22) (N := some 65) (v := ?_) (a' := ?_) #[true, true, true, true, true, true, true, true, true, true, true, true, true, true, true, true, true, true, true, true, true, true, true, true, false, false, false, false, false, false, false, false, false, false, false, false, false, false] rfl rfl (take_ofW HT_.out HW_.out (by kernel_rfl)) (fun _ _ _ h => h) (Or.inl ⟨by rfl, ?_⟩) hHeld ?_ ?_
          rotate_left
          ·intro w' s0
           go_simp
           with_reducible rfl
          rotate_left
          ·simp only [Act.put, List.setIfInBounds_toArray, List.set_cons_zero, List.set_cons_succ, i64_w, i32_w]
           rfl
          refine join_ (σ := Value × Value × Value) 11 #[true, true, true, true, true, true, true, true, true, true, true, true, true, true, true, true, true, true, true, true, true, true, true, true, true, true, true, false, false, false, false, false, false, false, false, false, false, false] (fun s_ => [(67, s_.1), (68, s_.2.1), (69, s_.2.2)]) (fun s_ w' => (w'.cell? ⟨gb199, 0, none⟩ = some (.slice Ao44 t196.length co44)) ∧ (Kd.N k35 35 w' w.heap.size (fun k_ => some k_ ≠ (.slice Ao44 t196.length co44 : Value).ownBlock ∧ some k_ ≠ (.slice Ao48 t200.length co48 : Value).ownBlock ∧ some k_ ≠ (.slice Ao56 y214.length co56 : Value).ownBlock ∧ some k_ ≠ (.slice Ao61 t224.length co61 : Value).ownBlock ∧ some k_ ≠ (.slice Ao67 t230.length co67 : Value).ownBlock ∧ some k_ ≠ (.slice Ao69 t233.length co69 : Value).ownBlock ∧ some k_ ≠ (s_.1 : Value).ownBlock ∧ some k_ ≠ (s_.2.1 : Value).ownBlock ∧ some k_ ≠ (s_.2.2 : Value).ownBlock ∧ k_ ≠ gb199 ∧ k_ ≠ gb203) (.slice Ao41 y193.length co41) y193) ∧ (Kd.R k49 49 w' w.heap.size (fun k_ => some k_ ≠ (.slice Ao48 t200.length co48 : Value).ownBlock ∧ some k_ ≠ (.slice Ao56 y214.length co56 : Value).ownBlock ∧ some k_ ≠ (.slice Ao61 t224.length co61 : Value).ownBlock) (.slice Ao44 t196.length co44) t196) ∧ (Kd.R k49 49 w' w.heap.size (fun k_ => some k_ ≠ (.slice Ao44 t196.length co44 : Value).ownBlock ∧ some k_ ≠ (.slice Ao56 y214.length co56 : Value).ownBlock ∧ some k_ ≠ (.slice Ao61 t224.length co61 : Value).ownBlock) (.slice Ao48 t200.length co48) t200) ∧ (Kd.R k49 49 w' w.heap.size (fun k_ => some k_ ≠ (.slice Ao44 t196.length co44 : Value).ownBlock ∧ some k_ ≠ (.slice Ao48 t200.length co48 : Value).ownBlock ∧ some k_ ≠ (.slice Ao61 t224.length co61 : Value).ownBlock) (.slice Ao56 y214.length co56) y214) ∧ (Kd.V k49 49 w' w.heap.size (fun k_ => some k_ ≠ (.slice Ao41 y193.length co41 : Value).ownBlock ∧ some k_ ≠ (.slice Ao44 t196.length co44 : Value).ownBlock ∧ some k_ ≠ (.slice Ao48 t200.length co48 : Value).ownBlock ∧ some k_ ≠ (.slice Ao61 t224.length co61 : Value).ownBlock ∧ some k_ ≠ (.slice Ao67 t230.length co67 : Value).ownBlock ∧ some k_ ≠ (.slice Ao69 t233.length co69 : Value).ownBlock ∧ some k_ ≠ (s_.1 : Value).ownBlock ∧ some k_ ≠ (s_.2.1 : Value).ownBlock ∧ some k_ ≠ (s_.2.2 : Value).ownBlock ∧ k_ ≠ gb199 ∧ k_ ≠ gb203) (.slice Ao56 y218.length co56) y218) ∧ (Kd.R k49 49 w' w.heap.size (fun k_ => some k_ ≠ (.slice Ao44 t196.length co44 : Value).ownBlock ∧ some k_ ≠ (.slice Ao48 t200.length co48 : Value).ownBlock ∧ some k_ ≠ (.slice Ao56 y214.length co56 : Value).ownBlock) (.slice Ao61 t224.length co61) t224) ∧ (Kd.N k63 63 w' w.heap.size (fun k_ => some k_ ≠ (.slice Ao41 y193.length co41 : Value).ownBlock ∧ some k_ ≠ (.slice Ao44 t196.length co44 : Value).ownBlock ∧ some k_ ≠ (.slice Ao48 t200.length co48 : Value).ownBlock ∧ some k_ ≠ (.slice Ao56 y214.length co56 : Value).ownBlock ∧ some k_ ≠ (.slice Ao61 t224.length co61 : Value).ownBlock ∧ some k_ ≠ (.slice Ao69 t233.length co69 : Value).ownBlock ∧ some k_ ≠ (s_.1 : Value).ownBlock ∧ some k_ ≠ (s_.2.1 : Value).ownBlock ∧ some k_ ≠ (s_.2.2 : Value).ownBlock ∧ k_ ≠ gb199 ∧ k_ ≠ gb203) (.slice Ao67 t230.length co67) t230) ∧ (Kd.R (Kd.int .i64) 3 w' w.heap.size (fun k_ => some k_ ≠ (s_.2.1 : Value).ownBlock ∧ some k_ ≠ (s_.2.2 : Value).ownBlock) (.slice Ao69 t233.length co69) t233) ∧ (Kd.N k63 63 w' w.heap.size (fun k_ => some k_ ≠ (.slice Ao41 y193.length co41 : Value).ownBlock ∧ some k_ ≠ (.slice Ao44 t196.length co44 : Value).ownBlock ∧ some k_ ≠ (.slice Ao48 t200.length co48 : Value).ownBlock ∧ some k_ ≠ (.slice Ao56 y214.length co56 : Value).ownBlock ∧ some k_ ≠ (.slice Ao61 t224.length co61 : Value).ownBlock ∧ some k_ ≠ (.slice Ao67 t230.length co67 : Value).ownBlock ∧ some k_ ≠ (.slice Ao69 t233.length co69 : Value).ownBlock ∧ some k_ ≠ (s_.2.1 : Value).ownBlock ∧ some k_ ≠ (s_.2.2 : Value).ownBlock ∧ k_ ≠ gb199 ∧ k_ ≠ gb203) s_.1 t236) ∧ (Kd.R (Kd.int .i64) 3 w' w.heap.size (fun k_ => some k_ ≠ (.slice Ao69 t233.length co69 : Value).ownBlock ∧ some k_ ≠ (s_.2.2 : Value).ownBlock) s_.2.1 t239) ∧ (Kd.R (Kd.int .i64) 3 w' w.heap.size (fun k_ => some k_ ≠ (.slice Ao69 t233.length co69 : Value).ownBlock ∧ some k_ ≠ (s_.2.1 : Value).ownBlock) s_.2.2 y242) ∧ (w'.heap[gb199]? = some (.cells #[.slice Ao44 t196.length co44] 28 (0, 0))) ∧ (w'.heap[gb203]? = some (.cells #[.slice Ao48 t200.length co48] 28 (0, 0))) ∧ (Below w.heap.size w w')) ?_ ?_
          rotate_left
          ·intro hCont
           refine two_ (i := 24) (j := 26) (Ni := some 67) (Nj := some 69) #[true, true, true, true, true, true, true, true, true, true, true, true, true, true, true, true, true, true, true, true, true, true, true, true, true, false, false, false, false, false, false, false, false, false, false, false, false, false] #[true, true, true, true, true, true, true, true, true, true, true, true, true, true, true, true, true, true, true, true, true, true, true, true, false, false, true, false, false, false, false, false, false, false, false, false, false, false] rfl rfl rfl rfl (two_of HT_.out (by kernel_rfl)) (by decide) (by decide) (fun K hK => ?_) (fun K hK => ?_)
           ·skip
            refine goesV_ Try.func27 (by kernel_rfl) rfl #[.int .i64 4] (by rfl) rfl rfl rfl (by (try simp only [List.map_toArray, List.map_cons, List.map_nil]); first | done | rfl | (simp only [List.length_drop, List.length_take]; rfl)) ?_
            with_reducible refine (sizarlaw35_sane_1.calls 4 t236 _ A24.out).mono ?_
            rintro e w70 ⟨v237, rfl, ho0, hb⟩
            refine ⟨_, rfl, ?_⟩
            have n0_ := Aside0.mk (Kd.N_elder' (by (with_reducible repeat (first | apply Kd.N_alloc | apply Kd.N_drewN | apply Kd.N_drew)); exact HO195.out) (Kd.N_base ho0) hb)
            have n1_ := Aside0.mk (Kd.R_below (by (with_reducible repeat (first | apply Kd.R_alloc | apply Kd.R_drewN | apply Kd.R_drew)); exact HO198.out) hb)
            have n2_ := Aside0.mk (Kd.R_below (by (with_reducible repeat (first | apply Kd.R_alloc | apply Kd.R_drewN | apply Kd.R_drew)); exact HO202.out) hb)
            have n3_ := Aside0.mk (Kd.R_below (by (with_reducible repeat (first | apply Kd.R_alloc | apply Kd.R_drewN | apply Kd.R_drew)); exact HO216.out) hb)
            have n4_ := Aside0.mk (Kd.V_elder' (by (with_reducible repeat (first | apply Kd.V_alloc | apply Kd.V_drewN | apply Kd.V_drew)); exact HO222.out) (Kd.N_base ho0) hb)
            have n5_ := Aside0.mk (Kd.R_below (by (with_reducible repeat (first | apply Kd.R_alloc | apply Kd.R_drewN | apply Kd.R_drew)); exact HO226.out) hb)
            have n6_ := Aside0.mk (Kd.N_elder' (by (with_reducible repeat (first | apply Kd.N_alloc | apply Kd.N_drewN | apply Kd.N_drew)); exact HO232.out) (Kd.N_base ho0) hb)
            have n7_ := Aside0.mk (Kd.R_below (by (with_reducible repeat (first | apply Kd.R_alloc | apply Kd.R_drewN | apply Kd.R_drew)); exact HO235.out) hb)
            have n8_ := Aside0.mk (Kd.N_lower (Kd.N_mono (ok' := fun k_ => some k_ ≠ (.slice Ao41 y193.length co41 : Value).ownBlock ∧ some k_ ≠ (.slice Ao44 t196.length co44 : Value).ownBlock ∧ some k_ ≠ (.slice Ao48 t200.length co48 : Value).ownBlock ∧ some k_ ≠ (.slice Ao56 y214.length co56 : Value).ownBlock ∧ some k_ ≠ (.slice Ao61 t224.length co61 : Value).ownBlock ∧ some k_ ≠ (.slice Ao67 t230.length co67 : Value).ownBlock ∧ some k_ ≠ (.slice Ao69 t233.length co69 : Value).ownBlock ∧ k_ ≠ gb199 ∧ k_ ≠ gb203) ho0 (fun k_ hk_ => ⟨(Kd.fresh' (Kd.N_lt (by (with_reducible repeat (first | apply Kd.N_alloc | apply Kd.N_drewN | apply Kd.N_drew)); exact HO195.out)) k_ hk_), (Kd.fresh' (Kd.R_lt (by (with_reducible repeat (first | apply Kd.R_alloc | apply Kd.R_drewN | apply Kd.R_drew)); exact HO198.out)) k_ hk_), (Kd.fresh' (Kd.R_lt (by (with_reducible repeat (first | apply Kd.R_alloc | apply Kd.R_drewN | apply Kd.R_drew)); exact HO202.out)) k_ hk_), (Kd.fresh' (Kd.R_lt (by (with_reducible repeat (first | apply Kd.R_alloc | apply Kd.R_drewN | apply Kd.R_drew)); exact HO216.out)) k_ hk_), (Kd.fresh' (Kd.R_lt (by (with_reducible repeat (first | apply Kd.R_alloc | apply Kd.R_drewN | apply Kd.R_drew)); exact HO226.out)) k_ hk_), (Kd.fresh' (Kd.N_lt (by (with_reducible repeat (first | apply Kd.N_alloc | apply Kd.N_drewN | apply Kd.N_drew)); exact HO232.out)) k_ hk_), (Kd.fresh' (Kd.R_lt (by (with_reducible repeat (first | apply Kd.R_alloc | apply Kd.R_drewN | apply Kd.R_drew)); exact HO235.out)) k_ hk_), (Kd.freshB (g := gb199) (o := .cells #[.slice Ao44 t196.length co44] 28 (0, 0)) (by (with_reducible repeat (first | refine blk_drewN ?_ _ | refine blk_drew ?_ | refine blk_alloc ?_ _)); exact BK199.out) k_ hk_), (Kd.freshB (g := gb203) (o := .cells #[.slice Ao48 t200.length co48] 28 (0, 0)) (by (with_reducible repeat (first | refine blk_drewN ?_ _ | refine blk_drew ?_ | refine blk_alloc ?_ _)); exact BK203.out) k_ hk_)⟩)) (below_size (by repeat (first | (with_reducible first | exact HB.out | apply below_alloc | apply pw_below_drewN | apply below_drew1 | refine below_set ?_ GE199.out | refine below_set ?_ GE203.out) | exact HB.out))))
            have n9_ := Aside0.mk (blk_below (g := gb199) (o := .cells #[.slice Ao44 t196.length co44] 28 (0, 0)) (by (with_reducible repeat (first | refine blk_drewN ?_ _ | refine blk_drew ?_ | refine blk_alloc ?_ _)); exact BK199.out) hb)
            have n10_ := Aside0.mk (blk_below (g := gb203) (o := .cells #[.slice Ao48 t200.length co48] 28 (0, 0)) (by (with_reducible repeat (first | refine blk_drewN ?_ _ | refine blk_drew ?_ | refine blk_alloc ?_ _)); exact BK203.out) hb)
            have n11_ := Aside0.mk (below_step (by repeat (first | (with_reducible first | exact HB.out | apply below_alloc | apply pw_below_drewN | apply below_drew1 | refine below_set ?_ GE199.out | refine below_set ?_ GE203.out) | exact HB.out)) hb)
            clear HO195
            clear HO198
            clear HO202
            clear HO216
            clear HO222
            clear HO226
            clear HO232
            clear HO235
            clear BK199
            clear BK203
            clear HB
            have HO195 := n0_
            have HO198 := n1_
            have HO202 := n2_
            have HO216 := n3_
            have HO222 := n4_
            have HO226 := n5_
            have HO232 := n6_
            have HO235 := n7_
            have HO238 := n8_
            have BK199 := n9_
            have BK203 := n10_
            have HB := n11_
            clear n0_ n1_ n2_ n3_ n4_ n5_ n6_ n7_ n8_ n9_ n10_ n11_
            (try clear hb)
            (try clear hb2)
            (try clear hk)
            (try clear hi)
            (try clear ho0)
            obtain ⟨Ao71, co71, eo71⟩ := Kd.N_slice HO238.out
            (first | subst eo71 | (injection eo71 with f1_ f2_ f3_; have f4_ := f1_.symm; have f5_ := f3_.symm; clear f1_ f2_ f3_; subst f4_; subst f5_))
            refine hK.out _ _ ((blk_cell BK199.out 0).trans rfl) (fun hHeld => ?_)
            clear hK K
            refine norm_ (a' := ?_) ?_ ?_
            rotate_left
            ·show Act.put _ (some 67) _ = _
             simp only [Act.put, List.setIfInBounds_toArray, List.set_cons_zero, List.set_cons_succ, i64_w, i32_w]
             rfl
            refine two_ (i := 25) (j := 26) (Ni := some 68) (Nj := some 69) #[true, true, true, true, true, true, true, true, true, true, true, true, true, true, true, true, true, true, true, true, true, true, true, true, true, true, false, false, false, false, false, false, false, false, false, false, false, false] #[true, true, true, true, true, true, true, true, true, true, true, true, true, true, true, true, true, true, true, true, true, true, true, true, true, false, true, false, false, false, false, false, false, false, false, false, false, false] rfl rfl rfl rfl (two_of HT_.out (by kernel_rfl)) (by decide) (by decide) (fun K hK => ?_) (fun K hK => ?_)
            ·skip
             refine goes_ Try.func21 (by kernel_rfl) rfl #[.agg #[.slice Ao44 t196.length co44], .slice Ao71 t236.length co71] (by rfl) rfl rfl (by (try simp only [List.map_toArray, List.map_cons, List.map_nil]); first | done | rfl | (simp only [List.length_drop, List.length_take]; rfl)) ?_
             with_reducible refine (index_Affected.calls _ _ t196 _ _ t236 t239 _ ?side1 ?side2 ?side3 ?side4 A25.out).mono ?_
             (case side1 => repeat (first | exact (Kd.R_reads' HO198.out).2.2 | (with_reducible refine Kd.C_alloc ?_ _) | (with_reducible refine Kd.C_drewN ?_ _) | (with_reducible refine Kd.C_drew ?_)))
             (case side2 => exact (Kd.R_reads' HO198.out).2.1)
             (case side3 => repeat (first | exact (Kd.N_reads' HO238.out).2.2 | (with_reducible refine Kd.C_alloc ?_ _) | (with_reducible refine Kd.C_drewN ?_ _) | (with_reducible refine Kd.C_drew ?_)))
             (case side4 => exact (Kd.N_reads' HO238.out).2.1)
             rintro e w72 ⟨v240, rfl, ho0, hb⟩
             refine ⟨_, rfl, ?_⟩
             have n0_ := Aside0.mk (Kd.N_elder' (by (with_reducible repeat (first | apply Kd.N_alloc | apply Kd.N_drewN | apply Kd.N_drew)); exact HO195.out) (Kd.R_base ho0) hb)
             have n1_ := Aside0.mk (Kd.R_below (by (with_reducible repeat (first | apply Kd.R_alloc | apply Kd.R_drewN | apply Kd.R_drew)); exact HO198.out) hb)
             have n2_ := Aside0.mk (Kd.R_below (by (with_reducible repeat (first | apply Kd.R_alloc | apply Kd.R_drewN | apply Kd.R_drew)); exact HO202.out) hb)
             have n3_ := Aside0.mk (Kd.R_below (by (with_reducible repeat (first | apply Kd.R_alloc | apply Kd.R_drewN | apply Kd.R_drew)); exact HO216.out) hb)
             have n4_ := Aside0.mk (Kd.V_elder' (by (with_reducible repeat (first | apply Kd.V_alloc | apply Kd.V_drewN | apply Kd.V_drew)); exact HO222.out) (Kd.R_base ho0) hb)
             have n5_ := Aside0.mk (Kd.R_below (by (with_reducible repeat (first | apply Kd.R_alloc | apply Kd.R_drewN | apply Kd.R_drew)); exact HO226.out) hb)
             have n6_ := Aside0.mk (Kd.N_elder' (by (with_reducible repeat (first | apply Kd.N_alloc | apply Kd.N_drewN | apply Kd.N_drew)); exact HO232.out) (Kd.R_base ho0) hb)
             have n7_ := Aside0.mk (Kd.R_elder' (by (with_reducible repeat (first | apply Kd.R_alloc | apply Kd.R_drewN | apply Kd.R_drew)); exact HO235.out) (Kd.R_base ho0) hb)
             have n8_ := Aside0.mk (Kd.N_elder' (by (with_reducible repeat (first | apply Kd.N_alloc | apply Kd.N_drewN | apply Kd.N_drew)); exact HO238.out) (Kd.R_base ho0) hb)
             have n9_ := Aside0.mk (Kd.R_lower (Kd.R_new' ho0 (Kd.R_lt (by (with_reducible repeat (first | apply Kd.R_alloc | apply Kd.R_drewN | apply Kd.R_drew)); exact HO235.out))) (below_size (by repeat (first | (with_reducible first | exact HB.out | apply below_alloc | apply pw_below_drewN | apply below_drew1 | refine below_set ?_ GE199.out | refine below_set ?_ GE203.out) | exact HB.out))))
             have n10_ := Aside0.mk (blk_below (g := gb199) (o := .cells #[.slice Ao44 t196.length co44] 28 (0, 0)) (by (with_reducible repeat (first | refine blk_drewN ?_ _ | refine blk_drew ?_ | refine blk_alloc ?_ _)); exact BK199.out) hb)
             have n11_ := Aside0.mk (blk_below (g := gb203) (o := .cells #[.slice Ao48 t200.length co48] 28 (0, 0)) (by (with_reducible repeat (first | refine blk_drewN ?_ _ | refine blk_drew ?_ | refine blk_alloc ?_ _)); exact BK203.out) hb)
             have n12_ := Aside0.mk (below_step (by repeat (first | (with_reducible first | exact HB.out | apply below_alloc | apply pw_below_drewN | apply below_drew1 | refine below_set ?_ GE199.out | refine below_set ?_ GE203.out) | exact HB.out)) hb)
             clear HO195
             clear HO198
             clear HO202
             clear HO216
             clear HO222
             clear HO226
             clear HO232
             clear HO235
             clear HO238
             clear BK199
             clear BK203
             clear HB
             have HO195 := n0_
             have HO198 := n1_
             have HO202 := n2_
             have HO216 := n3_
             have HO222 := n4_
             have HO226 := n5_
             have HO232 := n6_
             have HO235 := n7_
             have HO238 := n8_
             have HO241 := n9_
             have BK199 := n10_
             have BK203 := n11_
             have HB := n12_
             clear n0_ n1_ n2_ n3_ n4_ n5_ n6_ n7_ n8_ n9_ n10_ n11_ n12_
             (try clear hb)
             (try clear hb2)
             (try clear hk)
             (try clear hi)
             (try clear ho0)
             refine hK.out _ _ ((blk_cell BK199.out 0).trans rfl) (fun hHeld => ?_)
             clear hK K
             refine norm_ (a' := ?_) ?_ ?_
             rotate_left
             ·show Act.put _ (some 68) _ = _
              simp only [Act.put, List.setIfInBounds_toArray, List.set_cons_zero, List.set_cons_succ, i64_w, i32_w]
              rfl
             refine one_ (i := 26) (N := some 69) #[true, true, true, true, true, true, true, true, true, true, true, true, true, true, true, true, true, true, true, true, true, true, true, true, true, true, true, false, false, false, false, false, false, false, false, false, false, false] rfl rfl (one_of HT_.out (by kernel_rfl)) (by decide) (fun K hK => ?_)
             refine Kd.R_lit_step (Kd.int .i64) _ 3 ?hg (N := 69) ?hd (xs := ([0] : List Int)) (inner := [.int .i64 0]) (ok := fun _ => True) (okp := fun _ => True) ?hr ?hp (fun _ hk => hk) trivial (Below.refl _ _) (Nat.le_refl _) (by simp) ?_; (case hd => rfl); (case hg => rfl); (case hr => first | (go_simp; done) | (go_simp; rfl)); (case hp => exact (Reps.one (show Kd.M (Kd.int .i64) _ _ _ 0 [.int .i64 0] from rfl) (Reps.none _ _)))
             intro v243 w73 ho74 hb hg_ hnew_
             clear hg_ hnew_
             (first | rw [← Ny242.out] at ho74 | (simp only [Int.reduceToNat] at ho74; rw [← Ny242.out] at ho74))
             have n0_ := Aside0.mk (Kd.N_elder' (by (with_reducible repeat (first | apply Kd.N_alloc | apply Kd.N_drewN | apply Kd.N_drew)); exact HO195.out) (Kd.R_base ho74) hb)
             have n1_ := Aside0.mk (Kd.R_below (by (with_reducible repeat (first | apply Kd.R_alloc | apply Kd.R_drewN | apply Kd.R_drew)); exact HO198.out) hb)
             have n2_ := Aside0.mk (Kd.R_below (by (with_reducible repeat (first | apply Kd.R_alloc | apply Kd.R_drewN | apply Kd.R_drew)); exact HO202.out) hb)
             have n3_ := Aside0.mk (Kd.R_below (by (with_reducible repeat (first | apply Kd.R_alloc | apply Kd.R_drewN | apply Kd.R_drew)); exact HO216.out) hb)
             have n4_ := Aside0.mk (Kd.V_elder' (by (with_reducible repeat (first | apply Kd.V_alloc | apply Kd.V_drewN | apply Kd.V_drew)); exact HO222.out) (Kd.R_base ho74) hb)
             have n5_ := Aside0.mk (Kd.R_below (by (with_reducible repeat (first | apply Kd.R_alloc | apply Kd.R_drewN | apply Kd.R_drew)); exact HO226.out) hb)
             have n6_ := Aside0.mk (Kd.N_elder' (by (with_reducible repeat (first | apply Kd.N_alloc | apply Kd.N_drewN | apply Kd.N_drew)); exact HO232.out) (Kd.R_base ho74) hb)
             have n7_ := Aside0.mk (Kd.R_elder' (by (with_reducible repeat (first | apply Kd.R_alloc | apply Kd.R_drewN | apply Kd.R_drew)); exact HO235.out) (Kd.R_base ho74) hb)
             have n8_ := Aside0.mk (Kd.N_elder' (by (with_reducible repeat (first | apply Kd.N_alloc | apply Kd.N_drewN | apply Kd.N_drew)); exact HO238.out) (Kd.R_base ho74) hb)
             have n9_ := Aside0.mk (Kd.R_elder' (by (with_reducible repeat (first | apply Kd.R_alloc | apply Kd.R_drewN | apply Kd.R_drew)); exact HO241.out) (Kd.R_base ho74) hb)
             have n10_ := Aside0.mk (Kd.R_lower (Kd.R_new' (Kd.R_new' ho74 (Kd.R_lt (by (with_reducible repeat (first | apply Kd.R_alloc | apply Kd.R_drewN | apply Kd.R_drew)); exact HO235.out))) (Kd.R_lt (by (with_reducible repeat (first | apply Kd.R_alloc | apply Kd.R_drewN | apply Kd.R_drew)); exact HO241.out))) (below_size (by repeat (first | (with_reducible first | exact HB.out | apply below_alloc | apply pw_below_drewN | apply below_drew1 | refine below_set ?_ GE199.out | refine below_set ?_ GE203.out) | exact HB.out))))
             have n11_ := Aside0.mk (blk_below (g := gb199) (o := .cells #[.slice Ao44 t196.length co44] 28 (0, 0)) (by (with_reducible repeat (first | refine blk_drewN ?_ _ | refine blk_drew ?_ | refine blk_alloc ?_ _)); exact BK199.out) hb)
             have n12_ := Aside0.mk (blk_below (g := gb203) (o := .cells #[.slice Ao48 t200.length co48] 28 (0, 0)) (by (with_reducible repeat (first | refine blk_drewN ?_ _ | refine blk_drew ?_ | refine blk_alloc ?_ _)); exact BK203.out) hb)
             have n13_ := Aside0.mk (below_step (by repeat (first | (with_reducible first | exact HB.out | apply below_alloc | apply pw_below_drewN | apply below_drew1 | refine below_set ?_ GE199.out | refine below_set ?_ GE203.out) | exact HB.out)) hb)
             clear HO195
             clear HO198
             clear HO202
             clear HO216
             clear HO222
             clear HO226
             clear HO232
             clear HO235
             clear HO238
             clear HO241
             clear BK199
             clear BK203
             clear HB
             have HO195 := n0_
             have HO198 := n1_
             have HO202 := n2_
             have HO216 := n3_
             have HO222 := n4_
             have HO226 := n5_
             have HO232 := n6_
             have HO235 := n7_
             have HO238 := n8_
             have HO241 := n9_
             have HO244 := n10_
             have BK199 := n11_
             have BK203 := n12_
             have HB := n13_
             clear n0_ n1_ n2_ n3_ n4_ n5_ n6_ n7_ n8_ n9_ n10_ n11_ n12_ n13_
             clear hb ho74
             refine hK.out _ _ ((blk_cell BK199.out 0).trans rfl) (fun hHeld => ?_)
             clear hK K
             refine norm_ (a' := ?_) ?_ ?_
             rotate_left
             ·show Act.put _ (some 69) _ = _
              simp only [Act.put, List.setIfInBounds_toArray, List.set_cons_zero, List.set_cons_succ, i64_w, i32_w]
              rfl
             exact norm_ (by simp only [putAll, Act.put, List.setIfInBounds_toArray, List.set_cons_zero, List.set_cons_succ]) (hCont (.slice Ao71 t236.length co71, v240, v243) _ ⟨hHeld, (by (with_reducible repeat (first | apply Kd.N_alloc | apply Kd.N_drewN | apply Kd.N_drew)); exact Kd.N_mono HO195.out (fun _ hk => ⟨hk.1.1.1.1.1.1.1.1.1.1.2, ⟨hk.1.1.1.1.1.1.1.1.2, ⟨hk.1.1.1.1.1.1.2, ⟨hk.1.1.1.1.1.2, ⟨hk.1.1.1.1.2, ⟨hk.1.1.1.2, ⟨hk.1.1.2, ⟨hk.1.2, ⟨hk.2, ⟨hk.1.1.1.1.1.1.1.1.1.2, hk.1.1.1.1.1.1.1.2⟩⟩⟩⟩⟩⟩⟩⟩⟩⟩)), (by (with_reducible repeat (first | apply Kd.R_alloc | apply Kd.R_drewN | apply Kd.R_drew)); exact Kd.R_mono HO198.out (fun _ hk => ⟨hk.1.1.2, ⟨hk.1.2, hk.2⟩⟩)), (by (with_reducible repeat (first | apply Kd.R_alloc | apply Kd.R_drewN | apply Kd.R_drew)); exact Kd.R_mono HO202.out (fun _ hk => ⟨hk.1.1.2, ⟨hk.1.2, hk.2⟩⟩)), (by (with_reducible repeat (first | apply Kd.R_alloc | apply Kd.R_drewN | apply Kd.R_drew)); exact Kd.R_mono HO216.out (fun _ hk => ⟨hk.1.1.2, ⟨hk.1.2, hk.2⟩⟩)), (by (with_reducible repeat (first | apply Kd.V_alloc | apply Kd.V_drewN | apply Kd.V_drew)); exact Kd.V_mono HO222.out (fun _ hk => ⟨hk.1.1.1.1.1.1.1.1.2, ⟨hk.1.1.1.1.1.1.1.1.1.1.2, ⟨hk.1.1.1.1.1.1.1.1.1.2, ⟨hk.1.1.1.1.1.2, ⟨hk.1.1.1.1.2, ⟨hk.1.1.1.2, ⟨hk.1.1.2, ⟨hk.1.2, ⟨hk.2, ⟨hk.1.1.1.1.1.1.1.2, hk.1.1.1.1.1.1.2⟩⟩⟩⟩⟩⟩⟩⟩⟩⟩)), (by (with_reducible repeat (first | apply Kd.R_alloc | apply Kd.R_drewN | apply Kd.R_drew)); exact Kd.R_mono HO226.out (fun _ hk => ⟨hk.1.1.2, ⟨hk.1.2, hk.2⟩⟩)), (by (with_reducible repeat (first | apply Kd.N_alloc | apply Kd.N_drewN | apply Kd.N_drew)); exact Kd.N_mono HO232.out (fun _ hk => ⟨hk.1.1.1.1.1, ⟨hk.1.1.1.1.2.1, ⟨hk.1.1.1.1.2.2.1, ⟨hk.1.1.1.1.2.2.2.1, ⟨hk.1.1.1.1.2.2.2.2.1, ⟨hk.1.1.1.2, ⟨hk.1.1.2, ⟨hk.1.2, ⟨hk.2, ⟨hk.1.1.1.1.2.2.2.2.2.1, hk.1.1.1.1.2.2.2.2.2.2⟩⟩⟩⟩⟩⟩⟩⟩⟩⟩)), (by (with_reducible repeat (first | apply Kd.R_alloc | apply Kd.R_drewN | apply Kd.R_drew)); exact Kd.R_mono HO235.out (fun _ hk => ⟨hk.1.2, hk.2⟩)), (by (with_reducible repeat (first | apply Kd.N_alloc | apply Kd.N_drewN | apply Kd.N_drew)); exact Kd.N_mono HO238.out (fun _ hk => ⟨hk.1.1.1, ⟨hk.1.1.2.1, ⟨hk.1.1.2.2.1, ⟨hk.1.1.2.2.2.1, ⟨hk.1.1.2.2.2.2.1, ⟨hk.1.1.2.2.2.2.2.1, ⟨hk.1.1.2.2.2.2.2.2.1, ⟨hk.1.2, ⟨hk.2, ⟨hk.1.1.2.2.2.2.2.2.2.1, hk.1.1.2.2.2.2.2.2.2.2⟩⟩⟩⟩⟩⟩⟩⟩⟩⟩)), (by (with_reducible repeat (first | apply Kd.R_alloc | apply Kd.R_drewN | apply Kd.R_drew)); exact Kd.R_mono HO241.out (fun _ hk => ⟨hk.1.2, hk.2⟩)), (by (with_reducible repeat (first | apply Kd.R_alloc | apply Kd.R_drewN | apply Kd.R_drew)); exact Kd.R_mono HO244.out (fun _ hk => ⟨hk.1.2, hk.2⟩)), (by (with_reducible repeat (first | refine blk_drewN ?_ _ | refine blk_drew ?_ | refine blk_alloc ?_ _)); exact BK199.out), (by (with_reducible repeat (first | refine blk_drewN ?_ _ | refine blk_drew ?_ | refine blk_alloc ?_ _)); exact BK203.out), (by repeat (first | (with_reducible first | exact HB.out | apply below_alloc | apply pw_below_drewN | apply below_drew1 | refine below_set ?_ GE199.out | refine below_set ?_ GE203.out) | exact HB.out))⟩)
            ·skip
             refine Kd.R_lit_step (Kd.int .i64) _ 3 ?hg (N := 69) ?hd (xs := ([0] : List Int)) (inner := [.int .i64 0]) (ok := fun _ => True) (okp := fun _ => True) ?hr ?hp (fun _ hk => hk) trivial (Below.refl _ _) (Nat.le_refl _) (by simp) ?_; (case hd => rfl); (case hg => rfl); (case hr => first | (go_simp; done) | (go_simp; rfl)); (case hp => exact (Reps.one (show Kd.M (Kd.int .i64) _ _ _ 0 [.int .i64 0] from rfl) (Reps.none _ _)))
             intro v243 w71 ho72 hb hg_ hnew_
             clear hg_ hnew_
             (first | rw [← Ny242.out] at ho72 | (simp only [Int.reduceToNat] at ho72; rw [← Ny242.out] at ho72))
             have n0_ := Aside0.mk (Kd.N_elder' (by (with_reducible repeat (first | apply Kd.N_alloc | apply Kd.N_drewN | apply Kd.N_drew)); exact HO195.out) (Kd.R_base ho72) hb)
             have n1_ := Aside0.mk (Kd.R_below (by (with_reducible repeat (first | apply Kd.R_alloc | apply Kd.R_drewN | apply Kd.R_drew)); exact HO198.out) hb)
             have n2_ := Aside0.mk (Kd.R_below (by (with_reducible repeat (first | apply Kd.R_alloc | apply Kd.R_drewN | apply Kd.R_drew)); exact HO202.out) hb)
             have n3_ := Aside0.mk (Kd.R_below (by (with_reducible repeat (first | apply Kd.R_alloc | apply Kd.R_drewN | apply Kd.R_drew)); exact HO216.out) hb)
             have n4_ := Aside0.mk (Kd.V_elder' (by (with_reducible repeat (first | apply Kd.V_alloc | apply Kd.V_drewN | apply Kd.V_drew)); exact HO222.out) (Kd.R_base ho72) hb)
             have n5_ := Aside0.mk (Kd.R_below (by (with_reducible repeat (first | apply Kd.R_alloc | apply Kd.R_drewN | apply Kd.R_drew)); exact HO226.out) hb)
             have n6_ := Aside0.mk (Kd.N_elder' (by (with_reducible repeat (first | apply Kd.N_alloc | apply Kd.N_drewN | apply Kd.N_drew)); exact HO232.out) (Kd.R_base ho72) hb)
             have n7_ := Aside0.mk (Kd.R_elder' (by (with_reducible repeat (first | apply Kd.R_alloc | apply Kd.R_drewN | apply Kd.R_drew)); exact HO235.out) (Kd.R_base ho72) hb)
             have n8_ := Aside0.mk (Kd.N_elder' (by (with_reducible repeat (first | apply Kd.N_alloc | apply Kd.N_drewN | apply Kd.N_drew)); exact HO238.out) (Kd.R_base ho72) hb)
             have n9_ := Aside0.mk (Kd.R_lower (Kd.R_new' ho72 (Kd.R_lt (by (with_reducible repeat (first | apply Kd.R_alloc | apply Kd.R_drewN | apply Kd.R_drew)); exact HO235.out))) (below_size (by repeat (first | (with_reducible first | exact HB.out | apply below_alloc | apply pw_below_drewN | apply below_drew1 | refine below_set ?_ GE199.out | refine below_set ?_ GE203.out) | exact HB.out))))
             have n10_ := Aside0.mk (blk_below (g := gb199) (o := .cells #[.slice Ao44 t196.length co44] 28 (0, 0)) (by (with_reducible repeat (first | refine blk_drewN ?_ _ | refine blk_drew ?_ | refine blk_alloc ?_ _)); exact BK199.out) hb)
             have n11_ := Aside0.mk (blk_below (g := gb203) (o := .cells #[.slice Ao48 t200.length co48] 28 (0, 0)) (by (with_reducible repeat (first | refine blk_drewN ?_ _ | refine blk_drew ?_ | refine blk_alloc ?_ _)); exact BK203.out) hb)
             have n12_ := Aside0.mk (below_step (by repeat (first | (with_reducible first | exact HB.out | apply below_alloc | apply pw_below_drewN | apply below_drew1 | refine below_set ?_ GE199.out | refine below_set ?_ GE203.out) | exact HB.out)) hb)
             clear HO195
             clear HO198
             clear HO202
             clear HO216
             clear HO222
             clear HO226
             clear HO232
             clear HO235
             clear HO238
             clear BK199
             clear BK203
             clear HB
             have HO195 := n0_
             have HO198 := n1_
             have HO202 := n2_
             have HO216 := n3_
             have HO222 := n4_
             have HO226 := n5_
             have HO232 := n6_
             have HO235 := n7_
             have HO238 := n8_
             have HO244 := n9_
             have BK199 := n10_
             have BK203 := n11_
             have HB := n12_
             clear n0_ n1_ n2_ n3_ n4_ n5_ n6_ n7_ n8_ n9_ n10_ n11_ n12_
             clear hb ho72
             obtain ⟨Ao73, co73, eo73⟩ := Kd.N_slice HO238.out
             (first | subst eo73 | (injection eo73 with f1_ f2_ f3_; have f4_ := f1_.symm; have f5_ := f3_.symm; clear f1_ f2_ f3_; subst f4_; subst f5_))
             refine hK.out _ _ ((blk_cell BK199.out 0).trans rfl) (fun hHeld => ?_)
             clear hK K
             refine norm_ (a' := ?_) ?_ ?_
             rotate_left
             ·show Act.put _ (some 69) _ = _
              simp only [Act.put, List.setIfInBounds_toArray, List.set_cons_zero, List.set_cons_succ, i64_w, i32_w]
              rfl
             refine one_ (i := 25) (N := some 68) #[true, true, true, true, true, true, true, true, true, true, true, true, true, true, true, true, true, true, true, true, true, true, true, true, true, true, true, false, false, false, false, false, false, false, false, false, false, false] rfl rfl (one_of HT_.out (by kernel_rfl)) (by decide) (fun K hK => ?_)
             refine goes_ Try.func21 (by kernel_rfl) rfl #[.agg #[.slice Ao44 t196.length co44], .slice Ao73 t236.length co73] (by rfl) rfl rfl (by (try simp only [List.map_toArray, List.map_cons, List.map_nil]); first | done | rfl | (simp only [List.length_drop, List.length_take]; rfl)) ?_
             with_reducible refine (index_Affected.calls _ _ t196 _ _ t236 t239 _ ?side1 ?side2 ?side3 ?side4 A25.out).mono ?_
             (case side1 => repeat (first | exact (Kd.R_reads' HO198.out).2.2 | (with_reducible refine Kd.C_alloc ?_ _) | (with_reducible refine Kd.C_drewN ?_ _) | (with_reducible refine Kd.C_drew ?_)))
             (case side2 => exact (Kd.R_reads' HO198.out).2.1)
             (case side3 => repeat (first | exact (Kd.N_reads' HO238.out).2.2 | (with_reducible refine Kd.C_alloc ?_ _) | (with_reducible refine Kd.C_drewN ?_ _) | (with_reducible refine Kd.C_drew ?_)))
             (case side4 => exact (Kd.N_reads' HO238.out).2.1)
             rintro e w74 ⟨v240, rfl, ho0, hb⟩
             refine ⟨_, rfl, ?_⟩
             have n0_ := Aside0.mk (Kd.N_elder' (by (with_reducible repeat (first | apply Kd.N_alloc | apply Kd.N_drewN | apply Kd.N_drew)); exact HO195.out) (Kd.R_base ho0) hb)
             have n1_ := Aside0.mk (Kd.R_below (by (with_reducible repeat (first | apply Kd.R_alloc | apply Kd.R_drewN | apply Kd.R_drew)); exact HO198.out) hb)
             have n2_ := Aside0.mk (Kd.R_below (by (with_reducible repeat (first | apply Kd.R_alloc | apply Kd.R_drewN | apply Kd.R_drew)); exact HO202.out) hb)
             have n3_ := Aside0.mk (Kd.R_below (by (with_reducible repeat (first | apply Kd.R_alloc | apply Kd.R_drewN | apply Kd.R_drew)); exact HO216.out) hb)
             have n4_ := Aside0.mk (Kd.V_elder' (by (with_reducible repeat (first | apply Kd.V_alloc | apply Kd.V_drewN | apply Kd.V_drew)); exact HO222.out) (Kd.R_base ho0) hb)
             have n5_ := Aside0.mk (Kd.R_below (by (with_reducible repeat (first | apply Kd.R_alloc | apply Kd.R_drewN | apply Kd.R_drew)); exact HO226.out) hb)
             have n6_ := Aside0.mk (Kd.N_elder' (by (with_reducible repeat (first | apply Kd.N_alloc | apply Kd.N_drewN | apply Kd.N_drew)); exact HO232.out) (Kd.R_base ho0) hb)
             have n7_ := Aside0.mk (Kd.R_elder' (by (with_reducible repeat (first | apply Kd.R_alloc | apply Kd.R_drewN | apply Kd.R_drew)); exact HO235.out) (Kd.R_base ho0) hb)
             have n8_ := Aside0.mk (Kd.N_elder' (by (with_reducible repeat (first | apply Kd.N_alloc | apply Kd.N_drewN | apply Kd.N_drew)); exact HO238.out) (Kd.R_base ho0) hb)
             have n9_ := Aside0.mk (Kd.R_elder' (by (with_reducible repeat (first | apply Kd.R_alloc | apply Kd.R_drewN | apply Kd.R_drew)); exact HO244.out) (Kd.R_base ho0) hb)
             have n10_ := Aside0.mk (Kd.R_lower (Kd.R_new' (Kd.R_new' ho0 (Kd.R_lt (by (with_reducible repeat (first | apply Kd.R_alloc | apply Kd.R_drewN | apply Kd.R_drew)); exact HO235.out))) (Kd.R_lt (by (with_reducible repeat (first | apply Kd.R_alloc | apply Kd.R_drewN | apply Kd.R_drew)); exact HO244.out))) (below_size (by repeat (first | (with_reducible first | exact HB.out | apply below_alloc | apply pw_below_drewN | apply below_drew1 | refine below_set ?_ GE199.out | refine below_set ?_ GE203.out) | exact HB.out))))
             have n11_ := Aside0.mk (blk_below (g := gb199) (o := .cells #[.slice Ao44 t196.length co44] 28 (0, 0)) (by (with_reducible repeat (first | refine blk_drewN ?_ _ | refine blk_drew ?_ | refine blk_alloc ?_ _)); exact BK199.out) hb)
             have n12_ := Aside0.mk (blk_below (g := gb203) (o := .cells #[.slice Ao48 t200.length co48] 28 (0, 0)) (by (with_reducible repeat (first | refine blk_drewN ?_ _ | refine blk_drew ?_ | refine blk_alloc ?_ _)); exact BK203.out) hb)
             have n13_ := Aside0.mk (below_step (by repeat (first | (with_reducible first | exact HB.out | apply below_alloc | apply pw_below_drewN | apply below_drew1 | refine below_set ?_ GE199.out | refine below_set ?_ GE203.out) | exact HB.out)) hb)
             clear HO195
             clear HO198
             clear HO202
             clear HO216
             clear HO222
             clear HO226
             clear HO232
             clear HO235
             clear HO238
             clear HO244
             clear BK199
             clear BK203
             clear HB
             have HO195 := n0_
             have HO198 := n1_
             have HO202 := n2_
             have HO216 := n3_
             have HO222 := n4_
             have HO226 := n5_
             have HO232 := n6_
             have HO235 := n7_
             have HO238 := n8_
             have HO244 := n9_
             have HO241 := n10_
             have BK199 := n11_
             have BK203 := n12_
             have HB := n13_
             clear n0_ n1_ n2_ n3_ n4_ n5_ n6_ n7_ n8_ n9_ n10_ n11_ n12_ n13_
             (try clear hb)
             (try clear hb2)
             (try clear hk)
             (try clear hi)
             (try clear ho0)
             refine hK.out _ _ ((blk_cell BK199.out 0).trans rfl) (fun hHeld => ?_)
             clear hK K
             refine norm_ (a' := ?_) ?_ ?_
             rotate_left
             ·show Act.put _ (some 68) _ = _
              simp only [Act.put, List.setIfInBounds_toArray, List.set_cons_zero, List.set_cons_succ, i64_w, i32_w]
              rfl
             exact norm_ (by simp only [putAll, Act.put, List.setIfInBounds_toArray, List.set_cons_zero, List.set_cons_succ]) (hCont (.slice Ao73 t236.length co73, v240, v243) _ ⟨hHeld, (by (with_reducible repeat (first | apply Kd.N_alloc | apply Kd.N_drewN | apply Kd.N_drew)); exact Kd.N_mono HO195.out (fun _ hk => ⟨hk.1.1.1.1.1.1.1.1.1.1.2, ⟨hk.1.1.1.1.1.1.1.1.2, ⟨hk.1.1.1.1.1.1.2, ⟨hk.1.1.1.1.1.2, ⟨hk.1.1.1.1.2, ⟨hk.1.1.1.2, ⟨hk.1.1.2, ⟨hk.2, ⟨hk.1.2, ⟨hk.1.1.1.1.1.1.1.1.1.2, hk.1.1.1.1.1.1.1.2⟩⟩⟩⟩⟩⟩⟩⟩⟩⟩)), (by (with_reducible repeat (first | apply Kd.R_alloc | apply Kd.R_drewN | apply Kd.R_drew)); exact Kd.R_mono HO198.out (fun _ hk => ⟨hk.1.1.2, ⟨hk.1.2, hk.2⟩⟩)), (by (with_reducible repeat (first | apply Kd.R_alloc | apply Kd.R_drewN | apply Kd.R_drew)); exact Kd.R_mono HO202.out (fun _ hk => ⟨hk.1.1.2, ⟨hk.1.2, hk.2⟩⟩)), (by (with_reducible repeat (first | apply Kd.R_alloc | apply Kd.R_drewN | apply Kd.R_drew)); exact Kd.R_mono HO216.out (fun _ hk => ⟨hk.1.1.2, ⟨hk.1.2, hk.2⟩⟩)), (by (with_reducible repeat (first | apply Kd.V_alloc | apply Kd.V_drewN | apply Kd.V_drew)); exact Kd.V_mono HO222.out (fun _ hk => ⟨hk.1.1.1.1.1.1.1.1.2, ⟨hk.1.1.1.1.1.1.1.1.1.1.2, ⟨hk.1.1.1.1.1.1.1.1.1.2, ⟨hk.1.1.1.1.1.2, ⟨hk.1.1.1.1.2, ⟨hk.1.1.1.2, ⟨hk.1.1.2, ⟨hk.2, ⟨hk.1.2, ⟨hk.1.1.1.1.1.1.1.2, hk.1.1.1.1.1.1.2⟩⟩⟩⟩⟩⟩⟩⟩⟩⟩)), (by (with_reducible repeat (first | apply Kd.R_alloc | apply Kd.R_drewN | apply Kd.R_drew)); exact Kd.R_mono HO226.out (fun _ hk => ⟨hk.1.1.2, ⟨hk.1.2, hk.2⟩⟩)), (by (with_reducible repeat (first | apply Kd.N_alloc | apply Kd.N_drewN | apply Kd.N_drew)); exact Kd.N_mono HO232.out (fun _ hk => ⟨hk.1.1.1.1.1, ⟨hk.1.1.1.1.2.1, ⟨hk.1.1.1.1.2.2.1, ⟨hk.1.1.1.1.2.2.2.1, ⟨hk.1.1.1.1.2.2.2.2.1, ⟨hk.1.1.1.2, ⟨hk.1.1.2, ⟨hk.2, ⟨hk.1.2, ⟨hk.1.1.1.1.2.2.2.2.2.1, hk.1.1.1.1.2.2.2.2.2.2⟩⟩⟩⟩⟩⟩⟩⟩⟩⟩)), (by (with_reducible repeat (first | apply Kd.R_alloc | apply Kd.R_drewN | apply Kd.R_drew)); exact Kd.R_mono HO235.out (fun _ hk => ⟨hk.2, hk.1.2⟩)), (by (with_reducible repeat (first | apply Kd.N_alloc | apply Kd.N_drewN | apply Kd.N_drew)); exact Kd.N_mono HO238.out (fun _ hk => ⟨hk.1.1.1, ⟨hk.1.1.2.1, ⟨hk.1.1.2.2.1, ⟨hk.1.1.2.2.2.1, ⟨hk.1.1.2.2.2.2.1, ⟨hk.1.1.2.2.2.2.2.1, ⟨hk.1.1.2.2.2.2.2.2.1, ⟨hk.2, ⟨hk.1.2, ⟨hk.1.1.2.2.2.2.2.2.2.1, hk.1.1.2.2.2.2.2.2.2.2⟩⟩⟩⟩⟩⟩⟩⟩⟩⟩)), (by (with_reducible repeat (first | apply Kd.R_alloc | apply Kd.R_drewN | apply Kd.R_drew)); exact Kd.R_mono HO241.out (fun _ hk => ⟨hk.1.2, hk.2⟩)), (by (with_reducible repeat (first | apply Kd.R_alloc | apply Kd.R_drewN | apply Kd.R_drew)); exact Kd.R_mono HO244.out (fun _ hk => ⟨hk.1.2, hk.2⟩)), (by (with_reducible repeat (first | refine blk_drewN ?_ _ | refine blk_drew ?_ | refine blk_alloc ?_ _)); exact BK199.out), (by (with_reducible repeat (first | refine blk_drewN ?_ _ | refine blk_drew ?_ | refine blk_alloc ?_ _)); exact BK203.out), (by repeat (first | (with_reducible first | exact HB.out | apply below_alloc | apply pw_below_drewN | apply below_drew1 | refine below_set ?_ GE199.out | refine below_set ?_ GE203.out) | exact HB.out))⟩)
           ·skip
            refine Kd.R_lit_step (Kd.int .i64) _ 3 ?hg (N := 69) ?hd (xs := ([0] : List Int)) (inner := [.int .i64 0]) (ok := fun _ => True) (okp := fun _ => True) ?hr ?hp (fun _ hk => hk) trivial (Below.refl _ _) (Nat.le_refl _) (by simp) ?_; (case hd => rfl); (case hg => rfl); (case hr => first | (go_simp; done) | (go_simp; rfl)); (case hp => exact (Reps.one (show Kd.M (Kd.int .i64) _ _ _ 0 [.int .i64 0] from rfl) (Reps.none _ _)))
            intro v243 w70 ho71 hb hg_ hnew_
            clear hg_ hnew_
            (first | rw [← Ny242.out] at ho71 | (simp only [Int.reduceToNat] at ho71; rw [← Ny242.out] at ho71))
            have n0_ := Aside0.mk (Kd.N_elder' (by (with_reducible repeat (first | apply Kd.N_alloc | apply Kd.N_drewN | apply Kd.N_drew)); exact HO195.out) (Kd.R_base ho71) hb)
            have n1_ := Aside0.mk (Kd.R_below (by (with_reducible repeat (first | apply Kd.R_alloc | apply Kd.R_drewN | apply Kd.R_drew)); exact HO198.out) hb)
            have n2_ := Aside0.mk (Kd.R_below (by (with_reducible repeat (first | apply Kd.R_alloc | apply Kd.R_drewN | apply Kd.R_drew)); exact HO202.out) hb)
            have n3_ := Aside0.mk (Kd.R_below (by (with_reducible repeat (first | apply Kd.R_alloc | apply Kd.R_drewN | apply Kd.R_drew)); exact HO216.out) hb)
            have n4_ := Aside0.mk (Kd.V_elder' (by (with_reducible repeat (first | apply Kd.V_alloc | apply Kd.V_drewN | apply Kd.V_drew)); exact HO222.out) (Kd.R_base ho71) hb)
            have n5_ := Aside0.mk (Kd.R_below (by (with_reducible repeat (first | apply Kd.R_alloc | apply Kd.R_drewN | apply Kd.R_drew)); exact HO226.out) hb)
            have n6_ := Aside0.mk (Kd.N_elder' (by (with_reducible repeat (first | apply Kd.N_alloc | apply Kd.N_drewN | apply Kd.N_drew)); exact HO232.out) (Kd.R_base ho71) hb)
            have n7_ := Aside0.mk (Kd.R_elder' (by (with_reducible repeat (first | apply Kd.R_alloc | apply Kd.R_drewN | apply Kd.R_drew)); exact HO235.out) (Kd.R_base ho71) hb)
            have n8_ := Aside0.mk (Kd.R_lower (Kd.R_new' ho71 (Kd.R_lt (by (with_reducible repeat (first | apply Kd.R_alloc | apply Kd.R_drewN | apply Kd.R_drew)); exact HO235.out))) (below_size (by repeat (first | (with_reducible first | exact HB.out | apply below_alloc | apply pw_below_drewN | apply below_drew1 | refine below_set ?_ GE199.out | refine below_set ?_ GE203.out) | exact HB.out))))
            have n9_ := Aside0.mk (blk_below (g := gb199) (o := .cells #[.slice Ao44 t196.length co44] 28 (0, 0)) (by (with_reducible repeat (first | refine blk_drewN ?_ _ | refine blk_drew ?_ | refine blk_alloc ?_ _)); exact BK199.out) hb)
            have n10_ := Aside0.mk (blk_below (g := gb203) (o := .cells #[.slice Ao48 t200.length co48] 28 (0, 0)) (by (with_reducible repeat (first | refine blk_drewN ?_ _ | refine blk_drew ?_ | refine blk_alloc ?_ _)); exact BK203.out) hb)
            have n11_ := Aside0.mk (below_step (by repeat (first | (with_reducible first | exact HB.out | apply below_alloc | apply pw_below_drewN | apply below_drew1 | refine below_set ?_ GE199.out | refine below_set ?_ GE203.out) | exact HB.out)) hb)
            clear HO195
            clear HO198
            clear HO202
            clear HO216
            clear HO222
            clear HO226
            clear HO232
            clear HO235
            clear BK199
            clear BK203
            clear HB
            have HO195 := n0_
            have HO198 := n1_
            have HO202 := n2_
            have HO216 := n3_
            have HO222 := n4_
            have HO226 := n5_
            have HO232 := n6_
            have HO235 := n7_
            have HO244 := n8_
            have BK199 := n9_
            have BK203 := n10_
            have HB := n11_
            clear n0_ n1_ n2_ n3_ n4_ n5_ n6_ n7_ n8_ n9_ n10_ n11_
            clear hb ho71
            refine hK.out _ _ ((blk_cell BK199.out 0).trans rfl) (fun hHeld => ?_)
            clear hK K
            refine norm_ (a' := ?_) ?_ ?_
            rotate_left
            ·show Act.put _ (some 69) _ = _
             simp only [Act.put, List.setIfInBounds_toArray, List.set_cons_zero, List.set_cons_succ, i64_w, i32_w]
             rfl
            refine one_ (i := 24) (N := some 67) #[true, true, true, true, true, true, true, true, true, true, true, true, true, true, true, true, true, true, true, true, true, true, true, true, true, false, true, false, false, false, false, false, false, false, false, false, false, false] rfl rfl (one_of HT_.out (by kernel_rfl)) (by decide) (fun K hK => ?_)
            refine goesV_ Try.func27 (by kernel_rfl) rfl #[.int .i64 4] (by rfl) rfl rfl rfl (by (try simp only [List.map_toArray, List.map_cons, List.map_nil]); first | done | rfl | (simp only [List.length_drop, List.length_take]; rfl)) ?_
            with_reducible refine (sizarlaw35_sane_1.calls 4 t236 _ A24.out).mono ?_
            rintro e w72 ⟨v237, rfl, ho0, hb⟩
            refine ⟨_, rfl, ?_⟩
            have n0_ := Aside0.mk (Kd.N_elder' (by (with_reducible repeat (first | apply Kd.N_alloc | apply Kd.N_drewN | apply Kd.N_drew)); exact HO195.out) (Kd.N_base ho0) hb)
            have n1_ := Aside0.mk (Kd.R_below (by (with_reducible repeat (first | apply Kd.R_alloc | apply Kd.R_drewN | apply Kd.R_drew)); exact HO198.out) hb)
            have n2_ := Aside0.mk (Kd.R_below (by (with_reducible repeat (first | apply Kd.R_alloc | apply Kd.R_drewN | apply Kd.R_drew)); exact HO202.out) hb)
            have n3_ := Aside0.mk (Kd.R_below (by (with_reducible repeat (first | apply Kd.R_alloc | apply Kd.R_drewN | apply Kd.R_drew)); exact HO216.out) hb)
            have n4_ := Aside0.mk (Kd.V_elder' (by (with_reducible repeat (first | apply Kd.V_alloc | apply Kd.V_drewN | apply Kd.V_drew)); exact HO222.out) (Kd.N_base ho0) hb)
            have n5_ := Aside0.mk (Kd.R_below (by (with_reducible repeat (first | apply Kd.R_alloc | apply Kd.R_drewN | apply Kd.R_drew)); exact HO226.out) hb)
            have n6_ := Aside0.mk (Kd.N_elder' (by (with_reducible repeat (first | apply Kd.N_alloc | apply Kd.N_drewN | apply Kd.N_drew)); exact HO232.out) (Kd.N_base ho0) hb)
            have n7_ := Aside0.mk (Kd.R_below (by (with_reducible repeat (first | apply Kd.R_alloc | apply Kd.R_drewN | apply Kd.R_drew)); exact HO235.out) hb)
            have n8_ := Aside0.mk (Kd.R_below (by (with_reducible repeat (first | apply Kd.R_alloc | apply Kd.R_drewN | apply Kd.R_drew)); exact HO244.out) hb)
            have n9_ := Aside0.mk (Kd.N_lower (Kd.N_mono (ok' := fun k_ => some k_ ≠ (.slice Ao41 y193.length co41 : Value).ownBlock ∧ some k_ ≠ (.slice Ao44 t196.length co44 : Value).ownBlock ∧ some k_ ≠ (.slice Ao48 t200.length co48 : Value).ownBlock ∧ some k_ ≠ (.slice Ao56 y214.length co56 : Value).ownBlock ∧ some k_ ≠ (.slice Ao61 t224.length co61 : Value).ownBlock ∧ some k_ ≠ (.slice Ao67 t230.length co67 : Value).ownBlock ∧ some k_ ≠ (.slice Ao69 t233.length co69 : Value).ownBlock ∧ some k_ ≠ (v243 : Value).ownBlock ∧ k_ ≠ gb199 ∧ k_ ≠ gb203) ho0 (fun k_ hk_ => ⟨(Kd.fresh' (Kd.N_lt (by (with_reducible repeat (first | apply Kd.N_alloc | apply Kd.N_drewN | apply Kd.N_drew)); exact HO195.out)) k_ hk_), (Kd.fresh' (Kd.R_lt (by (with_reducible repeat (first | apply Kd.R_alloc | apply Kd.R_drewN | apply Kd.R_drew)); exact HO198.out)) k_ hk_), (Kd.fresh' (Kd.R_lt (by (with_reducible repeat (first | apply Kd.R_alloc | apply Kd.R_drewN | apply Kd.R_drew)); exact HO202.out)) k_ hk_), (Kd.fresh' (Kd.R_lt (by (with_reducible repeat (first | apply Kd.R_alloc | apply Kd.R_drewN | apply Kd.R_drew)); exact HO216.out)) k_ hk_), (Kd.fresh' (Kd.R_lt (by (with_reducible repeat (first | apply Kd.R_alloc | apply Kd.R_drewN | apply Kd.R_drew)); exact HO226.out)) k_ hk_), (Kd.fresh' (Kd.N_lt (by (with_reducible repeat (first | apply Kd.N_alloc | apply Kd.N_drewN | apply Kd.N_drew)); exact HO232.out)) k_ hk_), (Kd.fresh' (Kd.R_lt (by (with_reducible repeat (first | apply Kd.R_alloc | apply Kd.R_drewN | apply Kd.R_drew)); exact HO235.out)) k_ hk_), (Kd.fresh' (Kd.R_lt (by (with_reducible repeat (first | apply Kd.R_alloc | apply Kd.R_drewN | apply Kd.R_drew)); exact HO244.out)) k_ hk_), (Kd.freshB (g := gb199) (o := .cells #[.slice Ao44 t196.length co44] 28 (0, 0)) (by (with_reducible repeat (first | refine blk_drewN ?_ _ | refine blk_drew ?_ | refine blk_alloc ?_ _)); exact BK199.out) k_ hk_), (Kd.freshB (g := gb203) (o := .cells #[.slice Ao48 t200.length co48] 28 (0, 0)) (by (with_reducible repeat (first | refine blk_drewN ?_ _ | refine blk_drew ?_ | refine blk_alloc ?_ _)); exact BK203.out) k_ hk_)⟩)) (below_size (by repeat (first | (with_reducible first | exact HB.out | apply below_alloc | apply pw_below_drewN | apply below_drew1 | refine below_set ?_ GE199.out | refine below_set ?_ GE203.out) | exact HB.out))))
            have n10_ := Aside0.mk (blk_below (g := gb199) (o := .cells #[.slice Ao44 t196.length co44] 28 (0, 0)) (by (with_reducible repeat (first | refine blk_drewN ?_ _ | refine blk_drew ?_ | refine blk_alloc ?_ _)); exact BK199.out) hb)
            have n11_ := Aside0.mk (blk_below (g := gb203) (o := .cells #[.slice Ao48 t200.length co48] 28 (0, 0)) (by (with_reducible repeat (first | refine blk_drewN ?_ _ | refine blk_drew ?_ | refine blk_alloc ?_ _)); exact BK203.out) hb)
            have n12_ := Aside0.mk (below_step (by repeat (first | (with_reducible first | exact HB.out | apply below_alloc | apply pw_below_drewN | apply below_drew1 | refine below_set ?_ GE199.out | refine below_set ?_ GE203.out) | exact HB.out)) hb)
            clear HO195
            clear HO198
            clear HO202
            clear HO216
            clear HO222
            clear HO226
            clear HO232
            clear HO235
            clear HO244
            clear BK199
            clear BK203
            clear HB
            have HO195 := n0_
            have HO198 := n1_
            have HO202 := n2_
            have HO216 := n3_
            have HO222 := n4_
            have HO226 := n5_
            have HO232 := n6_
            have HO235 := n7_
            have HO244 := n8_
            have HO238 := n9_
            have BK199 := n10_
            have BK203 := n11_
            have HB := n12_
            clear n0_ n1_ n2_ n3_ n4_ n5_ n6_ n7_ n8_ n9_ n10_ n11_ n12_
            (try clear hb)
            (try clear hb2)
            (try clear hk)
            (try clear hi)
            (try clear ho0)
            obtain ⟨Ao73, co73, eo73⟩ := Kd.N_slice HO238.out
            (first | subst eo73 | (injection eo73 with f1_ f2_ f3_; have f4_ := f1_.symm; have f5_ := f3_.symm; clear f1_ f2_ f3_; subst f4_; subst f5_))
            refine hK.out _ _ ((blk_cell BK199.out 0).trans rfl) (fun hHeld => ?_)
            clear hK K
            refine norm_ (a' := ?_) ?_ ?_
            rotate_left
            ·show Act.put _ (some 67) _ = _
             simp only [Act.put, List.setIfInBounds_toArray, List.set_cons_zero, List.set_cons_succ, i64_w, i32_w]
             rfl
            refine one_ (i := 25) (N := some 68) #[true, true, true, true, true, true, true, true, true, true, true, true, true, true, true, true, true, true, true, true, true, true, true, true, true, true, true, false, false, false, false, false, false, false, false, false, false, false] rfl rfl (one_of HT_.out (by kernel_rfl)) (by decide) (fun K hK => ?_)
            refine goes_ Try.func21 (by kernel_rfl) rfl #[.agg #[.slice Ao44 t196.length co44], .slice Ao73 t236.length co73] (by rfl) rfl rfl (by (try simp only [List.map_toArray, List.map_cons, List.map_nil]); first | done | rfl | (simp only [List.length_drop, List.length_take]; rfl)) ?_
            with_reducible refine (index_Affected.calls _ _ t196 _ _ t236 t239 _ ?side1 ?side2 ?side3 ?side4 A25.out).mono ?_
            (case side1 => repeat (first | exact (Kd.R_reads' HO198.out).2.2 | (with_reducible refine Kd.C_alloc ?_ _) | (with_reducible refine Kd.C_drewN ?_ _) | (with_reducible refine Kd.C_drew ?_)))
            (case side2 => exact (Kd.R_reads' HO198.out).2.1)
            (case side3 => repeat (first | exact (Kd.N_reads' HO238.out).2.2 | (with_reducible refine Kd.C_alloc ?_ _) | (with_reducible refine Kd.C_drewN ?_ _) | (with_reducible refine Kd.C_drew ?_)))
            (case side4 => exact (Kd.N_reads' HO238.out).2.1)
            rintro e w74 ⟨v240, rfl, ho0, hb⟩
            refine ⟨_, rfl, ?_⟩
            have n0_ := Aside0.mk (Kd.N_elder' (by (with_reducible repeat (first | apply Kd.N_alloc | apply Kd.N_drewN | apply Kd.N_drew)); exact HO195.out) (Kd.R_base ho0) hb)
            have n1_ := Aside0.mk (Kd.R_below (by (with_reducible repeat (first | apply Kd.R_alloc | apply Kd.R_drewN | apply Kd.R_drew)); exact HO198.out) hb)
            have n2_ := Aside0.mk (Kd.R_below (by (with_reducible repeat (first | apply Kd.R_alloc | apply Kd.R_drewN | apply Kd.R_drew)); exact HO202.out) hb)
            have n3_ := Aside0.mk (Kd.R_below (by (with_reducible repeat (first | apply Kd.R_alloc | apply Kd.R_drewN | apply Kd.R_drew)); exact HO216.out) hb)
            have n4_ := Aside0.mk (Kd.V_elder' (by (with_reducible repeat (first | apply Kd.V_alloc | apply Kd.V_drewN | apply Kd.V_drew)); exact HO222.out) (Kd.R_base ho0) hb)
            have n5_ := Aside0.mk (Kd.R_below (by (with_reducible repeat (first | apply Kd.R_alloc | apply Kd.R_drewN | apply Kd.R_drew)); exact HO226.out) hb)
            have n6_ := Aside0.mk (Kd.N_elder' (by (with_reducible repeat (first | apply Kd.N_alloc | apply Kd.N_drewN | apply Kd.N_drew)); exact HO232.out) (Kd.R_base ho0) hb)
            have n7_ := Aside0.mk (Kd.R_elder' (by (with_reducible repeat (first | apply Kd.R_alloc | apply Kd.R_drewN | apply Kd.R_drew)); exact HO235.out) (Kd.R_base ho0) hb)
            have n8_ := Aside0.mk (Kd.R_elder' (by (with_reducible repeat (first | apply Kd.R_alloc | apply Kd.R_drewN | apply Kd.R_drew)); exact HO244.out) (Kd.R_base ho0) hb)
            have n9_ := Aside0.mk (Kd.N_elder' (by (with_reducible repeat (first | apply Kd.N_alloc | apply Kd.N_drewN | apply Kd.N_drew)); exact HO238.out) (Kd.R_base ho0) hb)
            have n10_ := Aside0.mk (Kd.R_lower (Kd.R_new' (Kd.R_new' ho0 (Kd.R_lt (by (with_reducible repeat (first | apply Kd.R_alloc | apply Kd.R_drewN | apply Kd.R_drew)); exact HO235.out))) (Kd.R_lt (by (with_reducible repeat (first | apply Kd.R_alloc | apply Kd.R_drewN | apply Kd.R_drew)); exact HO244.out))) (below_size (by repeat (first | (with_reducible first | exact HB.out | apply below_alloc | apply pw_below_drewN | apply below_drew1 | refine below_set ?_ GE199.out | refine below_set ?_ GE203.out) | exact HB.out))))
            have n11_ := Aside0.mk (blk_below (g := gb199) (o := .cells #[.slice Ao44 t196.length co44] 28 (0, 0)) (by (with_reducible repeat (first | refine blk_drewN ?_ _ | refine blk_drew ?_ | refine blk_alloc ?_ _)); exact BK199.out) hb)
            have n12_ := Aside0.mk (blk_below (g := gb203) (o := .cells #[.slice Ao48 t200.length co48] 28 (0, 0)) (by (with_reducible repeat (first | refine blk_drewN ?_ _ | refine blk_drew ?_ | refine blk_alloc ?_ _)); exact BK203.out) hb)
            have n13_ := Aside0.mk (below_step (by repeat (first | (with_reducible first | exact HB.out | apply below_alloc | apply pw_below_drewN | apply below_drew1 | refine below_set ?_ GE199.out | refine below_set ?_ GE203.out) | exact HB.out)) hb)
            clear HO195
            clear HO198
            clear HO202
            clear HO216
            clear HO222
            clear HO226
            clear HO232
            clear HO235
            clear HO244
            clear HO238
            clear BK199
            clear BK203
            clear HB
            have HO195 := n0_
            have HO198 := n1_
            have HO202 := n2_
            have HO216 := n3_
            have HO222 := n4_
            have HO226 := n5_
            have HO232 := n6_
            have HO235 := n7_
            have HO244 := n8_
            have HO238 := n9_
            have HO241 := n10_
            have BK199 := n11_
            have BK203 := n12_
            have HB := n13_
            clear n0_ n1_ n2_ n3_ n4_ n5_ n6_ n7_ n8_ n9_ n10_ n11_ n12_ n13_
            (try clear hb)
            (try clear hb2)
            (try clear hk)
            (try clear hi)
            (try clear ho0)
            refine hK.out _ _ ((blk_cell BK199.out 0).trans rfl) (fun hHeld => ?_)
            clear hK K
            refine norm_ (a' := ?_) ?_ ?_
            rotate_left
            ·show Act.put _ (some 68) _ = _
             simp only [Act.put, List.setIfInBounds_toArray, List.set_cons_zero, List.set_cons_succ, i64_w, i32_w]
             rfl
            exact norm_ (by simp only [putAll, Act.put, List.setIfInBounds_toArray, List.set_cons_zero, List.set_cons_succ]) (hCont (.slice Ao73 t236.length co73, v240, v243) _ ⟨hHeld, (by (with_reducible repeat (first | apply Kd.N_alloc | apply Kd.N_drewN | apply Kd.N_drew)); exact Kd.N_mono HO195.out (fun _ hk => ⟨hk.1.1.1.1.1.1.1.1.1.1.2, ⟨hk.1.1.1.1.1.1.1.1.2, ⟨hk.1.1.1.1.1.1.2, ⟨hk.1.1.1.1.1.2, ⟨hk.1.1.1.1.2, ⟨hk.1.1.1.2, ⟨hk.1.2, ⟨hk.2, ⟨hk.1.1.2, ⟨hk.1.1.1.1.1.1.1.1.1.2, hk.1.1.1.1.1.1.1.2⟩⟩⟩⟩⟩⟩⟩⟩⟩⟩)), (by (with_reducible repeat (first | apply Kd.R_alloc | apply Kd.R_drewN | apply Kd.R_drew)); exact Kd.R_mono HO198.out (fun _ hk => ⟨hk.1.1.2, ⟨hk.1.2, hk.2⟩⟩)), (by (with_reducible repeat (first | apply Kd.R_alloc | apply Kd.R_drewN | apply Kd.R_drew)); exact Kd.R_mono HO202.out (fun _ hk => ⟨hk.1.1.2, ⟨hk.1.2, hk.2⟩⟩)), (by (with_reducible repeat (first | apply Kd.R_alloc | apply Kd.R_drewN | apply Kd.R_drew)); exact Kd.R_mono HO216.out (fun _ hk => ⟨hk.1.1.2, ⟨hk.1.2, hk.2⟩⟩)), (by (with_reducible repeat (first | apply Kd.V_alloc | apply Kd.V_drewN | apply Kd.V_drew)); exact Kd.V_mono HO222.out (fun _ hk => ⟨hk.1.1.1.1.1.1.1.1.2, ⟨hk.1.1.1.1.1.1.1.1.1.1.2, ⟨hk.1.1.1.1.1.1.1.1.1.2, ⟨hk.1.1.1.1.1.2, ⟨hk.1.1.1.1.2, ⟨hk.1.1.1.2, ⟨hk.1.2, ⟨hk.2, ⟨hk.1.1.2, ⟨hk.1.1.1.1.1.1.1.2, hk.1.1.1.1.1.1.2⟩⟩⟩⟩⟩⟩⟩⟩⟩⟩)), (by (with_reducible repeat (first | apply Kd.R_alloc | apply Kd.R_drewN | apply Kd.R_drew)); exact Kd.R_mono HO226.out (fun _ hk => ⟨hk.1.1.2, ⟨hk.1.2, hk.2⟩⟩)), (by (with_reducible repeat (first | apply Kd.N_alloc | apply Kd.N_drewN | apply Kd.N_drew)); exact Kd.N_mono HO232.out (fun _ hk => ⟨hk.1.1.1.1.1, ⟨hk.1.1.1.1.2.1, ⟨hk.1.1.1.1.2.2.1, ⟨hk.1.1.1.1.2.2.2.1, ⟨hk.1.1.1.1.2.2.2.2.1, ⟨hk.1.1.1.2, ⟨hk.1.2, ⟨hk.2, ⟨hk.1.1.2, ⟨hk.1.1.1.1.2.2.2.2.2.1, hk.1.1.1.1.2.2.2.2.2.2⟩⟩⟩⟩⟩⟩⟩⟩⟩⟩)), (by (with_reducible repeat (first | apply Kd.R_alloc | apply Kd.R_drewN | apply Kd.R_drew)); exact Kd.R_mono HO235.out (fun _ hk => ⟨hk.2, hk.1.2⟩)), (by (with_reducible repeat (first | apply Kd.N_alloc | apply Kd.N_drewN | apply Kd.N_drew)); exact Kd.N_mono HO238.out (fun _ hk => ⟨hk.1.1, ⟨hk.1.2.1, ⟨hk.1.2.2.1, ⟨hk.1.2.2.2.1, ⟨hk.1.2.2.2.2.1, ⟨hk.1.2.2.2.2.2.1, ⟨hk.1.2.2.2.2.2.2.1, ⟨hk.2, ⟨hk.1.2.2.2.2.2.2.2.1, ⟨hk.1.2.2.2.2.2.2.2.2.1, hk.1.2.2.2.2.2.2.2.2.2⟩⟩⟩⟩⟩⟩⟩⟩⟩⟩)), (by (with_reducible repeat (first | apply Kd.R_alloc | apply Kd.R_drewN | apply Kd.R_drew)); exact Kd.R_mono HO241.out (fun _ hk => ⟨hk.1.2, hk.2⟩)), (by (with_reducible repeat (first | apply Kd.R_alloc | apply Kd.R_drewN | apply Kd.R_drew)); exact Kd.R_mono HO244.out (fun _ hk => ⟨hk.1.2, hk.2⟩)), (by (with_reducible repeat (first | refine blk_drewN ?_ _ | refine blk_drew ?_ | refine blk_alloc ?_ _)); exact BK199.out), (by (with_reducible repeat (first | refine blk_drewN ?_ _ | refine blk_drew ?_ | refine blk_alloc ?_ _)); exact BK203.out), (by repeat (first | (with_reducible first | exact HB.out | apply below_alloc | apply pw_below_drewN | apply below_drew1 | refine below_set ?_ GE199.out | refine below_set ?_ GE203.out) | exact HB.out))⟩)
          rintro ⟨v237, v240, v243⟩ w75 ⟨hS_, h0_, h1_, h2_, h3_, h4_, h5_, h6_, h7_, h8_, h9_, h10_, h11_, h12_, h13_⟩
          have n0_ : Aside0 (Kd.N k35 35 w75 w.heap.size (fun k_ => some k_ ≠ (.slice Ao44 t196.length co44 : Value).ownBlock ∧ some k_ ≠ (.slice Ao48 t200.length co48 : Value).ownBlock ∧ some k_ ≠ (.slice Ao56 y214.length co56 : Value).ownBlock ∧ some k_ ≠ (.slice Ao61 t224.length co61 : Value).ownBlock ∧ some k_ ≠ (.slice Ao67 t230.length co67 : Value).ownBlock ∧ some k_ ≠ (.slice Ao69 t233.length co69 : Value).ownBlock ∧ some k_ ≠ (v237 : Value).ownBlock ∧ some k_ ≠ (v240 : Value).ownBlock ∧ some k_ ≠ (v243 : Value).ownBlock ∧ k_ ≠ gb199 ∧ k_ ≠ gb203) (.slice Ao41 y193.length co41) y193) := ⟨h0_⟩
          have n1_ : Aside0 (Kd.R k49 49 w75 w.heap.size (fun k_ => some k_ ≠ (.slice Ao48 t200.length co48 : Value).ownBlock ∧ some k_ ≠ (.slice Ao56 y214.length co56 : Value).ownBlock ∧ some k_ ≠ (.slice Ao61 t224.length co61 : Value).ownBlock) (.slice Ao44 t196.length co44) t196) := ⟨h1_⟩
          have n2_ : Aside0 (Kd.R k49 49 w75 w.heap.size (fun k_ => some k_ ≠ (.slice Ao44 t196.length co44 : Value).ownBlock ∧ some k_ ≠ (.slice Ao56 y214.length co56 : Value).ownBlock ∧ some k_ ≠ (.slice Ao61 t224.length co61 : Value).ownBlock) (.slice Ao48 t200.length co48) t200) := ⟨h2_⟩
          have n3_ : Aside0 (Kd.R k49 49 w75 w.heap.size (fun k_ => some k_ ≠ (.slice Ao44 t196.length co44 : Value).ownBlock ∧ some k_ ≠ (.slice Ao48 t200.length co48 : Value).ownBlock ∧ some k_ ≠ (.slice Ao61 t224.length co61 : Value).ownBlock) (.slice Ao56 y214.length co56) y214) := ⟨h3_⟩
          have n4_ : Aside0 (Kd.V k49 49 w75 w.heap.size (fun k_ => some k_ ≠ (.slice Ao41 y193.length co41 : Value).ownBlock ∧ some k_ ≠ (.slice Ao44 t196.length co44 : Value).ownBlock ∧ some k_ ≠ (.slice Ao48 t200.length co48 : Value).ownBlock ∧ some k_ ≠ (.slice Ao61 t224.length co61 : Value).ownBlock ∧ some k_ ≠ (.slice Ao67 t230.length co67 : Value).ownBlock ∧ some k_ ≠ (.slice Ao69 t233.length co69 : Value).ownBlock ∧ some k_ ≠ (v237 : Value).ownBlock ∧ some k_ ≠ (v240 : Value).ownBlock ∧ some k_ ≠ (v243 : Value).ownBlock ∧ k_ ≠ gb199 ∧ k_ ≠ gb203) (.slice Ao56 y218.length co56) y218) := ⟨h4_⟩
          have n5_ : Aside0 (Kd.R k49 49 w75 w.heap.size (fun k_ => some k_ ≠ (.slice Ao44 t196.length co44 : Value).ownBlock ∧ some k_ ≠ (.slice Ao48 t200.length co48 : Value).ownBlock ∧ some k_ ≠ (.slice Ao56 y214.length co56 : Value).ownBlock) (.slice Ao61 t224.length co61) t224) := ⟨h5_⟩
          have n6_ : Aside0 (Kd.N k63 63 w75 w.heap.size (fun k_ => some k_ ≠ (.slice Ao41 y193.length co41 : Value).ownBlock ∧ some k_ ≠ (.slice Ao44 t196.length co44 : Value).ownBlock ∧ some k_ ≠ (.slice Ao48 t200.length co48 : Value).ownBlock ∧ some k_ ≠ (.slice Ao56 y214.length co56 : Value).ownBlock ∧ some k_ ≠ (.slice Ao61 t224.length co61 : Value).ownBlock ∧ some k_ ≠ (.slice Ao69 t233.length co69 : Value).ownBlock ∧ some k_ ≠ (v237 : Value).ownBlock ∧ some k_ ≠ (v240 : Value).ownBlock ∧ some k_ ≠ (v243 : Value).ownBlock ∧ k_ ≠ gb199 ∧ k_ ≠ gb203) (.slice Ao67 t230.length co67) t230) := ⟨h6_⟩
          have n7_ : Aside0 (Kd.R (Kd.int .i64) 3 w75 w.heap.size (fun k_ => some k_ ≠ (v240 : Value).ownBlock ∧ some k_ ≠ (v243 : Value).ownBlock) (.slice Ao69 t233.length co69) t233) := ⟨h7_⟩
          have n8_ : Aside0 (Kd.N k63 63 w75 w.heap.size (fun k_ => some k_ ≠ (.slice Ao41 y193.length co41 : Value).ownBlock ∧ some k_ ≠ (.slice Ao44 t196.length co44 : Value).ownBlock ∧ some k_ ≠ (.slice Ao48 t200.length co48 : Value).ownBlock ∧ some k_ ≠ (.slice Ao56 y214.length co56 : Value).ownBlock ∧ some k_ ≠ (.slice Ao61 t224.length co61 : Value).ownBlock ∧ some k_ ≠ (.slice Ao67 t230.length co67 : Value).ownBlock ∧ some k_ ≠ (.slice Ao69 t233.length co69 : Value).ownBlock ∧ some k_ ≠ (v240 : Value).ownBlock ∧ some k_ ≠ (v243 : Value).ownBlock ∧ k_ ≠ gb199 ∧ k_ ≠ gb203) v237 t236) := ⟨h8_⟩
          have n9_ : Aside0 (Kd.R (Kd.int .i64) 3 w75 w.heap.size (fun k_ => some k_ ≠ (.slice Ao69 t233.length co69 : Value).ownBlock ∧ some k_ ≠ (v243 : Value).ownBlock) v240 t239) := ⟨h9_⟩
          have n10_ : Aside0 (Kd.R (Kd.int .i64) 3 w75 w.heap.size (fun k_ => some k_ ≠ (.slice Ao69 t233.length co69 : Value).ownBlock ∧ some k_ ≠ (v240 : Value).ownBlock) v243 y242) := ⟨h10_⟩
          have n11_ : Aside0 (w75.heap[gb199]? = some (.cells #[.slice Ao44 t196.length co44] 28 (0, 0))) := ⟨h11_⟩
          have n12_ : Aside0 (w75.heap[gb203]? = some (.cells #[.slice Ao48 t200.length co48] 28 (0, 0))) := ⟨h12_⟩
          have n13_ : Aside0 (Below w.heap.size w w75) := ⟨h13_⟩
          clear HO195
          clear HO198
          clear HO202
          clear HO216
          clear HO222
          clear HO226
          clear BK199
          clear BK203
          clear HB
          clear h0_ h1_ h2_ h3_ h4_ h5_ h6_ h7_ h8_ h9_ h10_ h11_ h12_ h13_
          have HO195 := n0_
          have HO198 := n1_
          have HO202 := n2_
          have HO216 := n3_
          have HO222 := n4_
          have HO226 := n5_
          have HO232 := n6_
          have HO235 := n7_
          have HO238 := n8_
          have HO241 := n9_
          have HO244 := n10_
          have BK199 := n11_
          have BK203 := n12_
          have HB := n13_
          clear n0_ n1_ n2_ n3_ n4_ n5_ n6_ n7_ n8_ n9_ n10_ n11_ n12_ n13_
          have hHeld : w75.cell? ⟨gb199, 0, none⟩ = some (.slice Ao44 t196.length co44) := hS_
          obtain ⟨Ao76, co76, eo76⟩ := Kd.R_slice HO241.out
          (first | subst eo76 | (injection eo76 with f1_ f2_ f3_; have f4_ := f1_.symm; have f5_ := f3_.symm; clear f1_ f2_ f3_; subst f4_; subst f5_))
          obtain ⟨Ao77, co77, eo77⟩ := Kd.R_slice HO244.out
          (first | subst eo77 | (injection eo77 with f1_ f2_ f3_; have f4_ := f1_.symm; have f5_ := f3_.symm; clear f1_ f2_ f3_; subst f4_; subst f5_))
          refine norm_ (a' := ?_) ?_ ?_
          rotate_left
          ·simp only [putAll, Act.put, List.setIfInBounds_toArray, List.set_cons_zero, List.set_cons_succ]
           rfl
          refine one_ (i := 27) (N := some 70) #[true, true, true, true, true, true, true, true, true, true, true, true, true, true, true, true, true, true, true, true, true, true, true, true, true, true, true, true, false, false, false, false, false, false, false, false, false, false] rfl rfl (one_of HT_.out (by kernel_rfl)) (by decide) (fun K hK => ?_)
          refine goes_ Try.func20 (by kernel_rfl) rfl #[.slice Ao76 t239.length co76, .slice Ao77 y242.length co77] (by rfl) rfl rfl (by (try simp only [List.map_toArray, List.map_cons, List.map_nil]); first | done | rfl | (simp only [List.length_drop, List.length_take]; rfl)) ?_
          with_reducible refine (sizarref35_SameInts.calls k _ _ t239 _ _ y242 true _ ?side1 ?side2 ?side3 ?side4 A26.out).mono ?_
          (case side1 => repeat (first | exact (Kd.R_reads' HO241.out).2.2 | (with_reducible refine Kd.C_alloc ?_ _) | (with_reducible refine Kd.C_drewN ?_ _) | (with_reducible refine Kd.C_drew ?_)))
          (case side2 => exact (Kd.R_reads' HO241.out).2.1)
          (case side3 => repeat (first | exact (Kd.R_reads' HO244.out).2.2 | (with_reducible refine Kd.C_alloc ?_ _) | (with_reducible refine Kd.C_drewN ?_ _) | (with_reducible refine Kd.C_drew ?_)))
          (case side4 => exact (Kd.R_reads' HO244.out).2.1)
          rintro e w' ⟨rfl, ⟨nd, rfl⟩⟩
          refine ⟨_, rfl, ?_⟩
          refine hK.out _ _ ((blk_cell BK199.out 0).trans rfl) (fun hHeld => ?_)
          clear hK K
          refine norm_ (a' := ?_) ?_ ?_
          rotate_left
          ·show Act.put _ (some 70) _ = _
           simp only [Act.put, List.setIfInBounds_toArray, List.set_cons_zero, List.set_cons_succ, i64_w, i32_w]
           rfl
          refine pure_ (i := 28) (N := some 71) (v := ?_) (a' := ?_) #[true, true, true, true, true, true, true, true, true, true, true, true, true, true, true, true, true, true, true, true, true, true, true, true, true, true, true, true, true, false, false, false, false, false, false, false, false, false] rfl rfl (any_of HT_.out (by kernel_rfl)) (fun _ _ _ h => h) (Or.inl ⟨by rfl, ?_⟩) ?_ ?_
          rotate_left
          ·intro w'
           go_simp
           with_reducible rfl
          rotate_left
          ·simp only [Act.put, List.setIfInBounds_toArray, List.set_cons_zero, List.set_cons_succ, i64_w, i32_w]
           rfl
          refine pure_ (i := 29) (N := some 72) (v := ?_) (a' := ?_) #[true, true, true, true, true, true, true, true, true, true, true, true, true, true, true, true, true, true, true, true, true, true, true, true, true, true, true, true, true, true, false, false, false, false, false, false, false, false] rfl rfl (any_of HT_.out (by kernel_rfl)) (fun _ _ _ h => h) (Or.inl ⟨by rfl, ?_⟩) ?_ ?_
          rotate_left
          ·intro w'
           go_simp
           with_reducible rfl
          rotate_left
          ·simp only [Act.put, List.setIfInBounds_toArray, List.set_cons_zero, List.set_cons_succ, i64_w, i32_w]
           rfl
          refine pure_ (i := 30) (N := some 73) (v := ?_) (a' := ?_) #[true, true, true, true, true, true, true, true, true, true, true, true, true, true, true, true, true, true, true, true, true, true, true, true, true, true, true, true, true, true, true, false, false, false, false, false, false, false] rfl rfl (any_of HT_.out (by kernel_rfl)) (fun _ _ _ h => h) (Or.inl ⟨by rfl, ?_⟩) ?_ ?_
          rotate_left
          ·intro w'
           go_simp
           with_reducible rfl
          rotate_left
          ·simp only [Act.put, List.setIfInBounds_toArray, List.set_cons_zero, List.set_cons_succ, i64_w, i32_w]
           rfl
          refine pure_ (i := 31) (N := some 74) (v := ?_) (a' := ?_) #[true, true, true, true, true, true, true, true, true, true, true, true, true, true, true, true, true, true, true, true, true, true, true, true, true, true, true, true, true, true, true, true, false, false, false, false, false, false] rfl rfl (any_of HT_.out (by kernel_rfl)) (fun _ _ _ h => h) (Or.inl ⟨by rfl, ?_⟩) ?_ ?_
          rotate_left
          ·intro w'
           go_simp
           with_reducible rfl
          rotate_left
          ·simp only [Act.put, List.setIfInBounds_toArray, List.set_cons_zero, List.set_cons_succ, i64_w, i32_w]
           rfl
          refine one_ (i := 32) (N := some 75) #[true, true, true, true, true, true, true, true, true, true, true, true, true, true, true, true, true, true, true, true, true, true, true, true, true, true, true, true, true, true, true, true, true, false, false, false, false, false] rfl rfl (one_of HT_.out (by kernel_rfl)) (by decide) (fun K hK => ?_)
          refine goesV_ Try.func27 (by kernel_rfl) rfl #[.int .i64 4] (by rfl) rfl rfl rfl (by (try simp only [List.map_toArray, List.map_cons, List.map_nil]); first | done | rfl | (simp only [List.length_drop, List.length_take]; rfl)) ?_
          with_reducible refine (sizarlaw35_sane_1.calls 4 t246 _ A28.out).mono ?_
          rintro e w78 ⟨v247, rfl, ho0, hb⟩
          refine ⟨_, rfl, ?_⟩
          have n0_ := Aside0.mk (Kd.N_elder' (by (with_reducible repeat (first | apply Kd.N_alloc | apply Kd.N_drewN | apply Kd.N_drew)); exact HO195.out) (Kd.N_base ho0) hb)
          have n1_ := Aside0.mk (Kd.R_below (by (with_reducible repeat (first | apply Kd.R_alloc | apply Kd.R_drewN | apply Kd.R_drew)); exact HO198.out) hb)
          have n2_ := Aside0.mk (Kd.R_below (by (with_reducible repeat (first | apply Kd.R_alloc | apply Kd.R_drewN | apply Kd.R_drew)); exact HO202.out) hb)
          have n3_ := Aside0.mk (Kd.R_below (by (with_reducible repeat (first | apply Kd.R_alloc | apply Kd.R_drewN | apply Kd.R_drew)); exact HO216.out) hb)
          have n4_ := Aside0.mk (Kd.V_elder' (by (with_reducible repeat (first | apply Kd.V_alloc | apply Kd.V_drewN | apply Kd.V_drew)); exact HO222.out) (Kd.N_base ho0) hb)
          have n5_ := Aside0.mk (Kd.R_below (by (with_reducible repeat (first | apply Kd.R_alloc | apply Kd.R_drewN | apply Kd.R_drew)); exact HO226.out) hb)
          have n6_ := Aside0.mk (Kd.N_elder' (by (with_reducible repeat (first | apply Kd.N_alloc | apply Kd.N_drewN | apply Kd.N_drew)); exact HO232.out) (Kd.N_base ho0) hb)
          have n7_ := Aside0.mk (Kd.R_below (by (with_reducible repeat (first | apply Kd.R_alloc | apply Kd.R_drewN | apply Kd.R_drew)); exact HO235.out) hb)
          have n8_ := Aside0.mk (Kd.N_elder' (by (with_reducible repeat (first | apply Kd.N_alloc | apply Kd.N_drewN | apply Kd.N_drew)); exact HO238.out) (Kd.N_base ho0) hb)
          have n9_ := Aside0.mk (Kd.R_below (by (with_reducible repeat (first | apply Kd.R_alloc | apply Kd.R_drewN | apply Kd.R_drew)); exact HO241.out) hb)
          have n10_ := Aside0.mk (Kd.R_below (by (with_reducible repeat (first | apply Kd.R_alloc | apply Kd.R_drewN | apply Kd.R_drew)); exact HO244.out) hb)
          have n11_ := Aside0.mk (Kd.N_lower (Kd.N_mono (ok' := fun k_ => some k_ ≠ (.slice Ao41 y193.length co41 : Value).ownBlock ∧ some k_ ≠ (.slice Ao44 t196.length co44 : Value).ownBlock ∧ some k_ ≠ (.slice Ao48 t200.length co48 : Value).ownBlock ∧ some k_ ≠ (.slice Ao56 y214.length co56 : Value).ownBlock ∧ some k_ ≠ (.slice Ao61 t224.length co61 : Value).ownBlock ∧ some k_ ≠ (.slice Ao67 t230.length co67 : Value).ownBlock ∧ some k_ ≠ (.slice Ao69 t233.length co69 : Value).ownBlock ∧ some k_ ≠ (v237 : Value).ownBlock ∧ some k_ ≠ (.slice Ao76 t239.length co76 : Value).ownBlock ∧ some k_ ≠ (.slice Ao77 y242.length co77 : Value).ownBlock ∧ k_ ≠ gb199 ∧ k_ ≠ gb203) ho0 (fun k_ hk_ => ⟨(Kd.fresh' (Kd.N_lt (by (with_reducible repeat (first | apply Kd.N_alloc | apply Kd.N_drewN | apply Kd.N_drew)); exact HO195.out)) k_ hk_), (Kd.fresh' (Kd.R_lt (by (with_reducible repeat (first | apply Kd.R_alloc | apply Kd.R_drewN | apply Kd.R_drew)); exact HO198.out)) k_ hk_), (Kd.fresh' (Kd.R_lt (by (with_reducible repeat (first | apply Kd.R_alloc | apply Kd.R_drewN | apply Kd.R_drew)); exact HO202.out)) k_ hk_), (Kd.fresh' (Kd.R_lt (by (with_reducible repeat (first | apply Kd.R_alloc | apply Kd.R_drewN | apply Kd.R_drew)); exact HO216.out)) k_ hk_), (Kd.fresh' (Kd.R_lt (by (with_reducible repeat (first | apply Kd.R_alloc | apply Kd.R_drewN | apply Kd.R_drew)); exact HO226.out)) k_ hk_), (Kd.fresh' (Kd.N_lt (by (with_reducible repeat (first | apply Kd.N_alloc | apply Kd.N_drewN | apply Kd.N_drew)); exact HO232.out)) k_ hk_), (Kd.fresh' (Kd.R_lt (by (with_reducible repeat (first | apply Kd.R_alloc | apply Kd.R_drewN | apply Kd.R_drew)); exact HO235.out)) k_ hk_), (Kd.fresh' (Kd.N_lt (by (with_reducible repeat (first | apply Kd.N_alloc | apply Kd.N_drewN | apply Kd.N_drew)); exact HO238.out)) k_ hk_), (Kd.fresh' (Kd.R_lt (by (with_reducible repeat (first | apply Kd.R_alloc | apply Kd.R_drewN | apply Kd.R_drew)); exact HO241.out)) k_ hk_), (Kd.fresh' (Kd.R_lt (by (with_reducible repeat (first | apply Kd.R_alloc | apply Kd.R_drewN | apply Kd.R_drew)); exact HO244.out)) k_ hk_), (Kd.freshB (g := gb199) (o := .cells #[.slice Ao44 t196.length co44] 28 (0, 0)) (by (with_reducible repeat (first | refine blk_drewN ?_ _ | refine blk_drew ?_ | refine blk_alloc ?_ _)); exact BK199.out) k_ hk_), (Kd.freshB (g := gb203) (o := .cells #[.slice Ao48 t200.length co48] 28 (0, 0)) (by (with_reducible repeat (first | refine blk_drewN ?_ _ | refine blk_drew ?_ | refine blk_alloc ?_ _)); exact BK203.out) k_ hk_)⟩)) (below_size (by repeat (first | (with_reducible first | exact HB.out | apply below_alloc | apply pw_below_drewN | apply below_drew1 | refine below_set ?_ GE199.out | refine below_set ?_ GE203.out) | exact HB.out))))
          have n12_ := Aside0.mk (blk_below (g := gb199) (o := .cells #[.slice Ao44 t196.length co44] 28 (0, 0)) (by (with_reducible repeat (first | refine blk_drewN ?_ _ | refine blk_drew ?_ | refine blk_alloc ?_ _)); exact BK199.out) hb)
          have n13_ := Aside0.mk (blk_below (g := gb203) (o := .cells #[.slice Ao48 t200.length co48] 28 (0, 0)) (by (with_reducible repeat (first | refine blk_drewN ?_ _ | refine blk_drew ?_ | refine blk_alloc ?_ _)); exact BK203.out) hb)
          have n14_ := Aside0.mk (below_step (by repeat (first | (with_reducible first | exact HB.out | apply below_alloc | apply pw_below_drewN | apply below_drew1 | refine below_set ?_ GE199.out | refine below_set ?_ GE203.out) | exact HB.out)) hb)
          clear HO195
          clear HO198
          clear HO202
          clear HO216
          clear HO222
          clear HO226
          clear HO232
          clear HO235
          clear HO238
          clear HO241
          clear HO244
          clear BK199
          clear BK203
          clear HB
          have HO195 := n0_
          have HO198 := n1_
          have HO202 := n2_
          have HO216 := n3_
          have HO222 := n4_
          have HO226 := n5_
          have HO232 := n6_
          have HO235 := n7_
          have HO238 := n8_
          have HO241 := n9_
          have HO244 := n10_
          have HO248 := n11_
          have BK199 := n12_
          have BK203 := n13_
          have HB := n14_
          clear n0_ n1_ n2_ n3_ n4_ n5_ n6_ n7_ n8_ n9_ n10_ n11_ n12_ n13_ n14_
          (try clear hb)
          (try clear hb2)
          (try clear hk)
          (try clear hi)
          (try clear ho0)
          obtain ⟨Ao79, co79, eo79⟩ := Kd.N_slice HO248.out
          (first | subst eo79 | (injection eo79 with f1_ f2_ f3_; have f4_ := f1_.symm; have f5_ := f3_.symm; clear f1_ f2_ f3_; subst f4_; subst f5_))
          refine hK.out _ _ ((blk_cell BK199.out 0).trans rfl) (fun hHeld => ?_)
          clear hK K
          refine norm_ (a' := ?_) ?_ ?_
          rotate_left
          ·show Act.put _ (some 75) _ = _
           simp only [Act.put, List.setIfInBounds_toArray, List.set_cons_zero, List.set_cons_succ, i64_w, i32_w]
           rfl
          refine one_ (i := 33) (N := some 76) #[true, true, true, true, true, true, true, true, true, true, true, true, true, true, true, true, true, true, true, true, true, true, true, true, true, true, true, true, true, true, true, true, true, true, false, false, false, false] rfl rfl (one_of HT_.out (by kernel_rfl)) (by decide) (fun K hK => ?_)
          refine goes_ Try.func21 (by kernel_rfl) rfl #[.agg #[.slice none 0 0], .slice Ao79 t246.length co79] (by rfl) rfl rfl (by (try simp only [List.map_toArray, List.map_cons, List.map_nil]); first | done | rfl | (simp only [List.length_drop, List.length_take]; rfl)) ?_
          refine (index_Affected.calls _ _ ([] : List (S49)) _ _ t246 t249 _ ?side1 ?side2 ?side3 ?side4 A29.out).mono ?_
          (case side1 => exact Kd.C_nil _ _)
          (case side2 => exact Nat.le_refl _)
          (case side3 => repeat (first | exact (Kd.N_reads' HO248.out).2.2 | (with_reducible refine Kd.C_alloc ?_ _) | (with_reducible refine Kd.C_drewN ?_ _) | (with_reducible refine Kd.C_drew ?_)))
          (case side4 => exact (Kd.N_reads' HO248.out).2.1)
          rintro e w80 ⟨v250, rfl, ho0, hb⟩
          refine ⟨_, rfl, ?_⟩
          have n0_ := Aside0.mk (Kd.N_elder' (by (with_reducible repeat (first | apply Kd.N_alloc | apply Kd.N_drewN | apply Kd.N_drew)); exact HO195.out) (Kd.R_base ho0) hb)
          have n1_ := Aside0.mk (Kd.R_below (by (with_reducible repeat (first | apply Kd.R_alloc | apply Kd.R_drewN | apply Kd.R_drew)); exact HO198.out) hb)
          have n2_ := Aside0.mk (Kd.R_below (by (with_reducible repeat (first | apply Kd.R_alloc | apply Kd.R_drewN | apply Kd.R_drew)); exact HO202.out) hb)
          have n3_ := Aside0.mk (Kd.R_below (by (with_reducible repeat (first | apply Kd.R_alloc | apply Kd.R_drewN | apply Kd.R_drew)); exact HO216.out) hb)
          have n4_ := Aside0.mk (Kd.V_elder' (by (with_reducible repeat (first | apply Kd.V_alloc | apply Kd.V_drewN | apply Kd.V_drew)); exact HO222.out) (Kd.R_base ho0) hb)
          have n5_ := Aside0.mk (Kd.R_below (by (with_reducible repeat (first | apply Kd.R_alloc | apply Kd.R_drewN | apply Kd.R_drew)); exact HO226.out) hb)
          have n6_ := Aside0.mk (Kd.N_elder' (by (with_reducible repeat (first | apply Kd.N_alloc | apply Kd.N_drewN | apply Kd.N_drew)); exact HO232.out) (Kd.R_base ho0) hb)
          have n7_ := Aside0.mk (Kd.R_elder' (by (with_reducible repeat (first | apply Kd.R_alloc | apply Kd.R_drewN | apply Kd.R_drew)); exact HO235.out) (Kd.R_base ho0) hb)
          have n8_ := Aside0.mk (Kd.N_elder' (by (with_reducible repeat (first | apply Kd.N_alloc | apply Kd.N_drewN | apply Kd.N_drew)); exact HO238.out) (Kd.R_base ho0) hb)
          have n9_ := Aside0.mk (Kd.R_elder' (by (with_reducible repeat (first | apply Kd.R_alloc | apply Kd.R_drewN | apply Kd.R_drew)); exact HO241.out) (Kd.R_base ho0) hb)
          have n10_ := Aside0.mk (Kd.R_elder' (by (with_reducible repeat (first | apply Kd.R_alloc | apply Kd.R_drewN | apply Kd.R_drew)); exact HO244.out) (Kd.R_base ho0) hb)
          have n11_ := Aside0.mk (Kd.N_elder' (by (with_reducible repeat (first | apply Kd.N_alloc | apply Kd.N_drewN | apply Kd.N_drew)); exact HO248.out) (Kd.R_base ho0) hb)
          have n12_ := Aside0.mk (Kd.R_lower (Kd.R_new' (Kd.R_new' (Kd.R_new' ho0 (Kd.R_lt (by (with_reducible repeat (first | apply Kd.R_alloc | apply Kd.R_drewN | apply Kd.R_drew)); exact HO235.out))) (Kd.R_lt (by (with_reducible repeat (first | apply Kd.R_alloc | apply Kd.R_drewN | apply Kd.R_drew)); exact HO241.out))) (Kd.R_lt (by (with_reducible repeat (first | apply Kd.R_alloc | apply Kd.R_drewN | apply Kd.R_drew)); exact HO244.out))) (below_size (by repeat (first | (with_reducible first | exact HB.out | apply below_alloc | apply pw_below_drewN | apply below_drew1 | refine below_set ?_ GE199.out | refine below_set ?_ GE203.out) | exact HB.out))))
          have n13_ := Aside0.mk (blk_below (g := gb199) (o := .cells #[.slice Ao44 t196.length co44] 28 (0, 0)) (by (with_reducible repeat (first | refine blk_drewN ?_ _ | refine blk_drew ?_ | refine blk_alloc ?_ _)); exact BK199.out) hb)
          have n14_ := Aside0.mk (blk_below (g := gb203) (o := .cells #[.slice Ao48 t200.length co48] 28 (0, 0)) (by (with_reducible repeat (first | refine blk_drewN ?_ _ | refine blk_drew ?_ | refine blk_alloc ?_ _)); exact BK203.out) hb)
          have n15_ := Aside0.mk (below_step (by repeat (first | (with_reducible first | exact HB.out | apply below_alloc | apply pw_below_drewN | apply below_drew1 | refine below_set ?_ GE199.out | refine below_set ?_ GE203.out) | exact HB.out)) hb)
          clear HO195
          clear HO198
          clear HO202
          clear HO216
          clear HO222
          clear HO226
          clear HO232
          clear HO235
          clear HO238
          clear HO241
          clear HO244
          clear HO248
          clear BK199
          clear BK203
          clear HB
          have HO195 := n0_
          have HO198 := n1_
          have HO202 := n2_
          have HO216 := n3_
          have HO222 := n4_
          have HO226 := n5_
          have HO232 := n6_
          have HO235 := n7_
          have HO238 := n8_
          have HO241 := n9_
          have HO244 := n10_
          have HO248 := n11_
          have HO251 := n12_
          have BK199 := n13_
          have BK203 := n14_
          have HB := n15_
          clear n0_ n1_ n2_ n3_ n4_ n5_ n6_ n7_ n8_ n9_ n10_ n11_ n12_ n13_ n14_ n15_
          (try clear hb)
          (try clear hb2)
          (try clear hk)
          (try clear hi)
          (try clear ho0)
          obtain ⟨Ao81, co81, eo81⟩ := Kd.R_slice HO251.out
          (first | subst eo81 | (injection eo81 with f1_ f2_ f3_; have f4_ := f1_.symm; have f5_ := f3_.symm; clear f1_ f2_ f3_; subst f4_; subst f5_))
          refine hK.out _ _ ((blk_cell BK199.out 0).trans rfl) (fun hHeld => ?_)
          clear hK K
          refine norm_ (a' := ?_) ?_ ?_
          rotate_left
          ·show Act.put _ (some 76) _ = _
           simp only [Act.put, List.setIfInBounds_toArray, List.set_cons_zero, List.set_cons_succ, i64_w, i32_w]
           rfl
          refine pure_ (i := 34) (N := some 77) (v := ?_) (a' := ?_) #[true, true, true, true, true, true, true, true, true, true, true, true, true, true, true, true, true, true, true, true, true, true, true, true, true, true, true, true, true, true, true, true, true, true, true, false, false, false] rfl rfl (any_of HT_.out (by kernel_rfl)) (fun _ _ _ h => h) (Or.inl ⟨by rfl, ?_⟩) ?_ ?_
          rotate_left
          ·intro w'
           go_simp
           with_reducible rfl
          rotate_left
          ·simp only [Act.put, List.setIfInBounds_toArray, List.set_cons_zero, List.set_cons_succ, i64_w, i32_w]
           rfl
          refine pure_ (i := 35) (N := some 78) (v := ?_) (a' := ?_) #[true, true, true, true, true, true, true, true, true, true, true, true, true, true, true, true, true, true, true, true, true, true, true, true, true, true, true, true, true, true, true, true, true, true, true, true, false, false] rfl rfl (any_of HT_.out (by kernel_rfl)) (fun _ _ _ h => h) (Or.inl ⟨by rfl, ?_⟩) ?_ ?_
          rotate_left
          ·intro w'
           go_simp
           with_reducible rfl
          rotate_left
          ·simp only [Act.put, List.setIfInBounds_toArray, List.set_cons_zero, List.set_cons_succ, i64_w, i32_w]
           rfl
          refine pure_ (i := 36) (N := some 79) (v := ?_) (a' := ?_) #[true, true, true, true, true, true, true, true, true, true, true, true, true, true, true, true, true, true, true, true, true, true, true, true, true, true, true, true, true, true, true, true, true, true, true, true, true, false] rfl rfl (any_of HT_.out (by kernel_rfl)) (fun _ _ _ h => h) (Or.inl ⟨by rfl, ?_⟩) ?_ ?_
          rotate_left
          ·intro w'
           go_simp
           with_reducible rfl
          rotate_left
          ·simp only [Act.put, List.setIfInBounds_toArray, List.set_cons_zero, List.set_cons_succ, i64_w, i32_w]
           rfl
          refine pure_ (i := 37) (N := some 0) (v := ?_) (a' := ?_) #[true, true, true, true, true, true, true, true, true, true, true, true, true, true, true, true, true, true, true, true, true, true, true, true, true, true, true, true, true, true, true, true, true, true, true, true, true, true] rfl rfl (any_of HT_.out (by kernel_rfl)) (fun _ _ _ h => h) (Or.inl ⟨by rfl, ?_⟩) ?_ ?_
          rotate_left
          ·intro w'
           go_simp
           with_reducible rfl
          rotate_left
          ·simp only [Act.put, List.setIfInBounds_toArray, List.set_cons_zero, List.set_cons_succ, i64_w, i32_w]
           rfl
          refine done_ (done_of HT_.out (by kernel_rfl)) ?_
          try go_wp2
          go_ret
          exact ⟨by first | rfl | (simp [errW_none, errW_some] <;> rfl) | (simp [*, errW_none, errW_some] <;> rfl), by repeat (first | (with_reducible first | exact HB.out | apply below_alloc | apply pw_below_drewN | apply below_drew1 | refine below_set ?_ GE199.out | refine below_set ?_ GE203.out) | exact HB.out)⟩
         ·replace c27 := Bool.eq_false_iff.mpr c27
          subst c27
          have H1 : (none) = some r := by rw [if_neg (show ¬ (false = true) by decide)] at H; exact H
          clear H
          have H := H1
          clear H1
          exact absurd H (by simp)
        ·rw [if_neg c23] at H
         exact absurd H (by simp)
       ·rw [if_neg c20] at H
        exact absurd H (by simp)
      ·rw [if_neg c18] at H
       exact absurd H (by simp)
     ·rw [if_neg c16] at H
      exact absurd H (by simp)
    ·rw [if_neg c14] at H
     exact absurd H (by simp)
   ·replace c12 := Bool.eq_false_iff.mpr c12
    subst c12
    have H1 : (none) = some r := by rw [if_neg (show ¬ (false = true) by decide)] at H; exact H
    clear H
    have H := H1
    clear H1
    exact absurd H (by simp)
  ·rw [if_neg c10] at H
   exact absurd H (by simp)
 ·replace c9 := Bool.eq_false_iff.mpr c9
  subst c9
  have H1 : (none) = some r := by rw [if_neg (show ¬ (false = true) by decide)] at H; exact H
  clear H
  have H := H1
  clear H1
  exact absurd H (by simp)
end Go.Proofs.Ytodmmckieoakjaa.P
namespace Go.Proofs.Ytodmmckieoakjaa.P
open Go.RowKit Go.Proofs.YtodmmckieoakjaaW.PrintWords Go.Proofs.YtodmmckieoakjaaW.PrintLast Go.Proofs.YtodmmckieoakjaaW.PrintMore
attribute [local go_sem] max2_int min2_int max_two min_two max_three min_three max_four min_four   -- for this text's walks alone
set_option linter.unusedVariables false
set_option linter.unusedSimpArgs false
def sizarref35_Few.l0 : Nat → List (S35) → Int → Int → Option (Bool)
 | 0, _, _, _ => none
 | k + 1, x0, x3, x4 => if x4 < (x0.length : Int) then (if 0 ≤ x4 then (sizarref35_Few.l0 k x0 (wrap64 (x3 + (((rd_T35 x0 x4).f5).length : Int))) (wrap64 (x4 + 1))) else (none)) else (if (x0.length : Int) ≤ 12 then (some (decide (x3 ≤ 60))) else (some false))
def sizarref35_Few.f (k : Nat) (l0 : List (S35)) : Option (Bool) := sizarref35_Few.l0 k l0 0 0
set_option maxHeartbeats 8000000 in
set_option maxRecDepth 100000 in
theorem sizarref35_Few.calls (k : Nat) (A0 : Option Addr) (c0 : Nat) (l0 : List (S35)) (r : Bool) (w : World) (hr0 : Kd.C k35 w A0 l0.length l0) (hc0 : l0.length ≤ c0) (h : sizarref35_Few.f k l0 = some r) :
  Calls Try.prog 11 #[.slice A0 l0.length c0] w fun e w' => e = .returned (.bool r) ∧ Drawn0 w w' := by
 have HR0 := Aside0.mk hr0
 have HC0 := Aside0.mk hc0
 clear hr0 hc0
 have H : (sizarref35_Few.l0 k l0 0 0) = some r := h
 clear h
 have H' := Aside0.mk H
 clear H
 go_enter Try.func11, Try.ntmps11
 go_wp2
 go_loopg [3, 4] k (fun kq v3 v4 w' => ∃ (x3_1 : Int) (x4_1 : Int), v3 = .int .i64 x3_1 ∧ v4 = .int .i64 x4_1 ∧ Aside0 (sizarref35_Few.l0 kq l0 x3_1 x4_1 = some r) ∧ Aside0 (kq ≤ k) ∧ Drawn0 w w')
 case atStart => exact ⟨(0), (0), (by first | rfl | (simp; done) | (simp [*]; done)), (by first | rfl | (simp; done) | (simp [*]; done)), H', ⟨Nat.le_refl _⟩, by repeat (first | exact Drawn0.refl _ | apply Drawn0.step)⟩
 case round =>
  clear H'
  try clear c1
  obtain ⟨x3_1, x4_1, rfl, rfl, HA, HK1, ⟨m1, rfl⟩⟩ := hrel
  cases gk with
  | zero => exact absurd HA.out (by simp [sizarref35_Few.l0])
  | succ k1 =>
   have H := HA.out
   clear HA
   simp only [sizarref35_Few.l0] at H
   by_cases c2 : x4_1 < (l0.length : Int)
   ·rw [if_pos c2] at H
    have c2b0 : decide (x4_1 < (l0.length : Int)) = true := decide_eq_true c2
    clear c2
    by_cases c3 : 0 ≤ x4_1
    ·rw [if_pos c3] at H
     have c3b0 : decide (0 ≤ x4_1) = true := decide_eq_true c3
     clear c3
     have H' := Aside0.mk H
     clear H
     have p252 : 0 ≤ (x4_1 : Int) := of_decide_eq_true (by first | (with_reducible assumption) | assumption)
     have q252 : x4_1 < (l0.length : Int) := of_decide_eq_true (by first | (with_reducible assumption) | assumption)
     obtain ⟨ad252, A252_7, c252_7, A252_8, c252_8, A252_9, c252_9, e252, hx252_0, hx252_1, hx252_2, hx252_3, hx252_4, hx252_5, hx252_6, hx252_7, hx252_8, hx252_9, hl252_7, hi252_7, hl252_8, hi252_8, hl252_9, hi252_9⟩ := at_T35 HR0.out x4_1 p252 q252
     cases e252
     have HR252_7 := Aside0.mk hi252_7
     have HC252_7 := Aside0.mk hl252_7
     clear hi252_7 hl252_7
     have HR252_8 := Aside0.mk hi252_8
     have HC252_8 := Aside0.mk hl252_8
     clear hi252_8 hl252_8
     have HR252_9 := Aside0.mk hi252_9
     have HC252_9 := Aside0.mk hl252_9
     clear hi252_9 hl252_9
     replace p252 := eq_true p252
     replace q252 := eq_true q252
     go_wp2
     go_roundg k1
     case measure => have := HK1.out; omega
     case rel => exact ⟨(wrap64 (x3_1 + (((rd_T35 l0 x4_1).f5).length : Int))), (wrap64 (x4_1 + 1)), (by first | rfl | (simp; done) | (simp [*]; done)), (by first | rfl | (simp; done) | (simp [*]; done)), H', ⟨by have := HK1.out; omega⟩, by repeat (first | exact Drawn0.refl _ | apply Drawn0.step)⟩
    ·rw [if_neg c3] at H
     exact absurd H (by simp)
   ·rw [if_neg c2] at H
    have c2b0 : decide (x4_1 < (l0.length : Int)) = false := decide_eq_false c2
    clear c2
    by_cases c4 : (l0.length : Int) ≤ 12
    ·rw [if_pos c4] at H
     have c4b0 : decide ((l0.length : Int) ≤ 12) = true := decide_eq_true c4
     have c4b1 : decide (l0.length ≤ 12) = true := decide_eq_true (by omega)
     clear c4
     obtain rfl := Option.some.inj H
     go_wp2
     go_ret
     exact ⟨by first | rfl | (simp; done) | (simp [*]; done), by repeat (first | exact Drawn0.refl _ | apply Drawn0.step)⟩
    ·rw [if_neg c4] at H
     have c4b0 : decide ((l0.length : Int) ≤ 12) = false := decide_eq_false c4
     have c4b1 : decide (l0.length ≤ 12) = false := decide_eq_false (by omega)
     clear c4
     obtain rfl := Option.some.inj H
     go_wp2
     go_ret
     exact ⟨by first | rfl | (simp; done) | (simp [*]; done), by repeat (first | exact Drawn0.refl _ | apply Drawn0.step)⟩
mutual
def sizarref35_Build.l0 : Nat → List (S35) → Int → List (S49) → Option ((List (S49)))
 | 0, _, _, _ => none
 | k + 1, x0, x4, x255000 => if x4 < (x0.length : Int) then (sizarref35_Build.l1 k x0 x4 0 x255000) else (some x255000)
def sizarref35_Build.l1 : Nat → List (S35) → Int → Int → List (S49) → Option ((List (S49)))
 | 0, _, _, _, _ => none
 | k + 1, x0, x4, x5, x255000 => if 0 ≤ x4 then (if x4 < (x0.length : Int) then (if x5 < (((rd_T35 x0 x4).f5).length : Int) then (if 0 ≤ x5 then ((sizarref35_with.f k x255000 ((rd_T47 ((rd_T35 x0 x4).f5) x5).f0.f0) ((rd_T47 ((rd_T35 x0 x4).f5) x5).f0.f1) ((rd_T47 ((rd_T35 x0 x4).f5) x5).f0.f2) ((rd_T47 ((rd_T35 x0 x4).f5) x5).f1) ((rd_T47 ((rd_T35 x0 x4).f5) x5).f2) x4).bind fun t258 => (sizarref35_Build.l1 k x0 x4 (wrap64 (x5 + 1)) t258)) else (none)) else (sizarref35_Build.l0 k x0 (wrap64 (x4 + 1)) x255000)) else (none)) else (none)
end
def sizarref35_Build.f (k : Nat) (l0 : List (S35)) : Option ((List (S49))) := sizarref35_Build.l0 k l0 0 ([] : List (S49))
def sizarref35_Build.T8 : Bool × List (List Nat × List Nat) := (true, [([], []), ([0], [0]), ([], []), ([], []), ([2, 3], [2, 3]), ([4], [4]), ([5], [5]), ([], []), ([6, 7], [6, 7]), ([8], [8]), ([], []), ([9, 10], [9, 10]), ([1, 11], [1, 11]), ([0, 1, 2, 3, 4, 5, 6, 7, 8, 9, 10, 11, 12], []), ([13, 12, 12, 0, 1, 2, 3, 4, 5, 6, 7, 8, 9, 10, 11, 12], [12, 13])])
def sizarref35_Build.B8 : List Nat := [0, 1, 0, 0, 12, 28, 60, 0, 252, 508, 0, 2044, 4095, 8191, 16383]
theorem sizarref35_Build.tab8 : rtab .any (opsOf Try.f14 8) = sizarref35_Build.T8 := by kernel_rfl
theorem sizarref35_Build.bits8 : waitsOk sizarref35_Build.T8.2 sizarref35_Build.B8 = true := by kernel_rfl
set_option maxHeartbeats 8000000 in
set_option maxRecDepth 100000 in
theorem sizarref35_Build.calls (k : Nat) (A0 : Option Addr) (c0 : Nat) (l0 : List (S35)) (r : List (S49)) (w : World) (hr0 : Kd.C k35 w A0 l0.length l0) (hc0 : l0.length ≤ c0) (h : sizarref35_Build.f k l0 = some r) :
  Calls Try.prog 14 #[.slice A0 l0.length c0] w fun e w' => ∃ v0_ : Value, e = .returned (.agg #[v0_]) ∧ Kd.R k49 49 w' w.heap.size (fun _ => True) v0_ r ∧ Below w.heap.size w w' := by
 have hu28 := Try.underlying28
 have hu47 := Try.underlying47
 have hu49 := Try.underlying49
 have HR0 := Aside0.mk hr0
 have HC0 := Aside0.mk hc0
 clear hr0 hc0
 have HB := Aside0.mk (Below.refl w.heap.size w)
 have H : (sizarref35_Build.l0 k l0 0 ([] : List (S49))) = some r := h
 clear h
 have H' := Aside0.mk H
 clear H
 go_enter Try.func14, Try.ntmps14
 go_wp2_with (first | ((with_reducible refine gate_dst (N := 2) rfl ?_); refine box_event ?hg (N := 2) ?hd (cs := #[.slice none 0 0]) (t := 28) ?hr ?_; (case hd => rfl); (case hg => rfl); (case hr => first | (go_simp; done) | (go_simp; rfl)); intro gb253 hg w2 hbox hb; have n0_ := Aside0.mk (below_step (by repeat (first | (with_reducible first | exact HB.out | apply below_alloc | apply pw_below_drewN | apply below_drew1) | exact HB.out)) hb); have n1_ := Aside0.mk (hbox); have n2_ := Aside0.mk ((by rw [hg]; exact (below_size (by repeat (first | (with_reducible first | exact HB.out | apply below_alloc | apply pw_below_drewN | apply below_drew1) | exact HB.out))) : w.heap.size ≤ gb253)); have n3_ := Aside0.mk ((by rw [hg]; exact (below_size (by repeat (first | (with_reducible first | exact HB.out | apply below_alloc | apply pw_below_drewN | apply below_drew1) | exact HB.out))) : w.heap.size ≤ gb253)); clear HB; have HB := n0_; have BK253 := n1_; have GW253 := n2_; have GE253 := n3_; clear n0_ n1_ n2_ n3_; clear hb hbox hg) | ((with_reducible refine gate_dst (N := 3) rfl ?_); refine box_event ?hg (N := 3) ?hd (cs := #[.slice none 0 0]) (t := 28) ?hr ?_; (case hd => rfl); (case hg => rfl); (case hr => first | (go_simp; done) | (go_simp; rfl)); intro gb254 hg w3 hbox hb; have n0_ := Aside0.mk (blk_below (g := gb253) (o := .cells #[.slice none 0 0] 28 (0, 0)) (by (with_reducible repeat (first | refine blk_drewN ?_ _ | refine blk_drew ?_ | refine blk_alloc ?_ _)); exact BK253.out) hb); have n1_ := Aside0.mk (below_step (by repeat (first | (with_reducible first | exact HB.out | apply below_alloc | apply pw_below_drewN | apply below_drew1 | refine below_set ?_ GE253.out) | exact HB.out)) hb); have n2_ := Aside0.mk (hbox); have n3_ := Aside0.mk ((by rw [hg]; exact (below_size (by repeat (first | (with_reducible first | exact HB.out | apply below_alloc | apply pw_below_drewN | apply below_drew1 | refine below_set ?_ GE253.out) | exact HB.out))) : w.heap.size ≤ gb254)); have n4_ := Aside0.mk ((by rw [hg]; exact (below_size (by repeat (first | (with_reducible first | exact HB.out | apply below_alloc | apply pw_below_drewN | apply below_drew1 | refine below_set ?_ GE253.out) | exact HB.out))) : w.heap.size ≤ gb254)); have n5_ := Aside0.mk ((by rw [hg]; exact Nat.ne_of_lt (blk_lt (g := gb253) (o := .cells #[.slice none 0 0] 28 (0, 0)) (by (with_reducible repeat (first | refine blk_drewN ?_ _ | refine blk_drew ?_ | refine blk_alloc ?_ _)); exact BK253.out)) : gb253 ≠ gb254)); have n6_ := Aside0.mk ((by rw [hg]; exact Nat.ne_of_gt (blk_lt (g := gb253) (o := .cells #[.slice none 0 0] 28 (0, 0)) (by (with_reducible repeat (first | refine blk_drewN ?_ _ | refine blk_drew ?_ | refine blk_alloc ?_ _)); exact BK253.out)) : gb254 ≠ gb253)); clear BK253; clear HB; have BK253 := n0_; have HB := n1_; have BK254 := n2_; have GW254 := n3_; have GE254 := n4_; have NB253_254 := n5_; have NB254_253 := n6_; clear n0_ n1_ n2_ n3_ n4_ n5_ n6_; clear hb hbox hg; have hnb4 := NB254_253.out; have hnc4 := NB253_254.out; have hcz5_0 : w3.cell? ⟨gb254, 0, none⟩ = some (.slice none 0 0) := (blk_cell BK254.out 0).trans rfl; have hfz5_0 := blk_frozen BK254.out 0))
 go_loopg [4] k (fun kq v4 w' => ∃ (x4_1 : Int) (x255000_1 : List (S49)) (u255000 : Value), v4 = .int .i64 x4_1 ∧ Aside0 (sizarref35_Build.l0 kq l0 x4_1 x255000_1 = some r) ∧ Aside0 (kq ≤ k) ∧ Aside0 (Kd.R k49 49 w' w.heap.size (fun _ => True) u255000 x255000_1) ∧ Aside0 (w'.heap[gb253]? = some (.cells #[(.slice none 0 0)] 28 (0, 0))) ∧ Aside0 (w'.heap[gb254]? = some (.cells #[u255000] 28 (0, 0))) ∧ Aside0 (Below w.heap.size w w'))
 case atStart => exact ⟨(0), (([] : List (S49))), (.slice none 0 0), (by first | rfl | (simp; done) | (simp [*]; done)), H', ⟨Nat.le_refl _⟩, ⟨by first | exact Kd.R_nil _ _ _ _ _ | exact Kd.N_nil _ _ _ _ _ | exact Kd.V_nil _ _ _ _ _ | exact Kd.Q_nil _ _ _ _ _ | exact Kd.S_nil _ _ _ _ _⟩, ⟨by (with_reducible repeat (first | refine blk_drewN ?_ _ | refine blk_drew ?_ | refine blk_alloc ?_ _)); refine blk_far ?_ NB253_254.out _; (with_reducible repeat (first | refine blk_drewN ?_ _ | refine blk_drew ?_ | refine blk_alloc ?_ _)); exact BK253.out⟩, ⟨by (with_reducible repeat (first | refine blk_drewN ?_ _ | refine blk_drew ?_ | refine blk_alloc ?_ _)); refine blk_put (cs := #[.slice none 0 0]) ?_ 0 _ rfl; (with_reducible repeat (first | refine blk_drewN ?_ _ | refine blk_drew ?_ | refine blk_alloc ?_ _)); exact BK254.out⟩, ⟨by repeat (first | (with_reducible first | exact HB.out | apply below_alloc | apply pw_below_drewN | apply below_drew1 | refine below_set ?_ GE253.out | refine below_set ?_ GE254.out) | exact HB.out)⟩⟩
 case round =>
  clear H'
  try clear c1
  try clear p2
  try clear c4
  try clear hcz5_0
  try clear hfz5_0
  obtain ⟨x4_1, x255000_1, u255000, rfl, HA, HK1, HO_255000, BK253, BK254, HB⟩ := hrel
  cases gk with
  | zero => exact absurd HA.out (by simp [sizarref35_Build.l0])
  | succ k1 =>
   have H := HA.out
   clear HA
   simp only [sizarref35_Build.l0] at H
   by_cases c6 : x4_1 < (l0.length : Int)
   ·rw [if_pos c6] at H
    have c6b0 : decide (x4_1 < (l0.length : Int)) = true := decide_eq_true c6
    clear c6
    have H' := Aside0.mk H
    clear H
    go_wp2
    go_loopg [5] k1 (fun kq v5 w' => ∃ (x5_2 : Int) (x255000_2 : List (S49)) (u255000 : Value), v5 = .int .i64 x5_2 ∧ Aside0 (sizarref35_Build.l1 kq l0 x4_1 x5_2 x255000_2 = some r) ∧ Aside0 (kq ≤ k1) ∧ Aside0 (Kd.R k49 49 w' w.heap.size (fun _ => True) u255000 x255000_2) ∧ Aside0 (w'.heap[gb253]? = some (.cells #[(.slice none 0 0)] 28 (0, 0))) ∧ Aside0 (w'.heap[gb254]? = some (.cells #[u255000] 28 (0, 0))) ∧ Aside0 (Below w.heap.size w w'))
    case atStart => exact ⟨(0), (x255000_1), (u255000), (by first | rfl | (simp; done) | (simp [*]; done)), H', ⟨Nat.le_refl _⟩, ⟨by (with_reducible repeat (first | apply Kd.R_alloc | apply Kd.R_drewN | apply Kd.R_drew)); exact HO_255000.out⟩, ⟨by (with_reducible repeat (first | refine blk_drewN ?_ _ | refine blk_drew ?_ | refine blk_alloc ?_ _)); exact BK253.out⟩, ⟨by (with_reducible repeat (first | refine blk_drewN ?_ _ | refine blk_drew ?_ | refine blk_alloc ?_ _)); exact BK254.out⟩, ⟨by repeat (first | (with_reducible first | exact HB.out | apply below_alloc | apply pw_below_drewN | apply below_drew1 | refine below_set ?_ GE253.out | refine below_set ?_ GE254.out) | exact HB.out)⟩⟩
    case round =>
     clear H'
     try clear c1
     try clear p2
     try clear c4
     try clear c6
     try clear c6b0
     try clear hcz5_0
     try clear hfz5_0
     try clear p2
     obtain ⟨x5_2, x255000_2, u255000, rfl, HA, HK2, HO_255000, BK253, BK254, HB⟩ := hrel
     cases gk with
     | zero => exact absurd HA.out (by simp [sizarref35_Build.l1])
     | succ k2 =>
      have H := HA.out
      clear HA
      simp only [sizarref35_Build.l1] at H
      by_cases c7 : 0 ≤ x4_1
      ·rw [if_pos c7] at H
       have c7b0 : decide (0 ≤ x4_1) = true := decide_eq_true c7
       clear c7
       by_cases c8 : x4_1 < (l0.length : Int)
       ·rw [if_pos c8] at H
        have c8b0 : decide (x4_1 < (l0.length : Int)) = true := decide_eq_true c8
        clear c8
        by_cases c9 : x5_2 < (((rd_T35 l0 x4_1).f5).length : Int)
        ·rw [if_pos c9] at H
         have c9b0 : decide (x5_2 < (((rd_T35 l0 x4_1).f5).length : Int)) = true := decide_eq_true c9
         clear c9
         by_cases c10 : 0 ≤ x5_2
         ·rw [if_pos c10] at H
          have c10b0 : decide (0 ≤ x5_2) = true := decide_eq_true c10
          clear c10
          replace H := Option.bind_eq_some_iff.mp H
          obtain ⟨t258, A110, H⟩ := H
          replace H : (sizarref35_Build.l1 k2 l0 x4_1 (wrap64 (x5_2 + 1)) t258) = some r := H
          have A11 := Aside0.mk A110
          clear A110
          have H' := Aside0.mk H
          clear H
          have p255 : 0 ≤ (x4_1 : Int) := of_decide_eq_true (by first | (with_reducible assumption) | assumption)
          have q255 : x4_1 < (l0.length : Int) := of_decide_eq_true (by first | (with_reducible assumption) | assumption)
          obtain ⟨ad255, A255_7, c255_7, A255_8, c255_8, A255_9, c255_9, e255, hx255_0, hx255_1, hx255_2, hx255_3, hx255_4, hx255_5, hx255_6, hx255_7, hx255_8, hx255_9, hl255_7, hi255_7, hl255_8, hi255_8, hl255_9, hi255_9⟩ := at_T35 HR0.out x4_1 p255 q255
          cases e255
          replace hx255_0 := (HB.out.cell (World.block_lt_of_cell? w _ hx255_0)).trans hx255_0
          replace hx255_1 := (HB.out.cell (World.block_lt_of_cell? w _ hx255_1)).trans hx255_1
          replace hx255_2 := (HB.out.cell (World.block_lt_of_cell? w _ hx255_2)).trans hx255_2
          replace hx255_3 := (HB.out.cell (World.block_lt_of_cell? w _ hx255_3)).trans hx255_3
          replace hx255_4 := (HB.out.cell (World.block_lt_of_cell? w _ hx255_4)).trans hx255_4
          replace hx255_5 := (HB.out.cell (World.block_lt_of_cell? w _ hx255_5)).trans hx255_5
          replace hx255_6 := (HB.out.cell (World.block_lt_of_cell? w _ hx255_6)).trans hx255_6
          replace hx255_7 := (HB.out.cell (World.block_lt_of_cell? w _ hx255_7)).trans hx255_7
          replace hx255_8 := (HB.out.cell (World.block_lt_of_cell? w _ hx255_8)).trans hx255_8
          replace hx255_9 := (HB.out.cell (World.block_lt_of_cell? w _ hx255_9)).trans hx255_9
          have HR255_7 := Aside0.mk hi255_7
          have HC255_7 := Aside0.mk hl255_7
          clear hi255_7 hl255_7
          have HR255_8 := Aside0.mk hi255_8
          have HC255_8 := Aside0.mk hl255_8
          clear hi255_8 hl255_8
          have HR255_9 := Aside0.mk hi255_9
          have HC255_9 := Aside0.mk hl255_9
          clear hi255_9 hl255_9
          replace p255 := eq_true p255
          replace q255 := eq_true q255
          try go_wp2
          have n0_ := Aside0.mk (Kd.R_drew HO_255000.out)
          have n1_ := Aside0.mk (blk_drew BK253.out)
          have n2_ := Aside0.mk (blk_drew BK254.out)
          have n3_ := Aside0.mk (below_drew1 HB.out)
          clear HO_255000
          clear BK253
          clear BK254
          clear HB
          have HO_255000 := n0_
          have BK253 := n1_
          have BK254 := n2_
          have HB := n3_
          clear n0_ n1_ n2_ n3_
          have p256 : 0 ≤ (x4_1 : Int) := of_decide_eq_true (by first | (with_reducible assumption) | assumption)
          have q256 : x4_1 < (l0.length : Int) := of_decide_eq_true (by first | (with_reducible assumption) | assumption)
          obtain ⟨ad256, A256_7, c256_7, A256_8, c256_8, A256_9, c256_9, e256, hx256_0, hx256_1, hx256_2, hx256_3, hx256_4, hx256_5, hx256_6, hx256_7, hx256_8, hx256_9, hl256_7, hi256_7, hl256_8, hi256_8, hl256_9, hi256_9⟩ := at_T35 HR0.out x4_1 p256 q256
          have hw256_9 := hx256_9
          have hw256_8 := hx256_8
          have hw256_7 := hx256_7
          have hw256_6 := hx256_6
          have hw256_5 := hx256_5
          have hw256_4 := hx256_4
          have hw256_3 := hx256_3
          have hw256_2 := hx256_2
          have hw256_1 := hx256_1
          have hw256_0 := hx256_0
          obtain rfl : ad255 = ad256 := (by injection e256)
          replace hx256_0 := (HB.out.cell (World.block_lt_of_cell? w _ hx256_0)).trans hx256_0
          replace hx256_1 := (HB.out.cell (World.block_lt_of_cell? w _ hx256_1)).trans hx256_1
          replace hx256_2 := (HB.out.cell (World.block_lt_of_cell? w _ hx256_2)).trans hx256_2
          replace hx256_3 := (HB.out.cell (World.block_lt_of_cell? w _ hx256_3)).trans hx256_3
          replace hx256_4 := (HB.out.cell (World.block_lt_of_cell? w _ hx256_4)).trans hx256_4
          replace hx256_5 := (HB.out.cell (World.block_lt_of_cell? w _ hx256_5)).trans hx256_5
          replace hx256_6 := (HB.out.cell (World.block_lt_of_cell? w _ hx256_6)).trans hx256_6
          replace hx256_7 := (HB.out.cell (World.block_lt_of_cell? w _ hx256_7)).trans hx256_7
          replace hx256_8 := (HB.out.cell (World.block_lt_of_cell? w _ hx256_8)).trans hx256_8
          replace hx256_9 := (HB.out.cell (World.block_lt_of_cell? w _ hx256_9)).trans hx256_9
          have HR256_7 := Aside0.mk hi256_7
          have HC256_7 := Aside0.mk hl256_7
          clear hi256_7 hl256_7
          have HR256_8 := Aside0.mk hi256_8
          have HC256_8 := Aside0.mk hl256_8
          clear hi256_8 hl256_8
          have HR256_9 := Aside0.mk hi256_9
          have HC256_9 := Aside0.mk hl256_9
          clear hi256_9 hl256_9
          replace p256 := eq_true p256
          replace q256 := eq_true q256
          have p257 : 0 ≤ (x5_2 : Int) := of_decide_eq_true (by first | (with_reducible assumption) | assumption)
          have q257 : x5_2 < (((rd_T35 l0 x4_1).f5).length : Int) := of_decide_eq_true (by first | (with_reducible assumption) | assumption)
          obtain ⟨ad257, e257, hx257_0, hx257_1, hx257_2, hx257_3, hx257_4⟩ := at_T47 HR256_8.out x5_2 p257 q257
          have hw257_4 := hx257_4
          have hw257_3 := hx257_3
          have hw257_2 := hx257_2
          have hw257_1 := hx257_1
          have hw257_0 := hx257_0
          cases e257
          replace hx257_0 := (HB.out.cell (World.block_lt_of_cell? w _ hx257_0)).trans hx257_0
          replace hx257_1 := (HB.out.cell (World.block_lt_of_cell? w _ hx257_1)).trans hx257_1
          replace hx257_2 := (HB.out.cell (World.block_lt_of_cell? w _ hx257_2)).trans hx257_2
          replace hx257_3 := (HB.out.cell (World.block_lt_of_cell? w _ hx257_3)).trans hx257_3
          replace hx257_4 := (HB.out.cell (World.block_lt_of_cell? w _ hx257_4)).trans hx257_4
          replace p257 := eq_true p257
          replace q257 := eq_true q257
          obtain ⟨Ao13, co13, eo13⟩ := Kd.R_slice HO_255000.out
          (first | subst eo13 | (injection eo13 with f1_ f2_ f3_; have f4_ := f1_.symm; have f5_ := f3_.symm; clear f1_ f2_ f3_; subst f4_; subst f5_))
          refine start_ (n := 15) (S := fun w' => w'.cell? ⟨gb254, 0, none⟩ = some (.slice Ao13 x255000_2.length co13) ∧ w'.cell? (ad255.add ((x4_1).toNat * 10)) = some (.int .i64 ((rd_T35 l0 x4_1).f0.f0)) ∧ w'.cell? ⟨(ad255.add ((x4_1).toNat * 10)).block, (ad255.add ((x4_1).toNat * 10)).off + 1, none⟩ = some (.int .i64 ((rd_T35 l0 x4_1).f0.f1)) ∧ w'.cell? ⟨(ad255.add ((x4_1).toNat * 10)).block, (ad255.add ((x4_1).toNat * 10)).off + 2, none⟩ = some (.int .i64 ((rd_T35 l0 x4_1).f0.f2)) ∧ w'.cell? ⟨(ad255.add ((x4_1).toNat * 10)).block, (ad255.add ((x4_1).toNat * 10)).off + 3, none⟩ = some (.int .i64 ((rd_T35 l0 x4_1).f0.f3)) ∧ w'.cell? ⟨(ad255.add ((x4_1).toNat * 10)).block, (ad255.add ((x4_1).toNat * 10)).off + 4, none⟩ = some (.int .i64 ((rd_T35 l0 x4_1).f1)) ∧ w'.cell? ⟨(ad255.add ((x4_1).toNat * 10)).block, (ad255.add ((x4_1).toNat * 10)).off + 5, none⟩ = some (.int .i64 ((rd_T35 l0 x4_1).f2)) ∧ w'.cell? ⟨(ad255.add ((x4_1).toNat * 10)).block, (ad255.add ((x4_1).toNat * 10)).off + 6, none⟩ = some (.int .i64 ((rd_T35 l0 x4_1).f3)) ∧ w'.cell? ⟨(ad255.add ((x4_1).toNat * 10)).block, (ad255.add ((x4_1).toNat * 10)).off + 7, none⟩ = some (.slice A256_7 ((rd_T35 l0 x4_1).f4).length c256_7) ∧ w'.cell? ⟨(ad255.add ((x4_1).toNat * 10)).block, (ad255.add ((x4_1).toNat * 10)).off + 8, none⟩ = some (.slice (some ad257) ((rd_T35 l0 x4_1).f5).length c256_8) ∧ w'.cell? ⟨(ad255.add ((x4_1).toNat * 10)).block, (ad255.add ((x4_1).toNat * 10)).off + 9, none⟩ = some (.slice A256_9 ((rd_T35 l0 x4_1).f6).length c256_9) ∧ w'.cell? (ad257.add ((x5_2).toNat * 5)) = some (.int .i64 ((rd_T47 ((rd_T35 l0 x4_1).f5) x5_2).f0.f0)) ∧ w'.cell? ⟨(ad257.add ((x5_2).toNat * 5)).block, (ad257.add ((x5_2).toNat * 5)).off + 1, none⟩ = some (.int .i64 ((rd_T47 ((rd_T35 l0 x4_1).f5) x5_2).f0.f1)) ∧ w'.cell? ⟨(ad257.add ((x5_2).toNat * 5)).block, (ad257.add ((x5_2).toNat * 5)).off + 2, none⟩ = some (.int .i64 ((rd_T47 ((rd_T35 l0 x4_1).f5) x5_2).f0.f2)) ∧ w'.cell? ⟨(ad257.add ((x5_2).toNat * 5)).block, (ad257.add ((x5_2).toNat * 5)).off + 3, none⟩ = some (.int .i64 ((rd_T47 ((rd_T35 l0 x4_1).f5) x5_2).f1)) ∧ w'.cell? ⟨(ad257.add ((x5_2).toNat * 5)).block, (ad257.add ((x5_2).toNat * 5)).off + 4, none⟩ = some (.int .i64 ((rd_T47 ((rd_T35 l0 x4_1).f5) x5_2).f2))) (ds := [14]) #[false, false, false, false, false, false, false, false, false, false, false, false, false, false, false] (by kernel_rfl) rfl rfl ⟨(blk_cell BK254.out 0).trans rfl, ((HB.out.cell (World.block_lt_of_cell? w _ hw256_0)).trans hw256_0), ((HB.out.cell (World.block_lt_of_cell? w _ hw256_1)).trans hw256_1), ((HB.out.cell (World.block_lt_of_cell? w _ hw256_2)).trans hw256_2), ((HB.out.cell (World.block_lt_of_cell? w _ hw256_3)).trans hw256_3), ((HB.out.cell (World.block_lt_of_cell? w _ hw256_4)).trans hw256_4), ((HB.out.cell (World.block_lt_of_cell? w _ hw256_5)).trans hw256_5), ((HB.out.cell (World.block_lt_of_cell? w _ hw256_6)).trans hw256_6), ((HB.out.cell (World.block_lt_of_cell? w _ hw256_7)).trans hw256_7), ((HB.out.cell (World.block_lt_of_cell? w _ hw256_8)).trans hw256_8), ((HB.out.cell (World.block_lt_of_cell? w _ hw256_9)).trans hw256_9), ((HB.out.cell (World.block_lt_of_cell? w _ hw257_0)).trans hw257_0), ((HB.out.cell (World.block_lt_of_cell? w _ hw257_1)).trans hw257_1), ((HB.out.cell (World.block_lt_of_cell? w _ hw257_2)).trans hw257_2), ((HB.out.cell (World.block_lt_of_cell? w _ hw257_3)).trans hw257_3), ((HB.out.cell (World.block_lt_of_cell? w _ hw257_4)).trans hw257_4)⟩ (fun hHeld => ?_); refine with_tabW sizarref35_Build.tab8 sizarref35_Build.bits8 (fun HT_ HW_ => ?_)
          generalize wr.drew = w12 at HO_255000 BK253 BK254 HB HR256_7 HR256_8 HR256_9 hx256_0 hx256_1 hx256_2 hx256_3 hx256_4 hx256_5 hx256_6 hx256_7 hx256_8 hx256_9 hx257_0 hx257_1 hx257_2 hx257_3 hx257_4 hHeld ⊢
          refine pure_ (i := 0) (N := some 23) (v := ?_) (a' := ?_) #[true, false, false, false, false, false, false, false, false, false, false, false, false, false, false] rfl rfl (any_of HT_.out (by kernel_rfl)) (fun _ _ _ h => h) (Or.inl ⟨by rfl, ?_⟩) ?_ ?_
          rotate_left
          ·intro w'
           go_simp
           with_reducible rfl
          rotate_left
          ·simp only [Act.put, List.setIfInBounds_toArray, List.set_cons_zero, List.set_cons_succ, i64_w, i32_w]
           rfl
          refine pure_ (i := 2) (N := some 25) (v := ?_) (a' := ?_) #[true, false, true, false, false, false, false, false, false, false, false, false, false, false, false] rfl rfl (any_of HT_.out (by kernel_rfl)) (fun _ _ _ h => h) (Or.inl ⟨by rfl, ?_⟩) ?_ ?_
          rotate_left
          ·intro w'
           go_simp
           with_reducible rfl
          rotate_left
          ·simp only [Act.put, List.setIfInBounds_toArray, List.set_cons_zero, List.set_cons_succ, i64_w, i32_w]
           rfl
          refine pure_ (i := 3) (N := some 26) (v := ?_) (a' := ?_) #[true, false, true, true, false, false, false, false, false, false, false, false, false, false, false] rfl rfl (any_of HT_.out (by kernel_rfl)) (fun _ _ _ h => h) (Or.inl ⟨by rfl, ?_⟩) ?_ ?_
          rotate_left
          ·intro w'
           go_simp
           with_reducible rfl
          rotate_left
          ·simp only [Act.put, List.setIfInBounds_toArray, List.set_cons_zero, List.set_cons_succ, i64_w, i32_w]
           rfl
          refine pure_ (i := 4) (N := some 27) (v := ?_) (a' := ?_) #[true, false, true, true, true, false, false, false, false, false, false, false, false, false, false] rfl rfl (any_of HT_.out (by kernel_rfl)) (fun _ _ _ h => h) (Or.inl ⟨by rfl, ?_⟩) ?_ ?_
          rotate_left
          ·intro w'
           go_simp
           with_reducible rfl
          rotate_left
          ·simp only [Act.put, List.setIfInBounds_toArray, List.set_cons_zero, List.set_cons_succ, i64_w, i32_w]
           rfl
          refine pure_ (i := 5) (N := some 28) (v := ?_) (a' := ?_) #[true, false, true, true, true, true, false, false, false, false, false, false, false, false, false] rfl rfl (any_of HT_.out (by kernel_rfl)) (fun _ _ _ h => h) (Or.inl ⟨by rfl, ?_⟩) ?_ ?_
          rotate_left
          ·intro w'
           go_simp
           with_reducible rfl
          rotate_left
          ·simp only [Act.put, List.setIfInBounds_toArray, List.set_cons_zero, List.set_cons_succ, i64_w, i32_w]
           rfl
          refine pure_ (i := 7) (N := some 30) (v := ?_) (a' := ?_) #[true, false, true, true, true, true, false, true, false, false, false, false, false, false, false] rfl rfl (any_of HT_.out (by kernel_rfl)) (fun _ _ _ h => h) (Or.inl ⟨by rfl, ?_⟩) ?_ ?_
          rotate_left
          ·intro w'
           go_simp
           with_reducible rfl
          rotate_left
          ·simp only [Act.put, List.setIfInBounds_toArray, List.set_cons_zero, List.set_cons_succ, i64_w, i32_w]
           rfl
          refine pure_ (i := 10) (N := some 33) (v := ?_) (a' := ?_) #[true, false, true, true, true, true, false, true, false, false, true, false, false, false, false] rfl rfl (any_of HT_.out (by kernel_rfl)) (fun _ _ _ h => h) (Or.inl ⟨by rfl, ?_⟩) ?_ ?_
          rotate_left
          ·intro w'
           go_simp
           with_reducible rfl
          rotate_left
          ·simp only [Act.put, List.setIfInBounds_toArray, List.set_cons_zero, List.set_cons_succ, i64_w, i32_w]
           rfl
          refine take_ (i := 1) (N := some 24) (v := ?_) (a' := ?_) #[true, true, true, true, true, true, false, true, false, false, true, false, false, false, false] rfl rfl (take_ofW HT_.out HW_.out (by kernel_rfl)) (fun _ _ _ h => h) (Or.inl ⟨by rfl, ?_⟩) hHeld ?_ ?_
          rotate_left
          ·rintro w' ⟨s0, s1, s2, s3, s4, s5, s6, s7, s8, s9, s10, s11, s12, s13, s14, s15⟩
           go_simp
           with_reducible rfl
          rotate_left
          ·simp only [Act.put, List.setIfInBounds_toArray, List.set_cons_zero, List.set_cons_succ, i64_w, i32_w]
           rfl
          refine take_ (i := 6) (N := some 29) (v := ?_) (a' := ?_) #[true, true, true, true, true, true, true, true, false, false, true, false, false, false, false] rfl rfl (take_ofW HT_.out HW_.out (by kernel_rfl)) (fun _ _ _ h => h) (Or.inl ⟨by rfl, ?_⟩) hHeld ?_ ?_
          rotate_left
          ·rintro w' ⟨s0, s1, s2, s3, s4, s5, s6, s7, s8, s9, s10, s11, s12, s13, s14, s15⟩
           go_simp
           with_reducible rfl
          rotate_left
          ·simp only [Act.put, List.setIfInBounds_toArray, List.set_cons_zero, List.set_cons_succ, i64_w, i32_w]
           rfl
          refine pure_ (i := 8) (N := some 31) (v := ?_) (a' := ?_) #[true, true, true, true, true, true, true, true, true, false, true, false, false, false, false] rfl rfl (any_of HT_.out (by kernel_rfl)) (fun _ _ _ h => h) (Or.inl ⟨by rfl, ?_⟩) ?_ ?_
          rotate_left
          ·intro w'
           go_simp
           with_reducible rfl
          rotate_left
          ·simp only [Act.put, List.setIfInBounds_toArray, List.set_cons_zero, List.set_cons_succ, i64_w, i32_w]
           rfl
          refine take_ (i := 9) (N := some 32) (v := ?_) (a' := ?_) #[true, true, true, true, true, true, true, true, true, true, true, false, false, false, false] rfl rfl (take_ofW HT_.out HW_.out (by kernel_rfl)) (fun _ _ _ h => h) (Or.inl ⟨by rfl, ?_⟩) hHeld ?_ ?_
          rotate_left
          ·rintro w' ⟨s0, s1, s2, s3, s4, s5, s6, s7, s8, s9, s10, s11, s12, s13, s14, s15⟩
           go_simp
           with_reducible rfl
          rotate_left
          ·simp only [Act.put, List.setIfInBounds_toArray, List.set_cons_zero, List.set_cons_succ, i64_w, i32_w]
           rfl
          refine pure_ (i := 11) (N := some 34) (v := ?_) (a' := ?_) #[true, true, true, true, true, true, true, true, true, true, true, true, false, false, false] rfl rfl (any_of HT_.out (by kernel_rfl)) (fun _ _ _ h => h) (Or.inl ⟨by rfl, ?_⟩) ?_ ?_
          rotate_left
          ·intro w'
           go_simp
           with_reducible rfl
          rotate_left
          ·simp only [Act.put, List.setIfInBounds_toArray, List.set_cons_zero, List.set_cons_succ, i64_w, i32_w]
           rfl
          refine one_ (i := 12) (N := some 35) #[true, true, true, true, true, true, true, true, true, true, true, true, true, false, false] rfl rfl (one_of HT_.out (by kernel_rfl)) (by decide) (fun K hK => ?_)
          refine goes_ Try.func31 (by kernel_rfl) rfl #[.slice Ao13 x255000_2.length co13, .agg #[.int .i64 ((rd_T47 ((rd_T35 l0 x4_1).f5) x5_2).f0.f0), .int .i64 ((rd_T47 ((rd_T35 l0 x4_1).f5) x5_2).f0.f1), .int .i64 ((rd_T47 ((rd_T35 l0 x4_1).f5) x5_2).f0.f2), .int .i64 ((rd_T47 ((rd_T35 l0 x4_1).f5) x5_2).f1), .int .i64 ((rd_T47 ((rd_T35 l0 x4_1).f5) x5_2).f2), .int .i64 x4_1]] (by rfl) rfl rfl (by (try simp only [List.map_toArray, List.map_cons, List.map_nil]); first | done | rfl | (simp only [List.length_drop, List.length_take]; rfl)) ?_
          with_reducible refine (sizarref35_with.calls k2 (fun k_ => some k_ = (.slice Ao13 x255000_2.length co13 : Value).ownBlock) (.slice Ao13 x255000_2.length co13) x255000_2 ((rd_T47 ((rd_T35 l0 x4_1).f5) x5_2).f0.f0) ((rd_T47 ((rd_T35 l0 x4_1).f5) x5_2).f0.f1) ((rd_T47 ((rd_T35 l0 x4_1).f5) x5_2).f0.f2) ((rd_T47 ((rd_T35 l0 x4_1).f5) x5_2).f1) ((rd_T47 ((rd_T35 l0 x4_1).f5) x5_2).f2) x4_1 t258 w _ ?side1 ?side2 A11.out).mono ?_
          (case side1 => repeat (first | (with_reducible first | exact HB.out | apply below_alloc | apply pw_below_drewN | apply below_drew1 | refine below_set ?_ GE253.out | refine below_set ?_ GE254.out) | exact HB.out))
          (case side2 => exact Kd.R_tight rfl HO_255000.out)
          rintro e w14 ⟨v259, rfl, ho0, hb, hkp⟩
          refine ⟨_, rfl, ?_⟩
          have n0_ := Aside0.mk (blk_kept (by (with_reducible repeat (first | refine blk_drewN ?_ _ | refine blk_drew ?_ | refine blk_alloc ?_ _)); exact BK253.out) hkp (fun hs_ => (fun e_ => (Kd.R_ne HO_255000.out BK253.out (by decide)) e_) hs_))
          have n1_ := Aside0.mk (blk_kept (by (with_reducible repeat (first | refine blk_drewN ?_ _ | refine blk_drew ?_ | refine blk_alloc ?_ _)); exact BK254.out) hkp (fun hs_ => (fun e_ => (Kd.R_ne HO_255000.out BK254.out (by decide)) e_) hs_))
          have n2_ := Aside0.mk (Kd.R_mono (ok' := fun k_ => True) ho0 (fun k_ hk_ => trivial))
          have n3_ := Aside0.mk (hb)
          clear BK253
          clear BK254
          clear HB
          clear HO_255000
          have BK253 := n0_
          have BK254 := n1_
          have HO260 := n2_
          have HB := n3_
          clear n0_ n1_ n2_ n3_
          (try clear hb)
          (try clear hkp)
          (try clear ho0)
          obtain ⟨Ao15, co15, eo15⟩ := Kd.R_slice HO260.out
          (first | subst eo15 | (injection eo15 with f1_ f2_ f3_; have f4_ := f1_.symm; have f5_ := f3_.symm; clear f1_ f2_ f3_; subst f4_; subst f5_))
          refine hK.out _ _ ⟨(blk_cell BK254.out 0).trans rfl, ((HB.out.cell (World.block_lt_of_cell? w _ hw256_0)).trans hw256_0), ((HB.out.cell (World.block_lt_of_cell? w _ hw256_1)).trans hw256_1), ((HB.out.cell (World.block_lt_of_cell? w _ hw256_2)).trans hw256_2), ((HB.out.cell (World.block_lt_of_cell? w _ hw256_3)).trans hw256_3), ((HB.out.cell (World.block_lt_of_cell? w _ hw256_4)).trans hw256_4), ((HB.out.cell (World.block_lt_of_cell? w _ hw256_5)).trans hw256_5), ((HB.out.cell (World.block_lt_of_cell? w _ hw256_6)).trans hw256_6), ((HB.out.cell (World.block_lt_of_cell? w _ hw256_7)).trans hw256_7), ((HB.out.cell (World.block_lt_of_cell? w _ hw256_8)).trans hw256_8), ((HB.out.cell (World.block_lt_of_cell? w _ hw256_9)).trans hw256_9), ((HB.out.cell (World.block_lt_of_cell? w _ hw257_0)).trans hw257_0), ((HB.out.cell (World.block_lt_of_cell? w _ hw257_1)).trans hw257_1), ((HB.out.cell (World.block_lt_of_cell? w _ hw257_2)).trans hw257_2), ((HB.out.cell (World.block_lt_of_cell? w _ hw257_3)).trans hw257_3), ((HB.out.cell (World.block_lt_of_cell? w _ hw257_4)).trans hw257_4)⟩ (fun hHeld => ?_)
          clear hK K
          refine norm_ (a' := ?_) ?_ ?_
          rotate_left
          ·show Act.put _ (some 35) _ = _
           simp only [Act.put, List.setIfInBounds_toArray, List.set_cons_zero, List.set_cons_succ, i64_w, i32_w]
           rfl
          refine pure_ (i := 13) (N := some 36) (v := ?_) (a' := ?_) #[true, true, true, true, true, true, true, true, true, true, true, true, true, true, false] rfl rfl (any_of HT_.out (by kernel_rfl)) (fun _ _ _ h => h) (Or.inl ⟨by rfl, ?_⟩) ?_ ?_
          rotate_left
          ·intro w'
           go_simp
           with_reducible rfl
          rotate_left
          ·simp only [Act.put, List.setIfInBounds_toArray, List.set_cons_zero, List.set_cons_succ, i64_w, i32_w]
           rfl
          refine last_ (i := 14) (N := none) #[true, true, true, true, true, true, true, true, true, true, true, true, true, true, true] rfl rfl (one_of HT_.out (by kernel_rfl)) (by decide) (fun K hK => ?_)
          have hs16 : w14.cell? ⟨gb254, 0, none⟩ = some (.slice Ao13 x255000_2.length co13) := (blk_cell BK254.out 0).trans rfl
          have hfs16 := blk_frozen BK254.out 0
          have hns16_0 := NB253_254.out
          have hms16_0 := NB254_253.out
          refine skip_ (w1 := ?_) (by rfl) rfl ?_ ?_
          rotate_left
          ·go_simp
           rfl
          refine hK.out _ _ ?_
          clear hK K
          refine done_ (done_of HT_.out (by kernel_rfl)) ?_
          try go_wp2
          go_roundg k2
          case measure => have := HK1.out; have := HK2.out; omega
          case rel => exact ⟨(wrap64 (x5_2 + 1)), (t258), (.slice Ao15 t258.length co15), (by first | rfl | (simp; done) | (simp [*]; done)), H', ⟨by have := HK1.out; have := HK2.out; omega⟩, ⟨by (with_reducible repeat (first | apply Kd.R_alloc | apply Kd.R_drewN | apply Kd.R_drew)); exact Kd.R_mono (Kd.R_far (p := ⟨gb254, 0, none⟩) (Kd.R_types HO260.out BK254.out (by decide)) (fun _ hk => hk.2) (.slice Ao15 t258.length co15)) (fun _ hk => trivial)⟩, ⟨by (with_reducible repeat (first | refine blk_drewN ?_ _ | refine blk_drew ?_ | refine blk_alloc ?_ _)); refine blk_far ?_ NB253_254.out _; (with_reducible repeat (first | refine blk_drewN ?_ _ | refine blk_drew ?_ | refine blk_alloc ?_ _)); exact BK253.out⟩, ⟨by (with_reducible repeat (first | refine blk_drewN ?_ _ | refine blk_drew ?_ | refine blk_alloc ?_ _)); refine blk_put (cs := #[.slice Ao13 x255000_2.length co13]) ?_ 0 _ rfl; (with_reducible repeat (first | refine blk_drewN ?_ _ | refine blk_drew ?_ | refine blk_alloc ?_ _)); exact BK254.out⟩, ⟨by repeat (first | (with_reducible first | exact HB.out | apply below_alloc | apply pw_below_drewN | apply below_drew1 | refine below_set ?_ GE253.out | refine below_set ?_ GE254.out) | exact HB.out)⟩⟩
         ·rw [if_neg c10] at H
          exact absurd H (by simp)
        ·rw [if_neg c9] at H
         have c9b0 : decide (x5_2 < (((rd_T35 l0 x4_1).f5).length : Int)) = false := decide_eq_false c9
         clear c9
         have H' := Aside0.mk H
         clear H
         have p255 : 0 ≤ (x4_1 : Int) := of_decide_eq_true (by first | (with_reducible assumption) | assumption)
         have q255 : x4_1 < (l0.length : Int) := of_decide_eq_true (by first | (with_reducible assumption) | assumption)
         obtain ⟨ad255, A255_7, c255_7, A255_8, c255_8, A255_9, c255_9, e255, hx255_0, hx255_1, hx255_2, hx255_3, hx255_4, hx255_5, hx255_6, hx255_7, hx255_8, hx255_9, hl255_7, hi255_7, hl255_8, hi255_8, hl255_9, hi255_9⟩ := at_T35 HR0.out x4_1 p255 q255
         cases e255
         replace hx255_0 := (HB.out.cell (World.block_lt_of_cell? w _ hx255_0)).trans hx255_0
         replace hx255_1 := (HB.out.cell (World.block_lt_of_cell? w _ hx255_1)).trans hx255_1
         replace hx255_2 := (HB.out.cell (World.block_lt_of_cell? w _ hx255_2)).trans hx255_2
         replace hx255_3 := (HB.out.cell (World.block_lt_of_cell? w _ hx255_3)).trans hx255_3
         replace hx255_4 := (HB.out.cell (World.block_lt_of_cell? w _ hx255_4)).trans hx255_4
         replace hx255_5 := (HB.out.cell (World.block_lt_of_cell? w _ hx255_5)).trans hx255_5
         replace hx255_6 := (HB.out.cell (World.block_lt_of_cell? w _ hx255_6)).trans hx255_6
         replace hx255_7 := (HB.out.cell (World.block_lt_of_cell? w _ hx255_7)).trans hx255_7
         replace hx255_8 := (HB.out.cell (World.block_lt_of_cell? w _ hx255_8)).trans hx255_8
         replace hx255_9 := (HB.out.cell (World.block_lt_of_cell? w _ hx255_9)).trans hx255_9
         have HR255_7 := Aside0.mk hi255_7
         have HC255_7 := Aside0.mk hl255_7
         clear hi255_7 hl255_7
         have HR255_8 := Aside0.mk hi255_8
         have HC255_8 := Aside0.mk hl255_8
         clear hi255_8 hl255_8
         have HR255_9 := Aside0.mk hi255_9
         have HC255_9 := Aside0.mk hl255_9
         clear hi255_9 hl255_9
         replace p255 := eq_true p255
         replace q255 := eq_true q255
         go_wp2
         go_roundg k2
         case measure => have := HK1.out; have := HK2.out; omega
         case rel => exact ⟨(wrap64 (x4_1 + 1)), (x255000_2), (u255000), (by first | rfl | (simp; done) | (simp [*]; done)), H', ⟨by have := HK1.out; have := HK2.out; omega⟩, ⟨by (with_reducible repeat (first | apply Kd.R_alloc | apply Kd.R_drewN | apply Kd.R_drew)); exact HO_255000.out⟩, ⟨by (with_reducible repeat (first | refine blk_drewN ?_ _ | refine blk_drew ?_ | refine blk_alloc ?_ _)); exact BK253.out⟩, ⟨by (with_reducible repeat (first | refine blk_drewN ?_ _ | refine blk_drew ?_ | refine blk_alloc ?_ _)); exact BK254.out⟩, ⟨by repeat (first | (with_reducible first | exact HB.out | apply below_alloc | apply pw_below_drewN | apply below_drew1 | refine below_set ?_ GE253.out | refine below_set ?_ GE254.out) | exact HB.out)⟩⟩
       ·rw [if_neg c8] at H
        exact absurd H (by simp)
      ·rw [if_neg c7] at H
       exact absurd H (by simp)
   ·rw [if_neg c6] at H
    have c6b0 : decide (x4_1 < (l0.length : Int)) = false := decide_eq_false c6
    clear c6
    obtain rfl := Option.some.inj H
    have hnb17 := NB254_253.out
    have hnc17 := NB253_254.out
    have hcz18_0 : wr.cell? ⟨gb254, 0, none⟩ = some (u255000) := (blk_cell BK254.out 0).trans rfl
    have hfz18_0 := blk_frozen BK254.out 0
    obtain ⟨Ao19, co19, eo19⟩ := Kd.R_slice HO_255000.out
    subst eo19
    have hcz20_0 : wr.cell? ⟨gb253, 0, none⟩ = some (.slice none 0 0) := (blk_cell BK253.out 0).trans rfl
    have hfz20_0 := blk_frozen BK253.out 0
    go_wp2
    refine bodyPost_ret (results_cell_row rfl _ _ gb253 28 #[.slice Ao19 x255000_1.length co19] (0, 0) _ rfl (by (with_reducible repeat (first | refine blk_drewN ?_ _ | refine blk_drew ?_ | refine blk_alloc ?_ _)); refine blk_put (cs := #[.slice none 0 0]) ?_ 0 _ rfl; (with_reducible repeat (first | refine blk_drewN ?_ _ | refine blk_drew ?_ | refine blk_alloc ?_ _)); exact BK253.out) Try.underlying28 rfl (by kernel_rfl)) rfl ?_
    exact ⟨_, by first | rfl | (simp [errW_none, errW_some] <;> rfl) | (simp [*, errW_none, errW_some] <;> rfl), by (with_reducible repeat (first | apply Kd.R_alloc | apply Kd.R_drewN | apply Kd.R_drew)); exact Kd.R_mono (Kd.R_far (p := ⟨gb253, 0, none⟩) (Kd.R_types HO_255000.out BK253.out (by decide)) (fun _ hk => hk.2) (.slice Ao19 x255000_1.length co19)) (fun _ hk => trivial), by repeat (first | (with_reducible first | exact HB.out | apply below_alloc | apply pw_below_drewN | apply below_drew1 | refine below_set ?_ GE253.out | refine below_set ?_ GE254.out) | exact HB.out)⟩
def sizarlaw35_IndexBuildSpec.f (k : Nat) (l0 : List (S35)) : Option (Bool) := (sizarlaw35_sane.f k).bind fun t261 => (if t261 = true then ((sizarref35_Few.f k l0).bind fun t262 => (if t262 = true then ((index_Build.f l0).bind fun t263 => ((sizarref35_Build.f k l0).bind fun t266 => ((sizarref35_Same.f k t263 t266).bind fun t269 => (some t269)))) else (some true))) else (some false))
set_option maxHeartbeats 8000000 in
set_option maxRecDepth 100000 in
theorem sizarlaw35_IndexBuildSpec.calls (k : Nat) (A0 : Option Addr) (c0 : Nat) (l0 : List (S35)) (r : Bool) (w : World) (hr0 : Kd.C k35 w A0 l0.length l0) (hc0 : l0.length ≤ c0) (h : sizarlaw35_IndexBuildSpec.f k l0 = some r) :
  Calls Try.prog 3 #[.slice A0 l0.length c0] w fun e w' => e = .returned (.bool r) ∧ Below w.heap.size w w' := by
 have HR0 := Aside0.mk hr0
 have HC0 := Aside0.mk hc0
 clear hr0 hc0
 have HB := Aside0.mk (Below.refl w.heap.size w)
 have H : ((sizarlaw35_sane.f k).bind fun t261 => (if t261 = true then ((sizarref35_Few.f k l0).bind fun t262 => (if t262 = true then ((index_Build.f l0).bind fun t263 => ((sizarref35_Build.f k l0).bind fun t266 => ((sizarref35_Same.f k t263 t266).bind fun t269 => (some t269)))) else (some true))) else (some false))) = some r := h
 clear h
 replace H := Option.bind_eq_some_iff.mp H
 obtain ⟨t261, A20, H⟩ := H
 replace H : (if t261 = true then ((sizarref35_Few.f k l0).bind fun t262 => (if t262 = true then ((index_Build.f l0).bind fun t263 => ((sizarref35_Build.f k l0).bind fun t266 => ((sizarref35_Same.f k t263 t266).bind fun t269 => (some t269)))) else (some true))) else (some false)) = some r := H
 have A2 := Aside0.mk A20
 clear A20
 by_cases c3 : t261 = true
 ·subst c3
  have H1 : ((sizarref35_Few.f k l0).bind fun t262 => (if t262 = true then ((index_Build.f l0).bind fun t263 => ((sizarref35_Build.f k l0).bind fun t266 => ((sizarref35_Same.f k t263 t266).bind fun t269 => (some t269)))) else (some true))) = some r := by rw [if_pos rfl] at H; exact H
  clear H
  have H := H1
  clear H1
  replace H := Option.bind_eq_some_iff.mp H
  obtain ⟨t262, A40, H⟩ := H
  replace H : (if t262 = true then ((index_Build.f l0).bind fun t263 => ((sizarref35_Build.f k l0).bind fun t266 => ((sizarref35_Same.f k t263 t266).bind fun t269 => (some t269)))) else (some true)) = some r := H
  have A4 := Aside0.mk A40
  clear A40
  by_cases c5 : t262 = true
  ·subst c5
   have H1 : ((index_Build.f l0).bind fun t263 => ((sizarref35_Build.f k l0).bind fun t266 => ((sizarref35_Same.f k t263 t266).bind fun t269 => (some t269)))) = some r := by rw [if_pos rfl] at H; exact H
   clear H
   have H := H1
   clear H1
   replace H := Option.bind_eq_some_iff.mp H
   obtain ⟨t263, A60, H⟩ := H
   replace H : ((sizarref35_Build.f k l0).bind fun t266 => ((sizarref35_Same.f k t263 t266).bind fun t269 => (some t269))) = some r := H
   have A6 := Aside0.mk A60
   clear A60
   replace H := Option.bind_eq_some_iff.mp H
   obtain ⟨t266, A70, H⟩ := H
   replace H : ((sizarref35_Same.f k t263 t266).bind fun t269 => (some t269)) = some r := H
   have A7 := Aside0.mk A70
   clear A70
   replace H := Option.bind_eq_some_iff.mp H
   obtain ⟨t269, A80, H⟩ := H
   replace H : (some t269) = some r := H
   have A8 := Aside0.mk A80
   clear A80
   obtain rfl := Option.some.inj H
   go_enter Try.func3, Try.ntmps3
   go_wp2_with (first | ((with_reducible refine gate_callee (f := 10) rfl ?_); refine goesL_ (some 3) rfl rfl Try.func10 (by kernel_rfl) rfl #[] rfl (by (try simp only [List.map_toArray, List.map_cons, List.map_nil]); first | done | rfl | (simp only [List.length_drop, List.length_take]; rfl)) ?_; (with_reducible refine (sizarlaw35_sane.calls k  true _ A2.out).mono ?_); rintro e w9 ⟨rfl, hb⟩; refine ⟨_, rfl, ?_⟩; have n0_ := Aside0.mk (below_step (by repeat (first | (with_reducible first | exact HB.out | apply below_alloc | apply pw_below_drewN | apply below_drew1) | exact HB.out)) hb); clear HB; have HB := n0_; clear n0_; (try clear hb); (try clear hb2); (try clear hk); (try clear hi)) | ((with_reducible refine gate_callee (f := 11) rfl ?_); refine goesL_ (some 6) rfl rfl Try.func11 (by kernel_rfl) rfl #[.slice A0 l0.length c0] rfl (by (try simp only [List.map_toArray, List.map_cons, List.map_nil]); first | done | rfl | (simp only [List.length_drop, List.length_take]; rfl)) ?_; (with_reducible refine (sizarref35_Few.calls k _ _ l0 true _ ?side1 ?side2 A4.out).mono ?_); (case side1 => repeat (first | exact (Kd.C_below HR0.out HB.out) | (with_reducible refine Kd.C_alloc ?_ _) | (with_reducible refine Kd.C_drewN ?_ _) | (with_reducible refine Kd.C_drew ?_))); (case side2 => exact HC0.out); rintro e w' ⟨rfl, ⟨nd, rfl⟩⟩; refine ⟨_, rfl, ?_⟩) | ((with_reducible refine gate_callee (f := 13) rfl ?_); refine goesL_ (some 9) rfl rfl Try.func13 (by kernel_rfl) rfl #[.slice A0 l0.length c0] rfl (by (try simp only [List.map_toArray, List.map_cons, List.map_nil]); first | done | rfl | (simp only [List.length_drop, List.length_take]; rfl)) ?_; (with_reducible refine (index_Build.calls _ _ l0 t263 _ ?side1 ?side2 A6.out).mono ?_); (case side1 => repeat (first | exact (Kd.C_below HR0.out (by repeat (first | (with_reducible first | exact HB.out | apply below_alloc | apply pw_below_drewN | apply below_drew1) | exact HB.out))) | (with_reducible refine Kd.C_alloc ?_ _) | (with_reducible refine Kd.C_drewN ?_ _) | (with_reducible refine Kd.C_drew ?_))); (case side2 => exact HC0.out); rintro e w10 ⟨v264, rfl, ho0, hb⟩; refine ⟨_, rfl, ?_⟩; have n0_ := Aside0.mk (Kd.R_lower ho0 (below_size (by repeat (first | (with_reducible first | exact HB.out | apply below_alloc | apply pw_below_drewN | apply below_drew1) | exact HB.out)))); have n1_ := Aside0.mk (below_step (by repeat (first | (with_reducible first | exact HB.out | apply below_alloc | apply pw_below_drewN | apply below_drew1) | exact HB.out)) hb); clear HB; have HO265 := n0_; have HB := n1_; clear n0_ n1_; (try clear hb); (try clear hb2); (try clear hk); (try clear hi); (try clear ho0)) | ((with_reducible refine gate_callee (f := 14) rfl ?_); refine goesL_ (some 11) rfl rfl Try.func14 (by kernel_rfl) rfl #[.slice A0 l0.length c0] rfl (by (try simp only [List.map_toArray, List.map_cons, List.map_nil]); first | done | rfl | (simp only [List.length_drop, List.length_take]; rfl)) ?_; (with_reducible refine (sizarref35_Build.calls k _ _ l0 t266 _ ?side1 ?side2 A7.out).mono ?_); (case side1 => repeat (first | exact (Kd.C_below HR0.out HB.out) | (with_reducible refine Kd.C_alloc ?_ _) | (with_reducible refine Kd.C_drewN ?_ _) | (with_reducible refine Kd.C_drew ?_))); (case side2 => exact HC0.out); rintro e w11 ⟨v267, rfl, ho0, hb⟩; refine ⟨_, rfl, ?_⟩; have n0_ := Aside0.mk (Kd.R_elder' (by (with_reducible repeat (first | apply Kd.R_alloc | apply Kd.R_drewN | apply Kd.R_drew)); exact HO265.out) (Kd.R_base ho0) hb); have n1_ := Aside0.mk (Kd.R_lower (Kd.R_new' ho0 (Kd.R_lt (by (with_reducible repeat (first | apply Kd.R_alloc | apply Kd.R_drewN | apply Kd.R_drew)); exact HO265.out))) (below_size (by repeat (first | (with_reducible first | exact HB.out | apply below_alloc | apply pw_below_drewN | apply below_drew1) | exact HB.out)))); have n2_ := Aside0.mk (below_step (by repeat (first | (with_reducible first | exact HB.out | apply below_alloc | apply pw_below_drewN | apply below_drew1) | exact HB.out)) hb); clear HO265; clear HB; have HO265 := n0_; have HO268 := n1_; have HB := n2_; clear n0_ n1_ n2_; (try clear hb); (try clear hb2); (try clear hk); (try clear hi); (try clear ho0); obtain ⟨Ao12, co12, eo12⟩ := Kd.R_slice HO265.out; subst eo12; obtain ⟨Ao13, co13, eo13⟩ := Kd.R_slice HO268.out; subst eo13) | ((with_reducible refine gate_callee (f := 12) rfl ?_); refine goesL_ (some 12) rfl rfl Try.func12 (by kernel_rfl) rfl #[.agg #[.slice Ao12 t263.length co12], .agg #[.slice Ao13 t266.length co13]] rfl (by (try simp only [List.map_toArray, List.map_cons, List.map_nil]); first | done | rfl | (simp only [List.length_drop, List.length_take]; rfl)) ?_; (with_reducible refine (sizarref35_Same.calls k _ _ t263 _ _ t266 t269 _ ?side1 ?side2 ?side3 ?side4 A8.out).mono ?_); (case side1 => repeat (first | exact (Kd.R_reads' HO265.out).2.2 | (with_reducible refine Kd.C_alloc ?_ _) | (with_reducible refine Kd.C_drewN ?_ _) | (with_reducible refine Kd.C_drew ?_))); (case side2 => exact (Kd.R_reads' HO265.out).2.1); (case side3 => repeat (first | exact (Kd.R_reads' HO268.out).2.2 | (with_reducible refine Kd.C_alloc ?_ _) | (with_reducible refine Kd.C_drewN ?_ _) | (with_reducible refine Kd.C_drew ?_))); (case side4 => exact (Kd.R_reads' HO268.out).2.1); rintro e w14 ⟨rfl, hb⟩; refine ⟨_, rfl, ?_⟩; have n0_ := Aside0.mk (Kd.R_below (by (with_reducible repeat (first | apply Kd.R_alloc | apply Kd.R_drewN | apply Kd.R_drew)); exact HO265.out) hb); have n1_ := Aside0.mk (Kd.R_below (by (with_reducible repeat (first | apply Kd.R_alloc | apply Kd.R_drewN | apply Kd.R_drew)); exact HO268.out) hb); have n2_ := Aside0.mk (below_step (by repeat (first | (with_reducible first | exact HB.out | apply below_alloc | apply pw_below_drewN | apply below_drew1) | exact HB.out)) hb); clear HO265; clear HO268; clear HB; have HO265 := n0_; have HO268 := n1_; have HB := n2_; clear n0_ n1_ n2_; (try clear hb); (try clear hb2); (try clear hk); (try clear hi)))
   go_ret
   exact ⟨by first | rfl | (simp [errW_none, errW_some] <;> rfl) | (simp [*, errW_none, errW_some] <;> rfl), by repeat (first | (with_reducible first | exact HB.out | apply below_alloc | apply pw_below_drewN | apply below_drew1) | exact HB.out)⟩
  ·replace c5 := Bool.eq_false_iff.mpr c5
   subst c5
   have H1 : (some true) = some r := by rw [if_neg (show ¬ (false = true) by decide)] at H; exact H
   clear H
   have H := H1
   clear H1
   obtain rfl := Option.some.inj H
   go_enter Try.func3, Try.ntmps3
   go_wp2_with (first | ((with_reducible refine gate_callee (f := 10) rfl ?_); refine goesL_ (some 3) rfl rfl Try.func10 (by kernel_rfl) rfl #[] rfl (by (try simp only [List.map_toArray, List.map_cons, List.map_nil]); first | done | rfl | (simp only [List.length_drop, List.length_take]; rfl)) ?_; (with_reducible refine (sizarlaw35_sane.calls k  true _ A2.out).mono ?_); rintro e w15 ⟨rfl, hb⟩; refine ⟨_, rfl, ?_⟩; have n0_ := Aside0.mk (below_step (by repeat (first | (with_reducible first | exact HB.out | apply below_alloc | apply pw_below_drewN | apply below_drew1) | exact HB.out)) hb); clear HB; have HB := n0_; clear n0_; (try clear hb); (try clear hb2); (try clear hk); (try clear hi)) | ((with_reducible refine gate_callee (f := 11) rfl ?_); refine goesL_ (some 6) rfl rfl Try.func11 (by kernel_rfl) rfl #[.slice A0 l0.length c0] rfl (by (try simp only [List.map_toArray, List.map_cons, List.map_nil]); first | done | rfl | (simp only [List.length_drop, List.length_take]; rfl)) ?_; (with_reducible refine (sizarref35_Few.calls k _ _ l0 false _ ?side1 ?side2 A4.out).mono ?_); (case side1 => repeat (first | exact (Kd.C_below HR0.out HB.out) | (with_reducible refine Kd.C_alloc ?_ _) | (with_reducible refine Kd.C_drewN ?_ _) | (with_reducible refine Kd.C_drew ?_))); (case side2 => exact HC0.out); rintro e w' ⟨rfl, ⟨nd, rfl⟩⟩; refine ⟨_, rfl, ?_⟩))
   go_ret
   exact ⟨by first | rfl | (simp [errW_none, errW_some] <;> rfl) | (simp [*, errW_none, errW_some] <;> rfl), by repeat (first | (with_reducible first | exact HB.out | apply below_alloc | apply pw_below_drewN | apply below_drew1) | exact HB.out)⟩
 ·replace c3 := Bool.eq_false_iff.mpr c3
  subst c3
  have H1 : (some false) = some r := by rw [if_neg (show ¬ (false = true) by decide)] at H; exact H
  clear H
  have H := H1
  clear H1
  obtain rfl := Option.some.inj H
  go_enter Try.func3, Try.ntmps3
  go_wp2_with (first | ((with_reducible refine gate_callee (f := 10) rfl ?_); refine goesL_ (some 3) rfl rfl Try.func10 (by kernel_rfl) rfl #[] rfl (by (try simp only [List.map_toArray, List.map_cons, List.map_nil]); first | done | rfl | (simp only [List.length_drop, List.length_take]; rfl)) ?_; (with_reducible refine (sizarlaw35_sane.calls k  false _ A2.out).mono ?_); rintro e w16 ⟨rfl, hb⟩; refine ⟨_, rfl, ?_⟩; have n0_ := Aside0.mk (below_step (by repeat (first | (with_reducible first | exact HB.out | apply below_alloc | apply pw_below_drewN | apply below_drew1) | exact HB.out)) hb); clear HB; have HB := n0_; clear n0_; (try clear hb); (try clear hb2); (try clear hk); (try clear hi)))
  go_ret
  exact ⟨by first | rfl | (simp [errW_none, errW_some] <;> rfl) | (simp [*, errW_none, errW_some] <;> rfl), by repeat (first | (with_reducible first | exact HB.out | apply below_alloc | apply pw_below_drewN | apply below_drew1) | exact HB.out)⟩
end Go.Proofs.Ytodmmckieoakjaa.P
namespace Go.Proofs.Ytodmmckieoakjaa.P
open Go.RowKit Go.Proofs.YtodmmckieoakjaaW.PrintWords Go.Proofs.YtodmmckieoakjaaW.PrintLast Go.Proofs.YtodmmckieoakjaaW.PrintMore
/-- From some number of rounds on: r. -/
def Ev {α : Type} (f : Nat → Option α) (r : α) : Prop := ∃ K, ∀ k, K ≤ k → f k = some r
section
variable {α β : Type} {f g : Nat → Option α} {r : α}
theorem Ev.now (h : ∀ k, f k = some r) : Ev f r := ⟨0, fun k _ => h k⟩
theorem Ev.next (h : Ev g r) (hf : ∀ k, f (k + 1) = g k) : Ev f r := by
  obtain ⟨K, hK⟩ := h
  refine ⟨K + 1, fun k hk => ?_⟩
  obtain ⟨m, rfl⟩ : ∃ m, k = m + 1 := ⟨k - 1, by omega⟩
  rw [hf, hK m (by omega)]
theorem Ev.first (h : ∀ k, f (k + 1) = some r) : Ev f r := Ev.next (g := fun _ => some r) (Ev.now fun _ => rfl) h
theorem Ev.congr (h : Ev g r) (hf : ∀ k, f k = g k) : Ev f r := by
  obtain ⟨K, hK⟩ := h
  exact ⟨K, fun k hk => (hf k).trans (hK k hk)⟩
theorem Ev.bind {c : Nat → α → Option β} {b : β} (h : Ev f r) (hc : Ev (fun k => c k r) b) : Ev (fun k => (f k).bind (c k)) b := by
  obtain ⟨K, hK⟩ := h
  obtain ⟨L, hL⟩ := hc
  exact ⟨max K L, fun k hk => by show (f k).bind (c k) = some b; rw [hK k (by omega), Option.bind_some]; exact hL k (by omega)⟩
theorem Ev.get (h : Ev f r) : ∃ k, f k = some r := by
  obtain ⟨K, hK⟩ := h
  exact ⟨K, hK K (Nat.le_refl _)⟩
end
theorem rd49 (l : List S49) (i : Nat) (h : i < l.length) : rd_T49 l (i : Int) = l[i] := by simp [rd_T49, List.getD_eq_getElem?_getD, h]
theorem w64 (i : Nat) (h : i < 9223372036854775807) : wrap64 ((i : Int) + 1) = ((i + 1 : Nat) : Int) := by unfold wrap64; omega
set_option maxHeartbeats 1000000 in
theorem with_l0 (l : List S49) (hl : l.length ≤ 1000000) (x : S49) : ∀ (d i : Nat), i + d = l.length → (∀ j, j < i → LtL l.toArray[j]! x) →
    Ev (fun k => sizarref35_with.l0 k l (i : Int) x.f0.f0.f0 x.f0.f0.f1 x.f0.f0.f2 x.f0.f1 x.f0.f2 x.f1) (withL l x) := by
  intro d
  induction d with
  | zero =>
    intro i hi hlt
    refine Ev.first fun k => ?_
    have h := withL_at x l i (by omega) hlt (fun h => absurd h (by omega))
    rw [if_neg (fun h => by omega)] at h
    simp only [sizarref35_with.l0]
    rw [if_neg (by omega), Option.bind_some, if_pos (by omega), if_pos (by omega), Option.bind_some, if_pos (by simp; omega), Option.bind_some, Option.bind_some, if_pos (by simp; omega), h]
    simp
  | succ d ih =>
    intro i hi hlt
    have hil : i < l.length := by omega
    have hr := rd49 l i hil
    have hb := before_f l[i] x
    have hx : l.toArray[i]! = l[i] := by simp [hil]
    by_cases hlx : LtL l[i] x
    · refine Ev.next (ih (i + 1) (by omega) (fun j hj => ?_)) fun k => ?_
      · rcases Nat.lt_or_ge j i with h | h
        · exact hlt j h
        · have : j = i := by omega
          subst this; rw [hx]; exact hlx
      · simp only [sizarref35_with.l0]
        rw [if_pos (by omega), if_pos (by omega), hr, hb, Option.bind_some, if_pos (by simpa using hlx), w64 i (by omega)]
    · have h := withL_at x l i (by omega) hlt (fun _ => by rw [hx]; exact hlx)
      rw [hx] at h
      have he := eqL_iff l[i] x
      unfold eqL at he
      refine Ev.first fun k => ?_
      simp only [sizarref35_with.l0]
      rw [if_pos (by omega), if_pos (by omega), hr, hb, Option.bind_some, if_neg (by simpa using hlx)]
      by_cases hxx : l[i] = x
      · rw [if_pos (he.2 hxx), h, if_pos ⟨hil, hxx⟩]
      · rw [if_neg (fun e => hxx (he.1 e)), Option.bind_some, if_pos (by omega), Option.bind_some, if_pos (by simp; omega), Option.bind_some, Option.bind_some, if_pos (by simp; omega), h, if_neg (fun e => hxx e.2)]
        simp
theorem with_ev (l : List S49) (hl : l.length ≤ 1000000) (x : S49) : Ev (fun k => sizarref35_with.f k l x.f0.f0.f0 x.f0.f0.f1 x.f0.f0.f2 x.f0.f1 x.f0.f2 x.f1) (withL l x) := by
  have := with_l0 l hl x l.length 0 (by omega) (fun j hj => absurd hj (by omega))
  exact this.congr fun k => rfl
theorem same_ev (a b : List S49) (ha : a.length ≤ 1000000) : Ev (fun k => sizarref35_Same.f k a b) (decide (a = b)) := by
  by_cases hl : a.length = b.length
  · have key : ∀ (d i : Nat), i + d = a.length → Ev (fun k => sizarref35_Same.l0 k (i : Int) a b) (decide (a.drop i = b.drop i)) := by
      intro d
      induction d with
      | zero =>
        intro i hi
        refine Ev.first fun k => ?_
        simp only [sizarref35_Same.l0]
        rw [if_neg (by omega), List.drop_eq_nil_of_le (by omega), List.drop_eq_nil_of_le (by omega)]
        simp
      | succ d ih =>
        intro i hi
        have hia : i < a.length := by omega
        have hib : i < b.length := by omega
        have hra := rd49 a i hia
        have hrb := rd49 b i hib
        have hdrop : (a.drop i = b.drop i) ↔ (a[i] = b[i] ∧ a.drop (i + 1) = b.drop (i + 1)) := by
          rw [List.drop_eq_getElem_cons hia, List.drop_eq_getElem_cons hib, List.cons.injEq]
        have he := eqL_iff a[i] b[i]
        unfold eqL at he
        by_cases hab : a[i] = b[i]
        · have hd : decide (a.drop (i + 1) = b.drop (i + 1)) = decide (a.drop i = b.drop i) := decide_eq_decide.2 (by rw [hdrop]; simp [hab])
          rw [← hd]
          refine Ev.next (ih (i + 1) (by omega)) fun k => ?_
          simp only [sizarref35_Same.l0]
          rw [if_pos (by omega), if_pos (by omega), if_pos (by omega), hra, hrb, if_neg (by rw [hab]; simp), w64 i (by omega)]
        · refine Ev.first fun k => ?_
          simp only [sizarref35_Same.l0]
          rw [if_pos (by omega), if_pos (by omega), if_pos (by omega), hra, hrb, if_pos ?_]
          · rw [decide_eq_false (fun h => hab (hdrop.1 h).1)]
          · have := mt he.1 hab
            revert this
            simp only [Bool.and_eq_true, beq_iff_eq, Bool.or_eq_true, Bool.not_eq_true', beq_eq_false_iff_ne]
            omega
    have h := key a.length 0 (by omega)
    simp only [List.drop_zero] at h
    refine h.congr fun k => ?_
    unfold sizarref35_Same.f
    rw [if_pos (by omega)]
    rfl
  · refine Ev.now fun k => ?_
    unfold sizarref35_Same.f
    rw [if_neg (by omega), decide_eq_false (fun h => hl (by rw [h]))]
theorem rd35 (l : List S35) (i : Nat) (h : i < l.length) : rd_T35 l (i : Int) = l[i] := by simp [rd_T35, List.getD_eq_getElem?_getD, h]
theorem rd47 (l : List S47) (i : Nat) (h : i < l.length) : rd_T47 l (i : Int) = l[i] := by simp [rd_T47, List.getD_eq_getElem?_getD, h]
/-- 'Few' tells, at whatever decisions; where it tells 'true' they are few. -/
theorem few_ev (l : List S35) (hl : l.length ≤ 1000000000000000) (hd : ∀ d ∈ l, d.f5.length ≤ 1000000000000000) : ∃ b, Ev (fun k => sizarref35_Few.f k l) b ∧ (b = true → l.length ≤ 12 ∧ ∀ d ∈ l, d.f5.length ≤ 60) := by
  have key : ∀ (d i : Nat) (n : Int), i + d = l.length → ∃ b, Ev (fun k => sizarref35_Few.l0 k l n (i : Int)) b ∧
      (b = true → l.length ≤ 12 ∧ (0 ≤ n → n + d * 1000000000000000 ≤ 9000000000000000000 → n ≤ 60 ∧ ∀ x ∈ l.drop i, n + x.f5.length ≤ 60)) := by
    intro d
    induction d with
    | zero =>
      intro i n hi
      by_cases h : l.length ≤ 12
      · refine ⟨decide (n ≤ 60), Ev.first fun k => ?_, fun hb => ⟨h, fun _ _ => ⟨of_decide_eq_true hb, fun x hx => ?_⟩⟩⟩
        · simp only [sizarref35_Few.l0]
          rw [if_neg (by omega), if_pos (by omega)]
        · rw [List.drop_eq_nil_of_le (by omega)] at hx; simp at hx
      · refine ⟨false, Ev.first fun k => ?_, fun hb => by cases hb⟩
        simp only [sizarref35_Few.l0]
        rw [if_neg (by omega), if_neg (by omega)]
    | succ d ih =>
      intro i n hi
      have hil : i < l.length := by omega
      have hr := rd35 l i hil
      obtain ⟨b, h1, h2⟩ := ih (i + 1) (wrap64 (n + (l[i].f5.length : Int))) (by omega)
      refine ⟨b, Ev.next h1 fun k => ?_, fun hb => ⟨(h2 hb).1, fun hn hs => ?_⟩⟩
      · simp only [sizarref35_Few.l0]
        rw [if_pos (by omega), if_pos (by omega), hr, w64 i (by omega)]
      · have hli := hd l[i] (List.getElem_mem hil)
        have hw : wrap64 (n + (l[i].f5.length : Int)) = n + l[i].f5.length := by unfold wrap64; omega
        rw [hw] at h2
        obtain ⟨h3, h4⟩ := (h2 hb).2 (by omega) (by omega)
        refine ⟨by omega, fun x hx => ?_⟩
        rw [List.drop_eq_getElem_cons hil] at hx
        rcases List.mem_cons.1 hx with rfl | hx
        · omega
        · have := h4 x hx; omega
  obtain ⟨b, h1, h2⟩ := key l.length 0 0 (by omega)
  refine ⟨b, h1.congr fun k => rfl, fun hb => ⟨(h2 hb).1, fun d hd' => ?_⟩⟩
  have h3 := (h2 hb).1
  have := ((h2 hb).2 (by omega) (by omega)).2 d (by simpa using hd')
  omega
theorem withL_len (x : S49) : ∀ l : List S49, (withL l x).length ≤ l.length + 1
  | [] => by simp [withL]
  | y :: r => by
    unfold withL
    have := withL_len x r
    split
    · simp; omega
    · split <;> simp
theorem foldl_len : ∀ (xs l : List S49), (xs.foldl withL l).length ≤ l.length + xs.length
  | [], l => by simp
  | x :: xs, l => by
    have h1 := foldl_len xs (withL l x)
    have h2 := withL_len x l
    simp only [List.foldl_cons, List.length_cons]
    omega
theorem linksUpto_len (l : List S35) (hl : l.length ≤ 12) (hd : ∀ d ∈ l, d.f5.length ≤ 60) : ∀ k, k ≤ l.length → (linksUpto l k).length ≤ k * 60
  | 0, _ => by simp [linksUpto]
  | k + 1, hk => by
    have h1 := linksUpto_len l hl hd k (by omega)
    rw [linksUpto_succ, List.length_append, linksOf_len, rd35 l k (by omega)]
    have := hd l[k] (List.getElem_mem (by omega))
    omega
theorem build_ev (l : List S35) (hl : l.length ≤ 12) (hd : ∀ d ∈ l, d.f5.length ≤ 60) : Ev (fun k => sizarref35_Build.f k l) ((allLinks l).foldl withL []) := by
  have inner : ∀ (i : Nat) (hi : i < l.length) (acc : List S49) (r : List S49), acc.length + l[i].f5.length ≤ 100000 →
      (∀ acc2, acc2 = (linksOf (i : Int) l[i].f5).foldl withL acc → Ev (fun k => sizarref35_Build.l0 k l ((i + 1 : Nat) : Int) acc2) r) → 
      ∀ (d j : Nat) (a : List S49), j + d = l[i].f5.length → a = (linksOf (i : Int) (l[i].f5.take j)).foldl withL acc → Ev (fun k => sizarref35_Build.l1 k l (i : Int) (j : Int) a) r := by
    intro i hi acc r hlen hnext d
    have hr := rd35 l i hi
    induction d with
    | zero =>
      intro j a hj ha
      have := hnext a (by rw [ha, List.take_of_length_le (by omega)])
      refine Ev.next this fun k => ?_
      simp only [sizarref35_Build.l1]
      rw [if_pos (by omega), if_pos (by omega), hr, if_neg (by omega), w64 i (by omega)]
    | succ d ih =>
      intro j a hj ha
      have hjl : j < l[i].f5.length := by omega
      have hr2 := rd47 l[i].f5 j hjl
      have hal : a.length ≤ 100000 := by
        have := foldl_len (linksOf (i : Int) (l[i].f5.take j)) acc
        rw [ha]; rw [linksOf_len, List.length_take] at this; omega
      have hw := with_ev a (by omega) ⟨l[i].f5[j], (i : Int)⟩
      have hn := ih (j + 1) (withL a ⟨l[i].f5[j], (i : Int)⟩) (by omega) (by rw [linksOf_snoc _ _ _ hjl, List.foldl_append, ← ha, hr2]; rfl)
      have hb := Ev.bind (c := fun k t => sizarref35_Build.l1 k l (i : Int) ((j + 1 : Nat) : Int) t) hw hn
      refine Ev.next hb fun k => ?_
      simp only [sizarref35_Build.l1]
      rw [if_pos (by omega), if_pos (by omega), hr, if_pos (by omega), if_pos (by omega), hr2, w64 j (by omega)]
  have outer : ∀ (d i : Nat) (a : List S49), i + d = l.length → a = (linksUpto l i).foldl withL [] → Ev (fun k => sizarref35_Build.l0 k l (i : Int) a) ((allLinks l).foldl withL []) := by
    intro d
    induction d with
    | zero =>
      intro i a hi ha
      refine Ev.first fun k => ?_
      simp only [sizarref35_Build.l0]
      rw [if_neg (by omega), ha]
      have : i = l.length := by omega
      subst this
      rfl
    | succ d ih =>
      intro i a hi ha
      have hil : i < l.length := by omega
      have hal : a.length ≤ 1000 := by
        have h1 := foldl_len (linksUpto l i) []
        have h2 := linksUpto_len l hl hd i (by omega)
        rw [ha]; simp only [List.length_nil] at h1; omega
      have hdi := hd l[i] (List.getElem_mem hil)
      have := inner i hil a _ (by omega) (fun acc2 h2 => ih (i + 1) acc2 (by omega) (by rw [linksUpto_succ, List.foldl_append, ← ha, rd35 l i hil]; exact h2)) l[i].f5.length 0 a (by omega) (by simp [linksOf])
      refine Ev.next this fun k => ?_
      simp only [sizarref35_Build.l0]
      rw [if_pos (by omega)]
      rfl
  exact (outer l.length 0 [] (by omega) (by simp [linksUpto])).congr fun k => rfl
end Go.Proofs.Ytodmmckieoakjaa.P
