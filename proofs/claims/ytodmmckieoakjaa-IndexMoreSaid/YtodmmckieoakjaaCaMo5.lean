/- Texts of this claim, one behind the other: PureD, Heaps, LawIndexMore. Merged by wip/mkmerge.py. -/
import Derived.Test.YtodmmckieoakjaaCaMo3
import Derived.Test.YtodmmckieoakjaaCaMo4
import Derived.Test.YtodmmckieoakjaaCaMo1
import Derived.Test.YtodmmckieoakjaaRows
import Derived.WalkKit
import Derived.ProofKit
import Derived.OpenShut
import Derived.ShutString
import Derived.ChangeOld
import Derived.Below
import Derived.SizedLaws
namespace Go.Proofs.Ytodmmckieoakjaa.P
open Go.RowKit Go.Proofs.YtodmmckieoakjaaW.PrintWords Go.Proofs.YtodmmckieoakjaaW.PrintLast Go.Proofs.YtodmmckieoakjaaW.PrintMore
set_option linter.unusedVariables false
theorem has_ev (l : List Int) (hl : l.length ≤ 1000000000000000) (n : Int) : Ev (fun k => sizarlaw35_has.f k l n) (decide (n ∈ l)) := by
  have key : ∀ (d i : Nat), i + d = l.length → Ev (fun k => sizarlaw35_has.l0 k l n (i : Int)) (decide (n ∈ l.drop i)) := by
    intro d
    induction d with
    | zero =>
      intro i hi
      refine Ev.first fun k => ?_
      simp only [sizarlaw35_has.l0]
      rw [if_neg (by omega), List.drop_eq_nil_of_le (by omega)]
      simp
    | succ d ih =>
      intro i hi
      have hil : i < l.length := by omega
      have hr := rdI l i hil
      by_cases h : l[i] = n
      · refine Ev.first fun k => ?_
        simp only [sizarlaw35_has.l0]
        rw [if_pos (by omega), if_pos (by omega), hr, if_pos h, List.drop_eq_getElem_cons hil, decide_eq_true (by simp [h])]
      · have e : decide (n ∈ l.drop i) = decide (n ∈ l.drop (i + 1)) := decide_eq_decide.2 (by
          rw [List.drop_eq_getElem_cons hil, List.mem_cons]; exact ⟨fun k => k.resolve_left (fun e => h e.symm), .inr⟩)
        rw [e]
        refine Ev.next (ih (i + 1) (by omega)) fun k => ?_
        simp only [sizarlaw35_has.l0]
        rw [if_pos (by omega), if_pos (by omega), hr, if_neg h, w64 i (by omega)]
  have h := key l.length 0 (by omega)
  simp only [List.drop_zero] at h
  exact h.congr fun k => rfl
theorem mem_affR (l : List S49) (cs : List S63) (z : Int) : z ∈ affR l cs ↔ ∃ x ∈ l, cs.any (hit x) = true ∧ x.f1 = z := by
  unfold affR
  rw [(foldl_insI _ [] List.Pairwise.nil).2 z]
  simp only [List.mem_map, List.mem_filter, List.not_mem_nil, false_or]
  exact ⟨fun ⟨x, ⟨h1, h2⟩, h3⟩ => ⟨x, h1, h2, h3⟩, fun ⟨x, h1, h2, h3⟩ => ⟨x, ⟨h1, h2⟩, h3⟩⟩
theorem si_affR (l : List S49) (cs : List S63) : SI (affR l cs) := (foldl_insI _ [] List.Pairwise.nil).1
theorem affR_len (l : List S49) (cs : List S63) : (affR l cs).length ≤ l.length := by
  have hfl := foldl_insI_len ((l.filter fun x => cs.any (hit x)).map (·.f1)) []
  have hfi := List.length_filter_le (fun x => cs.any (hit x)) l
  rw [List.length_map] at hfl
  simp only [List.length_nil] at hfl
  unfold affR
  omega
theorem more_tail (l : List S49) (hl : l.length ≤ 100000) (hw : ∀ x ∈ l, (Lit.int .i64 x.f1).wf = true) (cs : List S63) (hc : cs.length ≤ 100000) (a : Int) :
    Ev (fun k => (index_Affected.f l ([] : List (S63))).bind fun t379 => (if (t379.length : Int) = 0 then ((index_Replace.f l a 0 0 0 0 0 0 0 ([] : List Int) ([] : List (S47)) ([] : List Int)).bind fun t382 => ((index_Affected.f t382 cs).bind fun t385 => ((sizarlaw35_has.f k t385 a).bind fun t388 => (some (!t388))))) else (some false))) true := by
  have h0 : index_Affected.f l ([] : List S63) = some [] := by
    rw [index_affected_f l [] hl (by simp) hw]
    refine congrArg some (List.eq_nil_iff_forall_not_mem.2 fun z hz => ?_)
    obtain ⟨x, _, h, _⟩ := (mem_affR _ _ _).1 hz
    simp at h
  have h1 : index_Replace.f l a 0 0 0 0 0 0 0 ([] : List Int) ([] : List (S47)) ([] : List Int) = some (normL (elseL a l)) := by
    unfold index_Replace.f
    rw [if_pos ⟨hl, by simp⟩]
    simp [linksOf]
  have hm : ∀ x, x ∈ normL (elseL a l) → x ∈ l ∧ x.f1 ≠ a := fun x hx => by
    rw [mem_normL] at hx
    unfold elseL delL at hx
    obtain ⟨h1, h2⟩ := List.mem_filter.1 hx
    exact ⟨h1, by simpa using h2⟩
  have hnl : (normL (elseL a l)).length ≤ 100000 := by
    rw [normL_eq]
    have := foldl_len (elseL a l) []
    have := elseL_len a l
    simp only [List.length_nil] at *
    omega
  have h2 : index_Affected.f (normL (elseL a l)) cs = some (affR (normL (elseL a l)) cs) := index_affected_f _ cs hnl hc fun x hx => hw x (hm x hx).1
  have hh := has_ev (affR (normL (elseL a l)) cs) (by have := affR_len (normL (elseL a l)) cs; omega) a
  rw [decide_eq_false (fun h => by obtain ⟨x, hx, _, e⟩ := (mem_affR _ _ _).1 h; exact (hm x hx).2 e)] at hh
  refine Ev.congr (Ev.bind (c := fun k t388 => some (!t388)) hh (Ev.now fun k => rfl)) fun k => ?_
  rw [h0, Option.bind_some, if_pos (by rfl), h1, Option.bind_some, h2, Option.bind_some]
theorem more_l2 (l : List S49) (cs : List S63) (a : Int) (B T : List Int) (hB : B.length ≤ 100000) (hT : T.length ≤ 100000) (hsub : ∀ z ∈ T, z ∈ B)
    (ht : Ev (fun k => (index_Affected.f l ([] : List (S63))).bind fun t379 => (if (t379.length : Int) = 0 then ((index_Replace.f l a 0 0 0 0 0 0 0 ([] : List Int) ([] : List (S47)) ([] : List Int)).bind fun t382 => ((index_Affected.f t382 cs).bind fun t385 => ((sizarlaw35_has.f k t385 a).bind fun t388 => (some (!t388))))) else (some false))) true) :
    ∀ (d i : Nat), i + d = T.length → Ev (fun k => sizarlaw35_IndexMore.l2 k cs a B T (i : Int) l) true := by
  intro d
  induction d with
  | zero =>
    intro i hi
    refine Ev.next ht fun k => ?_
    simp only [sizarlaw35_IndexMore.l2]
    rw [if_neg (by omega)]
  | succ d ih =>
    intro i hi
    have hil : i < T.length := by omega
    have hr := rdI T i hil
    have hh := has_ev B (by omega) T[i]
    rw [decide_eq_true (hsub _ (List.getElem_mem hil))] at hh
    have e := Ev.bind (c := fun k t378 => if t378 = true then sizarlaw35_IndexMore.l2 k cs a B T ((i + 1 : Nat) : Int) l else some false) hh ((ih (i + 1) (by omega)).congr fun k => by rw [if_pos rfl])
    refine Ev.next e fun k => ?_
    simp only [sizarlaw35_IndexMore.l2]
    rw [if_pos (by omega), if_pos (by omega), hr, w64 i (by omega)]
theorem more_l1 (l : List S49) (cs : List S63) (a : Int) (B O T : List Int) (hB : B.length ≤ 100000) (hO : O.length ≤ 100000) (hsub : ∀ z ∈ O, z ∈ B) (hn : Ev (fun k => sizarlaw35_IndexMore.l2 k cs a B T 0 l) true) :
    ∀ (d i : Nat), i + d = O.length → Ev (fun k => sizarlaw35_IndexMore.l1 k cs a B O T (i : Int) l) true := by
  intro d
  induction d with
  | zero =>
    intro i hi
    refine Ev.next hn fun k => ?_
    simp only [sizarlaw35_IndexMore.l1]
    rw [if_neg (by omega)]
  | succ d ih =>
    intro i hi
    have hil : i < O.length := by omega
    have hr := rdI O i hil
    have hh := has_ev B (by omega) O[i]
    rw [decide_eq_true (hsub _ (List.getElem_mem hil))] at hh
    have e := Ev.bind (c := fun k t376 => if t376 = true then sizarlaw35_IndexMore.l1 k cs a B O T ((i + 1 : Nat) : Int) l else some false) hh ((ih (i + 1) (by omega)).congr fun k => by rw [if_pos rfl])
    refine Ev.next e fun k => ?_
    simp only [sizarlaw35_IndexMore.l1]
    rw [if_pos (by omega), if_pos (by omega), hr, w64 i (by omega)]
theorem w64d (i : Nat) (h0 : 0 < i) (h : i < 9223372036854775807) : wrap64 ((i : Int) - 1) = ((i - 1 : Nat) : Int) := by unfold wrap64; omega
def moreX (l : List S49) (cs : List S63) (a : Int) (B O T : List Int) (i : Int) (k : Nat) : Option Bool := if i > 0 then (if 0 ≤ (wrap64 (i - 1)) then (if (wrap64 (i - 1)) < (B.length : Int) then (if (rd B (wrap64 (i - 1))) ≥ (rd B i) then (some false) else (sizarlaw35_IndexMore.l0 k cs a B O T (wrap64 (i + 1)) l)) else (none)) else (none)) else (sizarlaw35_IndexMore.l0 k cs a B O T (wrap64 (i + 1)) l)
theorem more_l0 (l : List S49) (cs : List S63) (a : Int) (B O T : List Int) (hB : B.length ≤ 100000) (hO : O.length ≤ 100000) (hT : T.length ≤ 100000) (hS : SI B) (hsub : ∀ z ∈ B, z ∈ O ∨ z ∈ T) (hn : Ev (fun k => sizarlaw35_IndexMore.l1 k cs a B O T 0 l) true) :
    ∀ (d i : Nat), i + d = B.length → Ev (fun k => sizarlaw35_IndexMore.l0 k cs a B O T (i : Int) l) true := by
  intro d
  induction d with
  | zero =>
    intro i hi
    refine Ev.next hn fun k => ?_
    simp only [sizarlaw35_IndexMore.l0]
    rw [if_neg (by omega)]
  | succ d ih =>
    intro i hi
    have hil : i < B.length := by omega
    have hr := rdI B i hil
    have nx : Ev (moreX l cs a B O T i) true := by
      refine (ih (i + 1) (by omega)).congr fun k => ?_
      unfold moreX
      rw [w64 i (by omega), hr]
      by_cases h0 : 0 < i
      · have hlt : B[i - 1] < B[i] := List.pairwise_iff_getElem.1 hS (i - 1) i (by omega) hil (by omega)
        rw [if_pos (by omega), w64d i h0 (by omega), if_pos (by omega), if_pos (by omega), rdI B (i - 1) (by omega), if_neg (by omega)]
      · rw [if_neg (by omega)]
    have hone := has_ev O (by omega) (rd B (i : Int))
    have htwo := has_ev T (by omega) (rd B (i : Int))
    have both : Ev (fun k => (sizarlaw35_has.f k O (rd B (i : Int))).bind fun t368 => if t368 = true then moreX l cs a B O T i k else (sizarlaw35_has.f k T (rd B (i : Int))).bind fun t372 => if t372 = true then moreX l cs a B O T i k else some false) true := by
      refine Ev.bind (c := fun k t368 => if t368 = true then moreX l cs a B O T i k else (sizarlaw35_has.f k T (rd B (i : Int))).bind fun t372 => if t372 = true then moreX l cs a B O T i k else some false) hone ?_
      by_cases h1 : rd B (i : Int) ∈ O
      · exact nx.congr fun k => by rw [if_pos (decide_eq_true h1)]
      · have h2 : rd B (i : Int) ∈ T := (hsub _ (by rw [hr]; exact List.getElem_mem hil)).resolve_left h1
        rw [decide_eq_true h2] at htwo
        have e := Ev.bind (c := fun k t372 => if t372 = true then moreX l cs a B O T i k else some false) htwo (nx.congr fun k => by rw [if_pos rfl])
        exact e.congr fun k => by rw [if_neg (by simpa using h1)]
    refine Ev.next both fun k => ?_
    simp only [sizarlaw35_IndexMore.l0]
    rw [if_pos (by omega), if_pos (by omega)]
    rfl
theorem IndexMore_pure (l : List S49) (cs ds : List S63) (a : Int) (g : ok28 ⟨l⟩) (g1 : (∀ z ∈ cs, ok63 z) ∧ cs.length * Try.prog.bytesOf 63 ≤ reachBytes) (g2 : (∀ z ∈ ds, ok63 z) ∧ ds.length * Try.prog.bytesOf 63 ≤ reachBytes) (g3 : wfI a) :
    ∃ k, sizarlaw35_IndexMore.f k l cs ds a = some true := by
  have hll := ok_links g
  have len : ∀ cs : List S63, (∀ z ∈ cs, ok63 z) ∧ cs.length * Try.prog.bytesOf 63 ≤ reachBytes → cs.length ≤ 1000000000000000 := fun cs g1 => by
    have := g1.2
    rw [bytes63] at this
    simp only [reachBytes] at this
    omega
  obtain ⟨b, hb, hbt⟩ := fewL_ev l cs (len cs g1)
  obtain ⟨c, hc, hct⟩ := fewL_ev l ds (len ds g2)
  have hj : ∀ x : Bool, (x = false → l.length ≤ 60 ∧ cs.length ≤ 12 ∧ ds.length ≤ 12) → Ev (fun k => sizarlaw35_IndexMore.j0 k cs ds a x l) true := by
    intro x hx
    cases x with
    | true =>
      refine Ev.first fun k => ?_
      simp only [sizarlaw35_IndexMore.j0]
      rw [if_pos trivial]
    | false =>
      obtain ⟨h1, h2, h3⟩ := hx rfl
      have hA := index_affected_f l (cs ++ ds) (by omega) (by rw [List.length_append]; omega) hll.2
      have hB := index_affected_f l cs (by omega) (by omega) hll.2
      have hC := index_affected_f l ds (by omega) (by omega) hll.2
      have n1 := affR_len l (cs ++ ds)
      have n2 := affR_len l cs
      have n3 := affR_len l ds
      have ht := more_tail l (by omega) hll.2 cs (by omega) a
      have e2 := more_l2 l cs a (affR l (cs ++ ds)) (affR l ds) (by omega) (by omega) (fun z hz => by
        obtain ⟨x, hx, h, e⟩ := (mem_affR _ _ _).1 hz
        exact (mem_affR _ _ _).2 ⟨x, hx, by rw [List.any_append, h, Bool.or_true], e⟩) ht (affR l ds).length 0 (by omega)
      have e1 := more_l1 l cs a (affR l (cs ++ ds)) (affR l cs) (affR l ds) (by omega) (by omega) (fun z hz => by
        obtain ⟨x, hx, h, e⟩ := (mem_affR _ _ _).1 hz
        exact (mem_affR _ _ _).2 ⟨x, hx, by rw [List.any_append, h, Bool.true_or], e⟩) e2 (affR l cs).length 0 (by omega)
      have e0 := more_l0 l cs a (affR l (cs ++ ds)) (affR l cs) (affR l ds) (by omega) (by omega) (by omega) (si_affR _ _) (fun z hz => by
        obtain ⟨x, hx, h, e⟩ := (mem_affR _ _ _).1 hz
        rw [List.any_append, Bool.or_eq_true] at h
        rcases h with h | h
        · exact .inl ((mem_affR _ _ _).2 ⟨x, hx, h, e⟩)
        · exact .inr ((mem_affR _ _ _).2 ⟨x, hx, h, e⟩)) e1 (affR l (cs ++ ds)).length 0 (by omega)
      refine Ev.next e0 fun k => ?_
      simp only [sizarlaw35_IndexMore.j0]
      rw [if_neg (by simp), Option.bind_some, if_pos (by simp; omega), Option.bind_some, if_pos (by simp; omega), List.nil_append, hA, Option.bind_some, hB, Option.bind_some, hC, Option.bind_some]
      rfl
  have key : Ev (fun k => sizarlaw35_IndexMore.f k l cs ds a) true := by
    refine Ev.bind (c := fun k t => if t = true then (sizarlaw35_few.f k l cs).bind fun t347 => if t347 = true then (sizarlaw35_few.f k l ds).bind fun t348 => sizarlaw35_IndexMore.j0 k cs ds a (!t348) l else sizarlaw35_IndexMore.j0 k cs ds a true l else some false) sane_ev ?_
    refine Ev.congr (Ev.bind (c := fun k t347 => if t347 = true then (sizarlaw35_few.f k l ds).bind fun t348 => sizarlaw35_IndexMore.j0 k cs ds a (!t348) l else sizarlaw35_IndexMore.j0 k cs ds a true l) hb ?_) (fun k => by rw [if_pos rfl])
    cases b with
    | false => exact (hj true (fun h => by cases h)).congr fun k => by rw [if_neg (by simp)]
    | true =>
      obtain ⟨h1, h2, _⟩ := hbt rfl
      refine Ev.congr (Ev.bind (c := fun k t348 => sizarlaw35_IndexMore.j0 k cs ds a (!t348) l) hc ?_) fun k => by rw [if_pos rfl]
      refine hj _ (fun h => ?_)
      obtain ⟨_, h3, _⟩ := hct (by simpa using h)
      exact ⟨h1, h2, h3⟩
  exact key.get
end Go.Proofs.Ytodmmckieoakjaa.P
namespace Go.Proofs.Ytodmmckieoakjaa.P
open Go.RowKit Go.Proofs.YtodmmckieoakjaaW.PrintWords Go.Proofs.YtodmmckieoakjaaW.PrintLast Go.Proofs.YtodmmckieoakjaaW.PrintMore
theorem k45_heap' : Kd.Heap k45 := Kd.heap_iso _ (Kd.heap_pair (Kd.heap_int _) (Kd.heap_pair (Kd.heap_int _) (Kd.heap_int _)))
theorem k60_heap' : Kd.Heap k60 := Kd.heap_iso _ (Kd.heap_pair (Kd.heap_int _) (Kd.heap_int _))
theorem k63_heap' : Kd.Heap k63 := Kd.heap_iso _ (Kd.heap_pair k45_heap' (Kd.heap_slice 60 k60_heap'))
/-- A row that is read, as a row that is shared. -/
theorem V_of_C {α : Type} {d : Kd α} {e : Nat} {w : World} {A : Option Addr} {c : Nat} {xs : List α} (hd : Kd.Heap d) (hl : xs.length ≤ c) (h : d.C w A xs.length xs) : Kd.V d e w w.heap.size (fun k => k < w.heap.size) (.slice A xs.length c) xs := Kd.V_mk hl (Kd.C_F hd h)
end Go.Proofs.Ytodmmckieoakjaa.P
namespace Go.Proofs.Ytodmmckieoakjaa.indexMore
open Go.ChangeShapes Go.WideShapes Go.ChangeAt Go.RowKit
open Go.Proofs.Ytodmmckieoakjaa.P
set_option linter.unusedVariables false
theorem own : ownKnob Try.prog.godebug = none := by kernel_rfl
theorem laidOut : laidOutB Try.prog = true := by kernel_rfl
set_option maxRecDepth 100000 in
set_option maxHeartbeats 1000000 in
theorem lifted (os : Os) (started : os.Started) (H : Type) (enc : TypeId × Value → H) :
    ReturnsInHanded {} Try.checked os 8 .any (Rows.indexMoreSpec.pre6 enc Try.prog Try.f8 Rows.indexMoreRow.domain false) (Rows.indexMoreSpec.post enc Try.prog Try.f8 false true false false) := by
  refine returnsInHanded_of_change_sized (C := Try.checked) own started (by kernel_rfl) Try.func8
    (ChangeSpec.witness6 (enc := enc) (C := Try.checked) false ⟨#[], #[.agg #[.slice none 0 0], .slice none 0 0, .slice none 0 0, .int .i64 0], []⟩ 8 (by kernel_rfl) (by kernel_rfl) (by kernel_rfl) (by kernel_rfl)) ?_
  intro W base args ds gs before hval0 hW hcnd hsz0 _
  have hsz : (DataW.weightsEach Try.prog (Try.f8.params.toList ++ Rows.indexMoreSpec.plain.varTypes Try.prog) (ds ++ gs)).all (· ≤ reachBytes) = true := hsz0
  have hval : ∀ (j : Nat) t v, Try.f8.params[j]? = some t → args[j]? = some v → Value.okWide Try.prog W .any base t v := hval0
  have hW' := hW
  obtain ⟨p, q, hA0, hV, rfl, hfz, hnd⟩ := hW
  have hA : DataW.TrodAll enc Try.prog W 0 (fun _ => true) true Try.f8.params.toList args.toList ds p := hA0
  rw [Try.params8] at hA hval hsz
  obtain ⟨v0, vs0, d0, ds0, p0, q0, hargs, rfl, rfl, h0, r0⟩ := trodAll_cons hA
  obtain ⟨v1, vs1, d1, ds1, p1, q1, rfl, rfl, rfl, h1, r1⟩ := trodAll_cons r0
  obtain ⟨v2, vs2, d2, ds2, p2, q2, rfl, rfl, rfl, h2, r2⟩ := trodAll_cons r1
  obtain ⟨v3, vs3, d3, ds3, p3, q3, rfl, rfl, rfl, h3, r3⟩ := trodAll_cons r2
  obtain ⟨rfl, rfl, rfl⟩ := trodAll_nil r3
  obtain rfl : args = #[v0, v1, v2, v3] := by cases args; simp_all
  obtain ⟨rfl, rfl⟩ := trodVars_none hV
  have k0 := h0
  have lt0 : ∀ x ∈ p0, x.block < W.heap.size := by obtain ⟨m, hm⟩ := k0; exact DataW.trod_lt m _ _ _ hm
  have lg0 : light Try.prog 28 d0 := light_each _ _ hsz 0 _ _ rfl rfl
  obtain ⟨fuel0, hf0⟩ := h0
  obtain ⟨cs0, rfl, hcs0⟩ := okWide_struct Try.underlying28 (hval 0 28 v0 rfl rfl)
  obtain ⟨x0, K0, g0⟩ := opn28 H enc W _ _ _ fuel0 _ _ hf0 lg0
  obtain ⟨A0_0, A0_0c, e0, A0_0l, A0_0r⟩ := k28_open K0
  replace e0 : cs0.toList = (#[.slice A0_0 x0.f0.length A0_0c] : Array Value).toList := e0
  obtain rfl := Array.toList_inj.1 e0
  have k1 := h1
  have lt1 : ∀ x ∈ p1, x.block < W.heap.size := by obtain ⟨m, hm⟩ := k1; exact DataW.trod_lt m _ _ _ hm
  have lg1 : light Try.prog 41 d1 := light_each _ _ hsz 1 _ _ rfl rfl
  obtain ⟨fuel1, hf1⟩ := h1
  obtain ⟨b1, n1, m1, rfl⟩ := okWide_slice Try.underlying41 (hval 1 41 v1 rfl rfl)
  obtain ⟨x1, ⟨A1, c1, e1, l1, r1r⟩, g1⟩ := opn_slice Try.underlying41 opn63 (by kernel_rfl) (by decide) H enc W _ _ _ fuel1 _ _ hf1 lg1
  replace e1 : [Value.slice b1 n1 m1] = [.slice A1 x1.length c1] := e1
  injection e1 with e1 _
  injection e1 with e1a e1b e1c
  subst e1a e1b e1c
  have k2 := h2
  have lt2 : ∀ x ∈ p2, x.block < W.heap.size := by obtain ⟨m, hm⟩ := k2; exact DataW.trod_lt m _ _ _ hm
  have lg2 : light Try.prog 41 d2 := light_each _ _ hsz 2 _ _ rfl rfl
  obtain ⟨fuel2, hf2⟩ := h2
  obtain ⟨b2, n2, m2, rfl⟩ := okWide_slice Try.underlying41 (hval 2 41 v2 rfl rfl)
  obtain ⟨x2, ⟨A2, c2, e2, l2, r2r⟩, g2⟩ := opn_slice Try.underlying41 opn63 (by kernel_rfl) (by decide) H enc W _ _ _ fuel2 _ _ hf2 lg2
  replace e2 : [Value.slice b2 n2 m2] = [.slice A2 x2.length c2] := e2
  injection e2 with e2 _
  injection e2 with e2a e2b e2c
  subst e2a e2b e2c
  obtain ⟨a3, rfl, rfl, rfl, w3⟩ := open_int Try.underlying3 (hval 3 3 v3 rfl rfl) h3
  clear hA0 hval0 hsz0 hsz
  obtain ⟨k, hk⟩ := IndexMore_pure x0.f0 x1 x2 a3 g0 g1 g2 w3
  refine (sizarlaw35_IndexMore.calls k A0_0 A0_0c x0.f0 (fun k_ => k_ < W.heap.size) b1 m1 x1 (fun k_ => k_ < W.heap.size) b2 m2 x2 a3 true W A0_0r A0_0l (V_of_C k63_heap' l1 r1r) (V_of_C k63_heap' l2 r2r) hk).mono fun e W' ⟨he, bel⟩ => ?_
  subst he
  exact ⟨_, rfl, _, _, _, [], _, [], hW', trodAll_mk1 (shut_bool Try.underlying4 _), (trodAll_cons_mk (Below.trod laidOut (by kernel_rfl) (of_decide_eq_true (by kernel_rfl)) k0 bel lt0) (trodAll_cons_mk (Below.trod laidOut (by kernel_rfl) (of_decide_eq_true (by kernel_rfl)) k1 bel lt1) (trodAll_cons_mk (Below.trod laidOut (by kernel_rfl) (of_decide_eq_true (by kernel_rfl)) k2 bel lt2) (trodAll_cons_mk (shut_int Try.underlying3 w3) trodAll_mk0)))), rfl, bel.frame _, fun h => by cases h⟩
theorem over : Rows.indexMoreRow.holds Try.pinned (OpenSpec.ofChange Rows.indexMoreSpec) :=
  OpenClaim.holds_of_wide 8 Try.f8 rfl rfl rfl rfl rfl rfl rfl ⟨rfl, rfl, rfl, rfl, rfl⟩ rfl rfl rfl rfl rfl (by kernel_rfl) Try.func8 (by kernel_rfl)
    (of_decide_eq_true (by kernel_rfl)) (by unfold Func.isWrapper; first | (rw [if_pos (by decide +kernel)]; kernel_rfl) | (rw [if_neg (by decide +kernel)]; exact ⟨rfl, rfl⟩))
    (fun os started H enc _ => lifted os started H enc)
theorem proved : Rows.IndexMoreSaid := over
end Go.Proofs.Ytodmmckieoakjaa.indexMore
namespace Go.Proofs.Ytodmmckieoakjaa
/-- The row, under a short name, for the claim. -/
theorem indexMore_holds : Rows.IndexMoreSaid := indexMore.proved
end Go.Proofs.Ytodmmckieoakjaa
