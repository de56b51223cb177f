/- Proved: the statement RulesBoolean, tied to the program as its card says, for every input; there are no conditions. Texts of this claim, one behind the other: PureP, LawRulesBoolean. Merged by wip/mkmerge.py. -/
import Derived.Test.YtabocfninjankaaDoorCaBo3
import Derived.Test.YtabocfninjankaaDoorCaBo4
import Derived.Test.YtabocfninjankaaDoorRows
import Derived.Test.YtabocfninjankaaDoorCards
import Derived.Test.YtabocfninjankaaDoorTie
import Derived.Test.YtabocfninjankaaDoorCaBo2
import Derived.WalkKit
import Derived.ProofKit
import Derived.OpenShut
import Derived.ShutString
import Derived.ChangeOld
import Derived.Below
import Derived.SizedLaws
import Derived.LaidMore
import Derived.Stop.Joined
import Derived.SevenTiedAt
namespace Go.Proofs.YtabocfninjankaaDoor.P
open Go.RowKit Go.Maps Go.Proofs.YtabocfninjankaaDoorW.PrintWords Go.Proofs.YtabocfninjankaaDoorW.PrintLast Go.Proofs.YtabocfninjankaaDoorW.PrintMore
set_option linter.unusedVariables false
set_option linter.unusedSimpArgs false
theorem rd43 (l : List S43) (i : Nat) (h : i < l.length) : rd_T43 l (i : Int) = l[i] := by simp [rd_T43, List.getD_eq_getElem?_getD, h]
theorem holdsB_eq {r : S24} {s : List S49} {e m1 m2 : Int} (hr : chkR r = true) (hs : fitS s e m1 m2 = true) : holdsB r s e m1 m2 = valR s e m1 m2 r := by
  unfold holdsB
  rw [hr, hs, Bool.true_and, Bool.true_and]
theorem bool_l1 (xs : List S43) (hx : xs.length ≤ 10) (s : List S49) (hs : s.length ≤ 9223372036854775807) (e m1 m2 : Int) (H : ∀ x ∈ xs, chkR x.f0 = true → holdsB x.f0 s e m1 m2 = x.f1) : ∀ (m i : Nat), i + m = xs.length →
    Ev (fun k => sizarlaw12_RulesBoolean.l1 k xs (xs.length : Int) (i : Int) s e m1 m2) true
  | 0, i, hm => Ev.first fun k => by simp only [sizarlaw12_RulesBoolean.l1]; rw [if_neg (by omega)]
  | m + 1, i, hm => by
    have hi : i < xs.length := by omega
    have ih := bool_l1 xs hx s hs e m1 m2 H m (i + 1) (by omega)
    by_cases q : chkR xs[i].f0 = true
    · have hh := H xs[i] (List.getElem_mem hi) q
      refine Ev.next (Ev.bind (c := fun k t => if (t != xs[i].f1) = true then some false else sizarlaw12_RulesBoolean.l1 k xs (xs.length : Int) ((i + 1 : Nat) : Int) s e m1 m2) (lawHolds_ev xs[i].f0 s hs e m1 m2) (b := true) (ih.congr fun k => by rw [hh, if_neg (by simp)])) fun k => ?_
      simp only [sizarlaw12_RulesBoolean.l1]
      rw [if_pos (by omega), if_pos (by omega), if_pos (by omega), rd43 xs i hi, check_f, if_pos q, Option.bind_some, if_pos rfl, w64 i (by omega)]
    · refine Ev.next ih fun k => ?_
      simp only [sizarlaw12_RulesBoolean.l1]
      rw [if_pos (by omega), if_pos (by omega), if_pos (by omega), rd43 xs i hi, check_f, if_neg q, Option.bind_some, if_neg (by decide), w64 i (by omega)]
theorem holds_not {x : S24} {s : List S49} {e m1 m2 : Int} (hx : chkR x = true) (hs : fitS s e m1 m2 = true) (hn : chkR ⟨4, 0, ⟨#[]⟩, 0, 0, [x]⟩ = true) : holdsB ⟨4, 0, ⟨#[]⟩, 0, 0, [x]⟩ s e m1 m2 = !holdsB x s e m1 m2 := by
  rw [holdsB_eq hn hs, holdsB_eq hx hs, valR_eq]
  cases h : valR s e m1 m2 x <;> simp [opHolds, cntL, h]
theorem bool_l0 (l : List S24) (hok : ∀ x ∈ l, okR x) (hl : l.length ≤ 9223372036854775807) (s : List S49) (hs : s.length ≤ 9223372036854775807) (e m1 m2 n : Int) : ∀ (m i c : Nat), i + m = l.length → c = cntL s e m1 m2 (l.take i) → (∀ x ∈ l.take i, chkR x = true) → c ≤ i → (i ≤ 8) →
    Ev (fun k => sizarlaw12_RulesBoolean.l0 k l n (c : Int) (i : Int) s e m1 m2) true
  | 0, i, c, hm, hc, hk, hci, h8 => by
    rw [List.take_of_length_le (by omega)] at hc hk
    refine Ev.next (Ev.bind (c := fun k (t : Int) => if t = 0 then (sizarlaw12_RulesBoolean.l1 k [⟨⟨1, 0, ⟨#[]⟩, 0, 0, l⟩, ((c : Int) == (l.length : Int))⟩, ⟨⟨2, 0, ⟨#[]⟩, 0, 0, l⟩, decide ((c : Int) > 0)⟩, ⟨⟨3, 0, ⟨#[]⟩, Int.tmod (wrap64 n) 201, 0, l⟩, decide ((c : Int) ≥ Int.tmod (wrap64 n) 201)⟩] 3 0 s e m1 m2) else some true) (fits_ev s hs e m1 m2) (b := true) ?_) fun k => ?_
    · by_cases q : fitS s e m1 m2 = true
      · have h1 := bool_l1 [⟨⟨1, 0, ⟨#[]⟩, 0, 0, l⟩, ((c : Int) == (l.length : Int))⟩, ⟨⟨2, 0, ⟨#[]⟩, 0, 0, l⟩, decide ((c : Int) > 0)⟩, ⟨⟨3, 0, ⟨#[]⟩, Int.tmod (wrap64 n) 201, 0, l⟩, decide ((c : Int) ≥ Int.tmod (wrap64 n) 201)⟩] (by simp) s hs e m1 m2 (fun x hx hchk => by
          rw [holdsB_eq hchk q, valR_eq]
          simp only [List.mem_cons, List.not_mem_nil, or_false] at hx
          rcases hx with rfl | rfl | rfl <;> simp [opHolds, ← hc]) 3 0 (by simp)
        exact h1.congr fun k => by rw [if_pos q, if_pos rfl]; rfl
      · exact Ev.now fun k => by rw [if_neg q, if_neg (by decide)]
    · simp only [sizarlaw12_RulesBoolean.l0]
      rw [if_neg (by omega)]
      rfl
  | m + 1, i, c, hm, hc, hk, hci, h8 => by
    have hi : i < l.length := by omega
    obtain ⟨bf, hf⟩ := few_tot l[i] (hok _ (List.getElem_mem hi))
    have jt : Ev (fun k => sizarlaw12_RulesBoolean.j1 k l n (c : Int) (i : Int) true s e m1 m2) true := Ev.first fun k => by
      simp only [sizarlaw12_RulesBoolean.j1]
      rfl
    have head : ∀ k, sizarlaw12_RulesBoolean.l0 (k + 1) l n (c : Int) (i : Int) s e m1 m2 = (sizarref12_Few.f k l[i].f0 l[i].f1 l[i].f2 l[i].f3 l[i].f4 l[i].f5).bind fun t => if t = true then (if (l.length : Int) > 8 then sizarlaw12_RulesBoolean.j1 k l n (c : Int) (i : Int) true s e m1 m2 else if (s.length : Int) > 50 then sizarlaw12_RulesBoolean.j1 k l n (c : Int) (i : Int) true s e m1 m2 else (rules_Check.f l[i].f0 l[i].f1 l[i].f2 l[i].f3 l[i].f4 l[i].f5).bind fun t1 => if t1 = 0 then (rules_Fits.f k s e m1 m2).bind fun t2 => sizarlaw12_RulesBoolean.j1 k l n (c : Int) (i : Int) (t2 != 0) s e m1 m2 else sizarlaw12_RulesBoolean.j1 k l n (c : Int) (i : Int) true s e m1 m2) else sizarlaw12_RulesBoolean.j1 k l n (c : Int) (i : Int) true s e m1 m2 := fun k => by
      simp only [sizarlaw12_RulesBoolean.l0]
      rw [if_pos (by omega), if_pos (by omega), rd24 l i hi]
    refine Ev.next (Ev.bind (c := fun k t => if t = true then (if (l.length : Int) > 8 then sizarlaw12_RulesBoolean.j1 k l n (c : Int) (i : Int) true s e m1 m2 else if (s.length : Int) > 50 then sizarlaw12_RulesBoolean.j1 k l n (c : Int) (i : Int) true s e m1 m2 else (rules_Check.f l[i].f0 l[i].f1 l[i].f2 l[i].f3 l[i].f4 l[i].f5).bind fun t1 => if t1 = 0 then (rules_Fits.f k s e m1 m2).bind fun t2 => sizarlaw12_RulesBoolean.j1 k l n (c : Int) (i : Int) (t2 != 0) s e m1 m2 else sizarlaw12_RulesBoolean.j1 k l n (c : Int) (i : Int) true s e m1 m2) else sizarlaw12_RulesBoolean.j1 k l n (c : Int) (i : Int) true s e m1 m2) hf (b := true) ?_) head
    by_cases q1 : bf = true
    rotate_left
    · exact jt.congr fun k => by rw [if_neg q1]
    by_cases q2 : (l.length : Int) > 8
    · exact jt.congr fun k => by rw [if_pos q1, if_pos q2]
    by_cases q3 : (s.length : Int) > 50
    · exact jt.congr fun k => by rw [if_pos q1, if_neg q2, if_pos q3]
    by_cases q4 : chkR l[i] = true
    rotate_left
    · exact jt.congr fun k => by rw [if_pos q1, if_neg q2, if_neg q3, check_f, if_neg q4, Option.bind_some, if_neg (by decide)]
    have hfe := fits_ev s hs e m1 m2
    by_cases q5 : fitS s e m1 m2 = true
    rotate_left
    · rw [if_neg q5] at hfe
      exact (Ev.bind (c := fun k (t2 : Int) => sizarlaw12_RulesBoolean.j1 k l n (c : Int) (i : Int) (t2 != 0) s e m1 m2) hfe (b := true) jt).congr fun k => by rw [if_pos q1, if_neg q2, if_neg q3, check_f, if_pos q4, Option.bind_some, if_pos rfl]
    rw [if_pos q5] at hfe
    -- the rule holds or does not: count on
    have htk : l.take (i + 1) = l.take i ++ [l[i]] := List.take_succ_eq_append_getElem hi
    have hk' : ∀ x ∈ l.take (i + 1), chkR x = true := fun x hx => by
      rw [htk] at hx
      rcases List.mem_append.1 hx with hx | hx
      · exact hk x hx
      · rw [List.mem_singleton.1 hx]; exact q4
    have hcnt := cntL_snoc s e m1 m2 l i hi
    have j2f : Ev (fun k => sizarlaw12_RulesBoolean.j2 k l n (c : Int) (i : Int) false s e m1 m2) true := by
      have hb := holdsB_eq q4 q5
      refine Ev.next (Ev.bind (c := fun k t => if t = true then sizarlaw12_RulesBoolean.l0 k l n ((c + 1 : Nat) : Int) ((i + 1 : Nat) : Int) s e m1 m2 else sizarlaw12_RulesBoolean.l0 k l n (c : Int) ((i + 1 : Nat) : Int) s e m1 m2) (lawHolds_ev l[i] s hs e m1 m2) (b := true) ?_) fun k => ?_
      · by_cases q6 : holdsB l[i] s e m1 m2 = true
        · exact (bool_l0 l hok hl s hs e m1 m2 n m (i + 1) (c + 1) (by omega) (by rw [hcnt, ← hc, ← hb, if_pos q6]) hk' (by omega) (by omega)).congr fun k => by rw [if_pos q6]
        · exact (bool_l0 l hok hl s hs e m1 m2 n m (i + 1) c (by omega) (by rw [hcnt, ← hc, ← hb, if_neg q6]; rfl) hk' (by omega) (by omega)).congr fun k => by rw [if_neg q6]
      · simp only [sizarlaw12_RulesBoolean.j2]
        rw [if_neg (by decide), if_pos (by omega), if_pos (by omega), rd24 l i hi, w64 i (by omega), w64 c (by omega)]
    have j1f : Ev (fun k => sizarlaw12_RulesBoolean.j1 k l n (c : Int) (i : Int) false s e m1 m2) true := by
      have h1 : ∀ k, sizarlaw12_RulesBoolean.j1 (k + 1) l n (c : Int) (i : Int) false s e m1 m2 = (rules_Check.f 4 0 ⟨#[]⟩ 0 0 [l[i]]).bind fun t => if t = 0 then (sizarlaw12_holds.f k 4 0 ⟨#[]⟩ 0 0 [l[i]] s e m1 m2).bind fun t1 => (sizarlaw12_holds.f k l[i].f0 l[i].f1 l[i].f2 l[i].f3 l[i].f4 l[i].f5 s e m1 m2).bind fun t2 => sizarlaw12_RulesBoolean.j2 k l n (c : Int) (i : Int) (t1 == t2) s e m1 m2 else sizarlaw12_RulesBoolean.j2 k l n (c : Int) (i : Int) false s e m1 m2 := fun k => by
        simp only [sizarlaw12_RulesBoolean.j1]
        rw [if_neg (by decide), if_pos (by omega), if_pos (by omega), rd24 l i hi, Option.bind_some, show (⟨l[i].f0, l[i].f1, l[i].f2, l[i].f3, l[i].f4, l[i].f5⟩ : S24) = l[i] from by cases l[i]; rfl]
      have h2 : rules_Check.f 4 0 ⟨#[]⟩ 0 0 [l[i]] = some (if chkR ⟨4, 0, ⟨#[]⟩, 0, 0, [l[i]]⟩ = true then 0 else 120) := rfl
      by_cases q7 : chkR ⟨4, 0, ⟨#[]⟩, 0, 0, [l[i]]⟩ = true
      · have hn := holds_not q4 q5 q7
        refine Ev.next (Ev.bind (c := fun k t1 => (sizarlaw12_holds.f k l[i].f0 l[i].f1 l[i].f2 l[i].f3 l[i].f4 l[i].f5 s e m1 m2).bind fun t2 => sizarlaw12_RulesBoolean.j2 k l n (c : Int) (i : Int) (t1 == t2) s e m1 m2) (lawHolds_ev ⟨4, 0, ⟨#[]⟩, 0, 0, [l[i]]⟩ s hs e m1 m2) (b := true)
          (Ev.bind (c := fun k t2 => sizarlaw12_RulesBoolean.j2 k l n (c : Int) (i : Int) (holdsB ⟨4, 0, ⟨#[]⟩, 0, 0, [l[i]]⟩ s e m1 m2 == t2) s e m1 m2) (lawHolds_ev l[i] s hs e m1 m2) (b := true) (j2f.congr fun k => by rw [hn]; cases holdsB l[i] s e m1 m2 <;> rfl))) fun k => ?_
        rw [h1, h2, if_pos q7, Option.bind_some, if_pos rfl]
      · refine Ev.next j2f fun k => ?_
        rw [h1, h2, if_neg q7, Option.bind_some, if_neg (by decide)]
    exact (Ev.bind (c := fun k (t2 : Int) => sizarlaw12_RulesBoolean.j1 k l n (c : Int) (i : Int) (t2 != 0) s e m1 m2) hfe (b := true) j1f).congr fun k => by rw [if_pos q1, if_neg q2, if_neg q3, check_f, if_pos q4, Option.bind_some, if_pos rfl]
/-- A row of rules that is read, as a row that is shared. -/
theorem V_of_C24 {e : Nat} {w : World} {A : Option Addr} {c : Nat} {xs : List S24} (hl : xs.length ≤ c) (h : Kd.C k24 w A xs.length xs) : Kd.V k24 e w w.heap.size (fun k => k < w.heap.size) (.slice A xs.length c) xs := Kd.V_mk hl (Kd.C_F k24_heap' h)
theorem RulesBoolean_pure (l : List S24) (s : List S49) (e m1 m2 n : Int) (hl : (∀ x ∈ l, okR x) ∧ l.length * Tryd.prog.bytesOf 24 ≤ reachBytes) (hll : l.length ≤ 9223372036854775807) (hs : s.length ≤ 9223372036854775807) :
    ∃ k, sizarlaw12_RulesBoolean.f k l s e m1 m2 n = some true := by
  have h := bool_l0 l hl.1 hll s hs e m1 m2 n l.length 0 0 (by omega) (by simp [cntL]) (fun x hx => by simp at hx) (Nat.le_refl _) (by omega)
  have h2 := Ev.bind (c := fun k t => if t = true then sizarlaw12_RulesBoolean.l0 k l n 0 0 s e m1 m2 else some false) sane_ev (b := true) (h.congr fun k => by rw [if_pos rfl]; rfl)
  exact Ev.get h2
end Go.Proofs.YtabocfninjankaaDoor.P
namespace Go.Proofs.YtabocfninjankaaDoor.rulesBoolean
open Go.ChangeShapes Go.WideShapes Go.ChangeAt Go.RowKit
open Go.Proofs.YtabocfninjankaaDoor.P
set_option linter.unusedVariables false
theorem own : ownKnob Tryd.prog.godebug = none := by kernel_rfl
theorem laidOut : laidOutB Tryd.prog = true := by kernel_rfl
abbrev laid : List (String × DataW Unit) := [("sizar/rules.kinds", Rows.laid_sizar_rules_kinds)]
set_option maxRecDepth 100000 in
theorem door_met (os : Os) (args : Array Value) : laidMetH Tryd.prog laid ((World.doorLaid Tryd.prog 600 os).forCall (fun _ _ => 0) ⟨#[], args, []⟩).memory :=
  laidMetH_of_parts3 (fuel := 8) (laidMet_of_run' 8 (by kernel_rfl) (by kernel_rfl)) (by kernel_rfl) (by kernel_rfl)
set_option maxRecDepth 100000 in
set_option maxHeartbeats 1000000 in
theorem lifted (os : Os) (started : os.Started) (H : Type) (enc : TypeId × Value → H) :
    ReturnsInHanded {} Tryd.checked os 5 .any (fun w args => (Rows.rulesBooleanSpec.pre enc Tryd.prog Tryd.f5 [] false w args ∧ laidMetH Tryd.prog laid w) ∧ sizedMet enc Tryd.prog Tryd.f5 (OpenSpec.ofChange Rows.rulesBooleanSpec) false w args)
      (Rows.rulesBooleanSpec.post enc Tryd.prog Tryd.f5 false true false false) := by
  refine returnsInHanded_of_change_and (C := Tryd.checked) (X := fun w _ => laidMetH Tryd.prog laid w) (fun _ _ _ hh h => h.of_heap hh) own started (by kernel_rfl) Tryd.func5
    (ChangeSpec.witness_shaped (enc := enc) (C := Tryd.checked) (os := os) (X := fun w _ => laidMetH Tryd.prog laid w) false (World.doorLaid Tryd.prog 600 os) #[.slice none 0 0, .agg #[.slice none 0 0, .int .i64 0, .int .i64 0, .int .i64 0], .int .u8 0] 8 rfl (World.shaped_of_RefB (by kernel_rfl) (by kernel_rfl)) (by kernel_rfl) (by kernel_rfl) (by kernel_rfl) (door_met os _)) ?_
  intro W base args ds gs before hval0 hW hcnd hsz0 hL _
  have hsz : (DataW.weightsEach Tryd.prog (Tryd.f5.params.toList ++ Rows.rulesBooleanSpec.plain.varTypes Tryd.prog) (ds ++ gs)).all (· ≤ reachBytes) = true := hsz0
  have hval : ∀ (j : Nat) t v, Tryd.f5.params[j]? = some t → args[j]? = some v → Value.okWide Tryd.prog W .any base t v := hval0
  have hW' := hW
  obtain ⟨p, q, hA0, hV, rfl, hfz, hnd⟩ := hW
  have hA : DataW.TrodAll enc Tryd.prog W 0 (fun _ => true) true Tryd.f5.params.toList args.toList ds p := hA0
  rw [Tryd.params5] at hA hval hsz
  obtain ⟨v0, vs0, d0, ds0, p0, q0, hargs, rfl, rfl, h0, r0⟩ := trodAll_cons hA
  obtain ⟨v1, vs1, d1, ds1, p1, q1, rfl, rfl, rfl, h1, r1⟩ := trodAll_cons r0
  obtain ⟨v2, vs2, d2, ds2, p2, q2, rfl, rfl, rfl, h2, r2⟩ := trodAll_cons r1
  obtain ⟨rfl, rfl, rfl⟩ := trodAll_nil r2
  obtain rfl : args = #[v0, v1, v2] := by cases args; simp_all
  obtain ⟨rfl, rfl⟩ := trodVars_none hV
  have k0 := h0
  have lt0 : ∀ x ∈ p0, x.block < W.heap.size := by obtain ⟨m, hm⟩ := k0; exact DataW.trod_lt m _ _ _ hm
  have lg0 : light Tryd.prog 22 d0 := light_each _ _ hsz 0 _ _ rfl rfl
  obtain ⟨fuel0, hf0⟩ := h0
  obtain ⟨b0, n0, m0, rfl⟩ := okWide_slice Tryd.underlying22 (hval 0 22 v0 rfl rfl)
  obtain ⟨x0, ⟨A0, c0, e0, l0, r0r⟩, g0⟩ := opn_slice Tryd.underlying22 opn24 cel24 (by decide) H enc W _ _ _ fuel0 _ _ hf0 lg0
  replace e0 : [Value.slice b0 n0 m0] = [.slice A0 x0.length c0] := e0
  injection e0 with e0 _
  injection e0 with e0a e0b e0c
  subst e0a e0b e0c
  have k1 := h1
  have lt1 : ∀ x ∈ p1, x.block < W.heap.size := by obtain ⟨m, hm⟩ := k1; exact DataW.trod_lt m _ _ _ hm
  have lg1 : light Tryd.prog 29 d1 := light_each _ _ hsz 1 _ _ rfl rfl
  obtain ⟨fuel1, hf1⟩ := h1
  obtain ⟨cs1, rfl, hcs1⟩ := okWide_struct Tryd.underlying29 (hval 1 29 v1 rfl rfl)
  obtain ⟨x1, K1, g1⟩ := opn29 H enc W _ _ _ fuel1 _ _ hf1 lg1
  obtain ⟨A1, c1, e1, l1, r1r⟩ := k29_open K1
  replace e1 : cs1.toList = (#[.slice A1 x1.f0.length c1, .int .i64 x1.f1, .int .i64 x1.f2.f0, .int .i64 x1.f2.f1] : Array Value).toList := e1
  obtain rfl := Array.toList_inj.1 e1
  obtain ⟨a2, rfl, rfl, rfl, w2⟩ := open_int Tryd.underlying5 (hval 2 5 v2 rfl rfl) h2
  have hKT := of_laid hL
  clear hA0 hval0 hsz0 hsz
  obtain ⟨k, hk⟩ := RulesBoolean_pure x0 x1.f0 x1.f1 x1.f2.f0 x1.f2.f1 a2 g0 r0r.2.1 g1
  refine (sizarlaw12_RulesBoolean.calls k (fun k_ => k_ < W.heap.size) b0 m0 x0 A1 c1 x1.f0 x1.f1 x1.f2.f0 x1.f2.f1 a2 true W (V_of_C24 l0 r0r) r1r l1 hk hKT).mono fun e W' ⟨he, bel⟩ => ?_
  subst he
  exact ⟨_, rfl, _, _, _, [], _, [], hW', trodAll_mk1 (shut_bool Tryd.underlying4 _), (trodAll_cons_mk (Below.trod laidOut (by kernel_rfl) (of_decide_eq_true (by kernel_rfl)) k0 bel lt0) (trodAll_cons_mk (Below.trod laidOut (by kernel_rfl) (of_decide_eq_true (by kernel_rfl)) k1 bel lt1) (trodAll_cons_mk (shut_int Tryd.underlying5 w2) trodAll_mk0))), rfl, bel.frame _, fun h => by cases h⟩
theorem over : Rows.rulesBooleanRow.holds Tryd.pinned (OpenSpec.ofChange Rows.rulesBooleanSpec) :=
  OpenClaim.holds_of_wide 5 Tryd.f5 rfl rfl rfl rfl rfl rfl rfl ⟨rfl, rfl, rfl, rfl, rfl⟩ rfl rfl rfl rfl rfl (by kernel_rfl) Tryd.func5 (by kernel_rfl)
    (of_decide_eq_true (by kernel_rfl)) (by unfold Func.isWrapper; first | (rw [if_pos (by decide +kernel)]; kernel_rfl) | (rw [if_neg (by decide +kernel)]; exact ⟨rfl, rfl⟩))
    (fun os started H enc _ => lifted os started H enc)
theorem card : Rows.RulesBooleanCardSaid :=
  Claim7.holds_tied_plain_at .later [] [.funcs] true (true, "2fadb4b9a838f57294a20d8f5ec735aff9896364a9ddfdfb30d191a5aaac5261") false
    over (fun _ h => by cases h) (by kernel_rfl) (fun _ h => by cases h) rulesBoolean_row_tie rfl ⟨rfl, rfl⟩ (by kernel_rfl) rfl
    (fun f fn hf hfn => by
      obtain rfl : f = 5 := Option.some.inj ((show Tryd.prog.funcNamed "sizar/sizarlaw12.RulesBoolean" = some 5 by kernel_rfl).symm.trans hf) |>.symm
      obtain rfl : fn = Tryd.f5 := (Option.some.inj (Tryd.func5.symm.trans hfn)).symm
      exact ⟨by kernel_rfl, fun j t ht => by
        rw [Tryd.params5] at ht
        have hm : t ∈ [22, 29, 5] := by simpa using Array.mem_of_getElem? ht
        have hall : ([22, 29, 5].all fun u => !Tryd.prog.wantsStandIn u) = true := by kernel_rfl
        exact (show Tryd.prog.wantsStandIn t = false by simpa using List.all_eq_true.1 hall t hm)⟩)
    (by kernel_rfl)
end Go.Proofs.YtabocfninjankaaDoor.rulesBoolean
namespace Go.Proofs.YtabocfninjankaaDoor
/-- The tied card, under a short name, for the claim. -/
theorem rulesBoolean_holds : Rows.RulesBooleanCardSaid := rulesBoolean.card
end Go.Proofs.YtabocfninjankaaDoor
