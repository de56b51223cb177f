/- Texts of this claim, one behind the other: EvCheck, EvAff, IdxAff, SaneEv, Opens, OpenS, PureA, LawIndexBuildSpec. Merged by wip/mkmerge.py. -/
import Derived.Test.YtodmmckieoakjaaCaBs4
import Derived.Test.YtodmmckieoakjaaCaBs3
import Derived.Test.YtodmmckieoakjaaCaBs1
import Derived.Deep.Slices
import Derived.ChangeSame
import Derived.ChangeArms
import Derived.DataReads
import Derived.Test.YtodmmckieoakjaaRows
import Derived.WalkKit
import Derived.ProofKit
import Derived.OpenShut
import Derived.ShutString
import Derived.ChangeOld
import Derived.Below
import Derived.SizedLaws
namespace Go.Proofs.Ytodmmckieoakjaa.P
open Go.RowKit Go.Proofs.YtodmmckieoakjaaW.PrintWords Go.Proofs.YtodmmckieoakjaaW.PrintLast Go.Proofs.YtodmmckieoakjaaW.PrintMore
theorem Ev.mono {α : Type} {f : Nat → Option α} {r : α} {K : Nat} (h : f K = some r) (hm : ∀ k, LeO (f k) (f (k + 1))) : Ev f r :=
  ⟨K, fun k hk => by
    induction k with
    | zero => have : K = 0 := by omega
              subst this; exact h
    | succ k ih =>
      rcases Nat.lt_or_ge k K with h1 | h1
      · have : K = k + 1 := by omega
        subst this; exact h
      · exact hm k _ (ih h1)⟩
theorem compare_ev (x y : S49) : Ev (fun k => index_compare.f k x.f0.f0.f0 x.f0.f0.f1 x.f0.f0.f2 x.f0.f1 x.f0.f2 x.f1 y.f0.f0.f0 y.f0.f0.f1 y.f0.f0.f2 y.f0.f1 y.f0.f2 y.f1) (cfL x y) :=
  Ev.mono (K := 10) (index_compare_f x y) (fun k => index_compare.mono _ _ _ _ _ _ _ _ _ _ _ _ k)
/-- Every number within 0..n-1, every link behind the one ahead of it. -/
def chk (n : Int) : Option S49 → List S49 → Int
  | _, [] => 0
  | p, x :: r => if x.f1 < 0 then 350 else if x.f1 ≥ n then 350 else
    match p with
    | none => chk n (some x) r
    | some q => if LtL q x then chk n (some x) r else 350
def prevOf (l : List S49) (i : Nat) : Option S49 := if i = 0 then none else l[i - 1]?
theorem chk_step (n : Int) (l : List S49) (i : Nat) (hi : i < l.length) : chk n (prevOf l i) (l.drop i) =
    if l[i].f1 < 0 then 350 else if l[i].f1 ≥ n then 350 else if h : 0 < i then (if LtL (l[i - 1]'(by omega)) l[i] then chk n (prevOf l (i + 1)) (l.drop (i + 1)) else 350) else chk n (prevOf l (i + 1)) (l.drop (i + 1)) := by
  rw [List.drop_eq_getElem_cons hi]
  have hp : prevOf l (i + 1) = some l[i] := by simp [prevOf, hi]
  rw [hp]
  by_cases h0 : i = 0
  · subst h0
    simp [prevOf, chk]
  · have hq : prevOf l i = some (l[i - 1]'(by omega)) := by simp only [prevOf, if_neg h0]; exact List.getElem?_eq_getElem (by omega)
    rw [hq, dif_pos (by omega)]
    simp [chk]
set_option maxHeartbeats 1000000 in
theorem index_check_ev (l : List S49) (hl : l.length ≤ 1000000000000000) (n : Int) : Ev (fun k => index_Check.f k l n) (chk n none l) := by
  have key : ∀ (d i : Nat), i + d = l.length → Ev (fun k => index_Check.l0 k n l (l.length : Int) (i : Int) l) (chk n (prevOf l i) (l.drop i)) := by
    intro d
    induction d with
    | zero =>
      intro i hi
      refine Ev.first fun k => ?_
      simp only [index_Check.l0]
      rw [if_neg (by omega), List.drop_eq_nil_of_le (by omega)]
      cases prevOf l i <;> rfl
    | succ d ih =>
      intro i hi
      have hil : i < l.length := by omega
      have hr := rd49 l i hil
      have hn := ih (i + 1) (by omega)
      rw [chk_step n l i hil]
      by_cases h1 : l[i].f1 < 0
      · rw [if_pos h1]
        refine Ev.first fun k => ?_
        simp only [index_Check.l0]
        rw [if_pos (by omega), if_pos (by omega), if_pos (by omega), hr, if_pos h1]
      · rw [if_neg h1]
        by_cases h2 : l[i].f1 ≥ n
        · rw [if_pos h2]
          refine Ev.first fun k => ?_
          simp only [index_Check.l0]
          rw [if_pos (by omega), if_pos (by omega), if_pos (by omega), hr, if_neg h1, if_pos h2]
        · rw [if_neg h2]
          by_cases h3 : 0 < i
          · rw [dif_pos h3]
            have hw : wrap64 ((i : Int) - 1) = ((i - 1 : Nat) : Int) := by unfold wrap64; omega
            have hr2 := rd49 l (i - 1) (by omega)
            have hc := cfL_lt (l[i - 1]'(by omega)) l[i]
            by_cases h4 : LtL (l[i - 1]'(by omega)) l[i]
            · rw [if_pos h4]
              have hb := Ev.bind (c := fun k t => if t ≥ 0 then some 350 else index_Check.l0 k n l (l.length : Int) ((i + 1 : Nat) : Int) l) (compare_ev (l[i - 1]'(by omega)) l[i]) (hn.congr fun k => by rw [if_neg (by have := hc.2 h4; omega)])
              refine Ev.next hb fun k => ?_
              simp only [index_Check.l0]
              rw [if_pos (by omega), if_pos (by omega), if_pos (by omega), hr, if_neg h1, if_neg h2, if_pos (by omega), hw, if_pos (by omega), if_pos (by omega), hr2, w64 i (by omega)]
            · rw [if_neg h4]
              have hb := Ev.bind (c := fun k t => if t ≥ 0 then some 350 else index_Check.l0 k n l (l.length : Int) ((i + 1 : Nat) : Int) l) (compare_ev (l[i - 1]'(by omega)) l[i]) (b := 350) (Ev.now fun k => by rw [if_pos (by have := mt hc.1 h4; omega)])
              refine Ev.next hb fun k => ?_
              simp only [index_Check.l0]
              rw [if_pos (by omega), if_pos (by omega), if_pos (by omega), hr, if_neg h1, if_neg h2, if_pos (by omega), hw, if_pos (by omega), if_pos (by omega), hr2, w64 i (by omega)]
          · rw [dif_neg h3]
            refine Ev.next hn fun k => ?_
            simp only [index_Check.l0]
            rw [if_pos (by omega), if_pos (by omega), if_pos (by omega), hr, if_neg h1, if_neg h2, if_neg (by omega), w64 i (by omega)]
  have h := key l.length 0 (by omega)
  rw [List.drop_zero] at h
  exact h.congr fun k => rfl
theorem sameInts_ev (a b : List Int) (ha : a.length ≤ 1000000000000000) : Ev (fun k => sizarref35_SameInts.f k a b) (decide (a = b)) := by
  by_cases hl : a.length = b.length
  · have key : ∀ (d i : Nat), i + d = a.length → Ev (fun k => sizarref35_SameInts.l0 k a b (i : Int)) (decide (a.drop i = b.drop i)) := by
      intro d
      induction d with
      | zero =>
        intro i hi
        refine Ev.first fun k => ?_
        simp only [sizarref35_SameInts.l0]
        rw [if_neg (by omega), List.drop_eq_nil_of_le (by omega), List.drop_eq_nil_of_le (by omega)]
        simp
      | succ d ih =>
        intro i hi
        have hia : i < a.length := by omega
        have hib : i < b.length := by omega
        have hra : rd a (i : Int) = a[i] := by simp [rd, hia]
        have hrb : rd b (i : Int) = b[i] := by simp [rd, hib]
        have hdrop : (a.drop i = b.drop i) ↔ (a[i] = b[i] ∧ a.drop (i + 1) = b.drop (i + 1)) := by
          rw [List.drop_eq_getElem_cons hia, List.drop_eq_getElem_cons hib, List.cons.injEq]
        by_cases hab : a[i] = b[i]
        · have hd : decide (a.drop (i + 1) = b.drop (i + 1)) = decide (a.drop i = b.drop i) := decide_eq_decide.2 (by rw [hdrop]; simp [hab])
          rw [← hd]
          refine Ev.next (ih (i + 1) (by omega)) fun k => ?_
          simp only [sizarref35_SameInts.l0]
          rw [if_pos (by omega), if_pos (by omega), if_pos (by omega), hra, hrb, if_pos hab, w64 i (by omega)]
        · refine Ev.first fun k => ?_
          simp only [sizarref35_SameInts.l0]
          rw [if_pos (by omega), if_pos (by omega), if_pos (by omega), hra, hrb, if_neg hab, decide_eq_false (fun h => hab (hdrop.1 h).1)]
    have h := key a.length 0 (by omega)
    simp only [List.drop_zero] at h
    refine h.congr fun k => ?_
    unfold sizarref35_SameInts.f
    rw [if_pos (by omega)]
    rfl
  · refine Ev.now fun k => ?_
    unfold sizarref35_SameInts.f
    rw [if_neg (by omega), decide_eq_false (fun h => hl (by rw [h]))]
end Go.Proofs.Ytodmmckieoakjaa.P
namespace Go.Proofs.Ytodmmckieoakjaa.P
open Go.RowKit Go.Proofs.YtodmmckieoakjaaW.PrintWords Go.Proofs.YtodmmckieoakjaaW.PrintLast Go.Proofs.YtodmmckieoakjaaW.PrintMore
/-- A number put into a list in order. -/
def insI : List Int → Int → List Int
  | [], a => [a]
  | y :: r, a => if y < a then y :: insI r a else if y = a then y :: r else a :: y :: r
/-- Does the change touch the link? -/
def hit (x : S49) (c : S63) : Bool := atKey c.f0 x && touches x.f0.f1 x.f0.f2 c.f1
/-- The numbers of the touched links, in order. -/
def affR (l : List S49) (cs : List S63) : List Int := ((l.filter fun x => cs.any (hit x)).map (·.f1)).foldl insI []
end Go.Proofs.Ytodmmckieoakjaa.P
namespace Go.Proofs.Ytodmmckieoakjaa.P
open Go.RowKit Go.Maps Go.Proofs.YtodmmckieoakjaaW.PrintWords Go.Proofs.YtodmmckieoakjaaW.PrintLast Go.Proofs.YtodmmckieoakjaaW.PrintMore
abbrev SI (l : List Int) : Prop := l.Pairwise (· < ·)
theorem SI.ext : ∀ {l m : List Int}, SI l → SI m → (∀ x, x ∈ l ↔ x ∈ m) → l = m
  | [], [], _, _, _ => rfl
  | [], y :: m, _, _, h => by have := (h y).2 (by simp); simp at this
  | x :: l, [], _, _, h => by have := (h x).1 (by simp); simp at this
  | x :: l, y :: m, hl, hm, h => by
    obtain ⟨h1, h2⟩ := List.pairwise_cons.1 hl
    obtain ⟨k1, k2⟩ := List.pairwise_cons.1 hm
    have hxy : x = y := by
      rcases List.mem_cons.1 ((h x).1 (by simp)) with e | e
      · exact e
      · rcases List.mem_cons.1 ((h y).2 (by simp)) with e' | e'
        · exact e'.symm
        · have := k1 x e; have := h1 y e'; omega
    subst hxy
    have : l = m := SI.ext h2 k2 (fun z => by
      constructor
      · intro hz
        rcases List.mem_cons.1 ((h z).1 (List.mem_cons_of_mem _ hz)) with e | e
        · subst e; have := h1 _ hz; omega
        · exact e
      · intro hz
        rcases List.mem_cons.1 ((h z).2 (List.mem_cons_of_mem _ hz)) with e | e
        · subst e; have := k1 _ hz; omega
        · exact e)
    rw [this]
theorem mem_insI (a : Int) : ∀ (l : List Int) (z : Int), z ∈ insI l a ↔ z = a ∨ z ∈ l
  | [], z => by simp [insI]
  | y :: r, z => by
    unfold insI
    split
    · rw [List.mem_cons, mem_insI a r z, List.mem_cons]; exact ⟨fun h => by rcases h with h | h | h <;> simp [h], fun h => by rcases h with h | h | h <;> simp [h]⟩
    · split
      · rename_i h; subst h; simp
      · simp
theorem si_insI (a : Int) : ∀ l : List Int, SI l → SI (insI l a)
  | [], _ => by simp [insI]
  | y :: r, h => by
    obtain ⟨h1, h2⟩ := List.pairwise_cons.1 h
    unfold insI
    split
    · rename_i hl
      refine List.pairwise_cons.2 ⟨fun z hz => ?_, si_insI a r h2⟩
      rcases (mem_insI a r z).1 hz with rfl | hz
      · exact hl
      · exact h1 z hz
    · split
      · exact h
      · refine List.pairwise_cons.2 ⟨fun z hz => ?_, h⟩
        rcases List.mem_cons.1 hz with rfl | hz
        · omega
        · have := h1 z hz; omega
theorem foldl_insI : ∀ (xs l : List Int), SI l → SI (xs.foldl insI l) ∧ ∀ z, z ∈ xs.foldl insI l ↔ z ∈ l ∨ z ∈ xs
  | [], l, h => ⟨h, fun z => by simp⟩
  | x :: xs, l, h => by
    obtain ⟨h1, h2⟩ := foldl_insI xs (insI l x) (si_insI x l h)
    refine ⟨h1, fun z => ?_⟩
    rw [List.foldl_cons, h2 z, mem_insI, List.mem_cons]
    exact ⟨fun h => by rcases h with (h | h) | h <;> simp [h], fun h => by rcases h with h | h | h <;> simp [h]⟩
theorem insert_perm {H : Type} (x : Lit × DataW H) : ∀ l : List (Lit × DataW H), (DataW.insert x l).Perm (x :: l)
  | [] => List.Perm.refl _
  | y :: r => by
    unfold DataW.insert
    split
    · exact List.Perm.refl _
    · exact ((insert_perm x r).cons y).trans (List.Perm.swap x y r)
/-- The set holds just the numbers S, each once. -/
def SetI (D : DataW Unit) (S : Int → Prop) : Prop := ∃ es, D = .map es ∧ (∀ p ∈ es, ∃ x, p.1 = .int .i64 x) ∧ (intKeys D).Nodup ∧ ∀ a, a ∈ intKeys D ↔ S a
theorem SetI.empty : SetI (.map []) fun _ => False := ⟨[], rfl, fun p h => by simp at h, by simp [intKeys], fun a => by simp [intKeys]⟩
theorem SetI.put {D : DataW Unit} {S : Int → Prop} (h : SetI D S) (a : Int) (v : DataW Unit) : SetI (D.put (.int .i64 a) v) fun z => z = a ∨ S z := by
  obtain ⟨es, rfl, h1, h2, h3⟩ := h
  have hp := insert_perm (Lit.int .i64 a, v) (es.filter fun p => !p.1.sameKey (.int .i64 a))
  have hk : (intKeys (DataW.put (.map es) (.int .i64 a) v)).Perm (a :: (es.filter fun p => !p.1.sameKey (.int .i64 a)).map fun p => Go.intOf p.1) := hp.map _
  have hmem : ∀ z, z ∈ (es.filter fun p => !p.1.sameKey (.int .i64 a)).map (fun p => Go.intOf p.1) ↔ z ∈ intKeys (.map es) ∧ z ≠ a := by
    intro z
    simp only [intKeys, List.mem_map, List.mem_filter]
    constructor
    · rintro ⟨p, ⟨hp, hs⟩, rfl⟩
      refine ⟨⟨p, hp, rfl⟩, fun e => ?_⟩
      obtain ⟨x, hx⟩ := h1 p hp
      rw [hx] at hs e
      have e' : x = a := e
      subst e'
      simp [Lit.sameKey] at hs
    · rintro ⟨⟨p, hp, rfl⟩, hne⟩
      refine ⟨p, ⟨hp, ?_⟩, rfl⟩
      obtain ⟨x, hx⟩ := h1 p hp
      rw [hx] at hne ⊢
      have hne' : x ≠ a := hne
      simp [Lit.sameKey, hne']
  refine ⟨_, rfl, fun p hp' => ?_, hk.nodup_iff.2 (List.nodup_cons.2 ⟨fun h => ((hmem a).1 h).2 rfl, ?_⟩), fun z => ?_⟩
  · rcases List.mem_cons.1 (hp.mem_iff.1 hp') with rfl | hp'
    · exact ⟨a, rfl⟩
    · exact h1 p (List.mem_filter.1 hp').1
  · exact h2.sublist (List.filter_sublist.map _)
  · rw [hk.mem_iff, List.mem_cons, hmem z, h3 z]
    constructor
    · rintro (h | h)
      · exact .inl h
      · exact .inr h.1
    · rintro (h | h)
      · exact .inl h
      · by_cases e : z = a
        · exact .inl e
        · exact .inr ⟨h, e⟩
theorem SetI.congr {D : DataW Unit} {S S' : Int → Prop} (h : SetI D S) (hS : ∀ a, S a ↔ S' a) : SetI D S' := by
  obtain ⟨es, h0, h1, h2, h3⟩ := h
  exact ⟨es, h0, h1, h2, fun a => (h3 a).trans (hS a)⟩
theorem affIn_set (c : S63) : ∀ (ys : List Lw) {D : DataW Unit} {S : Int → Prop}, SetI D S → SetI (affIn c D ys) fun a => S a ∨ ∃ y ∈ ys, touches y.1.f0.f1 y.1.f0.f2 c.f1 = true ∧ y.1.f1 = a
  | [], D, S, h => h.congr fun a => by simp
  | y :: ys, D, S, h => by
    have e : affIn c D (y :: ys) = affIn c (affPut c D y) ys := rfl
    rw [e]
    by_cases ht : touches y.1.f0.f1 y.1.f0.f2 c.f1 = true
    · have h1 : SetI (affPut c D y) fun z => z = y.1.f1 ∨ S z := by unfold affPut; rw [if_pos ht]; exact h.put _ _
      refine (affIn_set c ys h1).congr fun a => ?_
      constructor
      · rintro ((rfl | h) | ⟨z, hz, h2⟩)
        · exact .inr ⟨y, by simp, ht, rfl⟩
        · exact .inl h
        · exact .inr ⟨z, by simp [hz], h2⟩
      · rintro (h | ⟨z, hz, h2, h3⟩)
        · exact .inl (.inr h)
        · rcases List.mem_cons.1 hz with rfl | hz
          · exact .inl (.inl h3.symm)
          · exact .inr ⟨z, hz, h2, h3⟩
    · have h1 : SetI (affPut c D y) S := by unfold affPut; rw [if_neg ht]; exact h
      refine (affIn_set c ys h1).congr fun a => ?_
      constructor
      · rintro (h | ⟨z, hz, h2⟩)
        · exact .inl h
        · exact .inr ⟨z, by simp [hz], h2⟩
      · rintro (h | ⟨z, hz, h2, h3⟩)
        · exact .inl h
        · rcases List.mem_cons.1 hz with rfl | hz
          · exact absurd h2 ht
          · exact .inr ⟨z, hz, h2, h3⟩
theorem affAll_set (xs : List Lw) : ∀ (cs : List S63) {D : DataW Unit} {S : Int → Prop}, SetI D S → SetI (affAll xs D cs) fun a => S a ∨ ∃ c ∈ cs, ∃ y ∈ xs, hit y.1 c = true ∧ y.1.f1 = a
  | [], D, S, h => h.congr fun a => by simp
  | c :: cs, D, S, h => by
    have e : affAll xs D (c :: cs) = affAll xs (affIn c D (ofKey c.f0 xs)) cs := rfl
    rw [e]
    refine (affAll_set xs cs (affIn_set c (ofKey c.f0 xs) h)).congr fun a => ?_
    have hm : (∃ y ∈ ofKey c.f0 xs, touches y.1.f0.f1 y.1.f0.f2 c.f1 = true ∧ y.1.f1 = a) ↔ ∃ y ∈ xs, hit y.1 c = true ∧ y.1.f1 = a := by
      constructor
      · rintro ⟨y, hy, h1, h2⟩
        obtain ⟨h3, h4⟩ := List.mem_filter.1 hy
        exact ⟨y, h3, by unfold hit; rw [h4, h1]; rfl, h2⟩
      · rintro ⟨y, hy, h1, h2⟩
        unfold hit at h1
        rw [Bool.and_eq_true] at h1
        exact ⟨y, List.mem_filter.2 ⟨hy, h1.1⟩, h1.2, h2⟩
    rw [hm]
    constructor
    · rintro ((h | h) | ⟨c', hc, h⟩)
      · exact .inl h
      · exact .inr ⟨c, by simp, h⟩
      · exact .inr ⟨c', by simp [hc], h⟩
    · rintro (h | ⟨c', hc, h⟩)
      · exact .inl (.inl h)
      · rcases List.mem_cons.1 hc with rfl | hc
        · exact .inl (.inr h)
        · exact .inr ⟨c', hc, h⟩
theorem index_affected_f (l : List S49) (cs : List S63) (hl : l.length ≤ 100000) (hc : cs.length ≤ 100000) (hw : ∀ x ∈ l, (Lit.int .i64 x.f1).wf = true) : index_Affected.f l cs = some (affR l cs) := by
  unfold index_Affected.f
  rw [dif_pos ⟨hl, hc, hw⟩]
  refine congrArg some ?_
  obtain ⟨es, h0, _, h2, h3⟩ := affAll_set (l.attachWith _ hw) cs SetI.empty
  obtain ⟨k1, k2⟩ := foldl_insI ((l.filter fun x => cs.any (hit x)).map (·.f1)) [] List.Pairwise.nil
  refine SI.ext ?_ k1 fun z => ?_
  · have hs := List.pairwise_mergeSort (le := leI) (fun a b c h1 h2 => by simp only [decide_eq_true_eq] at *; omega) (fun a b => by simp only [Bool.or_eq_true, decide_eq_true_eq]; omega) (intKeys (affAll (l.attachWith _ hw) (.map []) cs))
    have hn := (List.mergeSort_perm (intKeys (affAll (l.attachWith _ hw) (.map []) cs)) leI).nodup_iff.2 h2
    have hn' := List.nodup_iff_pairwise_ne.1 hn
    refine (hs.and hn').imp ?_
    rintro a b ⟨h1, h2⟩
    simp only [decide_eq_true_eq] at h1
    omega
  · have e1 := (List.mergeSort_perm (intKeys (affAll (l.attachWith _ hw) (.map []) cs)) leI).mem_iff (a := z)
    rw [e1, h3 z]
    unfold affR
    rw [k2 z]
    simp only [List.mem_map, List.mem_filter, List.any_eq_true, List.not_mem_nil, false_or]
    constructor
    · rintro ⟨c, hc, y, hy, h1, h2⟩
      exact ⟨y.1, ⟨by simpa using hy, c, hc, h1⟩, h2⟩
    · rintro ⟨x, ⟨hx, c, hc, h1⟩, h2⟩
      exact ⟨c, hc, ⟨x, hw x hx⟩, by simpa using hx, h1, h2⟩
end Go.Proofs.Ytodmmckieoakjaa.P
namespace Go.Proofs.Ytodmmckieoakjaa.P
open Go.RowKit Go.Proofs.YtodmmckieoakjaaW.PrintWords Go.Proofs.YtodmmckieoakjaaW.PrintLast Go.Proofs.YtodmmckieoakjaaW.PrintMore
def sA : S49 := ⟨⟨⟨5, 4, 6⟩, 0, 9⟩, 1⟩
def sB : S49 := ⟨⟨⟨5, 4, 7⟩, 0, 5⟩, 0⟩
def sD : List S35 := [⟨⟨0, 0, 0, 0⟩, 0, 0, 0, [], [⟨⟨5, 4, 7⟩, 0, 5⟩, ⟨⟨5, 4, 7⟩, 0, 5⟩], []⟩, ⟨⟨0, 0, 0, 0⟩, 0, 0, 0, [], [⟨⟨5, 4, 6⟩, 0, 9⟩], []⟩]
theorem read_f (a b c : Int) : sizarlaw35_read.f a b c = some (5, 4, a, b, c) := rfl
theorem sane_build : index_Build.f sD = some [sA, sB] := by
  unfold index_Build.f
  rw [if_pos (by decide), normL_eq]
  exact congrArg some (by decide +kernel)
theorem sane_build0 : index_Build.f [] = some [] := by
  unfold index_Build.f
  rw [if_pos (by decide), normL_eq]
  exact congrArg some (by decide +kernel)
theorem sane_replace : index_Replace.f [sA, sB] 0 0 0 0 0 0 0 0 [] [] [] = some [sA] := by
  unfold index_Replace.f
  rw [if_pos (by decide), normL_eq]
  exact congrArg some (by decide +kernel)
theorem sane_aff (t : Int) : sizarlaw35_sane_1.f t = some [⟨⟨5, 4, 7⟩, [⟨t, wrap64 (t + 1)⟩]⟩] := rfl
theorem sane_aff5 : index_Affected.f [sA, sB] [⟨⟨5, 4, 7⟩, [⟨5, wrap64 (5 + 1)⟩]⟩] = some [] := by
  rw [index_affected_f _ _ (by decide) (by decide) (by decide +kernel)]
  exact congrArg some (by decide +kernel)
theorem sane_aff4 : index_Affected.f [sA, sB] [⟨⟨5, 4, 7⟩, [⟨4, wrap64 (4 + 1)⟩]⟩] = some [0] := by
  rw [index_affected_f _ _ (by decide) (by decide) (by decide +kernel)]
  exact congrArg some (by decide +kernel)
theorem sane_aff0 : index_Affected.f [] [⟨⟨5, 4, 7⟩, [⟨4, wrap64 (4 + 1)⟩]⟩] = some [] := by
  rw [index_affected_f _ _ (by decide) (by decide) (by decide +kernel)]
  exact congrArg some (by decide +kernel)
theorem sane_ev : Ev (fun k => sizarlaw35_sane.f k) true := by
  have s1 := same_ev [sA, sB] [sA, sB] (by decide)
  have s2 := same_ev [sA] [sA] (by decide)
  have c1 := index_check_ev [sA, sB] (by decide) 2
  have c2 := index_check_ev [sA, sB] (by decide) 1
  have c3 := index_check_ev [] (by decide) 0
  have i1 := sameInts_ev [0] [0] (by decide)
  have e1 : chk 2 none [sA, sB] = 0 := by decide +kernel
  have e2 : chk 1 none [sA, sB] = 350 := by decide +kernel
  have e3 : chk 0 none [] = 0 := rfl
  rw [e1] at c1
  rw [e2] at c2
  rw [e3] at c3
  rw [decide_eq_true rfl] at s1 s2 i1
  have h6 := Ev.bind (c := fun k t => if t = true then (sizarlaw35_sane_1.f 4).bind fun t241 => (index_Affected.f [] t241).bind fun t244 => some ((t244.length : Int) == 0) else none) i1 (b := true) (Ev.now fun k => by rw [if_pos rfl, sane_aff, Option.bind_some, sane_aff0]; rfl)
  have h5 := Ev.bind (c := fun k (t : Int) => if t = 0 then (sizarlaw35_sane_1.f 5).bind fun t225 => (index_Affected.f [sA, sB] t225).bind fun t228 => if (t228.length : Int) = 0 then (sizarlaw35_sane_1.f 4).bind fun t231 => (index_Affected.f [sA, sB] t231).bind fun t234 => (sizarref35_SameInts.f k t234 [0]).bind fun t240 => if t240 = true then (sizarlaw35_sane_1.f 4).bind fun t241 => (index_Affected.f [] t241).bind fun t244 => some ((t244.length : Int) == 0) else none else none else none) c3
    (h6.congr fun k => by rw [if_pos rfl, sane_aff, Option.bind_some, sane_aff5, Option.bind_some, if_pos (show (([] : List Int).length : Int) = 0 from rfl), sane_aff, Option.bind_some, sane_aff4, Option.bind_some])
  have h4 := Ev.bind (c := fun k (t : Int) => if t = 350 then (index_Check.f k [] 0).bind fun t224 => if t224 = 0 then (sizarlaw35_sane_1.f 5).bind fun t225 => (index_Affected.f [sA, sB] t225).bind fun t228 => if (t228.length : Int) = 0 then (sizarlaw35_sane_1.f 4).bind fun t231 => (index_Affected.f [sA, sB] t231).bind fun t234 => (sizarref35_SameInts.f k t234 [0]).bind fun t240 => if t240 = true then (sizarlaw35_sane_1.f 4).bind fun t241 => (index_Affected.f [] t241).bind fun t244 => some ((t244.length : Int) == 0) else none else none else none else none) c2
    (h5.congr fun k => by rw [if_pos rfl])
  have h3 := Ev.bind (c := fun k (t : Int) => if t = 0 then (index_Check.f k [sA, sB] 1).bind fun t223 => if t223 = 350 then (index_Check.f k [] 0).bind fun t224 => if t224 = 0 then (sizarlaw35_sane_1.f 5).bind fun t225 => (index_Affected.f [sA, sB] t225).bind fun t228 => if (t228.length : Int) = 0 then (sizarlaw35_sane_1.f 4).bind fun t231 => (index_Affected.f [sA, sB] t231).bind fun t234 => (sizarref35_SameInts.f k t234 [0]).bind fun t240 => if t240 = true then (sizarlaw35_sane_1.f 4).bind fun t241 => (index_Affected.f [] t241).bind fun t244 => some ((t244.length : Int) == 0) else none else none else none else none else none) c1
    (h4.congr fun k => by rw [if_pos rfl])
  obtain ⟨K1, hK1⟩ := s1
  obtain ⟨K2, hK2⟩ := s2
  obtain ⟨K3, hK3⟩ := h3
  refine ⟨max K1 (max K2 K3), fun k hk => ?_⟩
  have r1 := hK1 k (by omega)
  have r2 := hK2 k (by omega)
  have r3 := hK3 k (by omega)
  show sizarlaw35_sane.f k = some true
  unfold sizarlaw35_sane.f
  simp only [read_f, Option.bind_some]
  have b1 : index_Build.f [(⟨(⟨0, 0, 0, 0⟩ : S31), 0, 0, 0, ([] : List Int), [(⟨(⟨5, 4, 7⟩ : S45), 0, 5⟩ : S47), (⟨(⟨5, 4, 7⟩ : S45), 0, 5⟩ : S47)], ([] : List Int)⟩ : S35), (⟨(⟨0, 0, 0, 0⟩ : S31), 0, 0, 0, ([] : List Int), [(⟨(⟨5, 4, 6⟩ : S45), 0, 9⟩ : S47)], ([] : List Int)⟩ : S35)] = some [sA, sB] := sane_build
  rw [b1, Option.bind_some, sane_replace, Option.bind_some]
  have r1' : sizarref35_Same.f k [sA, sB] [(⟨(⟨(⟨5, 4, 6⟩ : S45), 0, 9⟩ : S47), 1⟩ : S49), (⟨(⟨(⟨5, 4, 7⟩ : S45), 0, 5⟩ : S47), 0⟩ : S49)] = some true := r1
  rw [r1', Option.bind_some, if_pos rfl, if_pos (by simp)]
  have r2' : sizarref35_Same.f k [sA] ([(⟨(⟨(⟨5, 4, 6⟩ : S45), 0, 9⟩ : S47), 1⟩ : S49), (⟨(⟨(⟨5, 4, 7⟩ : S45), 0, 5⟩ : S47), 0⟩ : S49)].take 1) = some true := r2
  rw [r2', Option.bind_some, if_pos rfl, sane_build0, Option.bind_some, if_pos (show (([] : List S49).length : Int) = 0 from rfl)]
  exact r3
end Go.Proofs.Ytodmmckieoakjaa.P
namespace Go.Proofs.Ytodmmckieoakjaa.P
open Go.RowKit Go.ChangeShapes Go.WideShapes Go.Deep Go.Proofs.YtodmmckieoakjaaW.PrintWords Go.Proofs.YtodmmckieoakjaaW.PrintLast Go.Proofs.YtodmmckieoakjaaW.PrintMore
set_option linter.unusedVariables false
set_option linter.unusedSimpArgs false
section
variable {H : Type} {P : Program}
def light (P : Program) (t : TypeId) (d : DataW H) : Prop := (DataW.weights P t d).all (· ≤ reachBytes) = true
theorem light_each : ∀ (ts : List TypeId) (ds : List (DataW H)), (DataW.weightsEach P ts ds).all (· ≤ reachBytes) = true → ∀ (i : Nat) t d, ts[i]? = some t → ds[i]? = some d → light P t d
  | [], _, _, i, t, d, ht, _ => by simp at ht
  | _ :: _, [], _, i, t, d, _, hd => by simp at hd
  | t0 :: ts, d0 :: ds, h, i, t, d, ht, hd => by
    unfold DataW.weightsEach at h
    rw [List.all_append, Bool.and_eq_true] at h
    cases i with
    | zero =>
      have e1 : t0 = t := by simpa using ht
      have e2 : d0 = d := by simpa using hd
      subst e1 e2
      exact h.1
    | succ i => exact light_each ts ds h.2 i t d (by simpa using ht) (by simpa using hd)
theorem light_all {e : TypeId} : ∀ (ds : List (DataW H)), (DataW.weightsAll P e ds).all (· ≤ reachBytes) = true → ∀ d ∈ ds, light P e d
  | [], _, d, hd => by simp at hd
  | d0 :: ds, h, d, hd => by
    unfold DataW.weightsAll at h
    rw [List.all_append, Bool.and_eq_true] at h
    rcases List.mem_cons.1 hd with rfl | hd
    · exact h.1
    · exact light_all ds h.2 d hd
/-- Whatever reads as a datum of type t is an element of kind d; G holds of it. -/
def Opn {α : Type} (P : Program) (d : Kd α) (t : TypeId) (G : α → Prop) : Prop :=
  ∀ (H : Type) (enc : TypeId × Value → H) (W : World) (base : Nat) (spare : Nat → Bool) (held : Bool) (fuel : Nat) (cs : List Value) (x : DataW H × List MemPlace), DataW.trod enc P W base spare held fuel t cs = some x → light P t x.1 → ∃ y, d.K W y cs ∧ G y
theorem opn_struct {enc : TypeId × Value → H} {W : World} {base : Nat} {spare : Nat → Bool} {held : Bool} {fuel : Nat} {t : TypeId} {fs : Array Field} {cs : List Value} {x : DataW H × List MemPlace} (ht : P.underlying t = some (.struct fs)) (h : DataW.trod enc P W base spare held fuel t cs = some x) (hw : light P t x.1) :
    cs.length = P.cellsOf t ∧ ∃ n, ∀ (i : Nat) (f : Field), fs[i]? = some f → ∃ y, DataW.trod enc P W base spare held n f.type ((cs.drop f.offset).take (P.cellsOf f.type)) = some y ∧ light P f.type y.1 := by
  obtain ⟨xs, n, _, rfl, hl, hlen, hf⟩ := DataW.trod_struct ht h
  refine ⟨hl, n, fun i f hi => ?_⟩
  have hil : i < fs.size := (Array.getElem?_eq_some_iff.1 hi).1
  have hx : xs[i]? = some (xs[i]'(by omega)) := List.getElem?_eq_getElem (by omega)
  refine ⟨_, (hf i f hi).trans hx, ?_⟩
  unfold light at hw
  simp only [DataW.weights, ht] at hw
  exact light_each _ _ hw i _ _ (by simp [hi]) (by simp [hx])
theorem list_of {α : Type} {p : Nat → α → Prop} : ∀ (n : Nat), (∀ i, i < n → ∃ y, p i y) → ∃ ys : List α, ys.length = n ∧ ∀ i y, ys[i]? = some y → p i y
  | 0, _ => ⟨[], rfl, fun i y h => by simp at h⟩
  | n + 1, h => by
    obtain ⟨ys, hl, hy⟩ := list_of n (fun i hi => h i (by omega))
    obtain ⟨y, hp⟩ := h n (by omega)
    refine ⟨ys ++ [y], by simp [hl], fun i z hz => ?_⟩
    rcases Nat.lt_or_ge i n with hi | hi
    · rw [List.getElem?_append_left (by omega)] at hz
      exact hy i z hz
    · have : i = n := by
        have := (List.getElem?_eq_some_iff.1 hz).1
        simp at this; omega
      subst this
      rw [List.getElem?_append_right (by omega)] at hz
      have : y = z := by simpa [hl] using hz
      subst this
      exact hp
theorem opn_slice {α : Type} {d : Kd α} {t e : TypeId} {G : α → Prop} (ht : P.underlying t = some (.slice e)) (hd : Opn P d e G) (hsz : P.cellsOf e = d.sz) (h0 : 0 < d.sz) :
    Opn P (Kd.slice e d) t (fun xs => (∀ x ∈ xs, G x) ∧ xs.length * P.bytesOf e ≤ reachBytes) := by
  intro H enc W base spare held fuel cs x h hw
  rcases open_slice ht h with ⟨rfl, rfl⟩ | ⟨a, len, cap, m, n, D, Pl, rfl, hb, hl, hm, hmm, rfl, hi⟩
  · refine ⟨[], ⟨none, 0, rfl, Nat.le_refl _, rfl, Nat.zero_le _, fun h => absurd h (by simp)⟩, fun x hx => by simp at hx, by simp⟩
  · have hlm : len ≤ m := by rw [hmm]; split <;> omega
    unfold light at hw
    simp only [DataW.weights, ht, List.all_cons, List.all_append, Bool.and_eq_true, List.length_map, List.length_range, decide_eq_true_eq] at hw
    obtain ⟨hw0, hw1, hw2⟩ := hw
    obtain ⟨ys, hyl, hy⟩ := list_of (p := fun i y => (∃ c, c.length = d.sz ∧ d.K W y c ∧ ∀ j u, c[j]? = some u → W.cell? (a.add (i * d.sz + j)) = some u) ∧ G y) len (fun i hil => by
      obtain ⟨cs', hc, htr⟩ := hi i (by omega)
      obtain ⟨_, hcl, hat⟩ := World.cells?_some hc
      obtain ⟨y, hk, hg⟩ := hd H enc W base spare held n cs' _ htr (light_all _ hw1 _ (List.mem_map.2 ⟨i, List.mem_range.2 hil, rfl⟩))
      refine ⟨y, ⟨cs', hcl.trans hsz, hk, fun j u hj => ?_⟩, hg⟩
      have hjl := (List.getElem?_eq_some_iff.1 hj).1
      have := hat j (by omega)
      rw [hsz, Go.Deep.add_add] at this
      rw [this]; exact hj)
    refine ⟨ys, ⟨some a, cap, by rw [hyl], by omega, hyl ▸ rfl, ?_, fun _ => ⟨a, rfl, fun j p hj => (hy j p hj).1⟩⟩, fun x hx => ?_, ?_⟩
    · rw [hyl]; simp only [maxLen] at hm; omega
    · obtain ⟨i, hi', rfl⟩ := List.getElem_of_mem hx
      exact (hy i _ (List.getElem?_eq_getElem hi')).2
    · rw [hyl]
      exact Nat.le_trans (Nat.mul_le_mul_right _ (by omega)) hw0
end
def wfI (n : Int) : Prop := (Lit.int .i64 n).wf = true
theorem opn_int : Opn Try.prog (Kd.int .i64) 3 wfI := by
  intro H enc W base spare held fuel cs x h hw
  obtain ⟨n, rfl, _, hwf⟩ := DataW.trod_int Try.underlying3 h
  exact ⟨n, rfl, hwf⟩
end Go.Proofs.Ytodmmckieoakjaa.P
namespace Go.Proofs.Ytodmmckieoakjaa.P
open Go.RowKit Go.ChangeShapes Go.WideShapes Go.Deep Go.Proofs.YtodmmckieoakjaaW.PrintWords Go.Proofs.YtodmmckieoakjaaW.PrintLast Go.Proofs.YtodmmckieoakjaaW.PrintMore
set_option linter.unusedVariables false
set_option linter.unusedSimpArgs false
def ok45 (x : S45) : Prop := (wfI x.f0) ∧ (wfI x.f1) ∧ (wfI x.f2)
theorem len_3 (cs : List Value) (h : cs.length = 3) : ∃ c0 c1 c2, cs = [c0, c1, c2] := by match cs, h with | [c0, c1, c2], _ => exact ⟨c0, c1, c2, rfl⟩
theorem opn45 : Opn Try.prog k45 45 ok45 := by
  intro H enc W base spare held fuel cs x h hw
  obtain ⟨hl, n, hf⟩ := opn_struct Try.underlying45 h hw
  have hl' : cs.length = 3 := hl.trans (by kernel_rfl)
  obtain ⟨c0, c1, c2, rfl⟩ := len_3 cs hl'
  have e0 : Try.prog.cellsOf 3 = 1 := by kernel_rfl
  obtain ⟨y0, t0, w0⟩ := hf 0 _ rfl
  replace t0 : DataW.trod enc Try.prog W base spare held n 3 (([c0, c1, c2].drop 0).take (Try.prog.cellsOf 3)) = some y0 := t0
  replace w0 : light Try.prog 3 y0.1 := w0
  rw [e0] at t0
  replace t0 : DataW.trod enc Try.prog W base spare held n 3 [c0] = some y0 := t0
  obtain ⟨z0, q0, g0⟩ := opn_int H enc W base spare held n _ _ t0 w0
  replace q0 : [c0] = [Value.int .i64 z0] := q0
  have e1 : Try.prog.cellsOf 3 = 1 := by kernel_rfl
  obtain ⟨y1, t1, w1⟩ := hf 1 _ rfl
  replace t1 : DataW.trod enc Try.prog W base spare held n 3 (([c0, c1, c2].drop 1).take (Try.prog.cellsOf 3)) = some y1 := t1
  replace w1 : light Try.prog 3 y1.1 := w1
  rw [e1] at t1
  replace t1 : DataW.trod enc Try.prog W base spare held n 3 [c1] = some y1 := t1
  obtain ⟨z1, q1, g1⟩ := opn_int H enc W base spare held n _ _ t1 w1
  replace q1 : [c1] = [Value.int .i64 z1] := q1
  have e2 : Try.prog.cellsOf 3 = 1 := by kernel_rfl
  obtain ⟨y2, t2, w2⟩ := hf 2 _ rfl
  replace t2 : DataW.trod enc Try.prog W base spare held n 3 (([c0, c1, c2].drop 2).take (Try.prog.cellsOf 3)) = some y2 := t2
  replace w2 : light Try.prog 3 y2.1 := w2
  rw [e2] at t2
  replace t2 : DataW.trod enc Try.prog W base spare held n 3 [c2] = some y2 := t2
  obtain ⟨z2, q2, g2⟩ := opn_int H enc W base spare held n _ _ t2 w2
  replace q2 : [c2] = [Value.int .i64 z2] := q2
  simp only [List.cons.injEq, and_true] at q0 q1 q2
  obtain rfl := q0
  obtain rfl := q1
  obtain rfl := q2
  exact ⟨(⟨z0, z1, z2⟩ : S45), k45_mk W (⟨z0, z1, z2⟩ : S45) , g0, g1, g2⟩
def ok31 (x : S31) : Prop := (wfI x.f0) ∧ (wfI x.f1) ∧ (wfI x.f2) ∧ (wfI x.f3)
theorem len_4 (cs : List Value) (h : cs.length = 4) : ∃ c0 c1 c2 c3, cs = [c0, c1, c2, c3] := by match cs, h with | [c0, c1, c2, c3], _ => exact ⟨c0, c1, c2, c3, rfl⟩
theorem opn31 : Opn Try.prog k31 31 ok31 := by
  intro H enc W base spare held fuel cs x h hw
  obtain ⟨hl, n, hf⟩ := opn_struct Try.underlying31 h hw
  have hl' : cs.length = 4 := hl.trans (by kernel_rfl)
  obtain ⟨c0, c1, c2, c3, rfl⟩ := len_4 cs hl'
  have e0 : Try.prog.cellsOf 3 = 1 := by kernel_rfl
  obtain ⟨y0, t0, w0⟩ := hf 0 _ rfl
  replace t0 : DataW.trod enc Try.prog W base spare held n 3 (([c0, c1, c2, c3].drop 0).take (Try.prog.cellsOf 3)) = some y0 := t0
  replace w0 : light Try.prog 3 y0.1 := w0
  rw [e0] at t0
  replace t0 : DataW.trod enc Try.prog W base spare held n 3 [c0] = some y0 := t0
  obtain ⟨z0, q0, g0⟩ := opn_int H enc W base spare held n _ _ t0 w0
  replace q0 : [c0] = [Value.int .i64 z0] := q0
  have e1 : Try.prog.cellsOf 3 = 1 := by kernel_rfl
  obtain ⟨y1, t1, w1⟩ := hf 1 _ rfl
  replace t1 : DataW.trod enc Try.prog W base spare held n 3 (([c0, c1, c2, c3].drop 1).take (Try.prog.cellsOf 3)) = some y1 := t1
  replace w1 : light Try.prog 3 y1.1 := w1
  rw [e1] at t1
  replace t1 : DataW.trod enc Try.prog W base spare held n 3 [c1] = some y1 := t1
  obtain ⟨z1, q1, g1⟩ := opn_int H enc W base spare held n _ _ t1 w1
  replace q1 : [c1] = [Value.int .i64 z1] := q1
  have e2 : Try.prog.cellsOf 3 = 1 := by kernel_rfl
  obtain ⟨y2, t2, w2⟩ := hf 2 _ rfl
  replace t2 : DataW.trod enc Try.prog W base spare held n 3 (([c0, c1, c2, c3].drop 2).take (Try.prog.cellsOf 3)) = some y2 := t2
  replace w2 : light Try.prog 3 y2.1 := w2
  rw [e2] at t2
  replace t2 : DataW.trod enc Try.prog W base spare held n 3 [c2] = some y2 := t2
  obtain ⟨z2, q2, g2⟩ := opn_int H enc W base spare held n _ _ t2 w2
  replace q2 : [c2] = [Value.int .i64 z2] := q2
  have e3 : Try.prog.cellsOf 3 = 1 := by kernel_rfl
  obtain ⟨y3, t3, w3⟩ := hf 3 _ rfl
  replace t3 : DataW.trod enc Try.prog W base spare held n 3 (([c0, c1, c2, c3].drop 3).take (Try.prog.cellsOf 3)) = some y3 := t3
  replace w3 : light Try.prog 3 y3.1 := w3
  rw [e3] at t3
  replace t3 : DataW.trod enc Try.prog W base spare held n 3 [c3] = some y3 := t3
  obtain ⟨z3, q3, g3⟩ := opn_int H enc W base spare held n _ _ t3 w3
  replace q3 : [c3] = [Value.int .i64 z3] := q3
  simp only [List.cons.injEq, and_true] at q0 q1 q2 q3
  obtain rfl := q0
  obtain rfl := q1
  obtain rfl := q2
  obtain rfl := q3
  exact ⟨(⟨z0, z1, z2, z3⟩ : S31), k31_mk W (⟨z0, z1, z2, z3⟩ : S31) , g0, g1, g2, g3⟩
def ok47 (x : S47) : Prop := (ok45 x.f0) ∧ (wfI x.f1) ∧ (wfI x.f2)
theorem len_5 (cs : List Value) (h : cs.length = 5) : ∃ c0 c1 c2 c3 c4, cs = [c0, c1, c2, c3, c4] := by match cs, h with | [c0, c1, c2, c3, c4], _ => exact ⟨c0, c1, c2, c3, c4, rfl⟩
theorem opn47 : Opn Try.prog k47 47 ok47 := by
  intro H enc W base spare held fuel cs x h hw
  obtain ⟨hl, n, hf⟩ := opn_struct Try.underlying47 h hw
  have hl' : cs.length = 5 := hl.trans (by kernel_rfl)
  obtain ⟨c0, c1, c2, c3, c4, rfl⟩ := len_5 cs hl'
  have e0 : Try.prog.cellsOf 45 = 3 := by kernel_rfl
  obtain ⟨y0, t0, w0⟩ := hf 0 _ rfl
  replace t0 : DataW.trod enc Try.prog W base spare held n 45 (([c0, c1, c2, c3, c4].drop 0).take (Try.prog.cellsOf 45)) = some y0 := t0
  replace w0 : light Try.prog 45 y0.1 := w0
  rw [e0] at t0
  replace t0 : DataW.trod enc Try.prog W base spare held n 45 [c0, c1, c2] = some y0 := t0
  obtain ⟨z0, q0, g0⟩ := opn45 H enc W base spare held n _ _ t0 w0
  replace q0 := k45_open q0
  have e1 : Try.prog.cellsOf 3 = 1 := by kernel_rfl
  obtain ⟨y1, t1, w1⟩ := hf 1 _ rfl
  replace t1 : DataW.trod enc Try.prog W base spare held n 3 (([c0, c1, c2, c3, c4].drop 3).take (Try.prog.cellsOf 3)) = some y1 := t1
  replace w1 : light Try.prog 3 y1.1 := w1
  rw [e1] at t1
  replace t1 : DataW.trod enc Try.prog W base spare held n 3 [c3] = some y1 := t1
  obtain ⟨z1, q1, g1⟩ := opn_int H enc W base spare held n _ _ t1 w1
  replace q1 : [c3] = [Value.int .i64 z1] := q1
  have e2 : Try.prog.cellsOf 3 = 1 := by kernel_rfl
  obtain ⟨y2, t2, w2⟩ := hf 2 _ rfl
  replace t2 : DataW.trod enc Try.prog W base spare held n 3 (([c0, c1, c2, c3, c4].drop 4).take (Try.prog.cellsOf 3)) = some y2 := t2
  replace w2 : light Try.prog 3 y2.1 := w2
  rw [e2] at t2
  replace t2 : DataW.trod enc Try.prog W base spare held n 3 [c4] = some y2 := t2
  obtain ⟨z2, q2, g2⟩ := opn_int H enc W base spare held n _ _ t2 w2
  replace q2 : [c4] = [Value.int .i64 z2] := q2
  simp only [List.cons.injEq, and_true] at q0 q1 q2
  obtain ⟨rfl, rfl, rfl⟩ := q0
  obtain rfl := q1
  obtain rfl := q2
  exact ⟨(⟨z0, z1, z2⟩ : S47), k47_mk W (⟨z0, z1, z2⟩ : S47) , g0, g1, g2⟩
def ok35 (x : S35) : Prop := (ok31 x.f0) ∧ (wfI x.f1) ∧ (wfI x.f2) ∧ (wfI x.f3) ∧ ((∀ z ∈ x.f4, wfI z) ∧ x.f4.length * Try.prog.bytesOf 3 ≤ reachBytes) ∧ ((∀ z ∈ x.f5, ok47 z) ∧ x.f5.length * Try.prog.bytesOf 47 ≤ reachBytes) ∧ ((∀ z ∈ x.f6, wfI z) ∧ x.f6.length * Try.prog.bytesOf 3 ≤ reachBytes)
theorem len_10 (cs : List Value) (h : cs.length = 10) : ∃ c0 c1 c2 c3 c4 c5 c6 c7 c8 c9, cs = [c0, c1, c2, c3, c4, c5, c6, c7, c8, c9] := by match cs, h with | [c0, c1, c2, c3, c4, c5, c6, c7, c8, c9], _ => exact ⟨c0, c1, c2, c3, c4, c5, c6, c7, c8, c9, rfl⟩
theorem opn35 : Opn Try.prog k35 35 ok35 := by
  intro H enc W base spare held fuel cs x h hw
  obtain ⟨hl, n, hf⟩ := opn_struct Try.underlying35 h hw
  have hl' : cs.length = 10 := hl.trans (by kernel_rfl)
  obtain ⟨c0, c1, c2, c3, c4, c5, c6, c7, c8, c9, rfl⟩ := len_10 cs hl'
  have e0 : Try.prog.cellsOf 31 = 4 := by kernel_rfl
  obtain ⟨y0, t0, w0⟩ := hf 0 _ rfl
  replace t0 : DataW.trod enc Try.prog W base spare held n 31 (([c0, c1, c2, c3, c4, c5, c6, c7, c8, c9].drop 0).take (Try.prog.cellsOf 31)) = some y0 := t0
  replace w0 : light Try.prog 31 y0.1 := w0
  rw [e0] at t0
  replace t0 : DataW.trod enc Try.prog W base spare held n 31 [c0, c1, c2, c3] = some y0 := t0
  obtain ⟨z0, q0, g0⟩ := opn31 H enc W base spare held n _ _ t0 w0
  replace q0 := k31_open q0
  have e1 : Try.prog.cellsOf 3 = 1 := by kernel_rfl
  obtain ⟨y1, t1, w1⟩ := hf 1 _ rfl
  replace t1 : DataW.trod enc Try.prog W base spare held n 3 (([c0, c1, c2, c3, c4, c5, c6, c7, c8, c9].drop 4).take (Try.prog.cellsOf 3)) = some y1 := t1
  replace w1 : light Try.prog 3 y1.1 := w1
  rw [e1] at t1
  replace t1 : DataW.trod enc Try.prog W base spare held n 3 [c4] = some y1 := t1
  obtain ⟨z1, q1, g1⟩ := opn_int H enc W base spare held n _ _ t1 w1
  replace q1 : [c4] = [Value.int .i64 z1] := q1
  have e2 : Try.prog.cellsOf 3 = 1 := by kernel_rfl
  obtain ⟨y2, t2, w2⟩ := hf 2 _ rfl
  replace t2 : DataW.trod enc Try.prog W base spare held n 3 (([c0, c1, c2, c3, c4, c5, c6, c7, c8, c9].drop 5).take (Try.prog.cellsOf 3)) = some y2 := t2
  replace w2 : light Try.prog 3 y2.1 := w2
  rw [e2] at t2
  replace t2 : DataW.trod enc Try.prog W base spare held n 3 [c5] = some y2 := t2
  obtain ⟨z2, q2, g2⟩ := opn_int H enc W base spare held n _ _ t2 w2
  replace q2 : [c5] = [Value.int .i64 z2] := q2
  have e3 : Try.prog.cellsOf 3 = 1 := by kernel_rfl
  obtain ⟨y3, t3, w3⟩ := hf 3 _ rfl
  replace t3 : DataW.trod enc Try.prog W base spare held n 3 (([c0, c1, c2, c3, c4, c5, c6, c7, c8, c9].drop 6).take (Try.prog.cellsOf 3)) = some y3 := t3
  replace w3 : light Try.prog 3 y3.1 := w3
  rw [e3] at t3
  replace t3 : DataW.trod enc Try.prog W base spare held n 3 [c6] = some y3 := t3
  obtain ⟨z3, q3, g3⟩ := opn_int H enc W base spare held n _ _ t3 w3
  replace q3 : [c6] = [Value.int .i64 z3] := q3
  have e4 : Try.prog.cellsOf 32 = 1 := by kernel_rfl
  obtain ⟨y4, t4, w4⟩ := hf 4 _ rfl
  replace t4 : DataW.trod enc Try.prog W base spare held n 32 (([c0, c1, c2, c3, c4, c5, c6, c7, c8, c9].drop 7).take (Try.prog.cellsOf 32)) = some y4 := t4
  replace w4 : light Try.prog 32 y4.1 := w4
  rw [e4] at t4
  replace t4 : DataW.trod enc Try.prog W base spare held n 32 [c7] = some y4 := t4
  obtain ⟨z4, ⟨A4, b4, q4, l4, r4⟩, g4⟩ := opn_slice Try.underlying32 opn_int (by kernel_rfl) (by decide) H enc W base spare held n _ _ t4 w4
  have e5 : Try.prog.cellsOf 33 = 1 := by kernel_rfl
  obtain ⟨y5, t5, w5⟩ := hf 5 _ rfl
  replace t5 : DataW.trod enc Try.prog W base spare held n 33 (([c0, c1, c2, c3, c4, c5, c6, c7, c8, c9].drop 8).take (Try.prog.cellsOf 33)) = some y5 := t5
  replace w5 : light Try.prog 33 y5.1 := w5
  rw [e5] at t5
  replace t5 : DataW.trod enc Try.prog W base spare held n 33 [c8] = some y5 := t5
  obtain ⟨z5, ⟨A5, b5, q5, l5, r5⟩, g5⟩ := opn_slice Try.underlying33 opn47 (by kernel_rfl) (by decide) H enc W base spare held n _ _ t5 w5
  have e6 : Try.prog.cellsOf 32 = 1 := by kernel_rfl
  obtain ⟨y6, t6, w6⟩ := hf 6 _ rfl
  replace t6 : DataW.trod enc Try.prog W base spare held n 32 (([c0, c1, c2, c3, c4, c5, c6, c7, c8, c9].drop 9).take (Try.prog.cellsOf 32)) = some y6 := t6
  replace w6 : light Try.prog 32 y6.1 := w6
  rw [e6] at t6
  replace t6 : DataW.trod enc Try.prog W base spare held n 32 [c9] = some y6 := t6
  obtain ⟨z6, ⟨A6, b6, q6, l6, r6⟩, g6⟩ := opn_slice Try.underlying32 opn_int (by kernel_rfl) (by decide) H enc W base spare held n _ _ t6 w6
  simp only [List.cons.injEq, and_true] at q0 q1 q2 q3 q4 q5 q6
  obtain ⟨rfl, rfl, rfl, rfl⟩ := q0
  obtain rfl := q1
  obtain rfl := q2
  obtain rfl := q3
  obtain rfl := q4
  obtain rfl := q5
  obtain rfl := q6
  exact ⟨(⟨z0, z1, z2, z3, z4, z5, z6⟩ : S35), k35_mk W (⟨z0, z1, z2, z3, z4, z5, z6⟩ : S35) l4 r4 l5 r5 l6 r6, g0, g1, g2, g3, g4, g5, g6⟩
end Go.Proofs.Ytodmmckieoakjaa.P
namespace Go.Proofs.Ytodmmckieoakjaa.P
open Go.RowKit Go.Proofs.YtodmmckieoakjaaW.PrintWords Go.Proofs.YtodmmckieoakjaaW.PrintLast Go.Proofs.YtodmmckieoakjaaW.PrintMore
theorem bytes35 : Try.prog.bytesOf 35 = 128 := by kernel_rfl
theorem bytes47 : Try.prog.bytesOf 47 = 40 := by kernel_rfl
theorem reads_le {d : S35} (h : ok35 d) : d.f5.length ≤ 1000000000000000 := by
  have h1 := h.2.2.2.2.2.1.2
  rw [bytes47] at h1
  simp only [reachBytes] at h1
  omega
theorem IndexBuildSpec_pure (l : List S35) (g : (∀ x ∈ l, ok35 x) ∧ l.length * Try.prog.bytesOf 35 ≤ reachBytes) : ∃ k, sizarlaw35_IndexBuildSpec.f k l = some true := by
  obtain ⟨g1, g2⟩ := g
  rw [bytes35] at g2
  simp only [reachBytes] at g2
  obtain ⟨b, hb, hbt⟩ := few_ev l (by omega) (fun d hd => reads_le (g1 d hd))
  have key : Ev (fun k => sizarlaw35_IndexBuildSpec.f k l) true := by
    refine Ev.bind (c := fun k t => if t = true then (sizarref35_Few.f k l).bind fun t262 => if t262 = true then (index_Build.f l).bind fun t263 => (sizarref35_Build.f k l).bind fun t266 => (sizarref35_Same.f k t263 t266).bind fun t269 => some t269 else some true else some false) sane_ev ?_
    refine Ev.congr (Ev.bind (c := fun k t262 => if t262 = true then (index_Build.f l).bind fun t263 => (sizarref35_Build.f k l).bind fun t266 => (sizarref35_Same.f k t263 t266).bind fun t269 => some t269 else some true) hb ?_) (fun k => by rw [if_pos rfl])
    cases b with
    | false => exact Ev.now fun k => by rw [if_neg (by simp)]
    | true =>
      obtain ⟨h1, h2⟩ := hbt rfl
      have hlen := linksUpto_len l h1 h2 l.length (Nat.le_refl _)
      have hB : index_Build.f l = some ((allLinks l).foldl withL []) := by
        unfold index_Build.f
        rw [if_pos ⟨by omega, by unfold allLinks; omega⟩, normL_eq]
      have hfl := foldl_len (allLinks l) []
      have hs := same_ev ((allLinks l).foldl withL []) ((allLinks l).foldl withL []) (by unfold allLinks at *; simp only [List.length_nil] at hfl; omega)
      rw [decide_eq_true rfl] at hs
      refine Ev.congr (Ev.bind (c := fun k t266 => (sizarref35_Same.f k ((allLinks l).foldl withL []) t266).bind fun t269 => some t269) (build_ev l h1 h2) (Ev.bind (c := fun k t269 => some t269) hs (Ev.now fun k => rfl))) (fun k => by rw [if_pos rfl, hB, Option.bind_some])
  exact key.get
end Go.Proofs.Ytodmmckieoakjaa.P
namespace Go.Proofs.Ytodmmckieoakjaa.indexBuildSpec
open Go.ChangeShapes Go.WideShapes Go.ChangeAt Go.RowKit
open Go.Proofs.Ytodmmckieoakjaa.P
set_option linter.unusedVariables false
theorem own : ownKnob Try.prog.godebug = none := by kernel_rfl
theorem laidOut : laidOutB Try.prog = true := by kernel_rfl
set_option maxRecDepth 100000 in
set_option maxHeartbeats 1000000 in
theorem lifted (os : Os) (started : os.Started) (H : Type) (enc : TypeId × Value → H) :
    ReturnsInHanded {} Try.checked os 3 .any (Rows.indexBuildSpecSpec.pre6 enc Try.prog Try.f3 Rows.indexBuildSpecRow.domain false) (Rows.indexBuildSpecSpec.post enc Try.prog Try.f3 false true false false) := by
  refine returnsInHanded_of_change_sized (C := Try.checked) own started (by kernel_rfl) Try.func3
    (ChangeSpec.witness6 (enc := enc) (C := Try.checked) false ⟨#[], #[.slice none 0 0], []⟩ 8 (by kernel_rfl) (by kernel_rfl) (by kernel_rfl) (by kernel_rfl)) ?_
  intro W base args ds gs before hval0 hW hcnd hsz0 _
  have hsz : (DataW.weightsEach Try.prog (Try.f3.params.toList ++ Rows.indexBuildSpecSpec.plain.varTypes Try.prog) (ds ++ gs)).all (· ≤ reachBytes) = true := hsz0
  have hval : ∀ (j : Nat) t v, Try.f3.params[j]? = some t → args[j]? = some v → Value.okWide Try.prog W .any base t v := hval0
  have hW' := hW
  obtain ⟨p, q, hA0, hV, rfl, hfz, hnd⟩ := hW
  have hA : DataW.TrodAll enc Try.prog W 0 (fun _ => true) true Try.f3.params.toList args.toList ds p := hA0
  rw [Try.params3] at hA hval hsz
  obtain ⟨v0, vs0, d0, ds0, p0, q0, hargs, rfl, rfl, h0, r0⟩ := trodAll_cons hA
  obtain ⟨rfl, rfl, rfl⟩ := trodAll_nil r0
  obtain rfl : args = #[v0] := by cases args; simp_all
  obtain ⟨rfl, rfl⟩ := trodVars_none hV
  have k0 := h0
  have lt0 : ∀ x ∈ p0, x.block < W.heap.size := by obtain ⟨m, hm⟩ := k0; exact DataW.trod_lt m _ _ _ hm
  have lg0 : light Try.prog 22 d0 := light_each _ _ hsz 0 _ _ rfl rfl
  obtain ⟨fuel0, hf0⟩ := h0
  obtain ⟨b0, n0, m0, rfl⟩ := okWide_slice Try.underlying22 (hval 0 22 v0 rfl rfl)
  obtain ⟨x0, ⟨A0, c0, e0, l0, r0r⟩, g0⟩ := opn_slice Try.underlying22 opn35 (by kernel_rfl) (by decide) H enc W _ _ _ fuel0 _ _ hf0 lg0
  replace e0 : [Value.slice b0 n0 m0] = [.slice A0 x0.length c0] := e0
  injection e0 with e0 _
  injection e0 with e0a e0b e0c
  subst e0a e0b e0c
  clear hA0 hval0 hsz0 hsz
  obtain ⟨k, hk⟩ := IndexBuildSpec_pure x0 g0
  refine (sizarlaw35_IndexBuildSpec.calls k b0 m0 x0 true W r0r l0 hk).mono fun e W' ⟨he, bel⟩ => ?_
  subst he
  exact ⟨_, rfl, _, _, _, [], _, [], hW', trodAll_mk1 (shut_bool Try.underlying4 _), (trodAll_cons_mk (Below.trod laidOut (by kernel_rfl) (of_decide_eq_true (by kernel_rfl)) k0 bel lt0) trodAll_mk0), rfl, bel.frame _, fun h => by cases h⟩
theorem over : Rows.indexBuildSpecRow.holds Try.pinned (OpenSpec.ofChange Rows.indexBuildSpecSpec) :=
  OpenClaim.holds_of_wide 3 Try.f3 rfl rfl rfl rfl rfl rfl rfl ⟨rfl, rfl, rfl, rfl, rfl⟩ rfl rfl rfl rfl rfl (by kernel_rfl) Try.func3 (by kernel_rfl)
    (of_decide_eq_true (by kernel_rfl)) (by unfold Func.isWrapper; first | (rw [if_pos (by decide +kernel)]; kernel_rfl) | (rw [if_neg (by decide +kernel)]; exact ⟨rfl, rfl⟩))
    (fun os started H enc _ => lifted os started H enc)
theorem proved : Rows.IndexBuildSpecSaid := over
end Go.Proofs.Ytodmmckieoakjaa.indexBuildSpec
namespace Go.Proofs.Ytodmmckieoakjaa
/-- The row, under a short name, for the claim. -/
theorem indexBuildSpec_holds : Rows.IndexBuildSpecSaid := indexBuildSpec.proved
end Go.Proofs.Ytodmmckieoakjaa
