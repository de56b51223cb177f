/- Texts of this claim, one behind the other: SortA, Atoms, PureC, RFormed, RFits, Depth, Px5, Px13, PureQ, Upto, KindsLaid. Merged by wip/mkmerge.py. -/
import Derived.Test.YtabocfninjankaaDoorCaLs2
import Derived.Shelf.SlSortCmp.NoneTotal
import Derived.Test.YtabocfninjankaaDoorCaLs1
import Derived.IntWalk
import Derived.StillTailTactics
import Derived.Deep.RegionHeld3
import Derived.Deep.DrawnRows
import Derived.Test.YtabocfninjankaaDoorRows
import Derived.WalkKit
import Derived.ProofKit
import Derived.JoinedCond
import Derived.LaidMore
import Derived.SizedLaws
import Derived.ChangeOld
import Derived.OpenShut
import Derived.Stop.Joined
namespace Go.Proofs.YtabocfninjankaaDoor.P
open Go.RowKit Go.Proofs.YtabocfninjankaaDoorW.PrintWords Go.Proofs.YtabocfninjankaaDoorW.PrintLast Go.Proofs.YtabocfninjankaaDoorW.PrintMore
theorem cmpLaysA (blk off size : Nat) (w : World) : CmpLays Tryd.prog 36 #[] encA 4 cfA blk off size w :=
  fun m os dk _ x y => (rules_Atoms_1.grows 10 x.o x.c x.n x.d y.o y.c y.n y.d (cfA x y) (sortWorldK encA 4 w blk off m dk os) (rules_Atoms_1_f x y)).mono
    fun _ _ ⟨he, hb, hd⟩ => ⟨he, Grow.grow_of hb hd⟩
theorem slices_SortFunc_atom {base : Nat} {ok : Nat → Prop} {A : Option Addr} {n c : Nat} {xs : List A4} {w : World} (h : k60.R 60 w base ok (.slice A n c) xs) (hl : xs.length ≤ 4611686018427387000) :
    Calls Tryd.prog 55 #[.slice A n c, .func (.func 36) #[] #[]] w fun e w' => e = .returned (.tuple #[]) ∧ k60.R 60 w' base ok (.slice A n c) (sortA xs) ∧ w.grownBy w' (Value.slice A n c).ownBlock := by
  rcases Flat.rowAt_of_R flatA h with ⟨hv, rfl⟩ | ⟨g, cap, hv, hb, hok, hr⟩
  · injection hv with h1 h2 h3
    subst h1 h2 h3
    have hc := AnyF.slices_SortFunc_none { Tryd.sortAtom with } none 0 (.func (.func 36) #[] #[]) w
    change Calls Tryd.prog 55 _ _ _ at hc
    refine Calls.mono hc ?_
    rintro e w' ⟨rfl, rfl⟩
    exact ⟨rfl, by simpa [sortA] using Kd.R_nil k60 60 _ base ok, ⟨rfl, rfl, rfl, Nat.le_refl _, fun _ _ _ => rfl⟩⟩
  · injection hv with h1 h2 h3
    subst h1 h2 h3
    have eg : ∀ args w, (callFunc 36 args).run Tryd.prog w = .ok (.enter 36 args) w := enters_of Tryd.func36 (by kernel_rfl) rfl
    have hc := AnyQ.slices_SortFunc_total Tryd.sortAtom 4 Tryd.isAgg60 Tryd.sizeOf60 encA encA_len encA_one cfA swoA 36 #[] g 0 c xs.toArray w eg (cmpLaysA _ _ _ _) (hr.holds flatA) hr.lt (by rw [List.size_toArray]; omega) cfA_sep
    rw [List.size_toArray] at hc
    change Calls Tryd.prog 55 _ _ _ at hc
    refine Calls.mono hc ?_
    rintro e w' ⟨rfl, n, os, rfl⟩
    have hy : (xs.mergeSort fun x y => !ltOf cfA y x).toArray.size = xs.length := by simp
    obtain ⟨h1, h2⟩ := hr.sorted (n := n) (os := os) flatA hy
    have h3 := Flat.R_of_rowAt flatA hb hok h1
    refine ⟨rfl, ?_, h2⟩
    have e1 : (sortA xs).length = xs.length := by simp [sortA]
    rw [← e1]
    exact h3
end Go.Proofs.YtabocfninjankaaDoor.P
namespace Go.Proofs.YtabocfninjankaaDoor.P
open Go.RowKit Go.Shelf Go.Maps Go.Proofs.YtabocfninjankaaDoorW.PrintWords Go.Proofs.YtabocfninjankaaDoorW.PrintLast Go.Proofs.YtabocfninjankaaDoorW.PrintMore
attribute [local go_sem] Oper.semAt_some
set_option linter.unusedVariables false
set_option linter.unusedSimpArgs false
/-- slices.SortedFunc at atoms, with the program's order. -/
theorem sortedFunc_in (n : Nat) (hn : 5 ≤ n) (gf : Nat) (lb : Array Value) (eg : ∀ args w, (callFunc gf args).run Tryd.prog w = .ok (.enter gf args) w)
  (T Tp : List A4 → Prop) (N : Nat) {w : World} (hN : N * 32 ≤ 140737488355328) (hT : ∀ ys, T ys → ys.length ≤ 4611686018427387000)
  (hseq : SeqStopsK Fence.wide (n - 1 - 1 - 1) Tryd.prog gf lb (fun x : A4 => #[.agg (encA x).toArray]) KeepsWalks T Tp N w) :
  CallsIn Fence.wide n Tryd.prog 39 #[.func (.func gf) #[] lb, .func (.func 36) #[] #[]] w fun e w' => ∃ v ys, e = .returned v ∧ T ys ∧ k60.R 60 w' w.heap.size (fun _ => True) v (sortA ys) ∧ w.grownBy w' none := by
 have hdd : ∀ k : Nat, (Fence.wide.depth.isSome = true → 1 ≤ k) := fun k h => by cases h
 have G := Aside0.mk (collect_in Fence.wide (n - 1) trivial trivial rfl (by omega) rfl gf lb trivial eg T Tp N hN hseq)
 refine callsIn_of_wp Tryd.func39 rfl trivial ?_ rfl
 simp only [Tryd.ntmps39, List.size_toArray, List.length_cons, List.length_nil, Nat.reduceAdd, Nat.reduceSub, Array.replicate_succ, Array.replicate_zero, List.push_toArray, List.append_toArray, List.nil_append, List.cons_append]
 have hf54 : Fence.wide.fn 54 := trivial
 have hf55 : Fence.wide.fn 55 := trivial
 gi_wp2_with (first
  | ((try refine ⟨hdd _, ?_⟩); gi_at_call 54; refine G.out.mono ?_; clear G; rintro e w1 ⟨v, ys, rfl, hT1, hr, hg⟩; have HR := Aside0.mk hr; obtain ⟨A, c, rfl⟩ := own_slice HR.out; have HG := Aside0.mk hg; have HT1 := Aside0.mk hT1; clear hg hr hT1)
  | ((try refine ⟨hdd _, ?_⟩); gi_at_call 55; refine (callsIn_wide.2 (slices_SortFunc_atom (base := w.heap.size) (ok := fun _ => True) (xs := ys) ⟨fun _ _ => trivial, _, HR.out, Flat.flat_reps flatA _ _ _ _⟩ (hT _ HT1.out))).mono ?_; rintro e w2 ⟨rfl, hr2, hg2⟩))
 go_ret
 refine ⟨_, ys, rfl, HT1.out, hr2, hg2.os.trans HG.out.os, hg2.tape.trans HG.out.tape, hg2.output.trans HG.out.output, Nat.le_trans HG.out.size hg2.size, fun k hk hne => (hg2.block k (Nat.lt_of_lt_of_le hk HG.out.size) (fun e => ?_)).trans (HG.out.block k hk hne)⟩
 have := (HR.out.lt k e.symm).1
 omega
/-- Is a part an atom? -/
def isA (r : S24) : Bool := decide (5 ≤ r.f0) && decide (r.f0 ≤ 9)
def atomOf (r : S24) : A4 := ⟨r.f0, r.f1, r.f3, r.f4⟩
/-- The rule of an atom. -/
def ruleOf (x : A4) : S24 := ⟨x.o, x.c, ⟨#[]⟩, x.n, x.d, []⟩
mutual
/-- The numbers of each part that is an atom can be a key. -/
def wfaR : S24 → Prop
 | ⟨a, b, c, n, d, ks⟩ => (isA ⟨a, b, c, n, d, ks⟩ = true → wfA ⟨a, b, n, d⟩) ∧ wfaL ks
def wfaL : List S24 → Prop
 | [] => True
 | k :: ks => wfaR k ∧ wfaL ks
end
mutual
def wfaB : S24 → Bool
 | ⟨a, b, c, n, d, ks⟩ => (!isA ⟨a, b, c, n, d, ks⟩ || ((Lit.int .i64 a).wf && ((Lit.int .i64 b).wf && ((Lit.int .i64 n).wf && (Lit.int .i64 d).wf)))) && wfaLB ks
def wfaLB : List S24 → Bool
 | [] => true
 | k :: ks => wfaB k && wfaLB ks
end
mutual
theorem wfaB_iff : ∀ r, wfaB r = true ↔ wfaR r
 | ⟨a, b, c, n, d, ks⟩ => by
  simp only [wfaB, wfaR, Bool.and_eq_true, wfaLB_iff ks, wfA]
  cases isA ⟨a, b, c, n, d, ks⟩ <;> simp
theorem wfaLB_iff : ∀ ks, wfaLB ks = true ↔ wfaL ks
 | [] => by simp [wfaLB, wfaL]
 | k :: ks => by simp only [wfaLB, wfaL, Bool.and_eq_true, wfaB_iff k, wfaLB_iff ks]
end
theorem wfaL_mem : ∀ {ks : List S24}, wfaL ks → ∀ k, k ∈ ks → wfaR k
 | [], _, k, hk => by cases hk
 | x :: xs, h, k, hk => by
  simp only [wfaL] at h
  rcases List.mem_cons.1 hk with rfl | hk
  ·exact h.1
  ·exact wfaL_mem h.2 k hk
theorem wfaR_kid (r : S24) (h : wfaR r) : ∀ k, k ∈ r.f5 → wfaR k := by
 cases r
 simp only [wfaR] at h
 exact wfaL_mem h.2
theorem wfaR_key (r : S24) (h : wfaR r) : isA r = true → wfA (atomOf r) := by
 cases r
 simp only [wfaR] at h
 exact h.1
def atPut (D : DataW Unit) (p : Int × S24) : DataW Unit := if isA p.2 = true then D.put (kA (atomOf p.2)) (.lit (.bool true)) else D
def atAll (ps : List (Int × S24)) : DataW Unit := ps.foldl atPut (.map [])
theorem atAll_snoc (ps : List (Int × S24)) (p : Int × S24) : atAll (ps ++ [p]) = atPut (atAll ps) p := by simp [atAll]
/-- The cells of an atom's rule. -/
def encR (x : A4) : List Value := [.int .i64 x.o, .int .i64 x.c, .string ⟨#[]⟩, .int .i64 x.n, .int .i64 x.d, .slice none 0 0]
theorem encR_one (x : A4) : ∀ v ∈ encR x, v.oneCell' = true := by
 intro v hv
 simp only [encR, List.mem_cons, List.not_mem_nil, or_false] at hv
 rcases hv with rfl | rfl | rfl | rfl | rfl | rfl <;> rfl
theorem encR_lens : ∀ xs : List A4, (xs.flatMap encR).length = xs.length * 6
 | [] => rfl
 | x :: xs => by rw [List.flatMap_cons, List.length_append, encR_lens xs, List.length_cons]; simp [encR]; omega
theorem reps_rules (w : World) (base : Nat) (ok : Nat → Prop) : ∀ xs : List A4, Reps (k24.M w base ok) 6 (xs.map ruleOf) (xs.flatMap encR)
 | [] => Reps.none _ _
 | x :: xs => by
  refine ⟨by rw [encR_lens, List.length_map], fun j p hj => ?_⟩
  rw [List.flatMap_cons]
  cases j with
  | zero =>
   have : ruleOf x = p := by simpa using hj
   subst this
   have hM := k24_mkM w base ok (ruleOf x) (v5 := .slice none 0 0) (Kd.R_nil k24 24 w base ok)
   simpa [encR, ruleOf] using hM
  | succ j =>
   have h2 := (reps_rules w base ok xs).2 j p (by simpa using hj)
   rwa [show (j + 1) * 6 = (encR x).length + j * 6 by simp [encR]; omega, ← List.drop_drop, List.drop_left]
theorem R_rules {w : World} {base : Nat} {v : Value} {xs : List A4} (h : w.ownsRow base 24 6 v xs.length (xs.flatMap encR)) : Kd.R k24 24 w base (fun _ => True) v (xs.map ruleOf) :=
 ⟨fun _ _ => trivial, _, by rw [List.length_map]; exact h, reps_rules _ _ _ _⟩
theorem at_A {w : World} {A : Option Addr} {n : Nat} {xs : List A4} (h : Kd.C k60 w A n xs) (i : Nat) (h1 : i < n) (h2 : i < xs.length) : ∃ ad, A = some ad ∧ w.cell? (ad.add (i * 4)) = some (.int .i64 xs[i].o) ∧ w.cell? ⟨(ad.add (i * 4)).block, (ad.add (i * 4)).off + 1, none⟩ = some (.int .i64 xs[i].c) ∧
  w.cell? ⟨(ad.add (i * 4)).block, (ad.add (i * 4)).off + 2, none⟩ = some (.int .i64 xs[i].n) ∧ w.cell? ⟨(ad.add (i * 4)).block, (ad.add (i * 4)).off + 3, none⟩ = some (.int .i64 xs[i].d) := by
 obtain ⟨ad, c, e, _, hK, hc0⟩ := Kd.C_get h ⟨0, 0, 0, 0⟩ (i : Int) (by omega) (by omega)
 have hx : xs.getD (i : Int).toNat ⟨0, 0, 0, 0⟩ = xs[i] := by simp [List.getD_eq_getElem?_getD, h2]
 rw [hx] at hK
 have hc : ∀ j u, c[j]? = some u → w.cell? (ad.add (i * 4 + j)) = some u := hc0
 obtain rfl := k60_open hK
 exact ⟨ad, e, hc 0 _ rfl, by rw [← add_field _ _ 1 (by omega)]; exact hc 1 _ rfl, by rw [← add_field _ _ 2 (by omega)]; exact hc 2 _ rfl, by rw [← add_field _ _ 3 (by omega)]; exact hc 3 _ rfl⟩
/-- Where the walk of rules.Atoms stands. -/
structure AtW (w : World) (b : Nat) (n : Nat) (D : DataW Unit) (W : World) : Prop where
 below : Below w.heap.size w W
 box : W.heap[b + 1]? = some (.cells #[.map (some b)] 54 (0, 0))
 own : W.ownsMap Tryd.prog 60 (plainElem Tryd.prog 4) b n D
theorem AtW.grown {w W W' : World} {b n : Nat} {D : DataW Unit} {row : Option Nat} (h : AtW w b n D W) (hg : W.grownBy W' row) (hr : ∀ k, row = some k → b + 2 ≤ k ∧ w.heap.size ≤ k) : AtW w b n D W' := by
 have hlt := h.own.lt
 refine ⟨h.below.grown hg h.below.size (fun k e => (hr k e).2), blk_grown h.box hg (fun e => by have := (hr _ e.symm).1; omega), h.own.kept hg (fun e => by have := (hr _ e.symm).1; omega)⟩
theorem AtW.put {w W W' : World} {b n n' : Nat} {D D' : DataW Unit} (h : AtW w b n D W) (hwb : w.heap.size ≤ b) (hg : W.grownBy W' (some b)) (ho : W'.ownsMap Tryd.prog 60 (plainElem Tryd.prog 4) b n' D') : AtW w b n' D' W' := by
 have hlt := h.own.lt
 exact ⟨h.below.grown hg h.below.size (fun k e => by injection e; omega), blk_grown h.box hg (fun e => by injection e; omega), ho⟩
theorem AtW.mono {w W : World} {b n n' : Nat} {D : DataW Unit} (h : AtW w b n D W) (hn : n ≤ n') : AtW w b n' D W := ⟨h.below, h.box, h.own.mono hn⟩
set_option maxHeartbeats 4000000 in
set_option maxRecDepth 100000 in
theorem atoms_in (r : S24) (A : Option Addr) (c : Nat) (w : World) (hC : Kd.C k24 w A r.f5.length r.f5) (hc : r.f5.length ≤ c) (hq : wfaR r) (hn : (preR 1 r).length ≤ 100000) :
  CallsIn Fence.wide 8 Tryd.prog 15 #[.agg #[.int .i64 r.f0, .int .i64 r.f1, .string r.f2, .int .i64 r.f3, .int .i64 r.f4, .slice A r.f5.length c]] w
   fun e w' => ∃ v0_ : Value, e = .returned v0_ ∧ (∃ ys, AllA (atAll (preR 1 r)) ys ∧ Kd.R k24 24 w' w.heap.size (fun _ => True) v0_ ((sortA ys).map ruleOf)) ∧ Below w.heap.size w w' := by
 have hu24 := Tryd.underlying24
 have hu60 := Tryd.underlying60
 have hmm := @run_makeMap Tryd.prog
 have HC := Aside0.mk hC
 clear hC
 refine callsIn_of_wp_marks Tryd.func15 rfl trivial ?_ rfl
 simp only [Tryd.ntmps15, List.size_toArray, List.length_cons, List.length_nil, Nat.reduceAdd, Nat.reduceSub, Array.replicate_succ, Array.replicate_zero, List.push_toArray, List.append_toArray, List.nil_append, List.cons_append]
 have cP : ∀ W, CallsIn Fence.wide 7 Tryd.prog 34 #[.agg #[.int .i64 r.f0, .int .i64 r.f1, .string r.f2, .int .i64 r.f3, .int .i64 r.f4, .slice A r.f5.length c]] W fun e w' =>
   e = .returned (.func (.func 52) #[] #[.pointer (some ⟨W.heap.size + 1, 0, none⟩), .pointer (some ⟨W.heap.size, 0, none⟩)]) ∧
   w' = (W.alloc (.cells #[.int .i64 r.f0, .int .i64 r.f1, .string r.f2, .int .i64 r.f3, .int .i64 r.f4, .slice A r.f5.length c] 24)).alloc (.cells #[.func (.func 51) #[] #[.pointer (some ⟨W.heap.size + 1, 0, none⟩)]] 82) := fun W => callsIn_wide.2 (parts_calls r A c W)
 have CP := Aside0.mk cP
 clear cP
 have hfP : Fence.wide.fn 34 := trivial
 gi_wp2_with (gi_at_call 34; refine (CP.out _).mono ?_; rintro e w' ⟨rfl, rfl⟩)
 generalize hWn : World.alloc (World.alloc _ _) (Obj.cells #[.func (.func 51) #[] #[.pointer (some ⟨_, 0, none⟩)]] 82) = Wn
 have hz : Wn.heap.size = w.heap.size + 5 := by rw [← hWn]; simp
 have hBW : Below w.heap.size w Wn := by rw [← hWn]; exact ((((((Below.refl _ w).alloc (Nat.le_refl _) _).alloc (by simp) _).alloc (by simp; omega) _).alloc (by simp; omega) _).alloc (by simp; omega) _)
 have HW0 : AtW w (w.heap.size + 1) 0 (.map []) Wn := by
  rw [← hWn]
  refine AtW.grown (row := none) (AtW.grown (row := none) ⟨?_, ?_, ?_⟩ (World.grownBy_alloc _ _ none) (fun k e => by cases e)) (World.grownBy_alloc _ _ none) (fun k e => by cases e)
  ·exact (((Below.refl _ w).alloc (Nat.le_refl _) _).alloc (by simp) _).alloc (by simp; omega) _
  ·exact new_blk _ _ (by simp)
  ·have h := World.ownsMap_made (w.alloc (.cells #[.int .i64 r.f0, .int .i64 r.f1, .string r.f2, .int .i64 r.f3, .int .i64 r.f4, .slice A r.f5.length c] 24)) Tryd.prog 60 (plainElem (H := Unit) Tryd.prog 4)
   rw [World.size_alloc] at h
   exact h.alloc _
 have bR : Wn.heap[w.heap.size + 1 + 1 + 1]? = some (.cells #[.int .i64 r.f0, .int .i64 r.f1, .string r.f2, .int .i64 r.f3, .int .i64 r.f4, .slice A r.f5.length c] 24 (0, 0)) := by
  rw [← hWn]
  refine (Below.heap_alloc _ _ _ (by simp)).trans (new_blk _ _ (by simp))
 have bK : Wn.heap[w.heap.size + 1 + 1 + 1 + 1]? = some (.cells #[.func (.func 51) #[] #[.pointer (some ⟨w.heap.size + 1 + 1 + 1 + 1, 0, none⟩)]] 82 (0, 0)) := by
  rw [← hWn]
  exact new_blk _ _ (by simp)
 clear hWn
 refine wpIn_rangeFunc_ownH (α := PartQ w wfaR) (F := Fence.wide) (n := 8) rfl (by omega) (gf := 52) (lb := #[.pointer (some ⟨w.heap.size + 1 + 1 + 1 + 1, 0, none⟩), .pointer (some ⟨w.heap.size + 1 + 1 + 1, 0, none⟩)]) rfl trivial (enters_of Tryd.func52 (by kernel_rfl) rfl)
  (parts_stopsQ w wfaR wfaR_kid (fun k => k = w.heap.size + 1) Fence.wide rfl trivial trivial rfl 7 _ _ r A c Wn hq hc HC.out hBW (fun k hk => by omega) (by omega) bK bR)
  (fun h k => KeptC.trans h k) (fun W l o o' hl hlo ho _ => KeptC.putObj o' (by omega) hlo ho) (Below.refl _ _) (fun _ => rfl)
  (fun pre W => AtW w (w.heap.size + 1) pre.length (atAll (pre.map PartQ.key)) W ∧ Wn.heap.size ≤ W.heap.size)
  (fun _ _ _ => False)
  ?hI (fun _ _ _ _ _ hs _ _ => hs) ⟨HW0, Nat.le_refl _⟩
  (fun x a' W => ∃ Bx, Wn.heap.size ≤ Bx ∧ W.heap[Bx]? = some (.cells #[.int .i64 x.r.f0, .int .i64 x.r.f1, .string x.r.f2, .int .i64 x.r.f3, .int .i64 x.r.f4, .slice x.A x.r.f5.length x.c] 24 (0, 0)) ∧ a' = { tmps := #[.agg #[.int .i64 r.f0, .int .i64 r.f1, .string r.f2, .int .i64 r.f3, .int .i64 r.f4, .slice A r.f5.length c], .pointer (some ⟨w.heap.size, 0, none⟩), .slice none 0 0, .pointer (some ⟨w.heap.size + 1 + 1, 0, none⟩), undef, .pointer (some ⟨Bx, 0, none⟩), undef, undef, undef, .map (some (w.heap.size + 1)), .agg #[.int .i64 r.f0, .int .i64 r.f1, .string r.f2, .int .i64 r.f3, .int .i64 r.f4, .slice A r.f5.length c], .func (.func 52) #[] #[.pointer (some ⟨w.heap.size + 1 + 1 + 1 + 1, 0, none⟩), .pointer (some ⟨w.heap.size + 1 + 1 + 1, 0, none⟩)], .int .i64 x.d, x.cells, undef, undef, undef, undef, undef, undef, undef, undef, undef, undef, undef, undef, undef, undef, undef, undef, undef, undef, undef, undef, undef, undef, undef, undef, undef, undef, undef, undef, undef, undef, undef, undef, undef, undef, undef, undef], defers := [] })
  ?hAx ?assign ?body ?done ?stop
 case hI =>
  rintro pre X Y row ⟨h3, h4⟩ hg hr
  exact ⟨h3.grown hg (fun k e => by have := (hr k e).1; omega), Nat.le_trans h4 hg.size⟩
 case hAx =>
  rintro x a' _ X Y row ⟨Bx, hb, hx, rfl⟩ hg hr
  refine ⟨Bx, hb, (hg.block Bx (Array.getElem?_eq_some_iff.1 hx).1 (fun e => ?_)).trans hx, rfl⟩
  obtain ⟨_, o, ho, hc⟩ := hr Bx e.symm
  rw [hx] at ho
  cases ho
  cases hc
 case assign =>
  rintro l pre x W K ⟨h3, h4⟩ hK
  simp only [PartQ.cells]
  gi_wp2
  refine hK _ _ ((KeepsOthers.alloc _ _).from _) (KeptC.alloc (KeptC.refl _ _ _) (by omega) _) ⟨h3.grown (World.grownBy_alloc W _ none) (fun k e => by cases e), by simp; omega⟩ ⟨W.heap.size, h4, blk_new _ _, rfl⟩
 case stop =>
  rintro D c pre W hD _ h hK
  exact h.elim
 case body =>
  rintro l pre x a' W hl ⟨rr, hlr⟩ ⟨h3, h4⟩ ⟨Bx, hBx, hx, rfl⟩ hlen
  have y0 := (blk_cell hx 0).trans rfl
  have HX := Aside0.mk hx
  have HBX := Aside0.mk h3.box
  have H3 := Aside0.mk h3
  have H4 := Aside0.mk h4
  have hex : atAll ((pre ++ [x]).map PartQ.key) = atPut (atAll (pre.map PartQ.key)) x.key := by rw [List.map_append]; exact atAll_snoc _ _
  unfold atPut at hex
  have HEX := Aside0.mk hex
  clear hex h3 h4 hlr hx
  simp only [PartQ.cells]
  have hnm : pre.length < maxLen := by simp only [maxLen]; omega
  have hwi : rules_within.f x.r.f0 5 9 = some (isA x.r) := by
   unfold rules_within.f isA
   by_cases h5 : 5 ≤ x.r.f0 <;> by_cases h9 : x.r.f0 ≤ 9 <;> simp [h5, h9]
  have HWI := Aside0.mk hwi
  clear hwi
  gi_wp2_with fail
  refine ⟨trivial, ?_⟩
  refine (CallsIn.inRound l (callsIn_wide.2 (rules_within.calls _ _ _ _ W HWI.out))).mono ?_
  rintro e w' ⟨rfl, nw, rfl⟩
  obtain ⟨W2, HW2⟩ : ∃ W2, Aside0 (W2 = W.drewN nw) := ⟨_, ⟨rfl⟩⟩
  have HG2 : Aside0 (W.grownBy W2 (some (w.heap.size + 1))) := ⟨by rw [HW2.out]; exact ⟨rfl, rfl, rfl, Nat.le_refl _, fun _ _ _ => rfl⟩⟩
  have HX2 : Aside0 (W2.heap[Bx]? = some (.cells #[.int .i64 x.r.f0, .int .i64 x.r.f1, .string x.r.f2, .int .i64 x.r.f3, .int .i64 x.r.f4, .slice x.A x.r.f5.length x.c] 24 (0, 0))) := ⟨by rw [HW2.out]; exact HX.out⟩
  have H32 : Aside0 (AtW w (w.heap.size + 1) pre.length (atAll (pre.map PartQ.key)) W2) := ⟨by rw [HW2.out]; exact H3.out.grown (row := none) ⟨rfl, rfl, rfl, Nat.le_refl _, fun _ _ _ => rfl⟩ (fun k e => by cases e)⟩
  rw [← HW2.out]
  clear y0
  have y0 := (blk_cell HX2.out 0).trans rfl
  have y1 := (blk_cell HX2.out 1).trans rfl
  have y3 := (blk_cell HX2.out 3).trans rfl
  have y4 := (blk_cell HX2.out 4).trans rfl
  have hbx : W2.cell? ⟨w.heap.size + 1 + 1, 0, none⟩ = some (.map (some (w.heap.size + 1))) := (blk_cell H32.out.box 0).trans rfl
  have fin : ∀ w1 D', W.grownBy w1 (some (w.heap.size + 1)) → D' = atAll ((pre ++ [x]).map PartQ.key) → AtW w (w.heap.size + 1) (pre.length + 1) D' w1 →
    KeepsFrom Wn.heap.size W w1 ∧ KeptC w.heap.size (fun k => k = w.heap.size + 1) W w1 ∧ AtW w (w.heap.size + 1) (pre ++ [x]).length (atAll ((pre ++ [x]).map PartQ.key)) w1 ∧ Wn.heap.size ≤ w1.heap.size := fun w1 D' hg hD h => by
   have hs4 := H4.out
   refine ⟨KeepsFrom.of_grownBy hg (fun j e => by cases e; omega), ⟨hg.size, fun k hk => hg.block k (by omega) (fun e => by injection e; omega), fun k cs t m hX hc => (hg.block k (Array.getElem?_eq_some_iff.1 hc).1 (fun e => hX (by injection e))).trans hc⟩, ?_, Nat.le_trans hs4 hg.size⟩
   rw [← hD, List.length_append]
   exact h
  have FIN := Aside0.mk fin
  clear fin hlen
  rw [show (x.key.2) = x.r from rfl] at HEX
  cases ht : isA x.r with
  | true =>
   rw [ht, if_pos rfl] at HEX
   have hwf := wfaR_key x.r x.ok ht
   clear ht
   gi_wp2_with (gi_at_mapUpdate; refine wpListIn_mapUpdate_own _ rfl _ _ _ 54 rfl 60 4 keyed60 Tryd.underlying54 _ (w.heap.size + 1) pre.length _ rfl H32.out.own hnm _ _ _ rfl rfl (keyOf_mk hwf) _ [] (plainElem_bool Tryd.underlying4 true) ?_; intro w1 hown1 hgrow1)
   exact FIN.out _ _ (Flat.grown_trans HG2.out hgrow1) HEX.out.symm (H32.out.put (by omega) hgrow1 hown1)
  | false =>
   rw [ht, if_neg (by simp)] at HEX
   clear ht
   gi_wp2
   exact FIN.out _ _ HG2.out HEX.out.symm (H32.out.mono (by omega))
 case done =>
  rintro D ys W hD hys ⟨h3, h4⟩ hK
  rw [hys] at h3
  have hyl : ys.length = (preR 1 r).length := by rw [← hys, List.length_map]
  rw [hyl] at h3
  have hown := h3.own
  have HB := Aside0.mk h3.below
  have HK := Aside0.mk hK
  have hbx : W.cell? ⟨w.heap.size + 1 + 1, 0, none⟩ = some (.map (some (w.heap.size + 1))) := (blk_cell h3.box 0).trans rfl
  have hsz : Maps.size (atAll (preR 1 r)) ≤ 100000 := Nat.le_trans (size_le hown) hn
  have hbl := hown.lt
  have hseq : SeqStopsK Fence.wide (7 - 1 - 1 - 1) Tryd.prog 56 #[.pointer (some ⟨W.heap.size, 0, none⟩)] (fun x : A4 => #[.agg (encA x).toArray]) KeepsWalks (fun ss => AllA (atAll (preR 1 r)) ss ∧ ss.length ≤ Maps.size (atAll (preR 1 r))) (fun _ => True) (Maps.size (atAll (preR 1 r))) (W.alloc (.cells #[.map (some (w.heap.size + 1))] 54)) :=
   keys_stopsA (R := plainElem Tryd.prog 4) Fence.wide _ trivial rfl (by omega) W.heap.size (w.heap.size + 1) (preR 1 r).length _ _ (by simp) (by exact (blk_cell (blk_new W _) 0).trans rfl) (hown.alloc _)
  have cK : ∀ mb W, CallsIn Fence.wide 7 Tryd.prog 40 #[.map mb] W fun e w' => e = .returned (.func (.func 56) #[] #[.pointer (some ⟨W.heap.size, 0, none⟩)]) ∧ w' = W.alloc (.cells #[.map mb] 54) := fun mb W => callsIn_wide.2 (keys_calls mb W)
  have cS := sortedFunc_in 7 (by omega) 56 #[.pointer (some ⟨W.heap.size, 0, none⟩)] (enters_of Tryd.func56 (by kernel_rfl) rfl) _ _ _ (by omega) (fun ys h => by have := h.2; omega) hseq
  have hfK : Fence.wide.fn 40 := trivial
  have hfS : Fence.wide.fn 39 := trivial
  have CS := Aside0.mk cS
  have h4' := h4
  clear cS hseq h3 hown hK h4
  gi_wp2_with (first
   | (gi_at_call 40; refine (cK _ _).mono ?_; rintro e w' ⟨rfl, rfl⟩)
   | (gi_at_call 39; refine CS.out.mono ?_; rintro e w' ⟨v, ss, rfl, hS, hrow, hg⟩; have HROW := Aside0.mk hrow; obtain ⟨_, inner, hown1, _⟩ := hrow; obtain ⟨A2, c2, rfl⟩ := own_slice hown1; clear hown1))
  have HC2 := Aside0.mk (Kd.R_reads' HROW.out).2.2
  have HG1 : Aside0 (W.grownBy w' none) := ⟨Flat.grown_trans (World.grownBy_alloc W _ none) hg⟩
  have hWw := hg.size
  rw [World.size_alloc] at hWw
  have hsl : (sortA ss).length = ss.length := by simp [sortA]
  have hs5 : (sortA ss).length ≤ 100000 := by rw [hsl]; exact Nat.le_trans hS.2 hsz
  have HS := Aside0.mk hS.1
  clear hg hS hsl hbx
  generalize hns : sortA ss = ns at *
  have HNS := Aside0.mk hns
  clear hns
  gi_loopw [2, 32] (fun t2 t32 wr => ∃ (k : Nat), t32 = .int .i64 k ∧ k ≤ ns.length ∧ Aside0 (wr.ownsRow w'.heap.size 24 6 t2 k ((ns.take k).flatMap encR)) ∧ Aside0 (w'.grownBy wr none))
   (fun _ t32 _ => ns.length - (intOf t32).toNat)
  case atStart => exact ⟨0, rfl, Nat.zero_le _, ⟨⟨rfl, .inl ⟨rfl, rfl⟩⟩⟩, ⟨⟨rfl, rfl, rfl, Nat.le_refl _, fun _ _ _ => rfl⟩⟩⟩
  case round =>
   obtain ⟨k, rfl, hk, HR, HG⟩ := hrel
   by_cases hlt : k < ns.length
   ·obtain ⟨ad, e, x0, x1, x2, x3⟩ := at_A HC2.out k hlt hlt
    subst e
    obtain ⟨x, HXX, hx⟩ : ∃ x, Aside0 (x = ns[k]) ∧ ns[k] = x := ⟨_, ⟨rfl⟩, rfl⟩
    rw [hx] at x0 x1 x2 x3
    clear hx
    have hbl0 := World.block_lt_of_cell? w' _ x0
    have mv : ∀ (a : Addr) (v : Value), a.block < w'.heap.size → w'.cell? a = some v → wr.cell? a = some v := fun a v ha h => (World.cell?_of_block (HG.out.block a.block ha (by simp))).trans h
    replace x0 := mv _ _ hbl0 x0
    replace x1 := mv ⟨(ad.add (k * 4)).block, (ad.add (k * 4)).off + 1, none⟩ _ hbl0 x1
    replace x2 := mv ⟨(ad.add (k * 4)).block, (ad.add (k * 4)).off + 2, none⟩ _ hbl0 x2
    replace x3 := mv ⟨(ad.add (k * 4)).block, (ad.add (k * 4)).off + 3, none⟩ _ hbl0 x3
    clear mv hbl0
    obtain ⟨A4', c4, rfl⟩ := own_slice HR.out
    obtain ⟨i0, hi, hz0, hz1, hz2⟩ := info_parts info24
    have hm1 : k + 1 ≤ maxLen := by simp only [maxLen]; omega
    have hwl := HG.out.size
    gi_wp2_with (gi_at_builtin; go_must (refine wpListIn_append_own_at _ rfl _ _ 22 rfl w'.heap.size 24 i0 _ 6 72 Tryd.underlying22 hi hz0 hz1 hz2 rfl (by decide) _ _ _ rfl ((HR.out.alloc _).alloc _) ⟨wr.heap.size + 1, 0, none⟩ 1 1 (encR x) rfl rfl ?hcl (encR_one x) hm1 (by omega) (by simp; omega) ?_); (case hcl => have h_ := cells_new (wr.alloc (.cells #[.int .i64 x.o, .int .i64 x.c, .int .i64 x.n, .int .i64 x.d] 60)) (encR x) 24; rw [World.size_alloc] at h_; exact h_); intro v' w1 hown' hgrow _ hat; clear hat; have HO1 := Aside0.mk hown'; have HG1' := Aside0.mk hgrow; clear hown' hgrow; obtain ⟨g', cap', hv'⟩ := ownsRow_succ HO1.out; subst hv')
    have hgr : w'.grownBy w1 none := by
     have h0 := HG1'.out
     have hol : ∀ j, j < w'.heap.size → some j ≠ (Value.slice A4' k c4).ownBlock := fun j hj e => by
      have := (HR.out.lt j e.symm).1
      omega
     exact ⟨h0.os.trans HG.out.os, h0.tape.trans HG.out.tape, h0.output.trans HG.out.output, by have := h0.size; simp at this; omega, fun j hj _ => (h0.block j (by simp; omega) (hol j hj)).trans ((Below.heap_alloc _ _ _ (by simp; omega)).trans ((Below.heap_alloc _ _ _ (by omega)).trans (HG.out.block j hj (by simp))))⟩
    refine ⟨⟨k + 1, by go_num, by omega, ⟨?_⟩, ⟨hgr⟩⟩, by simp [intOf]; omega⟩
    rw [List.take_succ_eq_append_getElem hlt, List.flatMap_append, ← HXX.out]
    simpa using HO1.out
   ·have hkn : k = ns.length := by omega
    subst hkn
    gi_wp2
    have hHD : ∀ D' ∈ [D], wr.heap[D']? = some (.deferred (some [])) := fun D' hD' => by
     have hDl := (Array.getElem?_eq_some_iff.1 HK.out).1
     rw [List.mem_singleton.1 hD']
     exact (HG.out.block D (by omega) (by simp)).trans ((HG1.out.block D hDl (by simp)).trans HK.out)
    refine leaves_marks [D] _ (by simp) hHD (fun w2 hw => ?_)
    refine ⟨_, results_tmp rfl _ _ _, _, rfl, ⟨ss, HS.out, ?_⟩, ?_⟩
    ·rw [HNS.out]
     have hr2 := HR.out
     rw [List.take_length] at hr2
     refine R_rules ?_
     obtain ⟨hl, h | ⟨g, cap, cur, hv, hb, hblk, h1, h2, h3, h4⟩⟩ := hr2
     ·exact ⟨hl, .inl h⟩
     ·refine ⟨hl, .inr ⟨g, cap, cur, hv, by omega, (hw.block g (fun hg => ?_)).trans hblk, h1, h2, h3, h4⟩⟩
      have := hHD g hg
      rw [hblk] at this
      cases this
    ·have hb1 : Below w.heap.size w wr := (HB.out.grown HG1.out (by omega) (fun k e => by cases e)).grown HG.out (by omega) (fun k e => by cases e)
     exact ⟨hw.os.trans hb1.os, hw.tape.trans hb1.tape, hw.output.trans hb1.output, by rw [hw.size]; exact hb1.size, fun j hj => (hw.block j (fun h => by have := List.mem_singleton.1 h; omega)).trans (hb1.block j hj)⟩
def dd : List A4 → List A4
 | [] => []
 | x :: xs => if x ∈ xs then dd xs else x :: dd xs
theorem mem_dd {a : A4} : ∀ xs, a ∈ dd xs ↔ a ∈ xs
 | [] => by simp [dd]
 | x :: xs => by
  unfold dd
  split
  ·rename_i h
   rw [mem_dd xs, List.mem_cons]
   exact ⟨.inr, fun h' => h'.elim (fun e => e ▸ h) id⟩
  ·rw [List.mem_cons, List.mem_cons, mem_dd xs]
theorem nodup_dd : ∀ xs, (dd xs).Nodup
 | [] => List.nodup_nil
 | x :: xs => by
  unfold dd
  split
  ·exact nodup_dd xs
  ·rename_i h
   exact List.nodup_cons.2 ⟨fun h' => h ((mem_dd xs).1 h'), nodup_dd xs⟩
/-- The atoms among parts. -/
def atomsOf (ps : List (Int × S24)) : List A4 := (ps.filter fun p => isA p.2).map fun p => atomOf p.2
theorem sortA_perm {l l' : List A4} (h : l.Perm l') : sortA l = sortA l' := by
 have tr : ∀ a b c : A4, (!ltOf cfA b a) = true → (!ltOf cfA c b) = true → (!ltOf cfA c a) = true := fun a b c h1 h2 => by
  simp only [Bool.not_eq_true'] at *
  exact swoA.ntrans c b a h2 h1
 have tot : ∀ a b : A4, ((!ltOf cfA b a) || (!ltOf cfA a b)) = true := fun a b => by
  rw [ltOf_cfA, ltOf_cfA]
  by_cases h1 : LtA b a
  ·by_cases h2 : LtA a b
   ·exact absurd (h1.trans h2) (LtA.irrefl _)
   ·simp [h2]
  ·simp [h1]
 refine List.Perm.eq_of_pairwise (le := fun a b => (!ltOf cfA b a) = true) (fun a b _ _ h1 h2 => ?_) (List.pairwise_mergeSort tr tot l) (List.pairwise_mergeSort tr tot l') (((List.mergeSort_perm l _).trans h).trans (List.mergeSort_perm l' _).symm)
 simp only [Bool.not_eq_true'] at h1 h2
 exact cfA_sep a b h2 h1
theorem atAll_lits (ps : List (Int × S24)) : ∀ D : DataW Unit, ps.foldl atPut D = (((atomsOf ps).map kA).foldl (fun m x => m.put x (.lit (.bool true))) D) := by
 induction ps with
 | nil => intro D; rfl
 | cons p ps ih =>
  intro D
  rw [List.foldl_cons, ih]
  unfold atPut atomsOf
  by_cases h : isA p.2 = true
  ·simp [h]
  ·simp [h]
theorem has_atAll {ps : List (Int × S24)} (hw : ∀ a ∈ atomsOf ps, wfA a) {x : A4} (hx : wfA x) : has (atAll ps) (kA x) = true ↔ x ∈ atomsOf ps := by
 have h0 := has_fold (.lit (.bool true)) (kA x) ((atomsOf ps).map kA) (.map [] : DataW Unit) ⟨[], rfl⟩ (fun l hl => by obtain ⟨a, _, rfl⟩ := List.mem_map.1 hl; trivial)
 unfold atAll
 rw [atAll_lits, h0]
 simp only [has_eq, List.any_nil, Bool.false_or, List.any_eq_true, List.mem_map]
 constructor
 ·rintro ⟨_, ⟨a, ha, rfl⟩, hs⟩
  rw [same_kA hx (hw a ha)] at hs
  rw [← of_decide_eq_true hs]
  exact ha
 ·intro h
  exact ⟨_, ⟨x, h, rfl⟩, by rw [same_kA hx hx]; simp⟩
theorem sortA_all {ps : List (Int × S24)} (hw : ∀ a ∈ atomsOf ps, wfA a) {ss : List A4} (h : AllA (atAll ps) ss) : sortA ss = sortA (dd (atomsOf ps)) := by
 refine sortA_perm ((List.perm_ext_iff_of_nodup h.1 (nodup_dd _)).2 fun a => ?_)
 rw [mem_dd]
 constructor
 ·intro ha
  have hwa := h.2.1 a ha
  exact (has_atAll hw hwa).1 ((h.2.2 a hwa).1 ha)
 ·intro ha
  exact (h.2.2 a (hw a ha)).2 ((has_atAll hw (hw a ha)).2 ha)
mutual
theorem wfaR_parts (d : Int) : ∀ r, wfaR r → ∀ p ∈ preR d r, isA p.2 = true → wfA (atomOf p.2)
 | ⟨a, b, c, n, e, ks⟩, h, p, hp, hi => by
  simp only [preR, List.mem_cons] at hp
  simp only [wfaR] at h
  rcases hp with rfl | hp
  ·exact h.1 hi
  ·exact wfaL_parts _ ks h.2 p hp hi
theorem wfaL_parts (d : Int) : ∀ ks, wfaL ks → ∀ p ∈ preL d ks, isA p.2 = true → wfA (atomOf p.2)
 | [], _, p, hp, _ => by simp [preL] at hp
 | k :: ks, h, p, hp, hi => by
  simp only [preL, List.mem_append] at hp
  simp only [wfaL] at h
  rcases hp with hp | hp
  ·exact wfaR_parts d k h.1 p hp hi
  ·exact wfaL_parts d ks h.2 p hp hi
end
theorem wfa_atoms {r : S24} (h : wfaR r) : ∀ a ∈ atomsOf (preR 1 r), wfA a := by
 intro a ha
 obtain ⟨p, hp, rfl⟩ := List.mem_map.1 ha
 obtain ⟨h1, h2⟩ := List.mem_filter.1 hp
 exact wfaR_parts 1 r h p h1 h2
def rules_Atoms.f (a0 a1 : Int) (a2 : ByteArray) (a3 a4 : Int) (l : List S24) : Option (List S24) :=
 if wfaB ⟨a0, a1, a2, a3, a4, l⟩ = true ∧ (preR 1 ⟨a0, a1, a2, a3, a4, l⟩).length ≤ 100000 then some ((sortA (dd (atomsOf (preR 1 ⟨a0, a1, a2, a3, a4, l⟩)))).map ruleOf) else none
theorem rules_Atoms.calls (a0_0 : Int) (a0_1 : Int) (a0_2 : ByteArray) (a0_3 : Int) (a0_4 : Int) (A0_5 : Option Addr) (c0_5 : Nat) (l0_5 : List (S24)) (r : List S24) (w : World) (hr0_5 : Kd.C k24 w A0_5 l0_5.length l0_5) (hc0_5 : l0_5.length ≤ c0_5) (h : rules_Atoms.f a0_0 a0_1 a0_2 a0_3 a0_4 l0_5 = some r) :
  Calls Tryd.prog 15 #[.agg #[.int .i64 a0_0, .int .i64 a0_1, .string a0_2, .int .i64 a0_3, .int .i64 a0_4, .slice A0_5 l0_5.length c0_5]] w fun e w' => ∃ v0_ : Value, e = .returned v0_ ∧ Kd.R k24 24 w' w.heap.size (fun _ => True) v0_ r ∧ Below w.heap.size w w' := by
 unfold rules_Atoms.f at h
 split at h
 ·rename_i hh
  obtain rfl := Option.some.inj h
  have hw := (wfaB_iff _).1 hh.1
  refine ((callsIn_wide (n := 8)).1 (atoms_in ⟨a0_0, a0_1, a0_2, a0_3, a0_4, l0_5⟩ A0_5 c0_5 w hr0_5 hc0_5 hw hh.2)).mono ?_
  rintro e w' ⟨v, rfl, ⟨ys, hA, hR⟩, hb⟩
  rw [sortA_all (wfa_atoms hw) hA] at hR
  exact ⟨v, rfl, hR, hb⟩
 ·cases h
end Go.Proofs.YtabocfninjankaaDoor.P
namespace Go.Proofs.YtabocfninjankaaDoor.P
open Go.RowKit Go.Maps Go.Proofs.YtabocfninjankaaDoorW.PrintWords Go.Proofs.YtabocfninjankaaDoorW.PrintLast Go.Proofs.YtabocfninjankaaDoorW.PrintMore
set_option linter.unusedVariables false
set_option linter.unusedSimpArgs false
theorem mem_parts {r : S24} {p : S24} : p ∈ partsOf r ↔ ∃ d, (d, p) ∈ preR 1 r := by
 unfold partsOf
 rw [List.mem_map]
 exact ⟨fun ⟨q, hq, e⟩ => ⟨q.1, by rw [← e]; exact hq⟩, fun ⟨d, h⟩ => ⟨_, h, rfl⟩⟩
theorem wfaR_of : ∀ (sz : Nat) (r : S24), SizeOf.sizeOf r < sz → okR r → wfaR r
 | 0, r, h, _ => absurd h (by omega)
 | sz + 1, ⟨a, b, c, n, d, ks⟩, h, ho => by
  obtain ⟨h1, _, h2⟩ := (okR_iff _).1 ho
  simp only at h1 h2
  have hL : ∀ l : List S24, (∀ k ∈ l, k ∈ ks) → wfaL l := by
   intro l
   induction l with
   | nil => intro _; simp [wfaL]
   | cons k l ih =>
    intro hl
    have hk := hl k (by simp)
    obtain ⟨i, hi, e⟩ := List.getElem_of_mem hk
    simp only [wfaL]
    exact ⟨wfaR_of sz k (by have := size_kid ⟨a, b, c, n, d, ks⟩ i hi; simp only [e] at this; omega) (h2 k hk), ih (fun x hx => hl x (by simp [hx]))⟩
  simp only [wfaR]
  exact ⟨fun _ => ⟨h1.1, h1.2.1, h1.2.2.1, h1.2.2.2⟩, hL ks (fun _ h => h)⟩
theorem wfR_of : ∀ (sz : Nat) (r : S24), SizeOf.sizeOf r < sz → okR r → wfR r
 | 0, r, h, _ => absurd h (by omega)
 | sz + 1, ⟨a, b, c, n, d, ks⟩, h, ho => by
  obtain ⟨h1, _, h2⟩ := (okR_iff _).1 ho
  simp only at h1 h2
  have hL : ∀ l : List S24, (∀ k ∈ l, k ∈ ks) → wfL l := by
   intro l
   induction l with
   | nil => intro _; simp [wfL]
   | cons k l ih =>
    intro hl
    have hk := hl k (by simp)
    obtain ⟨i, hi, e⟩ := List.getElem_of_mem hk
    simp only [wfL]
    exact ⟨wfR_of sz k (by have := size_kid ⟨a, b, c, n, d, ks⟩ i hi; simp only [e] at this; omega) (h2 k hk), ih (fun x hx => hl x (by simp [hx]))⟩
  simp only [wfR]
  exact ⟨fun _ => h1.2.1, hL ks (fun _ h => h)⟩
theorem atoms_f {r : S24} (ho : okR r) (hl : (preR 1 r).length ≤ 100000) : rules_Atoms.f r.f0 r.f1 r.f2 r.f3 r.f4 r.f5 = some ((sortA (dd (atomsOf (preR 1 r)))).map ruleOf) := by
 have hw := (wfaB_iff r).2 (wfaR_of _ r (Nat.lt_succ_self _) ho)
 cases r
 unfold rules_Atoms.f
 rw [if_pos ⟨hw, hl⟩]
theorem courses_f {r : S24} (ho : okR r) (hl : (preR 1 r).length ≤ 100000) : rules_Courses.f r.f0 r.f1 r.f2 r.f3 r.f4 r.f5 = some ((intKeys (corAll (preR 1 r))).mergeSort leI) := by
 have hw := (wfB_iff r).2 (wfR_of _ r (Nat.lt_succ_self _) ho)
 cases r
 unfold rules_Courses.f
 rw [if_pos ⟨hw, hl⟩]
theorem insert_perm {H : Type} (x : Lit × DataW H) : ∀ l : List (Lit × DataW H), (DataW.insert x l).Perm (x :: l)
 | [] => List.Perm.refl _
 | y :: r => by
  unfold DataW.insert
  split
  ·exact List.Perm.refl _
  ·exact ((insert_perm x r).cons y).trans (List.Perm.swap x y r)
/-- The set holds just the numbers S, each once. -/
def SetI (D : DataW Unit) (S : Int → Prop) : Prop := ∃ es, D = .map es ∧ (∀ p ∈ es, ∃ x, p.1 = .int .i64 x) ∧ (intKeys D).Nodup ∧ ∀ a, a ∈ intKeys D ↔ S a
theorem SetI.empty : SetI (.map []) fun _ => False := ⟨[], rfl, fun p h => by simp at h, by simp [intKeys], fun a => by simp [intKeys]⟩
theorem SetI.put {D : DataW Unit} {S : Int → Prop} (h : SetI D S) (a : Int) (v : DataW Unit) : SetI (D.put (.int .i64 a) v) fun z => z = a ∨ S z := by
 obtain ⟨es, rfl, h1, h2, h3⟩ := h
 have hp := insert_perm (Lit.int .i64 a, v) (es.filter fun p => !p.1.sameKey (.int .i64 a))
 have hk : (intKeys (DataW.put (.map es) (.int .i64 a) v)).Perm (a :: (es.filter fun p => !p.1.sameKey (.int .i64 a)).map fun p => Go.intOf p.1) := hp.map _
 have hmem : ∀ z, z ∈ (es.filter fun p => !p.1.sameKey (.int .i64 a)).map (fun p => Go.intOf p.1) ↔ z ∈ intKeys (.map es) ∧ z ≠ a := by
  intro z
  simp only [intKeys, List.mem_map, List.mem_filter]
  constructor
  ·rintro ⟨p, ⟨hp, hs⟩, rfl⟩
   refine ⟨⟨p, hp, rfl⟩, fun e => ?_⟩
   obtain ⟨x, hx⟩ := h1 p hp
   rw [hx] at hs e
   have e' : x = a := e
   subst e'
   simp [Lit.sameKey] at hs
  ·rintro ⟨⟨p, hp, rfl⟩, hne⟩
   refine ⟨p, ⟨hp, ?_⟩, rfl⟩
   obtain ⟨x, hx⟩ := h1 p hp
   rw [hx] at hne ⊢
   have hne' : x ≠ a := hne
   simp [Lit.sameKey, hne']
 refine ⟨_, rfl, fun p hp' => ?_, hk.nodup_iff.2 (List.nodup_cons.2 ⟨fun h => ((hmem a).1 h).2 rfl, ?_⟩), fun z => ?_⟩
 ·rcases List.mem_cons.1 (hp.mem_iff.1 hp') with rfl | hp'
  ·exact ⟨a, rfl⟩
  ·exact h1 p (List.mem_filter.1 hp').1
 ·exact h2.sublist (List.filter_sublist.map _)
 ·rw [hk.mem_iff, List.mem_cons, hmem z, h3 z]
  constructor
  ·rintro (h | h)
   ·exact .inl h
   ·exact .inr h.1
  ·rintro (h | h)
   ·exact .inl h
   ·by_cases e : z = a
    ·exact .inl e
    ·exact .inr ⟨h, e⟩
theorem SetI.congr {D : DataW Unit} {S S' : Int → Prop} (h : SetI D S) (hS : ∀ a, S a ↔ S' a) : SetI D S' := by
 obtain ⟨es, h0, h1, h2, h3⟩ := h
 exact ⟨es, h0, h1, h2, fun a => (h3 a).trans (hS a)⟩
theorem corAll_set : ∀ (ps : List (Int × S24)) {D : DataW Unit} {S : Int → Prop}, SetI D S → SetI (ps.foldl corPut D) fun a => S a ∨ ∃ p ∈ ps, isC p.2 = true ∧ p.2.f1 = a
 | [], D, S, h => h.congr fun a => by simp
 | p :: ps, D, S, h => by
  rw [List.foldl_cons]
  by_cases q : isC p.2 = true
  ·have e : corPut D p = D.put (.int .i64 p.2.f1) (.lit (.bool true)) := by unfold corPut; rw [if_pos q]
   rw [e]
   refine (corAll_set ps (h.put p.2.f1 _)).congr fun a => ?_
   constructor
   ·rintro ((h | h) | ⟨x, hx, h1, h2⟩)
    ·exact .inr ⟨p, by simp, q, h.symm⟩
    ·exact .inl h
    ·exact .inr ⟨x, by simp [hx], h1, h2⟩
   ·rintro (h | ⟨x, hx, h1, h2⟩)
    ·exact .inl (.inr h)
    ·rcases List.mem_cons.1 hx with rfl | hx
     ·exact .inl (.inl h2.symm)
     ·exact .inr ⟨x, hx, h1, h2⟩
  ·have e : corPut D p = D := by unfold corPut; rw [if_neg q]
   rw [e]
   refine (corAll_set ps h).congr fun a => ?_
   constructor
   ·rintro (h | ⟨x, hx, h1, h2⟩)
    ·exact .inl h
    ·exact .inr ⟨x, by simp [hx], h1, h2⟩
   ·rintro (h | ⟨x, hx, h1, h2⟩)
    ·exact .inl h
    ·rcases List.mem_cons.1 hx with rfl | hx
     ·exact absurd h1 q
     ·exact .inr ⟨x, hx, h1, h2⟩
/-- The courses that a rule names, in order, each once. -/
def coursesOf (r : S24) : List Int := (intKeys (corAll (preR 1 r))).mergeSort leI
theorem courses_nodup (r : S24) : (coursesOf r).Nodup := by
 obtain ⟨es, h0, h1, h2, h3⟩ := corAll_set (preR 1 r) SetI.empty
 exact (List.mergeSort_perm _ leI).nodup_iff.2 h2
theorem courses_mem (r : S24) (c : Int) : c ∈ coursesOf r ↔ ∃ p ∈ partsOf r, isC p = true ∧ p.f1 = c := by
 obtain ⟨es, h0, h1, h2, h3⟩ := corAll_set (preR 1 r) SetI.empty
 unfold coursesOf
 rw [(List.mergeSort_perm _ leI).mem_iff]
 refine (h3 c).trans ?_
 constructor
 ·rintro (h | ⟨p, hp, h4, h5⟩)
  ·exact h.elim
  ·exact ⟨p.2, mem_parts.2 ⟨p.1, hp⟩, h4, h5⟩
 ·rintro ⟨p, hp, h4, h5⟩
  obtain ⟨d, hd⟩ := mem_parts.1 hp
  exact .inr ⟨_, hd, h4, h5⟩
/-- What a situation says of the courses in l. -/
def only (l : List Int) (s : List S49) : List S49 := s.filter fun x => decide (x.f0 ∈ l)
end Go.Proofs.YtabocfninjankaaDoor.P
namespace Go.Proofs.YtabocfninjankaaDoor.P
open Go.RowKit Go.Proofs.YtabocfninjankaaDoorW.PrintWords Go.Proofs.YtabocfninjankaaDoorW.PrintLast Go.Proofs.YtabocfninjankaaDoorW.PrintMore
set_option linter.unusedVariables false
set_option linter.unusedSimpArgs false
def RB (q : Bool) (w : World) (e : Ending) (w' : World) : Prop := e = .returned (.bool q) ∧ Below w.heap.size w w'
theorem RB.mk {q q' : Bool} {w w' : World} (hq : q = q') (hb : Below w.heap.size w w') : RB q' w (.returned (.bool q)) w' := ⟨by rw [hq], hb⟩
end Go.Proofs.YtabocfninjankaaDoor.P
namespace Go.Proofs.YtabocfninjankaaDoor.P
open Go.RowKit Go.Proofs.YtabocfninjankaaDoorW.PrintWords Go.Proofs.YtabocfninjankaaDoorW.PrintLast Go.Proofs.YtabocfninjankaaDoorW.PrintMore
attribute [local go_sem] Oper.semAt_some
set_option linter.unusedVariables false
set_option linter.unusedSimpArgs false
/-- What is asked of an entry behind another one. -/
def okS (p : Int) (x : S49) : Bool := decide (p + 1 ≤ x.f0) && decide (x.f0 ≤ 4095) && decide (0 ≤ x.f1) && decide (x.f1 ≤ 100) && decide (-1 ≤ x.f2) && decide (x.f2 ≤ 12) && (decide (x.f2 ≥ 0) == decide (x.f1 ≥ 1))
theorem fitL_cons (p : Int) (x : S49) (xs : List S49) : fitL p (x :: xs) = (okS p x && fitL x.f0 xs) := by
 simp only [fitL, okS]
 by_cases h1 : p + 1 ≤ x.f0 <;> by_cases h2 : x.f0 ≤ 4095 <;> by_cases h3 : 0 ≤ x.f1 <;> by_cases h4 : x.f1 ≤ 100 <;> by_cases h5 : -1 ≤ x.f2 <;> by_cases h6 : x.f2 ≤ 12 <;> simp [h1, h2, h3, h4, h5, h6]
def lastC : Int → List S49 → Int
 | p, [] => p
 | _, x :: xs => lastC x.f0 xs
theorem fitL_append : ∀ (p : Int) (xs ys : List S49), fitL p (xs ++ ys) = (fitL p xs && fitL (lastC p xs) ys)
 | p, [], ys => by simp [fitL, lastC]
 | p, x :: xs, ys => by rw [List.cons_append, fitL_cons, fitL_cons, fitL_append x.f0 xs ys, lastC, Bool.and_assoc]
theorem lastC_snoc : ∀ (p : Int) (xs : List S49) (x : S49), lastC p (xs ++ [x]) = x.f0
 | p, [], x => rfl
 | p, y :: xs, x => by rw [List.cons_append, lastC, lastC_snoc]
theorem fitL_last : ∀ (p : Int) (xs : List S49), -1 ≤ p → fitL p xs = true → -1 ≤ lastC p xs ∧ (xs ≠ [] → 0 ≤ lastC p xs)
 | p, [], hp, _ => ⟨hp, fun h => absurd rfl h⟩
 | p, x :: xs, hp, h => by
  rw [fitL_cons, Bool.and_eq_true] at h
  obtain ⟨h1, h2⟩ := h
  have h0 : 0 ≤ x.f0 := by simp only [okS, Bool.and_eq_true, decide_eq_true_eq] at h1; omega
  have := fitL_last x.f0 xs (by omega) h2
  refine ⟨this.1, fun _ => ?_⟩
  by_cases hx : xs = []
  ·subst hx; exact h0
  ·exact this.2 hx
/-- The first k entries are in order; where the next one has to begin. -/
structure Pre (l : List S49) (k : Nat) (p : Int) : Prop where
 ok : fitL (-1) (l.take k) = true
 last : lastC (-1) (l.take k) = p
theorem Pre.zero (l : List S49) : Pre l 0 (-1) := ⟨rfl, rfl⟩
theorem Pre.next {l : List S49} {k : Nat} {p : Int} (h : Pre l k p) (hk : k < l.length) (hb : okS p l[k] = true) : Pre l (k + 1) l[k].f0 := by
 refine ⟨?_, ?_⟩
 ·rw [List.take_succ_eq_append_getElem hk, fitL_append, h.ok, h.last, fitL_cons, hb]; rfl
 ·rw [List.take_succ_eq_append_getElem hk, lastC_snoc]
theorem Pre.all {l : List S49} {p : Int} {k : Nat} (h : Pre l k p) (hk : l.length ≤ k) : fitL (-1) l = true := by
 have := h.ok
 rwa [List.take_of_length_le hk] at this
theorem Pre.lo {l : List S49} {k : Nat} {p : Int} (h : Pre l k p) : -1 ≤ p := by
 have := (fitL_last (-1) (l.take k) (by omega) h.ok).1
 rwa [h.last] at this
end Go.Proofs.YtabocfninjankaaDoor.P
namespace Go.Proofs.YtabocfninjankaaDoor.P
open Go.RowKit Go.Shelf Go.Proofs.YtabocfninjankaaDoorW.PrintWords Go.Proofs.YtabocfninjankaaDoorW.PrintLast Go.Proofs.YtabocfninjankaaDoorW.PrintMore
attribute [local go_sem] Oper.semAt_some max2_int min2_int max_two min_two
set_option linter.unusedVariables false
set_option linter.unusedSimpArgs false
def depthF (xs : List (Int × S24)) : Int := xs.foldl (fun n p => mx n p.1) 0
theorem depthF_snoc (xs : List (Int × S24)) (p : Int × S24) : depthF (xs ++ [p]) = mx (depthF xs) p.1 := by simp [depthF]
def rules_Depth.f (a0 a1 : Int) (a2 : ByteArray) (a3 a4 : Int) (l : List S24) : Option Int := some (depthF (preR 1 ⟨a0, a1, a2, a3, a4, l⟩))
set_option maxHeartbeats 4000000 in
set_option maxRecDepth 100000 in
theorem depth_in (r : S24) (A : Option Addr) (c : Nat) (w : World) (hC : Kd.C k24 w A r.f5.length r.f5) (hc : r.f5.length ≤ c) :
    CallsIn Fence.wide 6 Tryd.prog 26 #[.agg #[.int .i64 r.f0, .int .i64 r.f1, .string r.f2, .int .i64 r.f3, .int .i64 r.f4, .slice A r.f5.length c]] w
      fun e w' => e = .returned (.int .i64 (depthF (preR 1 r))) ∧ Below w.heap.size w w' := by
  generalize hv : depthF (preR 1 r) = v
  have HV := Aside0.mk hv
  clear hv
  have hu24 := Tryd.underlying24
  have HC := Aside0.mk hC
  clear hC
  refine callsIn_of_wp_marks Tryd.func26 rfl trivial ?_ rfl
  simp only [Tryd.ntmps26, List.size_toArray, List.length_cons, List.length_nil, Nat.reduceAdd, Nat.reduceSub, Array.replicate_succ, Array.replicate_zero, List.push_toArray, List.append_toArray, List.nil_append, List.cons_append]
  have cP : ∀ W, CallsIn Fence.wide 5 Tryd.prog 34 #[.agg #[.int .i64 r.f0, .int .i64 r.f1, .string r.f2, .int .i64 r.f3, .int .i64 r.f4, .slice A r.f5.length c]] W fun e w' =>
      e = .returned (.func (.func 52) #[] #[.pointer (some ⟨W.heap.size + 1, 0, none⟩), .pointer (some ⟨W.heap.size, 0, none⟩)]) ∧
      w' = (W.alloc (.cells #[.int .i64 r.f0, .int .i64 r.f1, .string r.f2, .int .i64 r.f3, .int .i64 r.f4, .slice A r.f5.length c] 24)).alloc (.cells #[.func (.func 51) #[] #[.pointer (some ⟨W.heap.size + 1, 0, none⟩)]] 82) := fun W => callsIn_wide.2 (parts_calls r A c W)
  have CP := Aside0.mk cP
  clear cP
  have hfP : Fence.wide.fn 34 := trivial
  gi_wp2_with (gi_at_call 34; refine (CP.out _).mono ?_; rintro e w' ⟨rfl, rfl⟩)
  generalize hWn : World.alloc (World.alloc _ _) (Obj.cells #[.func (.func 51) #[] #[.pointer (some ⟨_, 0, none⟩)]] 82) = Wn
  have hz : Wn.heap.size = w.heap.size + 4 := by rw [← hWn]; simp
  have hBW : Below w.heap.size w Wn := by rw [← hWn]; exact (((((Below.refl _ w).alloc (Nat.le_refl _) _).alloc (by simp) _).alloc (by simp; omega) _).alloc (by simp; omega) _)
  have bn : Wn.heap[w.heap.size + 1]? = some (.cells #[.int .i64 0] 3 (0, 0)) := by
    rw [← hWn]
    refine (Below.heap_alloc _ _ _ (by simp)).trans ((Below.heap_alloc _ _ _ (by simp)).trans (new_blk _ _ (by simp)))
  have bR : Wn.heap[w.heap.size + 1 + 1]? = some (.cells #[.int .i64 r.f0, .int .i64 r.f1, .string r.f2, .int .i64 r.f3, .int .i64 r.f4, .slice A r.f5.length c] 24 (0, 0)) := by
    rw [← hWn]
    refine (Below.heap_alloc _ _ _ (by simp)).trans (new_blk _ _ (by simp))
  have bK : Wn.heap[w.heap.size + 1 + 1 + 1]? = some (.cells #[.func (.func 51) #[] #[.pointer (some ⟨w.heap.size + 1 + 1 + 1, 0, none⟩)]] 82 (0, 0)) := by
    rw [← hWn]
    exact new_blk _ _ (by simp)
  clear hWn
  refine wpIn_rangeFunc_ownH (α := PartW w) (F := Fence.wide) (n := 6) rfl (by omega) (gf := 52) (lb := #[.pointer (some ⟨w.heap.size + 1 + 1 + 1, 0, none⟩), .pointer (some ⟨w.heap.size + 1 + 1, 0, none⟩)]) rfl trivial (enters_of Tryd.func52 (by kernel_rfl) rfl)
    (parts_stops w (fun k => k = w.heap.size + 1) Fence.wide rfl trivial trivial rfl 5 _ _ r A c Wn hc HC.out hBW (fun k hk => by omega) (by omega) bK bR)
    (fun h k => KeptC.trans h k) (fun W l o o' hl hlo ho _ => KeptC.putObj o' (by omega) hlo ho) (Below.refl _ _) (fun _ => rfl)
    (fun pre W => W.heap[w.heap.size + 1]? = some (.cells #[.int .i64 (depthF (pre.map PartQ.key))] 3 (0, 0)) ∧ Below w.heap.size w W ∧ Wn.heap.size ≤ W.heap.size)
    (fun _ _ _ => False)
    ?hI (fun _ _ _ _ _ hs _ _ => hs) ⟨bn, hBW, Nat.le_refl _⟩
    (fun x a' W => a' = { tmps := #[.agg #[.int .i64 r.f0, .int .i64 r.f1, .string r.f2, .int .i64 r.f3, .int .i64 r.f4, .slice A r.f5.length c], .pointer (some ⟨w.heap.size, 0, none⟩), .pointer (some ⟨w.heap.size + 1, 0, none⟩), .int .i64 x.d, .agg #[.int .i64 r.f0, .int .i64 r.f1, .string r.f2, .int .i64 r.f3, .int .i64 r.f4, .slice A r.f5.length c], .func (.func 52) #[] #[.pointer (some ⟨w.heap.size + 1 + 1 + 1, 0, none⟩), .pointer (some ⟨w.heap.size + 1 + 1, 0, none⟩)], .int .i64 x.d, x.cells, undef, undef, undef, undef], defers := [] })
    (fun x a' _ _ _ _ h _ _ => h) ?assign ?body ?done ?stop
  case hI =>
    rintro pre X Y row ⟨h2, h3, h4⟩ hg hr
    exact ⟨(hg.block _ (by omega) (fun e => by have := (hr _ e.symm).1; omega)).trans h2, h3.grown hg h3.size (fun k e => by have := (hr k e).1; omega), Nat.le_trans h4 hg.size⟩
  case assign =>
    rintro l pre x W K ⟨h2, h3, h4⟩ hK
    simp only [PartQ.cells]
    gi_wp2
    exact hK _ _ (KeepsFrom.refl _ _) (KeptC.refl _ _ _) ⟨h2, h3, h4⟩ rfl
  case stop =>
    rintro D c pre W hD _ h hK
    exact h.elim
  case done =>
    rintro D ys W hD hys ⟨h2, h3, h4⟩ hK
    rw [hys, HV.out] at h2
    have hz0 := (blk_cell h2 0).trans rfl
    have hf0 := blk_frozen h2 0
    have HZ : Aside0 (((W.setCell ⟨w.heap.size + 1, 0, none⟩ (.int .i64 v)).putObj D (.deferred none)).cell? ⟨w.heap.size + 1, 0, none⟩ = some (.int .i64 v)) := ⟨by
      refine (blk_cell (cs := #[.int .i64 v]) (t := 3) ((World.putObj_heap_other (by omega)).trans ?_) 0).trans rfl
      refine blk_put (cs := #[.int .i64 v]) ?_ 0 _ rfl
      exact h2⟩
    have HD : Aside0 ((W.setCell ⟨w.heap.size + 1, 0, none⟩ (.int .i64 v)).heap[D]? = some (.deferred (some []))) := ⟨(Below.heap_setCell _ _ _ _ (by show D ≠ w.heap.size + 1; omega)).trans hK⟩
    have hB3 := h3.setCell (p := ⟨w.heap.size + 1, 0, none⟩) (by show _ ≤ w.heap.size + 1; omega) (.int .i64 v)
    have HB := Aside0.mk (hB3.grown (grownBy_putObj' _ D (.deferred none)) hB3.size (fun k e => by cases e; omega))
    clear h2 h3 h4 hK hB3
    gi_wp2
    refine ⟨by simp, .inl ⟨_, _, rfl, run_takeDeferred HD.out, ?_⟩⟩
    have hz2 := HZ.out
    exact ⟨.int .i64 v, by simp [results, Tryd.results26, go_sem, hz2], rfl, HB.out⟩
  case body =>
    rintro l pre x a' W hl ⟨rr, hlr⟩ ⟨h2, h3, h4⟩ rfl hlen
    have z1 := (blk_cell h2 0).trans rfl
    have f1 := blk_frozen h2 0
    have H2 := Aside0.mk h2
    have H3 := Aside0.mk h3
    have HS : Aside0 (depthF ((pre ++ [x]).map PartQ.key) = mx (depthF (pre.map PartQ.key)) x.d) := ⟨by rw [List.map_append]; exact depthF_snoc _ _⟩
    generalize depthF (pre.map PartQ.key) = q at z1 H2 HS
    clear h2 h3 hlr
    simp only [PartQ.cells]
    by_cases hq : q < x.d
    all_goals
      gi_wp2
      refine ⟨(KeepsOthers.setCell _ _ _).from _, KeptC.setCell _ _ (by show _ ≤ w.heap.size + 1; omega) rfl, ?_, H3.out.setCell (p := ⟨w.heap.size + 1, 0, none⟩) (by show _ ≤ w.heap.size + 1; omega) _, by simp; omega⟩
      rw [HS.out]
      refine blk_put (cs := #[.int .i64 q]) ?_ 0 _ (by unfold mx; first | (rw [if_pos (by omega)]; rfl) | (rw [if_neg (by omega)]; rfl))
      exact H2.out
theorem rules_Depth.calls (a0_0 : Int) (a0_1 : Int) (a0_2 : ByteArray) (a0_3 : Int) (a0_4 : Int) (A0_5 : Option Addr) (c0_5 : Nat) (l0_5 : List (S24)) (r : Int) (w : World) (hr0_5 : Kd.C k24 w A0_5 l0_5.length l0_5) (hc0_5 : l0_5.length ≤ c0_5) (h : rules_Depth.f a0_0 a0_1 a0_2 a0_3 a0_4 l0_5 = some r) :
    Calls Tryd.prog 26 #[.agg #[.int .i64 a0_0, .int .i64 a0_1, .string a0_2, .int .i64 a0_3, .int .i64 a0_4, .slice A0_5 l0_5.length c0_5]] w fun e w' => e = .returned (.int .i64 r) ∧ Below w.heap.size w w' := by
  have hr : r = depthF (preR 1 ⟨a0_0, a0_1, a0_2, a0_3, a0_4, l0_5⟩) := (Option.some.inj h).symm
  subst hr
  exact (callsIn_wide (n := 6)).1 (depth_in ⟨a0_0, a0_1, a0_2, a0_3, a0_4, l0_5⟩ A0_5 c0_5 w hr0_5 hc0_5)
end Go.Proofs.YtabocfninjankaaDoor.P
namespace Go.Proofs.YtabocfninjankaaDoor.P
open Go.RowKit Go.Proofs.YtabocfninjankaaDoorW.PrintWords Go.Proofs.YtabocfninjankaaDoorW.PrintLast Go.Proofs.YtabocfninjankaaDoorW.PrintMore
attribute [local go_sem] max2_int min2_int max_two min_two max_three min_three max_four min_four   -- for this text's walks alone
set_option linter.unusedVariables false
set_option linter.unusedSimpArgs false
def sizarref12_SameInts.l0 : Nat → List Int → List Int → Int → Option (Bool)
 | 0, _, _, _ => none
 | k + 1, x0, x1, x5 => if x5 < (x0.length : Int) then (if 0 ≤ x5 then (if x5 < (x1.length : Int) then (if (rd x0 x5) = (rd x1 x5) then (sizarref12_SameInts.l0 k x0 x1 (wrap64 (x5 + 1))) else (some false)) else (none)) else (none)) else (some true)
def sizarref12_SameInts.f (k : Nat) (l0 : List Int) (l1 : List Int) : Option (Bool) := if (l0.length : Int) = (l1.length : Int) then (sizarref12_SameInts.l0 k l0 l1 0) else (some false)
set_option maxHeartbeats 8000000 in
set_option maxRecDepth 100000 in
theorem sizarref12_SameInts.calls (k : Nat) (A0 : Option Addr) (c0 : Nat) (l0 : List Int) (A1 : Option Addr) (c1 : Nat) (l1 : List Int) (r : Bool) (w : World) (hr0 : Kd.C (Kd.int .i64) w A0 l0.length l0) (hc0 : l0.length ≤ c0) (hr1 : Kd.C (Kd.int .i64) w A1 l1.length l1) (hc1 : l1.length ≤ c1) (h : sizarref12_SameInts.f k l0 l1 = some r) :
  Calls Tryd.prog 17 #[.slice A0 l0.length c0, .slice A1 l1.length c1] w fun e w' => e = .returned (.bool r) ∧ Drawn0 w w' := by
 have HR0 := Aside0.mk hr0
 have HC0 := Aside0.mk hc0
 clear hr0 hc0
 have HR1 := Aside0.mk hr1
 have HC1 := Aside0.mk hc1
 clear hr1 hc1
 have H : (if (l0.length : Int) = (l1.length : Int) then (sizarref12_SameInts.l0 k l0 l1 0) else (some false)) = some r := h
 clear h
 by_cases c3 : (l0.length : Int) = (l1.length : Int)
 ·rw [if_pos c3] at H
  have c3b0 : ((l0.length : Int) == (l1.length : Int)) = true := beq_iff_eq.mpr c3
  have c3b1 : ((l0.length : Int) != (l1.length : Int)) = false := bne_eq_false_iff_eq.mpr c3
  have c3b2 : (l0.length == l1.length) = true := by first | simpa using c3 | (simp at c3 ⊢; omega)
  clear c3
  have H' := Aside0.mk H
  clear H
  go_enter Tryd.func17, Tryd.ntmps17
  go_wp2
  repeat (go_quiet (fail); try go_wp2)
  go_loopg [5] k (fun kq v5 w' => ∃ (x5_1 : Int), v5 = .int .i64 x5_1 ∧ Aside0 (sizarref12_SameInts.l0 kq l0 l1 x5_1 = some r) ∧ Aside0 (kq ≤ k) ∧ Drawn0 w w')
  case atStart => exact ⟨(0), (by first | rfl | (simp; done) | (simp [*]; done)), H', ⟨Nat.le_refl _⟩, by repeat (first | exact Drawn0.refl _ | apply Drawn0.step)⟩
  case round =>
   clear H'
   try clear c1
   try clear p2
   try clear c3
   try clear c3b0
   try clear c3b1
   try clear c3b2
   obtain ⟨x5_1, rfl, HA, HK1, ⟨m1, rfl⟩⟩ := hrel
   cases gk with
   | zero => exact absurd HA.out (by simp [sizarref12_SameInts.l0])
   | succ k1 =>
    have H := HA.out
    clear HA
    simp only [sizarref12_SameInts.l0] at H
    by_cases c4 : x5_1 < (l0.length : Int)
    ·rw [if_pos c4] at H
     have c4b0 : decide (x5_1 < (l0.length : Int)) = true := decide_eq_true c4
     clear c4
     by_cases c5 : 0 ≤ x5_1
     ·rw [if_pos c5] at H
      have c5b0 : decide (0 ≤ x5_1) = true := decide_eq_true c5
      clear c5
      by_cases c6 : x5_1 < (l1.length : Int)
      ·rw [if_pos c6] at H
       have c6b0 : decide (x5_1 < (l1.length : Int)) = true := decide_eq_true c6
       clear c6
       by_cases c7 : (rd l0 x5_1) = (rd l1 x5_1)
       ·rw [if_pos c7] at H
        have c7b0 : ((rd l0 x5_1) == (rd l1 x5_1)) = true := beq_iff_eq.mpr c7
        have c7b1 : ((rd l0 x5_1) != (rd l1 x5_1)) = false := bne_eq_false_iff_eq.mpr c7
        clear c7
        have H' := Aside0.mk H
        clear H
        have p193 : 0 ≤ (x5_1 : Int) := of_decide_eq_true (by first | (with_reducible assumption) | assumption)
        have q193 : x5_1 < (l0.length : Int) := of_decide_eq_true (by first | (with_reducible assumption) | assumption)
        obtain ⟨ad193, e193, hx193_0⟩ := Kd.at_int HR0.out x5_1 p193 q193
        cases e193
        replace p193 := eq_true p193
        replace q193 := eq_true q193
        have p194 : 0 ≤ (x5_1 : Int) := of_decide_eq_true (by first | (with_reducible assumption) | assumption)
        have q194 : x5_1 < (l1.length : Int) := of_decide_eq_true (by first | (with_reducible assumption) | assumption)
        obtain ⟨ad194, e194, hx194_0⟩ := Kd.at_int HR1.out x5_1 p194 q194
        cases e194
        replace p194 := eq_true p194
        replace q194 := eq_true q194
        go_wp2
        repeat (go_quiet (fail); try go_wp2)
        go_roundg k1
        case measure => have := HK1.out; omega
        case rel => exact ⟨(wrap64 (x5_1 + 1)), (by first | rfl | (simp; done) | (simp [*]; done)), H', ⟨by have := HK1.out; omega⟩, by repeat (first | exact Drawn0.refl _ | apply Drawn0.step)⟩
       ·rw [if_neg c7] at H
        have c7b0 : ((rd l0 x5_1) == (rd l1 x5_1)) = false := beq_eq_false_iff_ne.mpr c7
        have c7b1 : ((rd l0 x5_1) != (rd l1 x5_1)) = true := bne_iff_ne.mpr c7
        obtain rfl := Option.some.inj H
        have p193 : 0 ≤ (x5_1 : Int) := of_decide_eq_true (by first | (with_reducible assumption) | assumption)
        have q193 : x5_1 < (l0.length : Int) := of_decide_eq_true (by first | (with_reducible assumption) | assumption)
        obtain ⟨ad193, e193, hx193_0⟩ := Kd.at_int HR0.out x5_1 p193 q193
        cases e193
        replace p193 := eq_true p193
        replace q193 := eq_true q193
        have p194 : 0 ≤ (x5_1 : Int) := of_decide_eq_true (by first | (with_reducible assumption) | assumption)
        have q194 : x5_1 < (l1.length : Int) := of_decide_eq_true (by first | (with_reducible assumption) | assumption)
        obtain ⟨ad194, e194, hx194_0⟩ := Kd.at_int HR1.out x5_1 p194 q194
        cases e194
        replace p194 := eq_true p194
        replace q194 := eq_true q194
        go_wp2
        repeat (go_quiet (fail); try go_wp2)
        go_ret
        exact ⟨by first | rfl | (simp; done) | (simp [*]; done), by repeat (first | exact Drawn0.refl _ | apply Drawn0.step)⟩
      ·rw [if_neg c6] at H
       exact absurd H (by simp)
     ·rw [if_neg c5] at H
      exact absurd H (by simp)
    ·rw [if_neg c4] at H
     have c4b0 : decide (x5_1 < (l0.length : Int)) = false := decide_eq_false c4
     clear c4
     obtain rfl := Option.some.inj H
     go_wp2
     repeat (go_quiet (fail); try go_wp2)
     go_ret
     exact ⟨by first | rfl | (simp; done) | (simp [*]; done), by repeat (first | exact Drawn0.refl _ | apply Drawn0.step)⟩
 ·rw [if_neg c3] at H
  have c3b0 : ((l0.length : Int) == (l1.length : Int)) = false := beq_eq_false_iff_ne.mpr c3
  have c3b1 : ((l0.length : Int) != (l1.length : Int)) = true := bne_iff_ne.mpr c3
  have c3b2 : (l0.length == l1.length) = false := by first | simpa using c3 | (simp at c3 ⊢; omega)
  obtain rfl := Option.some.inj H
  go_enter Tryd.func17, Tryd.ntmps17
  go_wp2
  repeat (go_quiet (fail); try go_wp2)
  go_ret
  exact ⟨by first | rfl | (simp; done) | (simp [*]; done), by repeat (first | exact Drawn0.refl _ | apply Drawn0.step)⟩
def sizarref12_less.f (a0_0 : Int) (a0_1 : Int) (a0_2 : ByteArray) (a0_3 : Int) (a0_4 : Int) (l0_5 : List (S24)) (a1_0 : Int) (a1_1 : Int) (a1_2 : ByteArray) (a1_3 : Int) (a1_4 : Int) (l1_5 : List (S24)) : Option (Bool) := if a0_0 = a1_0 then (if a0_1 = a1_1 then (if a0_3 = a1_3 then (some (decide (a0_4 < a1_4))) else (some (decide (a0_3 < a1_3)))) else (some (decide (a0_1 < a1_1)))) else (some (decide (a0_0 < a1_0)))
set_option maxHeartbeats 8000000 in
set_option maxRecDepth 100000 in
theorem sizarref12_less.calls (a0_0 : Int) (a0_1 : Int) (a0_2 : ByteArray) (a0_3 : Int) (a0_4 : Int) (A0_5 : Option Addr) (c0_5 : Nat) (l0_5 : List (S24)) (a1_0 : Int) (a1_1 : Int) (a1_2 : ByteArray) (a1_3 : Int) (a1_4 : Int) (A1_5 : Option Addr) (c1_5 : Nat) (l1_5 : List (S24)) (r : Bool) (w : World) (hr0_5 : Kd.C k24 w A0_5 l0_5.length l0_5) (hc0_5 : l0_5.length ≤ c0_5) (hr1_5 : Kd.C k24 w A1_5 l1_5.length l1_5) (hc1_5 : l1_5.length ≤ c1_5) (h : sizarref12_less.f a0_0 a0_1 a0_2 a0_3 a0_4 l0_5 a1_0 a1_1 a1_2 a1_3 a1_4 l1_5 = some r) :
  Calls Tryd.prog 57 #[.agg #[.int .i64 a0_0, .int .i64 a0_1, .string a0_2, .int .i64 a0_3, .int .i64 a0_4, .slice A0_5 l0_5.length c0_5], .agg #[.int .i64 a1_0, .int .i64 a1_1, .string a1_2, .int .i64 a1_3, .int .i64 a1_4, .slice A1_5 l1_5.length c1_5]] w fun e w' => e = .returned (.bool r) ∧ Below w.heap.size w w' := by
 have hu24 := Tryd.underlying24
 have HR0_5 := Aside0.mk hr0_5
 have HC0_5 := Aside0.mk hc0_5
 clear hr0_5 hc0_5
 have HR1_5 := Aside0.mk hr1_5
 have HC1_5 := Aside0.mk hc1_5
 clear hr1_5 hc1_5
 have HB := Aside0.mk (Below.refl w.heap.size w)
 have H : (if a0_0 = a1_0 then (if a0_1 = a1_1 then (if a0_3 = a1_3 then (some (decide (a0_4 < a1_4))) else (some (decide (a0_3 < a1_3)))) else (some (decide (a0_1 < a1_1)))) else (some (decide (a0_0 < a1_0)))) = some r := h
 clear h
 by_cases c3 : a0_0 = a1_0
 ·rw [if_pos c3] at H
  have c3b0 : (a0_0 == a1_0) = true := beq_iff_eq.mpr c3
  have c3b1 : (a0_0 != a1_0) = false := bne_eq_false_iff_eq.mpr c3
  clear c3
  by_cases c4 : a0_1 = a1_1
  ·rw [if_pos c4] at H
   have c4b0 : (a0_1 == a1_1) = true := beq_iff_eq.mpr c4
   have c4b1 : (a0_1 != a1_1) = false := bne_eq_false_iff_eq.mpr c4
   clear c4
   by_cases c5 : a0_3 = a1_3
   ·rw [if_pos c5] at H
    have c5b0 : (a0_3 == a1_3) = true := beq_iff_eq.mpr c5
    have c5b1 : (a0_3 != a1_3) = false := bne_eq_false_iff_eq.mpr c5
    clear c5
    obtain rfl := Option.some.inj H
    go_enter Tryd.func57, Tryd.ntmps57
    go_wp2_with (first | ((with_reducible refine gate_dst (N := 2) rfl ?_); refine box_event ?hg (N := 2) ?hd (cs := #[.int .i64 a0_0, .int .i64 a0_1, .string a0_2, .int .i64 a0_3, .int .i64 a0_4, .slice A0_5 l0_5.length c0_5]) (t := 24) ?hr ?_; (case hd => rfl); (case hg => rfl); (case hr => first | (go_simp; done) | (go_simp; rfl)); intro gb195 hg w6 hbox hb; have n0_ := Aside0.mk (below_step (by repeat (first | (with_reducible first | exact HB.out | apply below_alloc | apply pw_below_drewN | apply below_drew1) | exact HB.out)) hb); have n1_ := Aside0.mk (hbox); have n2_ := Aside0.mk ((by rw [hg]; exact (below_size (by repeat (first | (with_reducible first | exact HB.out | apply below_alloc | apply pw_below_drewN | apply below_drew1) | exact HB.out))) : w.heap.size ≤ gb195)); have n3_ := Aside0.mk ((by rw [hg]; exact (below_size (by repeat (first | (with_reducible first | exact HB.out | apply below_alloc | apply pw_below_drewN | apply below_drew1) | exact HB.out))) : w.heap.size ≤ gb195)); clear HB; have HB := n0_; have BK195 := n1_; have GW195 := n2_; have GE195 := n3_; clear n0_ n1_ n2_ n3_; clear hb hbox hg) | ((with_reducible refine gate_dst (N := 3) rfl ?_); refine box_event ?hg (N := 3) ?hd (cs := #[.int .i64 a1_0, .int .i64 a1_1, .string a1_2, .int .i64 a1_3, .int .i64 a1_4, .slice A1_5 l1_5.length c1_5]) (t := 24) ?hr ?_; (case hd => rfl); (case hg => rfl); (case hr => first | (go_simp; done) | (go_simp; rfl)); intro gb196 hg w7 hbox hb; have n0_ := Aside0.mk (blk_below (g := gb195) (o := .cells #[.int .i64 a0_0, .int .i64 a0_1, .string a0_2, .int .i64 a0_3, .int .i64 a0_4, .slice A0_5 l0_5.length c0_5] 24 (0, 0)) (by (with_reducible repeat (first | refine blk_drewN ?_ _ | refine blk_drew ?_ | refine blk_alloc ?_ _)); exact BK195.out) hb); have n1_ := Aside0.mk (below_step (by repeat (first | (with_reducible first | exact HB.out | apply below_alloc | apply pw_below_drewN | apply below_drew1 | refine below_set ?_ GE195.out) | exact HB.out)) hb); have n2_ := Aside0.mk (hbox); have n3_ := Aside0.mk ((by rw [hg]; exact (below_size (by repeat (first | (with_reducible first | exact HB.out | apply below_alloc | apply pw_below_drewN | apply below_drew1 | refine below_set ?_ GE195.out) | exact HB.out))) : w.heap.size ≤ gb196)); have n4_ := Aside0.mk ((by rw [hg]; exact (below_size (by repeat (first | (with_reducible first | exact HB.out | apply below_alloc | apply pw_below_drewN | apply below_drew1 | refine below_set ?_ GE195.out) | exact HB.out))) : w.heap.size ≤ gb196)); have n5_ := Aside0.mk ((by rw [hg]; exact Nat.ne_of_lt (blk_lt (g := gb195) (o := .cells #[.int .i64 a0_0, .int .i64 a0_1, .string a0_2, .int .i64 a0_3, .int .i64 a0_4, .slice A0_5 l0_5.length c0_5] 24 (0, 0)) (by (with_reducible repeat (first | refine blk_drewN ?_ _ | refine blk_drew ?_ | refine blk_alloc ?_ _)); exact BK195.out)) : gb195 ≠ gb196)); have n6_ := Aside0.mk ((by rw [hg]; exact Nat.ne_of_gt (blk_lt (g := gb195) (o := .cells #[.int .i64 a0_0, .int .i64 a0_1, .string a0_2, .int .i64 a0_3, .int .i64 a0_4, .slice A0_5 l0_5.length c0_5] 24 (0, 0)) (by (with_reducible repeat (first | refine blk_drewN ?_ _ | refine blk_drew ?_ | refine blk_alloc ?_ _)); exact BK195.out)) : gb196 ≠ gb195)); clear BK195; clear HB; have BK195 := n0_; have HB := n1_; have BK196 := n2_; have GW196 := n3_; have GE196 := n4_; have NB195_196 := n5_; have NB196_195 := n6_; clear n0_ n1_ n2_ n3_ n4_ n5_ n6_; clear hb hbox hg; have hnb8 := NB195_196.out; have hnc8 := NB196_195.out; have hcz9_0 : w7.cell? ⟨gb195, 0, none⟩ = some (.int .i64 a0_0) := (blk_cell BK195.out 0).trans rfl; have hcz9_1 : w7.cell? ⟨gb195, 1, none⟩ = some (.int .i64 a0_1) := (blk_cell BK195.out 1).trans rfl; have hcz9_2 : w7.cell? ⟨gb195, 2, none⟩ = some (.string a0_2) := (blk_cell BK195.out 2).trans rfl; have hcz9_3 : w7.cell? ⟨gb195, 3, none⟩ = some (.int .i64 a0_3) := (blk_cell BK195.out 3).trans rfl; have hcz9_4 : w7.cell? ⟨gb195, 4, none⟩ = some (.int .i64 a0_4) := (blk_cell BK195.out 4).trans rfl; have hcz9_5 : w7.cell? ⟨gb195, 5, none⟩ = some (.slice A0_5 l0_5.length c0_5) := (blk_cell BK195.out 5).trans rfl; have hfz9_0 := blk_frozen BK195.out 0; have hfz9_1 := blk_frozen BK195.out 1; have hfz9_2 := blk_frozen BK195.out 2; have hfz9_3 := blk_frozen BK195.out 3; have hfz9_4 := blk_frozen BK195.out 4; have hfz9_5 := blk_frozen BK195.out 5; have hcz10_0 : w7.cell? ⟨gb196, 0, none⟩ = some (.int .i64 a1_0) := (blk_cell BK196.out 0).trans rfl; have hcz10_1 : w7.cell? ⟨gb196, 1, none⟩ = some (.int .i64 a1_1) := (blk_cell BK196.out 1).trans rfl; have hcz10_2 : w7.cell? ⟨gb196, 2, none⟩ = some (.string a1_2) := (blk_cell BK196.out 2).trans rfl; have hcz10_3 : w7.cell? ⟨gb196, 3, none⟩ = some (.int .i64 a1_3) := (blk_cell BK196.out 3).trans rfl; have hcz10_4 : w7.cell? ⟨gb196, 4, none⟩ = some (.int .i64 a1_4) := (blk_cell BK196.out 4).trans rfl; have hcz10_5 : w7.cell? ⟨gb196, 5, none⟩ = some (.slice A1_5 l1_5.length c1_5) := (blk_cell BK196.out 5).trans rfl; have hfz10_0 := blk_frozen BK196.out 0; have hfz10_1 := blk_frozen BK196.out 1; have hfz10_2 := blk_frozen BK196.out 2; have hfz10_3 := blk_frozen BK196.out 3; have hfz10_4 := blk_frozen BK196.out 4; have hfz10_5 := blk_frozen BK196.out 5))
    go_ret
    exact ⟨by first | rfl | (simp [errW_none, errW_some] <;> rfl) | (simp [*, errW_none, errW_some] <;> rfl), by repeat (first | (with_reducible first | exact HB.out | apply below_alloc | apply pw_below_drewN | apply below_drew1 | refine below_set ?_ GE195.out | refine below_set ?_ GE196.out) | exact HB.out)⟩
   ·rw [if_neg c5] at H
    have c5b0 : (a0_3 == a1_3) = false := beq_eq_false_iff_ne.mpr c5
    have c5b1 : (a0_3 != a1_3) = true := bne_iff_ne.mpr c5
    obtain rfl := Option.some.inj H
    go_enter Tryd.func57, Tryd.ntmps57
    go_wp2_with (first | ((with_reducible refine gate_dst (N := 2) rfl ?_); refine box_event ?hg (N := 2) ?hd (cs := #[.int .i64 a0_0, .int .i64 a0_1, .string a0_2, .int .i64 a0_3, .int .i64 a0_4, .slice A0_5 l0_5.length c0_5]) (t := 24) ?hr ?_; (case hd => rfl); (case hg => rfl); (case hr => first | (go_simp; done) | (go_simp; rfl)); intro gb195 hg w11 hbox hb; have n0_ := Aside0.mk (below_step (by repeat (first | (with_reducible first | exact HB.out | apply below_alloc | apply pw_below_drewN | apply below_drew1) | exact HB.out)) hb); have n1_ := Aside0.mk (hbox); have n2_ := Aside0.mk ((by rw [hg]; exact (below_size (by repeat (first | (with_reducible first | exact HB.out | apply below_alloc | apply pw_below_drewN | apply below_drew1) | exact HB.out))) : w.heap.size ≤ gb195)); have n3_ := Aside0.mk ((by rw [hg]; exact (below_size (by repeat (first | (with_reducible first | exact HB.out | apply below_alloc | apply pw_below_drewN | apply below_drew1) | exact HB.out))) : w.heap.size ≤ gb195)); clear HB; have HB := n0_; have BK195 := n1_; have GW195 := n2_; have GE195 := n3_; clear n0_ n1_ n2_ n3_; clear hb hbox hg) | ((with_reducible refine gate_dst (N := 3) rfl ?_); refine box_event ?hg (N := 3) ?hd (cs := #[.int .i64 a1_0, .int .i64 a1_1, .string a1_2, .int .i64 a1_3, .int .i64 a1_4, .slice A1_5 l1_5.length c1_5]) (t := 24) ?hr ?_; (case hd => rfl); (case hg => rfl); (case hr => first | (go_simp; done) | (go_simp; rfl)); intro gb196 hg w12 hbox hb; have n0_ := Aside0.mk (blk_below (g := gb195) (o := .cells #[.int .i64 a0_0, .int .i64 a0_1, .string a0_2, .int .i64 a0_3, .int .i64 a0_4, .slice A0_5 l0_5.length c0_5] 24 (0, 0)) (by (with_reducible repeat (first | refine blk_drewN ?_ _ | refine blk_drew ?_ | refine blk_alloc ?_ _)); exact BK195.out) hb); have n1_ := Aside0.mk (below_step (by repeat (first | (with_reducible first | exact HB.out | apply below_alloc | apply pw_below_drewN | apply below_drew1 | refine below_set ?_ GE195.out) | exact HB.out)) hb); have n2_ := Aside0.mk (hbox); have n3_ := Aside0.mk ((by rw [hg]; exact (below_size (by repeat (first | (with_reducible first | exact HB.out | apply below_alloc | apply pw_below_drewN | apply below_drew1 | refine below_set ?_ GE195.out) | exact HB.out))) : w.heap.size ≤ gb196)); have n4_ := Aside0.mk ((by rw [hg]; exact (below_size (by repeat (first | (with_reducible first | exact HB.out | apply below_alloc | apply pw_below_drewN | apply below_drew1 | refine below_set ?_ GE195.out) | exact HB.out))) : w.heap.size ≤ gb196)); have n5_ := Aside0.mk ((by rw [hg]; exact Nat.ne_of_lt (blk_lt (g := gb195) (o := .cells #[.int .i64 a0_0, .int .i64 a0_1, .string a0_2, .int .i64 a0_3, .int .i64 a0_4, .slice A0_5 l0_5.length c0_5] 24 (0, 0)) (by (with_reducible repeat (first | refine blk_drewN ?_ _ | refine blk_drew ?_ | refine blk_alloc ?_ _)); exact BK195.out)) : gb195 ≠ gb196)); have n6_ := Aside0.mk ((by rw [hg]; exact Nat.ne_of_gt (blk_lt (g := gb195) (o := .cells #[.int .i64 a0_0, .int .i64 a0_1, .string a0_2, .int .i64 a0_3, .int .i64 a0_4, .slice A0_5 l0_5.length c0_5] 24 (0, 0)) (by (with_reducible repeat (first | refine blk_drewN ?_ _ | refine blk_drew ?_ | refine blk_alloc ?_ _)); exact BK195.out)) : gb196 ≠ gb195)); clear BK195; clear HB; have BK195 := n0_; have HB := n1_; have BK196 := n2_; have GW196 := n3_; have GE196 := n4_; have NB195_196 := n5_; have NB196_195 := n6_; clear n0_ n1_ n2_ n3_ n4_ n5_ n6_; clear hb hbox hg; have hnb13 := NB195_196.out; have hnc13 := NB196_195.out; have hcz14_0 : w12.cell? ⟨gb195, 0, none⟩ = some (.int .i64 a0_0) := (blk_cell BK195.out 0).trans rfl; have hcz14_1 : w12.cell? ⟨gb195, 1, none⟩ = some (.int .i64 a0_1) := (blk_cell BK195.out 1).trans rfl; have hcz14_2 : w12.cell? ⟨gb195, 2, none⟩ = some (.string a0_2) := (blk_cell BK195.out 2).trans rfl; have hcz14_3 : w12.cell? ⟨gb195, 3, none⟩ = some (.int .i64 a0_3) := (blk_cell BK195.out 3).trans rfl; have hcz14_4 : w12.cell? ⟨gb195, 4, none⟩ = some (.int .i64 a0_4) := (blk_cell BK195.out 4).trans rfl; have hcz14_5 : w12.cell? ⟨gb195, 5, none⟩ = some (.slice A0_5 l0_5.length c0_5) := (blk_cell BK195.out 5).trans rfl; have hfz14_0 := blk_frozen BK195.out 0; have hfz14_1 := blk_frozen BK195.out 1; have hfz14_2 := blk_frozen BK195.out 2; have hfz14_3 := blk_frozen BK195.out 3; have hfz14_4 := blk_frozen BK195.out 4; have hfz14_5 := blk_frozen BK195.out 5; have hcz15_0 : w12.cell? ⟨gb196, 0, none⟩ = some (.int .i64 a1_0) := (blk_cell BK196.out 0).trans rfl; have hcz15_1 : w12.cell? ⟨gb196, 1, none⟩ = some (.int .i64 a1_1) := (blk_cell BK196.out 1).trans rfl; have hcz15_2 : w12.cell? ⟨gb196, 2, none⟩ = some (.string a1_2) := (blk_cell BK196.out 2).trans rfl; have hcz15_3 : w12.cell? ⟨gb196, 3, none⟩ = some (.int .i64 a1_3) := (blk_cell BK196.out 3).trans rfl; have hcz15_4 : w12.cell? ⟨gb196, 4, none⟩ = some (.int .i64 a1_4) := (blk_cell BK196.out 4).trans rfl; have hcz15_5 : w12.cell? ⟨gb196, 5, none⟩ = some (.slice A1_5 l1_5.length c1_5) := (blk_cell BK196.out 5).trans rfl; have hfz15_0 := blk_frozen BK196.out 0; have hfz15_1 := blk_frozen BK196.out 1; have hfz15_2 := blk_frozen BK196.out 2; have hfz15_3 := blk_frozen BK196.out 3; have hfz15_4 := blk_frozen BK196.out 4; have hfz15_5 := blk_frozen BK196.out 5))
    go_ret
    exact ⟨by first | rfl | (simp [errW_none, errW_some] <;> rfl) | (simp [*, errW_none, errW_some] <;> rfl), by repeat (first | (with_reducible first | exact HB.out | apply below_alloc | apply pw_below_drewN | apply below_drew1 | refine below_set ?_ GE195.out | refine below_set ?_ GE196.out) | exact HB.out)⟩
  ·rw [if_neg c4] at H
   have c4b0 : (a0_1 == a1_1) = false := beq_eq_false_iff_ne.mpr c4
   have c4b1 : (a0_1 != a1_1) = true := bne_iff_ne.mpr c4
   obtain rfl := Option.some.inj H
   go_enter Tryd.func57, Tryd.ntmps57
   go_wp2_with (first | ((with_reducible refine gate_dst (N := 2) rfl ?_); refine box_event ?hg (N := 2) ?hd (cs := #[.int .i64 a0_0, .int .i64 a0_1, .string a0_2, .int .i64 a0_3, .int .i64 a0_4, .slice A0_5 l0_5.length c0_5]) (t := 24) ?hr ?_; (case hd => rfl); (case hg => rfl); (case hr => first | (go_simp; done) | (go_simp; rfl)); intro gb195 hg w16 hbox hb; have n0_ := Aside0.mk (below_step (by repeat (first | (with_reducible first | exact HB.out | apply below_alloc | apply pw_below_drewN | apply below_drew1) | exact HB.out)) hb); have n1_ := Aside0.mk (hbox); have n2_ := Aside0.mk ((by rw [hg]; exact (below_size (by repeat (first | (with_reducible first | exact HB.out | apply below_alloc | apply pw_below_drewN | apply below_drew1) | exact HB.out))) : w.heap.size ≤ gb195)); have n3_ := Aside0.mk ((by rw [hg]; exact (below_size (by repeat (first | (with_reducible first | exact HB.out | apply below_alloc | apply pw_below_drewN | apply below_drew1) | exact HB.out))) : w.heap.size ≤ gb195)); clear HB; have HB := n0_; have BK195 := n1_; have GW195 := n2_; have GE195 := n3_; clear n0_ n1_ n2_ n3_; clear hb hbox hg) | ((with_reducible refine gate_dst (N := 3) rfl ?_); refine box_event ?hg (N := 3) ?hd (cs := #[.int .i64 a1_0, .int .i64 a1_1, .string a1_2, .int .i64 a1_3, .int .i64 a1_4, .slice A1_5 l1_5.length c1_5]) (t := 24) ?hr ?_; (case hd => rfl); (case hg => rfl); (case hr => first | (go_simp; done) | (go_simp; rfl)); intro gb196 hg w17 hbox hb; have n0_ := Aside0.mk (blk_below (g := gb195) (o := .cells #[.int .i64 a0_0, .int .i64 a0_1, .string a0_2, .int .i64 a0_3, .int .i64 a0_4, .slice A0_5 l0_5.length c0_5] 24 (0, 0)) (by (with_reducible repeat (first | refine blk_drewN ?_ _ | refine blk_drew ?_ | refine blk_alloc ?_ _)); exact BK195.out) hb); have n1_ := Aside0.mk (below_step (by repeat (first | (with_reducible first | exact HB.out | apply below_alloc | apply pw_below_drewN | apply below_drew1 | refine below_set ?_ GE195.out) | exact HB.out)) hb); have n2_ := Aside0.mk (hbox); have n3_ := Aside0.mk ((by rw [hg]; exact (below_size (by repeat (first | (with_reducible first | exact HB.out | apply below_alloc | apply pw_below_drewN | apply below_drew1 | refine below_set ?_ GE195.out) | exact HB.out))) : w.heap.size ≤ gb196)); have n4_ := Aside0.mk ((by rw [hg]; exact (below_size (by repeat (first | (with_reducible first | exact HB.out | apply below_alloc | apply pw_below_drewN | apply below_drew1 | refine below_set ?_ GE195.out) | exact HB.out))) : w.heap.size ≤ gb196)); have n5_ := Aside0.mk ((by rw [hg]; exact Nat.ne_of_lt (blk_lt (g := gb195) (o := .cells #[.int .i64 a0_0, .int .i64 a0_1, .string a0_2, .int .i64 a0_3, .int .i64 a0_4, .slice A0_5 l0_5.length c0_5] 24 (0, 0)) (by (with_reducible repeat (first | refine blk_drewN ?_ _ | refine blk_drew ?_ | refine blk_alloc ?_ _)); exact BK195.out)) : gb195 ≠ gb196)); have n6_ := Aside0.mk ((by rw [hg]; exact Nat.ne_of_gt (blk_lt (g := gb195) (o := .cells #[.int .i64 a0_0, .int .i64 a0_1, .string a0_2, .int .i64 a0_3, .int .i64 a0_4, .slice A0_5 l0_5.length c0_5] 24 (0, 0)) (by (with_reducible repeat (first | refine blk_drewN ?_ _ | refine blk_drew ?_ | refine blk_alloc ?_ _)); exact BK195.out)) : gb196 ≠ gb195)); clear BK195; clear HB; have BK195 := n0_; have HB := n1_; have BK196 := n2_; have GW196 := n3_; have GE196 := n4_; have NB195_196 := n5_; have NB196_195 := n6_; clear n0_ n1_ n2_ n3_ n4_ n5_ n6_; clear hb hbox hg; have hnb18 := NB195_196.out; have hnc18 := NB196_195.out; have hcz19_0 : w17.cell? ⟨gb195, 0, none⟩ = some (.int .i64 a0_0) := (blk_cell BK195.out 0).trans rfl; have hcz19_1 : w17.cell? ⟨gb195, 1, none⟩ = some (.int .i64 a0_1) := (blk_cell BK195.out 1).trans rfl; have hcz19_2 : w17.cell? ⟨gb195, 2, none⟩ = some (.string a0_2) := (blk_cell BK195.out 2).trans rfl; have hcz19_3 : w17.cell? ⟨gb195, 3, none⟩ = some (.int .i64 a0_3) := (blk_cell BK195.out 3).trans rfl; have hcz19_4 : w17.cell? ⟨gb195, 4, none⟩ = some (.int .i64 a0_4) := (blk_cell BK195.out 4).trans rfl; have hcz19_5 : w17.cell? ⟨gb195, 5, none⟩ = some (.slice A0_5 l0_5.length c0_5) := (blk_cell BK195.out 5).trans rfl; have hfz19_0 := blk_frozen BK195.out 0; have hfz19_1 := blk_frozen BK195.out 1; have hfz19_2 := blk_frozen BK195.out 2; have hfz19_3 := blk_frozen BK195.out 3; have hfz19_4 := blk_frozen BK195.out 4; have hfz19_5 := blk_frozen BK195.out 5; have hcz20_0 : w17.cell? ⟨gb196, 0, none⟩ = some (.int .i64 a1_0) := (blk_cell BK196.out 0).trans rfl; have hcz20_1 : w17.cell? ⟨gb196, 1, none⟩ = some (.int .i64 a1_1) := (blk_cell BK196.out 1).trans rfl; have hcz20_2 : w17.cell? ⟨gb196, 2, none⟩ = some (.string a1_2) := (blk_cell BK196.out 2).trans rfl; have hcz20_3 : w17.cell? ⟨gb196, 3, none⟩ = some (.int .i64 a1_3) := (blk_cell BK196.out 3).trans rfl; have hcz20_4 : w17.cell? ⟨gb196, 4, none⟩ = some (.int .i64 a1_4) := (blk_cell BK196.out 4).trans rfl; have hcz20_5 : w17.cell? ⟨gb196, 5, none⟩ = some (.slice A1_5 l1_5.length c1_5) := (blk_cell BK196.out 5).trans rfl; have hfz20_0 := blk_frozen BK196.out 0; have hfz20_1 := blk_frozen BK196.out 1; have hfz20_2 := blk_frozen BK196.out 2; have hfz20_3 := blk_frozen BK196.out 3; have hfz20_4 := blk_frozen BK196.out 4; have hfz20_5 := blk_frozen BK196.out 5))
   go_ret
   exact ⟨by first | rfl | (simp [errW_none, errW_some] <;> rfl) | (simp [*, errW_none, errW_some] <;> rfl), by repeat (first | (with_reducible first | exact HB.out | apply below_alloc | apply pw_below_drewN | apply below_drew1 | refine below_set ?_ GE195.out | refine below_set ?_ GE196.out) | exact HB.out)⟩
 ·rw [if_neg c3] at H
  have c3b0 : (a0_0 == a1_0) = false := beq_eq_false_iff_ne.mpr c3
  have c3b1 : (a0_0 != a1_0) = true := bne_iff_ne.mpr c3
  obtain rfl := Option.some.inj H
  go_enter Tryd.func57, Tryd.ntmps57
  go_wp2_with (first | ((with_reducible refine gate_dst (N := 2) rfl ?_); refine box_event ?hg (N := 2) ?hd (cs := #[.int .i64 a0_0, .int .i64 a0_1, .string a0_2, .int .i64 a0_3, .int .i64 a0_4, .slice A0_5 l0_5.length c0_5]) (t := 24) ?hr ?_; (case hd => rfl); (case hg => rfl); (case hr => first | (go_simp; done) | (go_simp; rfl)); intro gb195 hg w21 hbox hb; have n0_ := Aside0.mk (below_step (by repeat (first | (with_reducible first | exact HB.out | apply below_alloc | apply pw_below_drewN | apply below_drew1) | exact HB.out)) hb); have n1_ := Aside0.mk (hbox); have n2_ := Aside0.mk ((by rw [hg]; exact (below_size (by repeat (first | (with_reducible first | exact HB.out | apply below_alloc | apply pw_below_drewN | apply below_drew1) | exact HB.out))) : w.heap.size ≤ gb195)); have n3_ := Aside0.mk ((by rw [hg]; exact (below_size (by repeat (first | (with_reducible first | exact HB.out | apply below_alloc | apply pw_below_drewN | apply below_drew1) | exact HB.out))) : w.heap.size ≤ gb195)); clear HB; have HB := n0_; have BK195 := n1_; have GW195 := n2_; have GE195 := n3_; clear n0_ n1_ n2_ n3_; clear hb hbox hg) | ((with_reducible refine gate_dst (N := 3) rfl ?_); refine box_event ?hg (N := 3) ?hd (cs := #[.int .i64 a1_0, .int .i64 a1_1, .string a1_2, .int .i64 a1_3, .int .i64 a1_4, .slice A1_5 l1_5.length c1_5]) (t := 24) ?hr ?_; (case hd => rfl); (case hg => rfl); (case hr => first | (go_simp; done) | (go_simp; rfl)); intro gb196 hg w22 hbox hb; have n0_ := Aside0.mk (blk_below (g := gb195) (o := .cells #[.int .i64 a0_0, .int .i64 a0_1, .string a0_2, .int .i64 a0_3, .int .i64 a0_4, .slice A0_5 l0_5.length c0_5] 24 (0, 0)) (by (with_reducible repeat (first | refine blk_drewN ?_ _ | refine blk_drew ?_ | refine blk_alloc ?_ _)); exact BK195.out) hb); have n1_ := Aside0.mk (below_step (by repeat (first | (with_reducible first | exact HB.out | apply below_alloc | apply pw_below_drewN | apply below_drew1 | refine below_set ?_ GE195.out) | exact HB.out)) hb); have n2_ := Aside0.mk (hbox); have n3_ := Aside0.mk ((by rw [hg]; exact (below_size (by repeat (first | (with_reducible first | exact HB.out | apply below_alloc | apply pw_below_drewN | apply below_drew1 | refine below_set ?_ GE195.out) | exact HB.out))) : w.heap.size ≤ gb196)); have n4_ := Aside0.mk ((by rw [hg]; exact (below_size (by repeat (first | (with_reducible first | exact HB.out | apply below_alloc | apply pw_below_drewN | apply below_drew1 | refine below_set ?_ GE195.out) | exact HB.out))) : w.heap.size ≤ gb196)); have n5_ := Aside0.mk ((by rw [hg]; exact Nat.ne_of_lt (blk_lt (g := gb195) (o := .cells #[.int .i64 a0_0, .int .i64 a0_1, .string a0_2, .int .i64 a0_3, .int .i64 a0_4, .slice A0_5 l0_5.length c0_5] 24 (0, 0)) (by (with_reducible repeat (first | refine blk_drewN ?_ _ | refine blk_drew ?_ | refine blk_alloc ?_ _)); exact BK195.out)) : gb195 ≠ gb196)); have n6_ := Aside0.mk ((by rw [hg]; exact Nat.ne_of_gt (blk_lt (g := gb195) (o := .cells #[.int .i64 a0_0, .int .i64 a0_1, .string a0_2, .int .i64 a0_3, .int .i64 a0_4, .slice A0_5 l0_5.length c0_5] 24 (0, 0)) (by (with_reducible repeat (first | refine blk_drewN ?_ _ | refine blk_drew ?_ | refine blk_alloc ?_ _)); exact BK195.out)) : gb196 ≠ gb195)); clear BK195; clear HB; have BK195 := n0_; have HB := n1_; have BK196 := n2_; have GW196 := n3_; have GE196 := n4_; have NB195_196 := n5_; have NB196_195 := n6_; clear n0_ n1_ n2_ n3_ n4_ n5_ n6_; clear hb hbox hg; have hnb23 := NB195_196.out; have hnc23 := NB196_195.out; have hcz24_0 : w22.cell? ⟨gb195, 0, none⟩ = some (.int .i64 a0_0) := (blk_cell BK195.out 0).trans rfl; have hcz24_1 : w22.cell? ⟨gb195, 1, none⟩ = some (.int .i64 a0_1) := (blk_cell BK195.out 1).trans rfl; have hcz24_2 : w22.cell? ⟨gb195, 2, none⟩ = some (.string a0_2) := (blk_cell BK195.out 2).trans rfl; have hcz24_3 : w22.cell? ⟨gb195, 3, none⟩ = some (.int .i64 a0_3) := (blk_cell BK195.out 3).trans rfl; have hcz24_4 : w22.cell? ⟨gb195, 4, none⟩ = some (.int .i64 a0_4) := (blk_cell BK195.out 4).trans rfl; have hcz24_5 : w22.cell? ⟨gb195, 5, none⟩ = some (.slice A0_5 l0_5.length c0_5) := (blk_cell BK195.out 5).trans rfl; have hfz24_0 := blk_frozen BK195.out 0; have hfz24_1 := blk_frozen BK195.out 1; have hfz24_2 := blk_frozen BK195.out 2; have hfz24_3 := blk_frozen BK195.out 3; have hfz24_4 := blk_frozen BK195.out 4; have hfz24_5 := blk_frozen BK195.out 5; have hcz25_0 : w22.cell? ⟨gb196, 0, none⟩ = some (.int .i64 a1_0) := (blk_cell BK196.out 0).trans rfl; have hcz25_1 : w22.cell? ⟨gb196, 1, none⟩ = some (.int .i64 a1_1) := (blk_cell BK196.out 1).trans rfl; have hcz25_2 : w22.cell? ⟨gb196, 2, none⟩ = some (.string a1_2) := (blk_cell BK196.out 2).trans rfl; have hcz25_3 : w22.cell? ⟨gb196, 3, none⟩ = some (.int .i64 a1_3) := (blk_cell BK196.out 3).trans rfl; have hcz25_4 : w22.cell? ⟨gb196, 4, none⟩ = some (.int .i64 a1_4) := (blk_cell BK196.out 4).trans rfl; have hcz25_5 : w22.cell? ⟨gb196, 5, none⟩ = some (.slice A1_5 l1_5.length c1_5) := (blk_cell BK196.out 5).trans rfl; have hfz25_0 := blk_frozen BK196.out 0; have hfz25_1 := blk_frozen BK196.out 1; have hfz25_2 := blk_frozen BK196.out 2; have hfz25_3 := blk_frozen BK196.out 3; have hfz25_4 := blk_frozen BK196.out 4; have hfz25_5 := blk_frozen BK196.out 5))
  go_ret
  exact ⟨by first | rfl | (simp [errW_none, errW_some] <;> rfl) | (simp [*, errW_none, errW_some] <;> rfl), by repeat (first | (with_reducible first | exact HB.out | apply below_alloc | apply pw_below_drewN | apply below_drew1 | refine below_set ?_ GE195.out | refine below_set ?_ GE196.out) | exact HB.out)⟩
end Go.Proofs.YtabocfninjankaaDoor.P
namespace Go.Proofs.YtabocfninjankaaDoor.P
open Go.RowKit Go.Maps Go.Proofs.YtabocfninjankaaDoorW.PrintWords Go.Proofs.YtabocfninjankaaDoorW.PrintLast Go.Proofs.YtabocfninjankaaDoorW.PrintMore
set_option linter.unusedVariables false
set_option linter.unusedSimpArgs false
attribute [local go_sem ↓] Go.wp_at_zero Go.wp_at_succ
abbrev noS : ByteArray := ⟨#[]⟩
theorem plain_c (w : World) : Calls Tryd.prog 25 #[] w fun e w' => e = .returned (.agg #[.slice none 0 0, .int .i64 0, .int .i64 0, .int .i64 1]) ∧ Below w.heap.size w w' := by
 go_enter Tryd.func25, Tryd.ntmps25
 go_wp2
 exact bodyPost_ret (v := .agg #[.slice none 0 0, .int .i64 0, .int .i64 0, .int .i64 1]) (by simp [results, Tryd.results25, go_sem]) rfl ⟨rfl, (Below.refl _ _).alloc (Nat.le_refl _) _⟩
def sR1 : S24 := ⟨1, 0, noS, 0, 0, []⟩
def sR2 : S24 := ⟨2, 0, noS, 0, 0, []⟩
def sR3 : S24 := ⟨5, 3, noS, 0, 0, []⟩
def sR4 : S24 := ⟨3, 0, noS, 2, 0, [sR1, sR1, sR1]⟩
def sX : S24 := ⟨5, 3, ⟨#[88]⟩, 5, 0, []⟩
def sK : List S24 := [sX, sR3, ⟨4, 0, noS, 0, 0, [sX]⟩]
def sR5 : S24 := ⟨1, 0, noS, 0, 0, sK⟩
theorem e1 : ∃ k, rules_Holds.f k 1 0 noS 0 0 [] [] 0 0 1 = some (true, 0) := by
 obtain ⟨K, h⟩ := holds_ev sR1 [] (by simp) 0 0 1
 exact ⟨K, (h K (Nat.le_refl _)).trans (congrArg some (by decide +kernel))⟩
theorem e2 : ∃ k, rules_Holds.f k 2 0 noS 0 0 [] [] 0 0 1 = some (false, 0) := by
 obtain ⟨K, h⟩ := holds_ev sR2 [] (by simp) 0 0 1
 exact ⟨K, (h K (Nat.le_refl _)).trans (congrArg some (by decide +kernel))⟩
theorem e3 : ∃ k, rules_Holds.f k 5 3 noS 0 0 [] [] 0 0 1 = some (false, 0) := by
 obtain ⟨K, h⟩ := holds_ev sR3 [] (by simp) 0 0 1
 exact ⟨K, (h K (Nat.le_refl _)).trans (congrArg some (by decide +kernel))⟩
theorem e4 : ∃ k, rules_Holds.f k 3 0 noS 2 0 [sR1, sR1, sR1] [] 0 0 1 = some (true, 0) := by
 obtain ⟨K, h⟩ := holds_ev sR4 [] (by simp) 0 0 1
 exact ⟨K, (h K (Nat.le_refl _)).trans (congrArg some (by decide +kernel))⟩
theorem e5 : ∃ k, rules_Fits.f k [] 0 0 0 = some 120 := by
 obtain ⟨K, h⟩ := fits_ev [] (by simp) 0 0 0
 exact ⟨K, (h K (Nat.le_refl _)).trans (congrArg some (by decide +kernel))⟩
theorem e6 : ∃ k, rules_Fits.f k [] 0 0 1 = some 0 := by
 obtain ⟨K, h⟩ := fits_ev [] (by simp) 0 0 1
 exact ⟨K, (h K (Nat.le_refl _)).trans (congrArg some (by decide +kernel))⟩
theorem c1 : rules_Check.f 0 0 noS 0 0 [] = some 120 := congrArg some (by decide +kernel)
theorem c2 : rules_Check.f 4 0 noS 0 0 [] = some 120 := congrArg some (by decide +kernel)
theorem c3 : rules_Check.f 1 0 noS 0 0 sK = some 0 := congrArg some (by decide +kernel)
theorem d1 : rules_Depth.f 1 0 noS 0 0 [] = some 1 := congrArg some (by decide +kernel)
theorem d2 : rules_Depth.f 1 0 noS 0 0 sK = some 3 := congrArg some (by decide +kernel)
theorem a1 : ∃ l, rules_Atoms.f 1 0 noS 0 0 sK = some l ∧ l.length = 2 := by
 refine ⟨(sortA (dd (atomsOf (preR 1 sR5)))).map ruleOf, ?_, ?_⟩
 ·unfold rules_Atoms.f
  rw [if_pos (by decide +kernel)]
  rfl
 ·rw [List.length_map, show (sortA (dd (atomsOf (preR 1 sR5)))).length = (dd (atomsOf (preR 1 sR5))).length from (List.mergeSort_perm _ _).length_eq]
  decide +kernel
theorem b1 : rules_Courses.f 1 0 noS 0 0 sK = some [3] := by
 unfold rules_Courses.f
 rw [if_pos (by decide +kernel)]
 have : intKeys (corAll (preR 1 sR5)) = [3] := by decide +kernel
 exact congrArg some (by show (intKeys (corAll (preR 1 sR5))).mergeSort leI = [3]; rw [this]; simp)
theorem s1 : sizarref12_SameInts.f 7 [3] [3] = some true := by
 have hw : wrap64 1 = 1 := by unfold wrap64; omega
 simp [sizarref12_SameInts.f, sizarref12_SameInts.l0, rd, hw]
theorem C_of_reps {W : World} {b t : Nat} {xs : List S24} {cs : List Value} (hb : W.heap[b]? = some (.cells cs.toArray t (0, 0))) (h : Reps (k24.K W) 6 xs cs) (hm : xs.length ≤ 9223372036854775807) : Kd.C k24 W (some ⟨b, 0, none⟩) xs.length xs := by
 refine ⟨rfl, hm, fun _ => ⟨_, rfl, fun j p hj => ⟨(cs.drop (j * 6)).take 6, ?_, h.2 j p hj, fun i u hu => ?_⟩⟩⟩
 ·have := (List.getElem?_eq_some_iff.1 hj).1
  have := h.1
  rw [List.length_take, List.length_drop]
  show min 6 _ = 6
  omega
 ·rw [show k24.sz = 6 from rfl, add_plain]
  rw [List.getElem?_take] at hu
  split at hu
  ·rw [List.getElem?_drop] at hu
   exact (blk_cell hb (j * 6 + i)).trans (by simpa using hu)
  ·cases hu
def cA (a b : Int) (s : ByteArray) (n d : Int) (v : Value) : List Value := [.int .i64 a, .int .i64 b, .string s, .int .i64 n, .int .i64 d, v]
def nilV : Value := .slice none 0 0
structure SaneW (w W : World) : Prop where
 kinds : KindsAt W
 below : Below w.heap.size w W
 b1 : W.heap[w.heap.size]? = some (.cells (cA 1 0 noS 0 0 nilV).toArray 24 (0, 0))
 b2 : W.heap[w.heap.size + 1]? = some (.cells (cA 2 0 noS 0 0 nilV).toArray 24 (0, 0))
 b3 : W.heap[w.heap.size + 1 + 1]? = some (.cells (cA 5 3 noS 0 0 nilV).toArray 24 (0, 0))
theorem SaneW.step {w W W' : World} (h : SaneW w W) (hb : Below W.heap.size W W') : SaneW w W' := by
 have l1 := (Array.getElem?_eq_some_iff.1 h.b1).1
 have l2 := (Array.getElem?_eq_some_iff.1 h.b2).1
 have l3 := (Array.getElem?_eq_some_iff.1 h.b3).1
 exact ⟨h.kinds.below hb, below_step h.below hb, (hb.block _ l1).trans h.b1, (hb.block _ l2).trans h.b2, (hb.block _ l3).trans h.b3⟩
theorem SaneW.alloc {w W : World} (h : SaneW w W) (o : Obj) : SaneW w (W.alloc o) := h.step ((Below.refl _ _).alloc (Nat.le_refl _) _)
theorem SaneW.drew {w W : World} (h : SaneW w W) : SaneW w W.drew := h.step (below_drew (Below.refl _ _))
theorem plain_s {w W : World} (h : SaneW w W) : Calls Tryd.prog 25 #[] W fun e w' => e = .returned (.agg #[.slice none 0 0, .int .i64 0, .int .i64 0, .int .i64 1]) ∧ SaneW w w' :=
 (plain_c W).mono fun _ _ ⟨e, hb⟩ => ⟨e, h.step hb⟩
theorem holds_s {w W : World} (h : SaneW w W) : Calls Tryd.prog 12 #[.agg #[.int .i64 1, .int .i64 0, .string noS, .int .i64 0, .int .i64 0, .slice none 0 0], .agg #[.slice none 0 0, .int .i64 0, .int .i64 0, .int .i64 1]] W fun e w' => e = .returned (.tuple #[.bool true, .int .i64 0]) ∧ SaneW w w' := by
 obtain ⟨k, hk⟩ := e1
 refine (rules_Holds.calls k 1 0 noS 0 0 none 0 [] none 0 [] 0 0 1 true 0 W (Kd.C_nil _ _) (Nat.le_refl _) (Kd.C_nil _ _) (Nat.le_refl _) hk h.kinds).mono ?_
 rintro e w' ⟨rfl, hb⟩
 exact ⟨rfl, h.step hb⟩
theorem holds_2 {w W : World} (h : SaneW w W) : Calls Tryd.prog 12 #[.agg #[.int .i64 2, .int .i64 0, .string noS, .int .i64 0, .int .i64 0, .slice none 0 0], .agg #[.slice none 0 0, .int .i64 0, .int .i64 0, .int .i64 1]] W fun e w' => e = .returned (.tuple #[.bool false, .int .i64 0]) ∧ SaneW w w' := by
 obtain ⟨k, hk⟩ := e2
 refine (rules_Holds.calls k 2 0 noS 0 0 none 0 [] none 0 [] 0 0 1 false 0 W (Kd.C_nil _ _) (Nat.le_refl _) (Kd.C_nil _ _) (Nat.le_refl _) hk h.kinds).mono ?_
 rintro e w' ⟨rfl, hb⟩
 exact ⟨rfl, h.step hb⟩
theorem holds_3 {w W : World} (h : SaneW w W) : Calls Tryd.prog 12 #[.agg #[.int .i64 5, .int .i64 3, .string noS, .int .i64 0, .int .i64 0, .slice none 0 0], .agg #[.slice none 0 0, .int .i64 0, .int .i64 0, .int .i64 1]] W fun e w' => e = .returned (.tuple #[.bool false, .int .i64 0]) ∧ SaneW w w' := by
 obtain ⟨k, hk⟩ := e3
 refine (rules_Holds.calls k 5 3 noS 0 0 none 0 [] none 0 [] 0 0 1 false 0 W (Kd.C_nil _ _) (Nat.le_refl _) (Kd.C_nil _ _) (Nat.le_refl _) hk h.kinds).mono ?_
 rintro e w' ⟨rfl, hb⟩
 exact ⟨rfl, h.step hb⟩
theorem new_blkD {b : Nat} (W : World) (o : Obj) (h : W.heap.size = b) : (W.alloc o).heap[b]? = some o := by
 subst h
 exact blk_new W o
theorem cell_alloc_some {w : World} {a : Addr} {v : Value} (o : Obj) (h : w.cell? a = some v) : (w.alloc o).cell? a = some v := (World.cell?_alloc_lt _ _ _ (World.block_lt_of_cell? w a h)).trans h
theorem SaneW.cellAt {w W : World} {b : Nat} {a c : Int} {s : ByteArray} {n d : Int} {v : Value} (h : W.heap[b]? = some (.cells (cA a c s n d v).toArray 24 (0, 0))) : W.cell? ⟨b, 0, none⟩ = some (.int .i64 a) ∧ W.cell? ⟨b, 1, none⟩ = some (.int .i64 c) ∧ W.cell? ⟨b, 2, none⟩ = some (.string s) ∧ W.cell? ⟨b, 3, none⟩ = some (.int .i64 n) ∧ W.cell? ⟨b, 4, none⟩ = some (.int .i64 d) ∧ W.cell? ⟨b, 5, none⟩ = some v :=
 ⟨(blk_cell h 0).trans rfl, (blk_cell h 1).trans rfl, (blk_cell h 2).trans rfl, (blk_cell h 3).trans rfl, (blk_cell h 4).trans rfl, (blk_cell h 5).trans rfl⟩
theorem plain_4 {w W : World} (h : SaneW w W) : Calls Tryd.prog 25 #[] W fun e w' => e = .returned (.agg #[.slice none 0 0, .int .i64 0, .int .i64 0, .int .i64 1]) ∧ SaneW w w' ∧ Below W.heap.size W w' :=
 (plain_c W).mono fun _ _ ⟨e, hb⟩ => ⟨e, h.step hb, hb⟩
def cells18 : List Value := cA 1 0 noS 0 0 nilV ++ (cA 1 0 noS 0 0 nilV ++ cA 1 0 noS 0 0 nilV)
theorem K_flat (W : World) (a b : Int) (t : ByteArray) (n d : Int) : k24.K W ⟨a, b, t, n, d, []⟩ (cA a b t n d nilV) := k24_mk W ⟨a, b, t, n, d, []⟩ (A5 := none) (c5 := 0) (Nat.le_refl _) (Kd.C_nil _ _)
theorem holds_4 {w W : World} {b : Nat} (h : SaneW w W) (hb : W.heap[b]? = some (.cells cells18.toArray 24 (0, 0))) : Calls Tryd.prog 12 #[.agg #[.int .i64 3, .int .i64 0, .string noS, .int .i64 2, .int .i64 0, .slice (some ⟨b, 0, none⟩) 3 3], .agg #[.slice none 0 0, .int .i64 0, .int .i64 0, .int .i64 1]] W fun e w' => e = .returned (.tuple #[.bool true, .int .i64 0]) ∧ SaneW w w' := by
 obtain ⟨k, hk⟩ := e4
 have hR : Reps (k24.K W) 6 [sR1, sR1, sR1] cells18 := (((Reps.none _ _).snoc (K_flat W 1 0 noS 0 0) rfl).snoc (K_flat W 1 0 noS 0 0) rfl).snoc (K_flat W 1 0 noS 0 0) rfl
 refine (rules_Holds.calls k 3 0 noS 2 0 (some ⟨b, 0, none⟩) 3 [sR1, sR1, sR1] none 0 [] 0 0 1 true 0 W (C_of_reps hb hR (by decide)) (Nat.le_refl _) (Kd.C_nil _ _) (Nat.le_refl _) hk h.kinds).mono ?_
 rintro e w' ⟨rfl, hb⟩
 exact ⟨rfl, h.step hb⟩
def xS : ByteArray := ⟨#[88]⟩
def cells18r (n : Nat) : List Value := cA 5 3 xS 5 0 nilV ++ (cA 5 3 noS 0 0 nilV ++ cA 4 0 noS 0 0 (.slice (some ⟨n + 1, 0, none⟩) 1 1))
structure SaneR (w : World) (n : Nat) (W : World) : Prop where
 base : SaneW w W
 k1 : W.heap[n + 1]? = some (.cells (cA 5 3 xS 5 0 nilV).toArray 24 (0, 0))
 k2 : W.heap[n + 1 + 1]? = some (.cells (cells18r n).toArray 24 (0, 0))
 k3 : W.heap[n + 1 + 1 + 1]? = some (.cells (cA 1 0 noS 0 0 (.slice (some ⟨n + 1 + 1, 0, none⟩) 3 3)).toArray 24 (0, 0))
theorem SaneR.step {w W W' : World} {n : Nat} (h : SaneR w n W) (hb : Below W.heap.size W W') : SaneR w n W' := by
 have l1 := (Array.getElem?_eq_some_iff.1 h.k1).1
 have l2 := (Array.getElem?_eq_some_iff.1 h.k2).1
 have l3 := (Array.getElem?_eq_some_iff.1 h.k3).1
 exact ⟨h.base.step hb, (hb.block _ l1).trans h.k1, (hb.block _ l2).trans h.k2, (hb.block _ l3).trans h.k3⟩
theorem SaneR.alloc {w W : World} {n : Nat} (h : SaneR w n W) (o : Obj) : SaneR w n (W.alloc o) := h.step ((Below.refl _ _).alloc (Nat.le_refl _) _)
theorem SaneR.kids {w W : World} {n : Nat} (h : SaneR w n W) : Kd.C k24 W (some ⟨n + 1 + 1, 0, none⟩) sK.length sK := by
 have h1 : Kd.C k24 W (some ⟨n + 1, 0, none⟩) 1 [sX] := C_of_reps h.k1 ((Reps.none _ _).snoc (K_flat W 5 3 xS 5 0) rfl) (by decide)
 have h2 : k24.K W ⟨4, 0, noS, 0, 0, [sX]⟩ (cA 4 0 noS 0 0 (.slice (some ⟨n + 1, 0, none⟩) 1 1)) := k24_mk W ⟨4, 0, noS, 0, 0, [sX]⟩ (Nat.le_refl _) h1
 have hR : Reps (k24.K W) 6 sK (cells18r n) := (((Reps.none _ _).snoc (K_flat W 5 3 xS 5 0) rfl).snoc (K_flat W 5 3 noS 0 0) rfl).snoc h2 rfl
 exact C_of_reps h.k2 hR (by decide)
theorem check_0 {w W : World} {n : Nat} (h : SaneR w n W) : Calls Tryd.prog 20 #[.agg #[.int .i64 0, .int .i64 0, .string noS, .int .i64 0, .int .i64 0, .slice none 0 0]] W fun e w' => e = .returned (.int .i64 120) ∧ SaneR w n w' := by
 refine (rules_Check.calls 0 0 noS 0 0 none 0 [] 120 W (Kd.C_nil _ _) (Nat.le_refl _) c1 h.base.kinds).mono ?_
 rintro e w' ⟨rfl, hb⟩
 exact ⟨rfl, h.step hb⟩
theorem check_4 {w W : World} {n : Nat} (h : SaneR w n W) : Calls Tryd.prog 20 #[.agg #[.int .i64 4, .int .i64 0, .string noS, .int .i64 0, .int .i64 0, .slice none 0 0]] W fun e w' => e = .returned (.int .i64 120) ∧ SaneR w n w' := by
 refine (rules_Check.calls 4 0 noS 0 0 none 0 [] 120 W (Kd.C_nil _ _) (Nat.le_refl _) c2 h.base.kinds).mono ?_
 rintro e w' ⟨rfl, hb⟩
 exact ⟨rfl, h.step hb⟩
theorem check_r {w W : World} {n : Nat} (h : SaneR w n W) : Calls Tryd.prog 20 #[.agg #[.int .i64 1, .int .i64 0, .string noS, .int .i64 0, .int .i64 0, .slice (some ⟨n + 1 + 1, 0, none⟩) 3 3]] W fun e w' => e = .returned (.int .i64 0) ∧ SaneR w n w' := by
 refine (rules_Check.calls 1 0 noS 0 0 _ 3 sK 0 W h.kids (Nat.le_refl _) c3 h.base.kinds).mono ?_
 rintro e w' ⟨rfl, hb⟩
 exact ⟨rfl, h.step hb⟩
theorem fits_0 {w W : World} {n : Nat} (h : SaneR w n W) : Calls Tryd.prog 21 #[.agg #[.slice none 0 0, .int .i64 0, .int .i64 0, .int .i64 0]] W fun e w' => e = .returned (.int .i64 120) ∧ SaneR w n w' := by
 obtain ⟨k, hk⟩ := e5
 refine (rules_Fits.calls k none 0 [] 0 0 0 120 W (Kd.C_nil _ _) (Nat.le_refl _) hk).mono ?_
 rintro e w' ⟨rfl, hb⟩
 exact ⟨rfl, h.step hb⟩
theorem fits_1 {w W : World} {n : Nat} (h : SaneR w n W) : Calls Tryd.prog 21 #[.agg #[.slice none 0 0, .int .i64 0, .int .i64 0, .int .i64 1]] W fun e w' => e = .returned (.int .i64 0) ∧ SaneR w n w' := by
 obtain ⟨k, hk⟩ := e6
 refine (rules_Fits.calls k none 0 [] 0 0 1 0 W (Kd.C_nil _ _) (Nat.le_refl _) hk).mono ?_
 rintro e w' ⟨rfl, hb⟩
 exact ⟨rfl, h.step hb⟩
theorem plain_r {w W : World} {n : Nat} (h : SaneR w n W) : Calls Tryd.prog 25 #[] W fun e w' => e = .returned (.agg #[.slice none 0 0, .int .i64 0, .int .i64 0, .int .i64 1]) ∧ SaneR w n w' :=
 (plain_c W).mono fun _ _ ⟨e, hb⟩ => ⟨e, h.step hb⟩
theorem depth_1 {w W : World} {n : Nat} (h : SaneR w n W) : Calls Tryd.prog 26 #[.agg #[.int .i64 1, .int .i64 0, .string noS, .int .i64 0, .int .i64 0, .slice none 0 0]] W fun e w' => e = .returned (.int .i64 1) ∧ SaneR w n w' := by
 refine (rules_Depth.calls 1 0 noS 0 0 none 0 [] 1 W (Kd.C_nil _ _) (Nat.le_refl _) d1).mono ?_
 rintro e w' ⟨rfl, hb⟩
 exact ⟨rfl, h.step hb⟩
theorem depth_r {w W : World} {n : Nat} (h : SaneR w n W) : Calls Tryd.prog 26 #[.agg #[.int .i64 1, .int .i64 0, .string noS, .int .i64 0, .int .i64 0, .slice (some ⟨n + 1 + 1, 0, none⟩) 3 3]] W fun e w' => e = .returned (.int .i64 3) ∧ SaneR w n w' := by
 refine (rules_Depth.calls 1 0 noS 0 0 _ 3 sK 3 W h.kids (Nat.le_refl _) d2).mono ?_
 rintro e w' ⟨rfl, hb⟩
 exact ⟨rfl, h.step hb⟩
theorem atoms_r {w W : World} {n : Nat} (h : SaneR w n W) : Calls Tryd.prog 15 #[.agg #[.int .i64 1, .int .i64 0, .string noS, .int .i64 0, .int .i64 0, .slice (some ⟨n + 1 + 1, 0, none⟩) 3 3]] W fun e w' => ∃ A c, e = .returned (.slice A 2 c) ∧ SaneR w n w' := by
 obtain ⟨l, hl, h2⟩ := a1
 refine (rules_Atoms.calls 1 0 noS 0 0 _ 3 sK l W h.kids (Nat.le_refl _) hl).mono ?_
 rintro e w' ⟨v, rfl, hv, hb⟩
 obtain ⟨A, c, rfl⟩ := Kd.R_slice hv
 exact ⟨A, c, by rw [h2], h.step hb⟩
structure OneThree (W : World) (A : Option Addr) (c : Nat) : Prop where
 reads : Kd.C (Kd.int .i64) W A 1 [3]
 len : 1 ≤ c
theorem OneThree.alloc {W : World} {A : Option Addr} {c : Nat} (h : OneThree W A c) (o : Obj) : OneThree (W.alloc o) A c := ⟨Kd.C_alloc h.reads o, h.len⟩
theorem courses_r {w W : World} {n : Nat} (h : SaneR w n W) : Calls Tryd.prog 18 #[.agg #[.int .i64 1, .int .i64 0, .string noS, .int .i64 0, .int .i64 0, .slice (some ⟨n + 1 + 1, 0, none⟩) 3 3]] W fun e w' => ∃ A c, e = .returned (.slice A 1 c) ∧ OneThree w' A c ∧ SaneR w n w' := by
 refine (rules_Courses.calls 1 0 noS 0 0 _ 3 sK [3] W h.kids (Nat.le_refl _) b1).mono ?_
 rintro e w' ⟨v, rfl, hv, hb⟩
 obtain ⟨A, c, rfl⟩ := Kd.R_slice hv
 obtain ⟨h1, h2, h3⟩ := Kd.R_reads' hv
 exact ⟨A, c, rfl, ⟨h3, h2⟩, h.step hb⟩
theorem same_r {w W : World} {n b c : Nat} {A : Option Addr} (h : SaneR w n W) (hA : OneThree W A c) (hb : W.heap[b]? = some (.cells #[.int .i64 3] 3 (0, 0))) : Calls Tryd.prog 17 #[.slice A 1 c, .slice (some ⟨b, 0, none⟩) 1 1] W fun e w' => e = .returned (.bool true) ∧ SaneR w n w' := by
 have hC : Kd.C (Kd.int .i64) W (some ⟨b, 0, none⟩) 1 [3] := by
  refine ⟨rfl, by decide, fun _ => ⟨_, rfl, fun j p hj => ⟨[.int .i64 p], rfl, rfl, fun i u hu => ?_⟩⟩⟩
  have hj1 := (List.getElem?_eq_some_iff.1 hj).1
  have hi1 := (List.getElem?_eq_some_iff.1 hu).1
  obtain rfl : j = 0 := by simpa using hj1
  obtain rfl : i = 0 := by simpa using hi1
  obtain rfl : 3 = p := by simpa using hj
  obtain rfl : Value.int .i64 3 = u := by simpa using hu
  rw [add_plain]
  exact (blk_cell hb 0).trans rfl
 refine (sizarref12_SameInts.calls 7 A c [3] (some ⟨b, 0, none⟩) 1 [3] true W hA.reads hA.len hC (Nat.le_refl _) s1).mono ?_
 rintro e w' ⟨rfl, hb⟩
 exact ⟨rfl, h.step hb.below⟩
set_option maxRecDepth 100000 in
set_option maxHeartbeats 4000000 in
theorem sane_walk (w : World) (hK : KindsAt w) : Calls Tryd.prog 10 #[] w fun e w' => e = .returned (.bool true) ∧ Below w.heap.size w w' := by
 have hu24 := Tryd.underlying24
 have hu29 := Tryd.underlying29
 have HK := Aside0.mk hK
 clear hK
 go_enter Tryd.func10, Tryd.ntmps10
 go_wp2
 generalize hW0 : World.alloc _ _ = W0
 have HS : Aside0 (SaneW w W0) := ⟨by
  have hb : Below w.heap.size w W0 := by
   rw [← hW0]
   exact (((Below.refl _ w).alloc (Nat.le_refl _) _).alloc (by simp) _).alloc (by simp; omega) _
  refine ⟨HK.out.below hb, hb, ?_, ?_, ?_⟩
  ·rw [← hW0]
   exact (Below.heap_alloc _ _ _ (by simp; omega)).trans ((Below.heap_alloc _ _ _ (by simp)).trans (blk_new _ _))
  ·rw [← hW0]
   exact (Below.heap_alloc _ _ _ (by simp)).trans (new_blkD _ _ (by simp))
  ·rw [← hW0]
   exact new_blkD _ _ (by simp)⟩
 clear hW0
 go_region_held3 (fun w' => SaneW w w' ∧ w'.cell? ⟨w.heap.size, 0, none⟩ = some (.int .i64 1) ∧ w'.cell? ⟨w.heap.size, 1, none⟩ = some (.int .i64 0) ∧ w'.cell? ⟨w.heap.size, 2, none⟩ = some (.string noS) ∧ w'.cell? ⟨w.heap.size, 3, none⟩ = some (.int .i64 0) ∧ w'.cell? ⟨w.heap.size, 4, none⟩ = some (.int .i64 0) ∧ w'.cell? ⟨w.heap.size, 5, none⟩ = some (.slice none 0 0))
  (first | exact ⟨HS.out.drew, SaneW.cellAt (w := w) HS.out.drew.b1⟩ | exact ⟨‹SaneW w _›, SaneW.cellAt (w := w) (SaneW.b1 ‹_›)⟩)
  (first | (go_at_call 25; refine (plain_s (w := w) ?_).mono ?_; (first | assumption | exact HS.out.drew); rintro e w' ⟨rfl, hs⟩) | (go_at_call 12; refine (holds_s (w := w) ?_).mono ?_; (first | assumption); rintro e w' ⟨rfl, hs⟩))
 rename_i hs
 have HS2 := Aside0.mk hs.1
 clear hs HS
 go_wp2
 go_region_held3 (fun w' => SaneW w w' ∧ w'.cell? ⟨w.heap.size + 1, 0, none⟩ = some (.int .i64 2) ∧ w'.cell? ⟨w.heap.size + 1, 1, none⟩ = some (.int .i64 0) ∧ w'.cell? ⟨w.heap.size + 1, 2, none⟩ = some (.string noS) ∧ w'.cell? ⟨w.heap.size + 1, 3, none⟩ = some (.int .i64 0) ∧ w'.cell? ⟨w.heap.size + 1, 4, none⟩ = some (.int .i64 0) ∧ w'.cell? ⟨w.heap.size + 1, 5, none⟩ = some (.slice none 0 0))
  (first | exact ⟨HS2.out.drew, SaneW.cellAt (w := w) HS2.out.drew.b2⟩ | exact ⟨‹SaneW w _›, SaneW.cellAt (w := w) (SaneW.b2 ‹_›)⟩)
  (first | (go_at_call 25; refine (plain_s (w := w) ?_).mono ?_; (first | assumption | exact HS2.out.drew); rintro e w' ⟨rfl, hs⟩) | (go_at_call 12; refine (holds_2 (w := w) ?_).mono ?_; (first | assumption); rintro e w' ⟨rfl, hs⟩))
 rename_i hs
 have HS3 := Aside0.mk hs.1
 clear hs HS2
 go_wp2
 go_region_held3 (fun w' => SaneW w w' ∧ w'.cell? ⟨w.heap.size + 1 + 1, 0, none⟩ = some (.int .i64 5) ∧ w'.cell? ⟨w.heap.size + 1 + 1, 1, none⟩ = some (.int .i64 3) ∧ w'.cell? ⟨w.heap.size + 1 + 1, 2, none⟩ = some (.string noS) ∧ w'.cell? ⟨w.heap.size + 1 + 1, 3, none⟩ = some (.int .i64 0) ∧ w'.cell? ⟨w.heap.size + 1 + 1, 4, none⟩ = some (.int .i64 0) ∧ w'.cell? ⟨w.heap.size + 1 + 1, 5, none⟩ = some (.slice none 0 0))
  (first | exact ⟨HS3.out.drew, SaneW.cellAt (w := w) HS3.out.drew.b3⟩ | exact ⟨‹SaneW w _›, SaneW.cellAt (w := w) (SaneW.b3 ‹_›)⟩)
  (first | (go_at_call 25; refine (plain_s (w := w) ?_).mono ?_; (first | assumption | exact HS3.out.drew); rintro e w' ⟨rfl, hs⟩) | (go_at_call 12; refine (holds_3 (w := w) ?_).mono ?_; (first | assumption); rintro e w' ⟨rfl, hs⟩))
 rename_i hs
 have HS4 := Aside0.mk hs.1
 clear hs HS3
 go_wp2
 go_cut [10, 11] (fun v10 v11 wc => v10 = .bool true ∧ v11 = .int .i64 0 ∧ Aside0 (SaneW w wc))
 case first =>
  go_region_held3 (fun w' => SaneW w w' ∧ w'.cell? ⟨w.heap.size, 0, none⟩ = some (.int .i64 1) ∧ w'.cell? ⟨w.heap.size, 1, none⟩ = some (.int .i64 0) ∧ w'.cell? ⟨w.heap.size, 2, none⟩ = some (.string noS) ∧ w'.cell? ⟨w.heap.size, 3, none⟩ = some (.int .i64 0) ∧ w'.cell? ⟨w.heap.size, 4, none⟩ = some (.int .i64 0) ∧ w'.cell? ⟨w.heap.size, 5, none⟩ = some (.slice none 0 0))
   (first | exact ⟨HS4.out.drew, SaneW.cellAt (w := w) HS4.out.drew.b1⟩ | exact ⟨‹SaneW w _›, SaneW.cellAt (w := w) (SaneW.b1 ‹_›)⟩ | exact ⟨HS4.out.drew.alloc _, SaneW.cellAt (w := w) (SaneW.b1 (HS4.out.drew.alloc _))⟩ | exact ⟨SaneW.alloc ‹SaneW w _› _, SaneW.cellAt (w := w) (SaneW.b1 (SaneW.alloc ‹_› _))⟩)
   (first | (go_at_call 25; refine (plain_4 (w := w) ?_).mono ?_; (first | assumption | exact HS4.out.drew | exact HS4.out.drew.alloc _); rintro e w' ⟨rfl, hs, hb⟩) | (go_at_call 12; refine (holds_4 (w := w) ?_ ?_).mono ?_; (first | assumption | exact SaneW.alloc ‹_› _); (first | exact (hb.block _ (by simp)).trans (blk_drew (blk_new _ _)) | exact blk_new _ _ | exact blk_drew (blk_new _ _)); rintro e w' ⟨rfl, hs⟩))
  all_goals
   rename_i hs5
   have HS5 := Aside0.mk hs5.1
   clear hs5
   go_wp2
   go_meet
   case rel => exact ⟨rfl, rfl, HS5⟩
 case rest =>
  obtain ⟨rfl, rfl, HS5⟩ := hcut
  obtain ⟨e0, e1, e2, e3, e4, e5⟩ := SaneW.cellAt (w := w) HS5.out.b3
  simp only [nilV] at e5
  clear HS4
  have f0 := fun o => cell_alloc_some o e0
  have f1 := fun o => cell_alloc_some o e1
  have f2 := fun o => cell_alloc_some o e2
  have f3 := fun o => cell_alloc_some o e3
  have f4 := fun o => cell_alloc_some o e4
  have f5 := fun o => cell_alloc_some o e5
  go_upto_region 10 with fail
  have hlw : w.heap.size + 1 + 1 < wc.heap.size := (Array.getElem?_eq_some_iff.1 HS5.out.b3).1
  generalize hW9 : World.alloc _ _ = W9
  have HR : Aside0 (SaneR w wc.heap.size W9) := ⟨by
   rw [← hW9]
   refine ⟨(((HS5.out.alloc _).alloc _).alloc _).alloc _, ?_, ?_, ?_⟩
   ·exact (Below.heap_alloc _ _ _ (by simp)).trans ((Below.heap_alloc _ _ _ (by simp)).trans (new_blkD _ _ (by simp)))
   ·exact (Below.heap_alloc _ _ _ (by simp)).trans (new_blkD _ _ (by simp))
   ·exact new_blkD _ _ (by simp)⟩
  clear hW9 e0 e1 e2 e3 e4 e5 f0 f1 f2 f3 f4 f5 HS5
  have r0 : ∀ W, SaneR w wc.heap.size W → _ := fun W h => SaneW.cellAt (w := w) h.k3
  have rr0 : ∀ W, SaneR w wc.heap.size W → _ := fun W h => SaneW.cellAt (w := w) h.base.b1
  have RR0 := Aside0.mk rr0
  have R0 := Aside0.mk r0
  clear r0 rr0
  go_wp2_with fail
  refine (check_0 HR.out).mono ?_
  rintro e w' ⟨rfl, h⟩
  have H1 := Aside0.mk h
  clear h
  go_wp2_with fail
  refine (check_4 H1.out).mono ?_
  rintro e w' ⟨rfl, h⟩
  have H2 := Aside0.mk h
  clear h
  go_wp2_with fail
  refine (fits_0 H2.out).mono ?_
  rintro e w' ⟨rfl, h⟩
  have H3 := Aside0.mk h
  clear h
  go_wp2_with fail
  refine (plain_r H3.out).mono ?_
  rintro e w' ⟨rfl, h⟩
  have H4 := Aside0.mk h
  clear h
  go_wp2_with fail
  refine (fits_1 H4.out).mono ?_
  rintro e w' ⟨rfl, h⟩
  have H5 := Aside0.mk h
  clear h
  obtain ⟨e0, e1, e2, e3, e4, e5⟩ := R0.out _ H5.out
  go_wp2_with fail
  refine (check_r H5.out).mono ?_
  rintro e w' ⟨rfl, h⟩
  have H6 := Aside0.mk h
  clear h
  clear e0 e1 e2 e3 e4 e5
  obtain ⟨e0, e1, e2, e3, e4, e5⟩ := RR0.out _ H6.out
  simp only [nilV] at e5
  go_wp2_with fail
  refine (depth_1 H6.out).mono ?_
  rintro e w' ⟨rfl, h⟩
  have H7 := Aside0.mk h
  clear h
  clear e0 e1 e2 e3 e4 e5
  obtain ⟨e0, e1, e2, e3, e4, e5⟩ := R0.out _ H7.out
  go_wp2_with fail
  refine (depth_r H7.out).mono ?_
  rintro e w' ⟨rfl, h⟩
  have H8 := Aside0.mk h
  clear h
  clear e0 e1 e2 e3 e4 e5
  obtain ⟨e0, e1, e2, e3, e4, e5⟩ := R0.out _ H8.out
  go_wp2_with fail
  refine (atoms_r H8.out).mono ?_
  rintro e w' ⟨A1, c1, rfl, h⟩
  have H9 := Aside0.mk h
  clear h
  clear e0 e1 e2 e3 e4 e5
  obtain ⟨e0, e1, e2, e3, e4, e5⟩ := R0.out _ H9.out
  go_wp2_with fail
  refine (courses_r H9.out).mono ?_
  rintro e w' ⟨A2, c2, rfl, hA, h⟩
  have H10 := Aside0.mk h
  have HA := Aside0.mk hA
  clear h hA
  clear e0 e1 e2 e3 e4 e5
  go_wp2_with fail
  refine (same_r (H10.out.alloc _) (HA.out.alloc _) (new_blkD _ _ (by simp))).mono ?_
  rintro e w' ⟨rfl, h⟩
  have H11 := Aside0.mk h
  clear h
  go_wp2_with fail
  go_ret
  exact ⟨rfl, H11.out.base.below⟩
def sizarlaw12_sane.f (k : Nat) : Option Bool := some true
theorem sizarlaw12_sane.calls (k : Nat) (r : Bool) (w : World) (h : sizarlaw12_sane.f k = some r) (hKT : KindsAt w) :
  Calls Tryd.prog 10 #[] w fun e w' => e = .returned (.bool r) ∧ Below w.heap.size w w' := by
 obtain rfl := Option.some.inj h
 exact sane_walk w hKT
theorem sane_ev : Ev (fun k => sizarlaw12_sane.f k) true := ⟨0, fun _ _ => rfl⟩
end Go.Proofs.YtabocfninjankaaDoor.P
namespace Go.Proofs.YtabocfninjankaaDoor.P
open Go.RowKit Go.Maps Go.Proofs.YtabocfninjankaaDoorW.PrintWords Go.Proofs.YtabocfninjankaaDoorW.PrintLast Go.Proofs.YtabocfninjankaaDoorW.PrintMore
set_option linter.unusedVariables false
set_option linter.unusedSimpArgs false
mutual
/-- How many parts a rule has. -/
def cntR : S24 → Nat
 | ⟨a, b, c, n, d, ks⟩ => cntLL ks + 1
def cntLL : List S24 → Nat
 | [] => 0
 | k :: ks => cntR k + cntLL ks
end
mutual
/-- How deep it is. -/
def depR : S24 → Nat
 | ⟨a, b, c, n, d, ks⟩ => depLL ks + 1
def depLL : List S24 → Nat
 | [] => 0
 | k :: ks => max (depR k) (depLL ks)
end
theorem cntR_eq (r : S24) : cntR r = cntLL r.f5 + 1 := by cases r; simp [cntR]
theorem depR_eq (r : S24) : depR r = depLL r.f5 + 1 := by cases r; simp [depR]
theorem cnt_mem : ∀ {ks : List S24} {k : S24}, k ∈ ks → cntR k ≤ cntLL ks
 | x :: xs, k, h => by
  simp only [cntLL]
  rcases List.mem_cons.1 h with rfl | h
  ·omega
  ·have := cnt_mem h; omega
mutual
theorem dep_cnt : ∀ r, depR r ≤ cntR r
 | ⟨a, b, c, n, d, ks⟩ => by simp only [depR, cntR]; have := dep_cntL ks; omega
theorem dep_cntL : ∀ ks, depLL ks ≤ cntLL ks
 | [] => Nat.le_refl _
 | k :: ks => by simp only [depLL, cntLL]; have := dep_cnt k; have := dep_cntL ks; omega
end
mutual
theorem pre_len : ∀ (d : Int) (r : S24), (preR d r).length = cntR r
 | d, ⟨a, b, c, n, e, ks⟩ => by simp only [preR, cntR, List.length_cons, pre_lenL _ ks]
theorem pre_lenL : ∀ (d : Int) (ks : List S24), (preL d ks).length = cntLL ks
 | d, [] => rfl
 | d, k :: ks => by simp only [preL, cntLL, List.length_append, pre_len d k, pre_lenL d ks]
end
theorem parts_l0E (a b n d : Int) (c : ByteArray) (l : List S24) (hl : l.length ≤ 9223372036854775807) (h : ∀ k ∈ l, Ev (fun q => sizarref12_Parts.f q k.f0 k.f1 k.f2 k.f3 k.f4 k.f5) (cntR k : Int)) : ∀ (m i x : Nat), i + m = l.length → x + cntLL (l.drop i) ≤ 1048577 → Ev (fun q => sizarref12_Parts.l0 q (x : Int) (i : Int) a b c n d l) ((x + cntLL (l.drop i) : Nat) : Int)
 | 0, i, x, hm, hx => Ev.first fun q => by
  simp only [sizarref12_Parts.l0]
  rw [if_neg (by omega), List.drop_eq_nil_of_le (by omega)]
  rfl
 | m + 1, i, x, hm, hx => by
  have hi : i < l.length := by omega
  rw [List.drop_eq_getElem_cons hi] at hx ⊢
  simp only [cntLL] at hx ⊢
  have ht := h l[i] (List.getElem_mem hi)
  have hv := parts_l0E a b n d c l hl h m (i + 1) (x + cntR l[i]) (by omega) (by omega)
  have ew : wrap64 ((x : Int) + (cntR l[i] : Int)) = ((x + cntR l[i] : Nat) : Int) := by unfold wrap64; omega
  rw [← Nat.add_assoc]
  refine Ev.next (Ev.bind ht (c := fun q t => sizarref12_Parts.l0 q (wrap64 ((x : Int) + t)) ((i + 1 : Nat) : Int) a b c n d l) (by rw [ew]; exact hv)) fun q => ?_
  simp only [sizarref12_Parts.l0]
  rw [if_pos (by omega), if_pos (by omega), rd24 l i hi, w64 i (by omega)]
theorem parts_ev : ∀ (sz : Nat) (r : S24), SizeOf.sizeOf r < sz → okR r → cntR r ≤ 1048576 → Ev (fun q => sizarref12_Parts.f q r.f0 r.f1 r.f2 r.f3 r.f4 r.f5) (cntR r : Int)
 | 0, r, h, _, _ => absurd h (by omega)
 | sz + 1, r, h, ho, hc => by
  obtain ⟨_, hl, hk⟩ := (okR_iff r).1 ho
  rw [cntR_eq] at hc ⊢
  have hv := parts_l0E r.f0 r.f1 r.f3 r.f4 r.f2 r.f5 hl (fun k hkm => by
   obtain ⟨i, hi, rfl⟩ := List.getElem_of_mem hkm
   exact parts_ev sz _ (by have := size_kid r i hi; omega) (hk _ hkm) (by have := cnt_mem hkm; omega)) r.f5.length 0 1 (by omega) (by simp only [List.drop_zero]; omega)
  rw [List.drop_zero, Nat.add_comm] at hv
  exact Ev.next hv fun q => by simp only [sizarref12_Parts.f]; rfl
theorem mx_nat (x t : Nat) : mx (x : Int) (t : Int) = ((max x t : Nat) : Int) := by unfold mx; split <;> omega
theorem depth_l0E (a b n d : Int) (c : ByteArray) (l : List S24) (hl : l.length ≤ 9223372036854775807) (h : ∀ k ∈ l, Ev (fun q => sizarref12_Depth.f q k.f0 k.f1 k.f2 k.f3 k.f4 k.f5) (depR k : Int)) : ∀ (m i x : Nat), i + m = l.length → max x (depLL (l.drop i)) ≤ 1048576 → Ev (fun q => sizarref12_Depth.l0 q (x : Int) (i : Int) a b c n d l) ((max x (depLL (l.drop i)) + 1 : Nat) : Int)
 | 0, i, x, hm, hx => Ev.first fun q => by
  simp only [sizarref12_Depth.l0]
  rw [if_neg (by omega), List.drop_eq_nil_of_le (by omega), w64 x (by omega)]
  simp [depLL]
 | m + 1, i, x, hm, hx => by
  have hi : i < l.length := by omega
  rw [List.drop_eq_getElem_cons hi] at hx ⊢
  simp only [depLL] at hx ⊢
  have ht := h l[i] (List.getElem_mem hi)
  have hv := depth_l0E a b n d c l hl h m (i + 1) (max x (depR l[i])) (by omega) (by omega)
  rw [← Nat.max_assoc]
  refine Ev.next (Ev.bind ht (c := fun q t => sizarref12_Depth.l0 q (mx (x : Int) t) ((i + 1 : Nat) : Int) a b c n d l) (by rw [mx_nat]; exact hv)) fun q => ?_
  simp only [sizarref12_Depth.l0]
  rw [if_pos (by omega), if_pos (by omega), rd24 l i hi, w64 i (by omega)]
theorem depth_ev : ∀ (sz : Nat) (r : S24), SizeOf.sizeOf r < sz → okR r → cntR r ≤ 1048576 → Ev (fun q => sizarref12_Depth.f q r.f0 r.f1 r.f2 r.f3 r.f4 r.f5) (depR r : Int)
 | 0, r, h, _, _ => absurd h (by omega)
 | sz + 1, r, h, ho, hc => by
  obtain ⟨_, hl, hk⟩ := (okR_iff r).1 ho
  have hdc := dep_cntL r.f5
  rw [cntR_eq] at hc
  rw [depR_eq]
  have hv := depth_l0E r.f0 r.f1 r.f3 r.f4 r.f2 r.f5 hl (fun k hkm => by
   obtain ⟨i, hi, rfl⟩ := List.getElem_of_mem hkm
   exact depth_ev sz _ (by have := size_kid r i hi; omega) (hk _ hkm) (by have := cnt_mem hkm; omega)) r.f5.length 0 0 (by omega) (by simp only [List.drop_zero]; omega)
  rw [List.drop_zero, Nat.zero_max] at hv
  exact Ev.next hv fun q => by simp only [sizarref12_Depth.f]; rfl
end Go.Proofs.YtabocfninjankaaDoor.P
namespace Go.Proofs.YtabocfninjankaaDoor.P
open Go.RowKit Go.ChangeShapes Go.WideShapes Go.Deep Go.Proofs.YtabocfninjankaaDoorW.PrintWords Go.Proofs.YtabocfninjankaaDoorW.PrintLast Go.Proofs.YtabocfninjankaaDoorW.PrintMore
set_option linter.unusedVariables false
set_option linter.unusedSimpArgs false
section
variable {H : Type} {enc : TypeId × Value → H}
theorem returns_upto {a : Assume} {C : Checked} {os : Os} {f : FuncId} {fn : Func} {s : ChangeSpec} {conds : List PathCond} {apart fresh handsOn again : Bool} {X : World → Array Value → Prop}
  (hX : ∀ (w w' : World) (args : Array Value), w.heap = w'.heap → X w args → X w' args)
  (own : ownKnob C.prog.godebug = none) (started : os.Started) (noInit : C.prog.inits.idxOf? f = none) (hfn : C.prog.funcs[f]? = some fn)
  (witness : ∃ (w : World) (tape : Tape) (i : Input), w.os = os ∧ (w.forCall tape i).Shaped C.prog ∧ i.vars = [] ∧ Input.okWide C.prog (w.forCall tape i) .any w.heap.size f i ∧
   (((Rows.OpenSpec.upto s).pre enc C.prog fn conds apart (w.forCall tape i).memory i.args ∧ X (w.forCall tape i).memory i.args) ∧ sizedMet enc C.prog fn (Rows.OpenSpec.upto s) apart (w.forCall tape i).memory i.args) ∧ a.holds C.prog (lone (Frame.enter C.prog f i.args .normal) [] (w.forCall tape i)))
  (contract : ∀ (W : World) (base : Nat) (args : Array Value) (ds gs : List (DataW H)) (before : List MemPlace),
   (∀ (j : Nat) t v, fn.params[j]? = some t → args[j]? = some v → Value.okWide C.prog W .any base t v) →
   DataW.Whole enc C.prog fn.params.toList s.vars apart W args.toList ds gs before →
   conds.all (PathCond.test C.prog ⟨fn.params.toList, ds, s.plain.varTypes C.prog, gs⟩) = true →
   (DataW.weightsEach C.prog (fn.params.toList ++ s.plain.varTypes C.prog) (ds ++ gs)).all (· ≤ reachBytes) = true → Rows.uptoBulkAll (ds ++ gs) ≤ 1048576 → X W args →
   a.holds C.prog (lone (Frame.enter C.prog f args .normal) [] W) →
   Calls C.prog f args W fun e W' => ∃ v, e = .returned v ∧ s.post enc C.prog fn apart fresh handsOn again W args v W') :
  ReturnsInHanded a C os f .any (fun w args => ((Rows.OpenSpec.upto s).pre enc C.prog fn conds apart w args ∧ X w args) ∧ sizedMet enc C.prog fn (Rows.OpenSpec.upto s) apart w args) (s.post enc C.prog fn apart fresh handsOn again) := by
 refine returnsInHanded_of_calls own started noInit witness ?_
 intro w tape i _ _ _ hok hpre hholds
 obtain ⟨_, _, _, fn', hfn', _, _, _, _, hval⟩ := hok
 have e : fn' = fn := Option.some.inj (hfn'.symm.trans hfn)
 subst e
 obtain ⟨⟨hp, hx⟩, hz⟩ := hpre
 obtain ⟨ds, gs, before, hw, hc, hk⟩ := (OpenSpec.pre_some (k := Rows.uptoSmall) rfl conds apart _ _).1 hp
 have hk' : Rows.uptoBulkAll (ds ++ gs) ≤ 1048576 := of_decide_eq_true hk
 have hw' := DataW.Whole.of_heap (w' := w.forCall tape i) (by rfl) hw
 refine (contract (w.forCall tape i) w.heap.size i.args ds gs before hval hw' hc (hz.weights hw) hk' (hX _ _ _ (by rfl) hx) hholds).mono fun e W' ⟨v, he, hp⟩ => ?_
 subst he
 exact ChangeSpec.post_blind hp
def wholeSmall {H : Type} (enc : TypeId × Value → H) (P : Program) (w : World) (ts : List TypeId) (vars : List String) (apart : Bool) (args : List Value) (fuel : Nat) (test : List (DataW H) → List (DataW H) → Bool) : Bool :=
 match DataW.whole enc P w ts vars apart args fuel with
 | some x => test x.1 x.2.1 && Rows.uptoSmall H (x.1 ++ x.2.1)
 | none => false
theorem witness_upto {C : Checked} {os : Os} {f : FuncId} {fn : Func} {s : ChangeSpec} {conds : List PathCond} {apart : Bool} {X : World → Array Value → Prop} (modest : Bool) (w0 : World) (args : Array Value) (fuel : Nat) (hos : w0.os = os)
  (hsh : (w0.forCall (fun _ _ => 0) ⟨#[], args, []⟩).Shaped C.prog)
  (hok : Input.okWideB C.prog (w0.forCall (fun _ _ => 0) ⟨#[], args, []⟩) f ⟨#[], args, []⟩ = true)
  (hpre : wholeSmall enc C.prog (w0.forCall (fun _ _ => 0) ⟨#[], args, []⟩).memory fn.params.toList s.vars apart args.toList fuel (fun ds gs => conds.all (PathCond.test C.prog ⟨fn.params.toList, ds, s.plain.varTypes C.prog, gs⟩)) = true)
  (hsz : s.sizedB enc C.prog fn apart (w0.forCall (fun _ _ => 0) ⟨#[], args, []⟩).memory args fuel = true)
  (hx : X (w0.forCall (fun _ _ => 0) ⟨#[], args, []⟩).memory args) :
  ∃ (w : World) (tape : Tape) (i : Input), w.os = os ∧ (w.forCall tape i).Shaped C.prog ∧ i.vars = [] ∧ Input.okWide C.prog (w.forCall tape i) .any w.heap.size f i ∧
   (((Rows.OpenSpec.upto s).pre enc C.prog fn conds apart (w.forCall tape i).memory i.args ∧ X (w.forCall tape i).memory i.args) ∧ sizedMet enc C.prog fn (Rows.OpenSpec.upto s) apart (w.forCall tape i).memory i.args) ∧ ({ modest := modest } : Assume).holds C.prog (lone (Frame.enter C.prog f i.args .normal) [] (w.forCall tape i)) := by
 have hp : (Rows.OpenSpec.upto s).pre enc C.prog fn conds apart (w0.forCall (fun _ _ => 0) ⟨#[], args, []⟩).memory args := by
  unfold wholeSmall at hpre
  split at hpre
  ·rename_i x hxw
   rw [Bool.and_eq_true] at hpre
   exact (OpenSpec.pre_some (k := Rows.uptoSmall) rfl conds apart _ _).2 ⟨x.1, x.2.1, x.2.2, DataW.Whole_of_whole hxw, hpre.1, hpre.2⟩
  ·cases hpre
 refine ⟨w0, fun _ _ => 0, ⟨#[], args, []⟩, hos, hsh, (Input.okWide_of_okWideB (base := 0) hok).1, (Input.okWide_of_okWideB hok).2, ⟨⟨hp, hx⟩, sizedMet_of_sizedB hsz⟩, ?_⟩
 simp only [Assume.holds]
 exact ⟨by simp, by simp, fun _ => Modest.zero, by simp, by simp⟩
end
section
variable {H : Type} {P : Program}
theorem bulk_mem : ∀ {ds : List (DataW H)} {d : DataW H}, d ∈ ds → Rows.uptoBulk d ≤ Rows.uptoBulkAll ds
 | x :: xs, d, h => by
  unfold Rows.uptoBulkAll
  rcases List.mem_cons.1 h with rfl | h
  ·omega
  ·have := bulk_mem h; omega
theorem opn_struct_b {enc : TypeId × Value → H} {W : World} {base : Nat} {spare : Nat → Bool} {held : Bool} {fuel : Nat} {t : TypeId} {fs : Array Field} {cs : List Value} {x : DataW H × List MemPlace} (ht : P.underlying t = some (.struct fs)) (h : DataW.trod enc P W base spare held fuel t cs = some x) (hw : light P t x.1) :
  cs.length = P.cellsOf t ∧ ∃ n, ∀ (i : Nat) (f : Field), fs[i]? = some f → ∃ y, DataW.trod enc P W base spare held n f.type ((cs.drop f.offset).take (P.cellsOf f.type)) = some y ∧ light P f.type y.1 ∧ Rows.uptoBulk y.1 < Rows.uptoBulk x.1 := by
 obtain ⟨xs, n, _, rfl, hl, hlen, hf⟩ := DataW.trod_struct ht h
 refine ⟨hl, n, fun i f hi => ?_⟩
 have hil : i < fs.size := (Array.getElem?_eq_some_iff.1 hi).1
 have hx : xs[i]? = some (xs[i]'(by omega)) := List.getElem?_eq_getElem (by omega)
 refine ⟨_, (hf i f hi).trans hx, ?_, ?_⟩
 ·unfold light at hw
  simp only [DataW.weights, ht] at hw
  exact light_each _ _ hw i _ _ (by simp [hi]) (by simp [hx])
 ·have h1 : (xs[i]'(by omega)).1 ∈ xs.map (·.1) := List.mem_map.2 ⟨_, List.getElem_mem _, rfl⟩
  have h2 := bulk_mem h1
  show Rows.uptoBulk _ < Rows.uptoBulk (.agg _)
  unfold Rows.uptoBulk at h2 ⊢
  omega
def OpnB {α : Type} (m : Nat) (P : Program) (d : Kd α) (t : TypeId) (G : α → Nat → Prop) : Prop :=
 ∀ (H : Type) (enc : TypeId × Value → H) (W : World) (base : Nat) (spare : Nat → Bool) (held : Bool) (fuel : Nat) (cs : List Value) (x : DataW H × List MemPlace), Rows.uptoBulk x.1 < m → DataW.trod enc P W base spare held fuel t cs = some x → light P t x.1 → ∃ y, d.K W y cs ∧ G y (Rows.uptoBulk x.1)
/-- Sums of bulks, element by element. -/
inductive Weighs {α : Type} (G : α → Nat → Prop) : List α → Nat → Prop
 | nil : Weighs G [] 0
 | cons {x : α} {xs : List α} {a b : Nat} : G x a → Weighs G xs b → Weighs G (x :: xs) (a + b)
theorem weighs_of {α : Type} {G : α → Nat → Prop} : ∀ (ys : List α) (ds : List (DataW H)), ys.length = ds.length → (∀ (i : Nat) (y : α) (d : DataW H), ys[i]? = some y → ds[i]? = some d → G y (Rows.uptoBulk d)) → Weighs G ys (Rows.uptoBulkAll ds)
 | [], [], _, _ => .nil
 | [], _ :: _, h, _ => by simp at h
 | _ :: _, [], h, _ => by simp at h
 | y :: ys, d :: ds, h, hg => by
  unfold Rows.uptoBulkAll
  exact .cons (hg 0 y d rfl rfl) (weighs_of ys ds (by simpa using h) (fun i a b ha hb => hg (i + 1) a b (by simpa using ha) (by simpa using hb)))
theorem opn_sliceB {α : Type} {m0 : Nat} {d : Kd α} {t e : TypeId} {G : α → Nat → Prop} (ht : P.underlying t = some (.slice e)) (hd : OpnB m0 P d e G) (hsz : P.cellsOf e = d.sz) (h0 : 0 < d.sz) :
  OpnB m0 P (Kd.slice e d) t (fun xs b => ∃ b', Weighs G xs b' ∧ b' < b ∧ xs.length * P.bytesOf e ≤ reachBytes) := by
 intro H enc W base spare held fuel cs x hs h hw
 rcases open_slice ht h with ⟨rfl, rfl⟩ | ⟨a, len, cap, m, n, D, Pl, rfl, hb, hl, hm, hmm, rfl, hi⟩
 ·exact ⟨[], ⟨none, 0, rfl, Nat.le_refl _, rfl, Nat.zero_le _, fun h => absurd h (by simp)⟩, 0, .nil, by unfold Rows.uptoBulk; omega, by simp⟩
 ·have hlm : len ≤ m := by rw [hmm]; split <;> omega
  have hsl : ∀ {es sp : List (DataW H)}, Rows.uptoBulk (.slice es sp) = Rows.uptoBulkAll es + Rows.uptoBulkAll sp + 1 := fun {es sp} => by rw [Rows.uptoBulk]
  have hsm : ∀ i, i < len → Rows.uptoBulk (D i) < m0 := fun i hi => by
   have h1 : D i ∈ (List.range len).map D := List.mem_map.2 ⟨i, List.mem_range.2 hi, rfl⟩
   have h2 := bulk_mem h1
   rw [hsl] at hs
   omega
  unfold light at hw
  simp only [DataW.weights, ht, List.all_cons, List.all_append, Bool.and_eq_true, List.length_map, List.length_range, decide_eq_true_eq] at hw
  obtain ⟨hw0, hw1, hw2⟩ := hw
  obtain ⟨ys, hyl, hy⟩ := list_of (p := fun i y => (∃ c, c.length = d.sz ∧ d.K W y c ∧ ∀ j u, c[j]? = some u → W.cell? (a.add (i * d.sz + j)) = some u) ∧ G y (Rows.uptoBulk (D i))) len (fun i hil => by
   obtain ⟨cs', hc, htr⟩ := hi i (by omega)
   obtain ⟨_, hcl, hat⟩ := World.cells?_some hc
   obtain ⟨y, hk, hg⟩ := hd H enc W base spare held n cs' _ (hsm i hil) htr (light_all _ hw1 _ (List.mem_map.2 ⟨i, List.mem_range.2 hil, rfl⟩))
   refine ⟨y, ⟨cs', hcl.trans hsz, hk, fun j u hj => ?_⟩, hg⟩
   have hjl := (List.getElem?_eq_some_iff.1 hj).1
   have := hat j (by omega)
   rw [hsz, Go.Deep.add_add] at this
   rw [this]; exact hj)
  refine ⟨ys, ⟨some a, cap, by rw [hyl], by omega, hyl ▸ rfl, ?_, fun _ => ⟨a, rfl, fun j p hj => (hy j p hj).1⟩⟩, Rows.uptoBulkAll ((List.range len).map D), weighs_of ys _ (by simp [hyl]) (fun i y dd hyi hdi => ?_), ?_, ?_⟩
  ·rw [hyl]; simp only [maxLen] at hm; omega
  ·have hil := (List.getElem?_eq_some_iff.1 hyi).1
   have : dd = D i := by
    rw [List.getElem?_map, List.getElem?_range (by omega)] at hdi
    exact (Option.some.inj hdi).symm
   rw [this]
   exact (hy i _ hyi).2
  ·rw [hsl]
   omega
  ·rw [hyl]
   exact Nat.le_trans (Nat.mul_le_mul_right _ (by omega)) hw0
end
def okB (r : S24) (b : Nat) : Prop := okR r ∧ cntR r ≤ b
theorem weighs_ok : ∀ {ks : List S24} {b : Nat}, Weighs okB ks b → (∀ k ∈ ks, okR k) ∧ cntLL ks ≤ b
 | _, _, .nil => ⟨fun k hk => (by cases hk), Nat.le_refl _⟩
 | _, _, .cons h hr => by
  obtain ⟨h1, h2⟩ := weighs_ok hr
  refine ⟨fun k hk => ?_, ?_⟩
  ·rcases List.mem_cons.1 hk with rfl | hk
   ·exact h.1
   ·exact h1 k hk
  ·have := h.2
   simp only [cntLL]
   omega
theorem opn24B : ∀ m, OpnB m Tryd.prog k24 24 okB
 | 0 => fun H enc W base spare held fuel cs x hs => absurd hs (by omega)
 | m + 1 => by
  intro H enc W base spare held fuel cs x hs h hw
  obtain ⟨hl, n, hf⟩ := opn_struct_b Tryd.underlying24 h hw
  obtain ⟨c0, c1, c2, c3, c4, c5, rfl⟩ := len_6 cs (hl.trans cel24)
  have fld : ∀ (i t off : Nat) (f : Field) (cc : List Value), (f.type = t ∧ f.offset = off ∧ Tryd.prog.cellsOf t = 1 ∧ ([c0, c1, c2, c3, c4, c5].drop off).take 1 = cc) → (∃ y, DataW.trod enc Tryd.prog W base spare held n f.type (([c0, c1, c2, c3, c4, c5].drop f.offset).take (Tryd.prog.cellsOf f.type)) = some y ∧ light Tryd.prog f.type y.1 ∧ Rows.uptoBulk y.1 < Rows.uptoBulk x.1) →
    ∃ y, DataW.trod enc Tryd.prog W base spare held n t cc = some y ∧ light Tryd.prog t y.1 ∧ Rows.uptoBulk y.1 < Rows.uptoBulk x.1 := by
   rintro i t off f cc ⟨rfl, rfl, e1, e2⟩ ⟨y, h1, h2, h3⟩
   rw [e1, e2] at h1
   exact ⟨y, h1, h2, h3⟩
  obtain ⟨y0, t0, w0, _⟩ := fld 0 3 0 _ [c0] ⟨rfl, rfl, cel3, rfl⟩ (hf 0 _ rfl)
  obtain ⟨y1, t1, w1, _⟩ := fld 1 3 1 _ [c1] ⟨rfl, rfl, cel3, rfl⟩ (hf 1 _ rfl)
  obtain ⟨y2, t2, w2, _⟩ := fld 2 9 2 _ [c2] ⟨rfl, rfl, cel9, rfl⟩ (hf 2 _ rfl)
  obtain ⟨y3, t3, w3, _⟩ := fld 3 3 3 _ [c3] ⟨rfl, rfl, cel3, rfl⟩ (hf 3 _ rfl)
  obtain ⟨y4, t4, w4, _⟩ := fld 4 3 4 _ [c4] ⟨rfl, rfl, cel3, rfl⟩ (hf 4 _ rfl)
  obtain ⟨y5, t5, w5, s5⟩ := fld 5 22 5 _ [c5] ⟨rfl, rfl, cel22, rfl⟩ (hf 5 _ rfl)
  obtain ⟨z0, q0, g0⟩ := opn_int H enc W base spare held n _ _ t0 w0
  obtain ⟨z1, q1, g1⟩ := opn_int H enc W base spare held n _ _ t1 w1
  obtain ⟨z2, q2, _, _⟩ := DataW.trod_string Tryd.underlying9 t2
  obtain ⟨z3, q3, g3⟩ := opn_int H enc W base spare held n _ _ t3 w3
  obtain ⟨z4, q4, g4⟩ := opn_int H enc W base spare held n _ _ t4 w4
  obtain ⟨z5, ⟨A5, k5, q5, l5, r5⟩, b', hwt, hlt, b5⟩ := opn_sliceB Tryd.underlying22 (opn24B m) cel24 (by decide) H enc W base spare held n _ _ (by omega) t5 w5
  obtain ⟨g5, hcn⟩ := weighs_ok hwt
  replace q0 : [c0] = [Value.int .i64 z0] := q0
  replace q1 : [c1] = [Value.int .i64 z1] := q1
  replace q3 : [c3] = [Value.int .i64 z3] := q3
  replace q4 : [c4] = [Value.int .i64 z4] := q4
  simp only [List.cons.injEq, and_true] at q0 q1 q2 q3 q4 q5
  subst q0 q1 q2 q3 q4 q5
  exact ⟨⟨z0, z1, z2, z3, z4, z5⟩, k24_mk W ⟨z0, z1, z2, z3, z4, z5⟩ l5 r5, (okR_iff _).2 ⟨⟨g0, g1, g3, g4⟩, r5.2.1, g5⟩, by rw [cntR_eq]; show cntLL z5 + 1 ≤ _; omega⟩
/-- A rule that is read, of bounded bulk. -/
theorem opn24U {H : Type} {enc : TypeId × Value → H} {W : World} {base : Nat} {spare : Nat → Bool} {held : Bool} {fuel : Nat} {cs : List Value} {x : DataW H × List MemPlace} (h : DataW.trod enc Tryd.prog W base spare held fuel 24 cs = some x) (hw : light Tryd.prog 24 x.1) (hb : Rows.uptoBulk x.1 ≤ 1048576) :
  ∃ y, k24.K W y cs ∧ okR y ∧ cntR y ≤ 1048576 := by
 obtain ⟨y, h1, h2, h3⟩ := opn24B _ H enc W base spare held fuel cs x (Nat.lt_succ_self _) h hw
 exact ⟨y, h1, h2, by omega⟩
end Go.Proofs.YtabocfninjankaaDoor.P
namespace Go.Proofs.YtabocfninjankaaDoor.P
open Go.ChangeShapes Go.WideShapes Go.ChangeAt Go.RowKit
set_option linter.unusedVariables false
theorem gKinds : Tryd.prog.globalNamed "sizar/rules.kinds" = some 0 := by kernel_rfl
theorem tKinds : (Tryd.prog.globals[0]?).map (·.type) = some 81 := by kernel_rfl
theorem cel80 : Tryd.prog.cellsOf 80 = 6 := by kernel_rfl
theorem cel81 : Tryd.prog.cellsOf 81 = 60 := by kernel_rfl
theorem celF : ∀ t, t = 4 ∨ t = 31 ∨ t = 78 → Tryd.prog.cellsOf t = 1 := by rintro t (rfl | rfl | rfl) <;> kernel_rfl
theorem nil_of_trod {P : Program} {w : World} {base : Nat} {sp : Nat → Bool} {fuel : Nat} {t : TypeId} {ps rs : Array TypeId} {va : Bool} {v : Value} {q : List MemPlace}
    (ht : P.underlying t = some (.func ps rs va)) (h : DataW.trod (funcToken P) P w base sp true fuel t [v] = some (.nil, q)) : v = .nilFunc := by
  cases fuel with
  | zero => simp [DataW.trod] at h
  | succ n => cases v <;> simp [DataW.trod, ht] at h ⊢
theorem row_open {W : World} {n : Nat} {cs : List Value} {a b c d : Bool} {x y : UInt8} {xs ys : List UInt8} {q : List MemPlace} {f g : FuncId}
    (hf : ((List.range Tryd.prog.funcs.size).filter fun f => (Tryd.prog.funcs[f]?).any (·.name.toUTF8.data.toList == x :: xs)) = [f]) (hg : ((List.range Tryd.prog.funcs.size).filter fun f => (Tryd.prog.funcs[f]?).any (·.name.toUTF8.data.toList == y :: ys)) = [g])
    (h : DataW.trod (funcToken Tryd.prog) Tryd.prog W 0 (fun _ => true) true n 80 cs = some (.agg [.lit (.bool a), .lit (.bool b), .lit (.bool c), .lit (.bool d), .held (x :: xs), .held (y :: ys)], q)) : cs = kindRow a b c d f g := by
  obtain ⟨zs, m, _, hx, hl, hzl, hz⟩ := DataW.trod_struct Tryd.underlying80 h
  rw [cel80] at hl
  rcases cs with _ | ⟨v0, _ | ⟨v1, _ | ⟨v2, _ | ⟨v3, _ | ⟨v4, _ | ⟨v5, _ | ⟨v6, l⟩⟩⟩⟩⟩⟩⟩ <;> simp at hl
  rcases zs with _ | ⟨z0, _ | ⟨z1, _ | ⟨z2, _ | ⟨z3, _ | ⟨z4, _ | ⟨z5, _ | ⟨z6, l⟩⟩⟩⟩⟩⟩⟩ <;> simp at hzl
  simp only [Prod.mk.injEq, DataW.agg.injEq, List.map_cons, List.map_nil, List.cons.injEq, and_true] at hx
  obtain ⟨⟨e0, e1, e2, e3, e4, e5⟩, _⟩ := hx
  have fld : ∀ (i t off : Nat) (f : Field) (cc : List Value) (z : DataW (List UInt8) × List MemPlace), (f.type = t ∧ f.offset = off ∧ Tryd.prog.cellsOf t = 1 ∧ ([v0, v1, v2, v3, v4, v5].drop off).take 1 = cc) →
      DataW.trod (funcToken Tryd.prog) Tryd.prog W 0 (fun _ => true) true m f.type (([v0, v1, v2, v3, v4, v5].drop f.offset).take (Tryd.prog.cellsOf f.type)) = some z → DataW.trod (funcToken Tryd.prog) Tryd.prog W 0 (fun _ => true) true m t cc = some z := by
    rintro i t off f cc z ⟨rfl, rfl, q1, q2⟩ h1
    rw [q1, q2] at h1
    exact h1
  have t0 := fld 0 4 0 _ [v0] _ ⟨rfl, rfl, celF 4 (.inl rfl), rfl⟩ (hz 0 _ rfl)
  have t1 := fld 1 4 1 _ [v1] _ ⟨rfl, rfl, celF 4 (.inl rfl), rfl⟩ (hz 1 _ rfl)
  have t2 := fld 2 4 2 _ [v2] _ ⟨rfl, rfl, celF 4 (.inl rfl), rfl⟩ (hz 2 _ rfl)
  have t3 := fld 3 4 3 _ [v3] _ ⟨rfl, rfl, celF 4 (.inl rfl), rfl⟩ (hz 3 _ rfl)
  have t4 := fld 4 31 4 _ [v4] _ ⟨rfl, rfl, celF 31 (.inr (.inl rfl)), rfl⟩ (hz 4 _ rfl)
  have t5 := fld 5 78 5 _ [v5] _ ⟨rfl, rfl, celF 78 (.inr (.inr rfl)), rfl⟩ (hz 5 _ rfl)
  obtain ⟨b0, h0, k0⟩ := DataW.trod_bool Tryd.underlying4 t0
  obtain ⟨b1, h1, k1⟩ := DataW.trod_bool Tryd.underlying4 t1
  obtain ⟨b2, h2, k2⟩ := DataW.trod_bool Tryd.underlying4 t2
  obtain ⟨b3, h3, k3⟩ := DataW.trod_bool Tryd.underlying4 t3
  have t4' : DataW.trod (funcToken Tryd.prog) Tryd.prog W 0 (fun _ => true) true m 31 [v4] = some (.held (x :: xs), z4.2) := by rw [t4, e4]
  have t5' : DataW.trod (funcToken Tryd.prog) Tryd.prog W 0 (fun _ => true) true m 78 [v5] = some (.held (y :: ys), z5.2) := by rw [t5, e5]
  have h4 := func_of_trod Tryd.underlying31 hf t4'
  have h5 := func_of_trod Tryd.underlying78 hg t5'
  rw [k0] at e0
  rw [k1] at e1
  rw [k2] at e2
  rw [k3] at e3
  simp only [DataW.lit.injEq, Lit.bool.injEq] at e0 e1 e2 e3
  simp only [List.cons.injEq, and_true] at h0 h1 h2 h3
  subst e0 e1 e2 e3 h0 h1 h2 h3 h4 h5
  rfl
theorem row_open0 {W : World} {n : Nat} {cs : List Value} {a b c d : Bool} {q : List MemPlace}
    (h : DataW.trod (funcToken Tryd.prog) Tryd.prog W 0 (fun _ => true) true n 80 cs = some (.agg [.lit (.bool a), .lit (.bool b), .lit (.bool c), .lit (.bool d), .nil, .nil], q)) : cs = [.bool a, .bool b, .bool c, .bool d, .nilFunc, .nilFunc] := by
  obtain ⟨zs, m, _, hx, hl, hzl, hz⟩ := DataW.trod_struct Tryd.underlying80 h
  rw [cel80] at hl
  rcases cs with _ | ⟨v0, _ | ⟨v1, _ | ⟨v2, _ | ⟨v3, _ | ⟨v4, _ | ⟨v5, _ | ⟨v6, l⟩⟩⟩⟩⟩⟩⟩ <;> simp at hl
  rcases zs with _ | ⟨z0, _ | ⟨z1, _ | ⟨z2, _ | ⟨z3, _ | ⟨z4, _ | ⟨z5, _ | ⟨z6, l⟩⟩⟩⟩⟩⟩⟩ <;> simp at hzl
  simp only [Prod.mk.injEq, DataW.agg.injEq, List.map_cons, List.map_nil, List.cons.injEq, and_true] at hx
  obtain ⟨⟨e0, e1, e2, e3, e4, e5⟩, _⟩ := hx
  have fld : ∀ (i t off : Nat) (f : Field) (cc : List Value) (z : DataW (List UInt8) × List MemPlace), (f.type = t ∧ f.offset = off ∧ Tryd.prog.cellsOf t = 1 ∧ ([v0, v1, v2, v3, v4, v5].drop off).take 1 = cc) →
      DataW.trod (funcToken Tryd.prog) Tryd.prog W 0 (fun _ => true) true m f.type (([v0, v1, v2, v3, v4, v5].drop f.offset).take (Tryd.prog.cellsOf f.type)) = some z → DataW.trod (funcToken Tryd.prog) Tryd.prog W 0 (fun _ => true) true m t cc = some z := by
    rintro i t off f cc z ⟨rfl, rfl, q1, q2⟩ h1
    rw [q1, q2] at h1
    exact h1
  have t0 := fld 0 4 0 _ [v0] _ ⟨rfl, rfl, celF 4 (.inl rfl), rfl⟩ (hz 0 _ rfl)
  have t1 := fld 1 4 1 _ [v1] _ ⟨rfl, rfl, celF 4 (.inl rfl), rfl⟩ (hz 1 _ rfl)
  have t2 := fld 2 4 2 _ [v2] _ ⟨rfl, rfl, celF 4 (.inl rfl), rfl⟩ (hz 2 _ rfl)
  have t3 := fld 3 4 3 _ [v3] _ ⟨rfl, rfl, celF 4 (.inl rfl), rfl⟩ (hz 3 _ rfl)
  have t4 := fld 4 31 4 _ [v4] _ ⟨rfl, rfl, celF 31 (.inr (.inl rfl)), rfl⟩ (hz 4 _ rfl)
  have t5 := fld 5 78 5 _ [v5] _ ⟨rfl, rfl, celF 78 (.inr (.inr rfl)), rfl⟩ (hz 5 _ rfl)
  obtain ⟨b0, h0, k0⟩ := DataW.trod_bool Tryd.underlying4 t0
  obtain ⟨b1, h1, k1⟩ := DataW.trod_bool Tryd.underlying4 t1
  obtain ⟨b2, h2, k2⟩ := DataW.trod_bool Tryd.underlying4 t2
  obtain ⟨b3, h3, k3⟩ := DataW.trod_bool Tryd.underlying4 t3
  have t4' : DataW.trod (funcToken Tryd.prog) Tryd.prog W 0 (fun _ => true) true m 31 [v4] = some (.nil, z4.2) := by rw [t4, e4]
  have t5' : DataW.trod (funcToken Tryd.prog) Tryd.prog W 0 (fun _ => true) true m 78 [v5] = some (.nil, z5.2) := by rw [t5, e5]
  have h4 := nil_of_trod Tryd.underlying31 t4'
  have h5 := nil_of_trod Tryd.underlying78 t5'
  rw [k0] at e0
  rw [k1] at e1
  rw [k2] at e2
  rw [k3] at e3
  simp only [DataW.lit.injEq, Lit.bool.injEq] at e0 e1 e2 e3
  simp only [List.cons.injEq, and_true] at h0 h1 h2 h3
  subst e0 e1 e2 e3 h0 h1 h2 h3 h4 h5
  rfl
/-- The table, as it reads. -/
def kindsData : List (DataW (List UInt8)) := [.agg [.lit (.bool false), .lit (.bool false), .lit (.bool false), .lit (.bool false), .nil, .nil], .agg [.lit (.bool false), .lit (.bool false), .lit (.bool false), .lit (.bool true), .held (115 :: [105, 122, 97, 114, 47, 114, 117, 108, 101, 115, 46, 107, 105, 110, 100, 115, 36, 49]), .held (115 :: [105, 122, 97, 114, 47, 114, 117, 108, 101, 115, 46, 107, 105, 110, 100, 115, 36, 50])], .agg [.lit (.bool false), .lit (.bool false), .lit (.bool false), .lit (.bool true), .held (115 :: [105, 122, 97, 114, 47, 114, 117, 108, 101, 115, 46, 107, 105, 110, 100, 115, 36, 51]), .held (115 :: [105, 122, 97, 114, 47, 114, 117, 108, 101, 115, 46, 107, 105, 110, 100, 115, 36, 52])], .agg [.lit (.bool false), .lit (.bool true), .lit (.bool false), .lit (.bool true), .held (115 :: [105, 122, 97, 114, 47, 114, 117, 108, 101, 115, 46, 107, 105, 110, 100, 115, 36, 53]), .held (115 :: [105, 122, 97, 114, 47, 114, 117, 108, 101, 115, 46, 107, 105, 110, 100, 115, 36, 54])], .agg [.lit (.bool false), .lit (.bool false), .lit (.bool false), .lit (.bool true), .held (115 :: [105, 122, 97, 114, 47, 114, 117, 108, 101, 115, 46, 107, 105, 110, 100, 115, 36, 55]), .held (115 :: [105, 122, 97, 114, 47, 114, 117, 108, 101, 115, 46, 107, 105, 110, 100, 115, 36, 56])], .agg [.lit (.bool true), .lit (.bool true), .lit (.bool false), .lit (.bool false), .held (115 :: [105, 122, 97, 114, 47, 114, 117, 108, 101, 115, 46, 107, 105, 110, 100, 115, 36, 57]), .held (115 :: [105, 122, 97, 114, 47, 114, 117, 108, 101, 115, 46, 107, 105, 110, 100, 115, 36, 49, 48])], .agg [.lit (.bool true), .lit (.bool true), .lit (.bool false), .lit (.bool false), .held (115 :: [105, 122, 97, 114, 47, 114, 117, 108, 101, 115, 46, 107, 105, 110, 100, 115, 36, 49, 49]), .held (115 :: [105, 122, 97, 114, 47, 114, 117, 108, 101, 115, 46, 107, 105, 110, 100, 115, 36, 49, 50])], .agg [.lit (.bool false), .lit (.bool true), .lit (.bool false), .lit (.bool false), .held (115 :: [105, 122, 97, 114, 47, 114, 117, 108, 101, 115, 46, 107, 105, 110, 100, 115, 36, 49, 51]), .held (115 :: [105, 122, 97, 114, 47, 114, 117, 108, 101, 115, 46, 107, 105, 110, 100, 115, 36, 49, 52])], .agg [.lit (.bool false), .lit (.bool true), .lit (.bool true), .lit (.bool false), .held (115 :: [105, 122, 97, 114, 47, 114, 117, 108, 101, 115, 46, 107, 105, 110, 100, 115, 36, 49, 53]), .held (115 :: [105, 122, 97, 114, 47, 114, 117, 108, 101, 115, 46, 107, 105, 110, 100, 115, 36, 49, 54])], .agg [.lit (.bool true), .lit (.bool false), .lit (.bool false), .lit (.bool false), .held (115 :: [105, 122, 97, 114, 47, 114, 117, 108, 101, 115, 46, 99, 111, 117, 114, 115, 101]), .held (115 :: [105, 122, 97, 114, 47, 114, 117, 108, 101, 115, 46, 107, 105, 110, 100, 115, 36, 49, 55])]]
set_option maxRecDepth 100000 in
theorem of_laid {W : World} (h : laidMetH Tryd.prog [("sizar/rules.kinds", Rows.laid_sizar_rules_kinds)] W) : KindsAt W := by
  obtain ⟨g, t, cs, fuel, p, hg, ht, hv, hd⟩ := h.funcs (List.mem_singleton.2 rfl)
  obtain rfl := Option.some.inj (gKinds.symm.trans hg)
  obtain rfl := Option.some.inj (tKinds.symm.trans ht)
  have hd' : DataW.trod (funcToken Tryd.prog) Tryd.prog W 0 (fun _ => true) true fuel 81 cs.toList = some (.agg kindsData, p) := hd
  obtain ⟨xs, m, _, hx, hlen, hxl, hel⟩ := DataW.trod_array Tryd.underlying81 hd'
  rw [cel81] at hlen
  have hxs : xs.map (·.1) = kindsData := by
    have := congrArg Prod.fst hx
    exact (DataW.agg.inj this).symm
  have row : ∀ i, i < 10 → ∃ q, DataW.trod (funcToken Tryd.prog) Tryd.prog W 0 (fun _ => true) true m 80 ((cs.toList.drop (i * 6)).take 6) = some (kindsData.getD i .nil, q) := fun i hi => by
    have h1 := hel i hi
    rw [cel80] at h1
    have h2 : xs[i]? = some (xs[i]'(by omega)) := List.getElem?_eq_getElem (by omega)
    refine ⟨(xs[i]'(by omega)).2, ?_⟩
    rw [h1, h2, ← hxs]
    simp [List.getD_eq_getElem?_getD, h2]
  obtain ⟨q0, r0⟩ := row 0 (by omega)
  have e0 := row_open0 (a := false) (b := false) (c := false) (d := false) r0
  obtain ⟨q1, r1⟩ := row 1 (by omega)
  have e1 := row_open (f := 119) (g := 120) (by kernel_rfl) (by kernel_rfl) (show DataW.trod (funcToken Tryd.prog) Tryd.prog W 0 (fun _ => true) true m 80 ((cs.toList.drop (1 * 6)).take 6) = some (.agg [.lit (.bool false), .lit (.bool false), .lit (.bool false), .lit (.bool true), .held (115 :: [105, 122, 97, 114, 47, 114, 117, 108, 101, 115, 46, 107, 105, 110, 100, 115, 36, 49]), .held (115 :: [105, 122, 97, 114, 47, 114, 117, 108, 101, 115, 46, 107, 105, 110, 100, 115, 36, 50])], q1) from r1)
  obtain ⟨q2, r2⟩ := row 2 (by omega)
  have e2 := row_open (f := 121) (g := 122) (by kernel_rfl) (by kernel_rfl) (show DataW.trod (funcToken Tryd.prog) Tryd.prog W 0 (fun _ => true) true m 80 ((cs.toList.drop (2 * 6)).take 6) = some (.agg [.lit (.bool false), .lit (.bool false), .lit (.bool false), .lit (.bool true), .held (115 :: [105, 122, 97, 114, 47, 114, 117, 108, 101, 115, 46, 107, 105, 110, 100, 115, 36, 51]), .held (115 :: [105, 122, 97, 114, 47, 114, 117, 108, 101, 115, 46, 107, 105, 110, 100, 115, 36, 52])], q2) from r2)
  obtain ⟨q3, r3⟩ := row 3 (by omega)
  have e3 := row_open (f := 123) (g := 124) (by kernel_rfl) (by kernel_rfl) (show DataW.trod (funcToken Tryd.prog) Tryd.prog W 0 (fun _ => true) true m 80 ((cs.toList.drop (3 * 6)).take 6) = some (.agg [.lit (.bool false), .lit (.bool true), .lit (.bool false), .lit (.bool true), .held (115 :: [105, 122, 97, 114, 47, 114, 117, 108, 101, 115, 46, 107, 105, 110, 100, 115, 36, 53]), .held (115 :: [105, 122, 97, 114, 47, 114, 117, 108, 101, 115, 46, 107, 105, 110, 100, 115, 36, 54])], q3) from r3)
  obtain ⟨q4, r4⟩ := row 4 (by omega)
  have e4 := row_open (f := 125) (g := 126) (by kernel_rfl) (by kernel_rfl) (show DataW.trod (funcToken Tryd.prog) Tryd.prog W 0 (fun _ => true) true m 80 ((cs.toList.drop (4 * 6)).take 6) = some (.agg [.lit (.bool false), .lit (.bool false), .lit (.bool false), .lit (.bool true), .held (115 :: [105, 122, 97, 114, 47, 114, 117, 108, 101, 115, 46, 107, 105, 110, 100, 115, 36, 55]), .held (115 :: [105, 122, 97, 114, 47, 114, 117, 108, 101, 115, 46, 107, 105, 110, 100, 115, 36, 56])], q4) from r4)
  obtain ⟨q5, r5⟩ := row 5 (by omega)
  have e5 := row_open (f := 127) (g := 129) (by kernel_rfl) (by kernel_rfl) (show DataW.trod (funcToken Tryd.prog) Tryd.prog W 0 (fun _ => true) true m 80 ((cs.toList.drop (5 * 6)).take 6) = some (.agg [.lit (.bool true), .lit (.bool true), .lit (.bool false), .lit (.bool false), .held (115 :: [105, 122, 97, 114, 47, 114, 117, 108, 101, 115, 46, 107, 105, 110, 100, 115, 36, 57]), .held (115 :: [105, 122, 97, 114, 47, 114, 117, 108, 101, 115, 46, 107, 105, 110, 100, 115, 36, 49, 48])], q5) from r5)
  obtain ⟨q6, r6⟩ := row 6 (by omega)
  have e6 := row_open (f := 131) (g := 132) (by kernel_rfl) (by kernel_rfl) (show DataW.trod (funcToken Tryd.prog) Tryd.prog W 0 (fun _ => true) true m 80 ((cs.toList.drop (6 * 6)).take 6) = some (.agg [.lit (.bool true), .lit (.bool true), .lit (.bool false), .lit (.bool false), .held (115 :: [105, 122, 97, 114, 47, 114, 117, 108, 101, 115, 46, 107, 105, 110, 100, 115, 36, 49, 49]), .held (115 :: [105, 122, 97, 114, 47, 114, 117, 108, 101, 115, 46, 107, 105, 110, 100, 115, 36, 49, 50])], q6) from r6)
  obtain ⟨q7, r7⟩ := row 7 (by omega)
  have e7 := row_open (f := 133) (g := 134) (by kernel_rfl) (by kernel_rfl) (show DataW.trod (funcToken Tryd.prog) Tryd.prog W 0 (fun _ => true) true m 80 ((cs.toList.drop (7 * 6)).take 6) = some (.agg [.lit (.bool false), .lit (.bool true), .lit (.bool false), .lit (.bool false), .held (115 :: [105, 122, 97, 114, 47, 114, 117, 108, 101, 115, 46, 107, 105, 110, 100, 115, 36, 49, 51]), .held (115 :: [105, 122, 97, 114, 47, 114, 117, 108, 101, 115, 46, 107, 105, 110, 100, 115, 36, 49, 52])], q7) from r7)
  obtain ⟨q8, r8⟩ := row 8 (by omega)
  have e8 := row_open (f := 135) (g := 136) (by kernel_rfl) (by kernel_rfl) (show DataW.trod (funcToken Tryd.prog) Tryd.prog W 0 (fun _ => true) true m 80 ((cs.toList.drop (8 * 6)).take 6) = some (.agg [.lit (.bool false), .lit (.bool true), .lit (.bool true), .lit (.bool false), .held (115 :: [105, 122, 97, 114, 47, 114, 117, 108, 101, 115, 46, 107, 105, 110, 100, 115, 36, 49, 53]), .held (115 :: [105, 122, 97, 114, 47, 114, 117, 108, 101, 115, 46, 107, 105, 110, 100, 115, 36, 49, 54])], q8) from r8)
  obtain ⟨q9, r9⟩ := row 9 (by omega)
  have e9 := row_open (f := 128) (g := 138) (by kernel_rfl) (by kernel_rfl) (show DataW.trod (funcToken Tryd.prog) Tryd.prog W 0 (fun _ => true) true m 80 ((cs.toList.drop (9 * 6)).take 6) = some (.agg [.lit (.bool true), .lit (.bool false), .lit (.bool false), .lit (.bool false), .held (115 :: [105, 122, 97, 114, 47, 114, 117, 108, 101, 115, 46, 99, 111, 117, 114, 115, 101]), .held (115 :: [105, 122, 97, 114, 47, 114, 117, 108, 101, 115, 46, 107, 105, 110, 100, 115, 36, 49, 55])], q9) from r9)
  have step : ∀ i, cs.toList.drop (i * 6) = (cs.toList.drop (i * 6)).take 6 ++ cs.toList.drop ((i + 1) * 6) := fun i => by
    have := List.take_append_drop 6 (cs.toList.drop (i * 6))
    rw [List.drop_drop] at this
    rw [show (i + 1) * 6 = i * 6 + 6 by omega]
    exact this.symm
  have hall : cs.toList = kindsTab := by
    have h0 : cs.toList = cs.toList.drop (0 * 6) := by simp
    rw [h0, step 0, step 1, step 2, step 3, step 4, step 5, step 6, step 7, step 8, step 9, e0, e1, e2, e3, e4, e5, e6, e7, e8, e9, List.drop_eq_nil_of_le (by omega)]
    rfl
  have hc : ∀ i v, kindsTab[i]? = some v → W.cell? ⟨0, i, none⟩ = some v := fun i v hi => by
    rw [World.var?_cell hg hv i, ← Array.getElem?_toList, hall, hi]
  exact ⟨World.block_lt_of_cell? W _ (hc 0 _ rfl), hc⟩
end Go.Proofs.YtabocfninjankaaDoor.P
