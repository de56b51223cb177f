/- Texts of this claim, one behind the other: Row, SeqA, LaySort, CmpG, SortA, Atoms, PureB, PureC, Px8, RFormed, Px11c, RFits, Depth, Px5. Merged by wip/mkmerge.py. -/
import Derived.Test.YtabocfninjankaaDoorCaHs2
import Derived.Shelf.SlSortCmp.Insertion
import Derived.RangeFuncNested
import Derived.RangeFuncBound
import Derived.RangeFuncCalls
import Derived.RangeFuncLeaves
import Derived.RangeFuncStops
import Derived.RangeFuncSeq
import Derived.Shelf.Abstract
import Derived.Shelf.AbstractIn
import Derived.Shelf.RegionOpen
import Derived.Sort.MapsRangeIn
import Derived.Sort.KeysCollected
import Derived.WalkKit
import Derived.OwnWalkIn
import Derived.TacticsInMore
import Derived.RegionIn
import Derived.LoopNIn
import Derived.LoopIn
import Derived.Maps.AppendAt
import Derived.WalkSpells
import Derived.Maps.OwnIn
import Derived.DeepKeys4
import Derived.Shelf.SlSortCmp.WholeK
import Derived.Test.YtabocfninjankaaDoorProg
import Derived.Shelf.SlSortCmp.NoneTotal
import Derived.Test.YtabocfninjankaaDoorCaHs1
import Derived.IntWalk
namespace Go.Proofs.YtabocfninjankaaDoor.P
open Go.RowKit Go.Proofs.YtabocfninjankaaDoorW.PrintWords Go.Proofs.YtabocfninjankaaDoorW.PrintLast Go.Proofs.YtabocfninjankaaDoorW.PrintMore
/-- An atom without its name. -/
structure A4 where
  o : Int
  c : Int
  n : Int
  d : Int
deriving DecidableEq
instance : Inhabited A4 := ⟨⟨0, 0, 0, 0⟩⟩
theorem A4.eq_iff (x y : A4) : x = y ↔ (x.o = y.o ∧ x.c = y.c ∧ x.n = y.n ∧ x.d = y.d) := by
  cases x; cases y; simp
def k60 : Kd A4 := Kd.iso (Kd.pair (Kd.int .i64) (Kd.pair (Kd.int .i64) (Kd.pair (Kd.int .i64) (Kd.int .i64)))) (fun x : A4 => (x.o, x.c, x.n, x.d))
/-- An atom's four cells. -/
def encA (x : A4) : List Value := [.int .i64 x.o, .int .i64 x.c, .int .i64 x.n, .int .i64 x.d]
theorem encA_len (x : A4) : (encA x).length = 4 := rfl
theorem encA_one (x : A4) : ∀ v ∈ encA x, v.oneCell' = true := by
  intro v hv
  simp only [encA, List.mem_cons, List.not_mem_nil, or_false] at hv
  rcases hv with rfl | rfl | rfl | rfl <;> rfl
theorem k60_M_iff {w : World} {base : Nat} {ok : Nat → Prop} {x : A4} {cs : List Value} : k60.M w base ok x cs ↔ cs = encA x := by
  constructor
  · rintro ⟨_, _, rfl, rfl, ⟨_, _, rfl, rfl, ⟨_, _, rfl, rfl, rfl⟩⟩⟩
    rfl
  · rintro rfl
    exact ⟨[.int .i64 x.o], [.int .i64 x.c, .int .i64 x.n, .int .i64 x.d], rfl, rfl, ⟨[.int .i64 x.c], [.int .i64 x.n, .int .i64 x.d], rfl, rfl, ⟨[.int .i64 x.n], [.int .i64 x.d], rfl, rfl, rfl⟩⟩⟩
theorem k60_open {w : World} {x : A4} {cs : List Value} (h : k60.K w x cs) : cs = encA x := by
  obtain ⟨_, _, rfl, rfl, ⟨_, _, rfl, rfl, ⟨_, _, rfl, rfl, rfl⟩⟩⟩ := h
  rfl
theorem flatA : Flat.IsFlat k60 encA := ⟨k60_M_iff, fun h => k60_open h, encA_len, encA_one⟩
theorem info60 : (Tryd.prog.info? 60).map (fun i => (i.zero, i.size, i.bytes)) = some (some (.agg #[.int .i64 0, .int .i64 0, .int .i64 0, .int .i64 0]), 4, 32) := by kernel_rfl
def cmpI (a b : Int) : Int := if a < b then -1 else if a > b then 1 else 0
def orL : List Int → Int
  | [] => 0
  | x :: r => if x = 0 then orL r else x
theorem compare_f (a b : Int) : cmp_Compare_int.f a b = some (cmpI a b) := by
  unfold cmp_Compare_int.f cmp_isNaN_int.f cmpI
  simp only [bne_self_eq_false, Option.bind_some, Bool.false_eq_true, if_false]
  split
  · rfl
  · split <;> rfl
theorem or_l0 (l : List Int) (hl : l.length ≤ 1000) : ∀ (d k i : Nat), i + d = l.length → d < k → cmp_Or_int.l0 k 0 l (l.length : Int) (i : Int) = some (orL (l.drop i)) := by
  intro d
  induction d with
  | zero =>
    intro k i hi hk
    obtain ⟨k, rfl⟩ : ∃ m, k = m + 1 := ⟨k - 1, by omega⟩
    simp only [cmp_Or_int.l0]
    rw [if_neg (by omega), List.drop_eq_nil_of_le (by omega)]
    rfl
  | succ d ih =>
    intro k i hi hk
    obtain ⟨k, rfl⟩ : ∃ m, k = m + 1 := ⟨k - 1, by omega⟩
    have hlt : i < l.length := by omega
    have hr : rd l (i : Int) = l[i] := by simp [rd, hlt]
    have hw : wrap64 ((i : Int) + 1) = ((i + 1 : Nat) : Int) := by unfold wrap64; omega
    simp only [cmp_Or_int.l0]
    rw [if_pos (by omega), if_pos (by omega), if_pos (by omega), hr, hw, ih k (i + 1) (by omega) (by omega), List.drop_eq_getElem_cons hlt]
    simp only [orL]
    split <;> rfl
theorem or_f (l : List Int) (hl : l.length ≤ 8) : cmp_Or_int.f 10 l = some (orL l) := by
  have := or_l0 l (by omega) l.length 10 0 (by omega) (by omega)
  simpa [cmp_Or_int.f] using this
/-- What the order's function answers. -/
def cfA (x y : A4) : Int := orL [cmpI x.o y.o, cmpI x.c y.c, cmpI x.n y.n, cmpI x.d y.d]
theorem rules_Atoms_1_f (x y : A4) : rules_Atoms_1.f 10 x.o x.c x.n x.d y.o y.c y.n y.d = some (cfA x y) := by
  unfold rules_Atoms_1.f
  simp only [compare_f, Option.bind_some]
  rw [or_f _ (by simp)]
  rfl
def LtA (x y : A4) : Prop := x.o < y.o ∨ (x.o = y.o ∧ (x.c < y.c ∨ (x.c = y.c ∧ (x.n < y.n ∨ (x.n = y.n ∧ x.d < y.d)))))
theorem cmpI_lt (a b : Int) : cmpI a b < 0 ↔ a < b := by unfold cmpI; split <;> (try split) <;> omega
theorem cmpI_eq (a b : Int) : cmpI a b = 0 ↔ a = b := by unfold cmpI; split <;> (try split) <;> omega
theorem cfA_lt (x y : A4) : cfA x y < 0 ↔ LtA x y := by
  unfold cfA LtA
  simp only [orL]
  rw [← cmpI_eq x.o y.o, ← cmpI_eq x.c y.c, ← cmpI_eq x.n y.n, ← cmpI_lt x.o y.o, ← cmpI_lt x.c y.c, ← cmpI_lt x.n y.n, ← cmpI_lt x.d y.d]
  split
  · split
    · split
      · split <;> omega
      · omega
    · omega
  · omega
theorem LtA.irrefl (x : A4) : ¬ LtA x x := by unfold LtA; omega
theorem LtA.trans {x y z : A4} (h : LtA x y) (k : LtA y z) : LtA x z := by unfold LtA at *; omega
theorem LtA.total (x y : A4) (h : ¬ LtA x y) (k : ¬ LtA y x) : x = y := by
  rw [A4.eq_iff]
  unfold LtA at *
  omega
instance (x y : A4) : Decidable (LtA x y) := decidable_of_iff _ (cfA_lt x y)
theorem ltOf_cfA (x y : A4) : ltOf cfA x y = decide (LtA x y) := by
  unfold ltOf
  exact decide_eq_decide.2 (cfA_lt x y)
theorem swoA : Sort.SWO (ltOf cfA) where
  irrefl x := by rw [ltOf_cfA]; simpa using LtA.irrefl x
  trans x y z h k := by rw [ltOf_cfA] at *; simp only [decide_eq_true_eq] at *; exact h.trans k
  ntrans x y z h k := by
    rw [ltOf_cfA] at *
    simp only [decide_eq_false_iff_not] at *
    intro hxz
    by_cases hyx : LtA y x
    · exact k (hyx.trans hxz)
    · have := LtA.total x y h hyx
      subst this
      exact k hxz
theorem cfA_sep (x y : A4) (h : ltOf cfA x y = false) (k : ltOf cfA y x = false) : x = y := by
  rw [ltOf_cfA] at *
  simp only [decide_eq_false_iff_not] at *
  exact LtA.total x y h k
/-- In order. -/
def sortA (xs : List A4) : List A4 := xs.mergeSort fun x y => !ltOf cfA y x
end Go.Proofs.YtabocfninjankaaDoor.P
namespace Go.Proofs.YtabocfninjankaaDoor.P
open Go.RowKit Go.Shelf Go.Maps Go.WideMaps Go.Proofs.YtabocfninjankaaDoorW.PrintWords Go.Proofs.YtabocfninjankaaDoorW.PrintLast Go.Proofs.YtabocfninjankaaDoorW.PrintMore
attribute [local go_sem] Oper.semAt_some
set_option linter.unusedVariables false
set_option linter.unusedSimpArgs false
set_option maxRecDepth 100000
/-- An atom as a value. -/
abbrev encV (x : A4) : Value := .agg #[.int .i64 x.o, .int .i64 x.c, .int .i64 x.n, .int .i64 x.d]
theorem encV_inj {x y : A4} (h : encV x = encV y) : x = y := by
  rw [A4.eq_iff]
  simpa [encV] using h
/-- An atom as a key. -/
def kA (x : A4) : Lit := .string (keyBytes [.int .i64 x.o, .int .i64 x.c, .int .i64 x.n, .int .i64 x.d])
/-- Each number of an atom is one. -/
def wfA (x : A4) : Prop := (Lit.int .i64 x.o).wf = true ∧ (Lit.int .i64 x.c).wf = true ∧ (Lit.int .i64 x.n).wf = true ∧ (Lit.int .i64 x.d).wf = true
set_option maxRecDepth 100000 in
theorem laidOut : laidOutB Tryd.prog = true := by kernel_rfl
set_option maxRecDepth 100000 in
theorem row60 : (60 : TypeId) < Tryd.prog.types.size := of_decide_eq_true (by kernel_rfl)
set_option maxRecDepth 100000 in
theorem wide60 : (match Tryd.prog.underlying 60 with | some (.array _ _) | some (.struct _) => true | _ => false) = true := by rw [Tryd.underlying60]
set_option maxRecDepth 100000 in
theorem keyed60 : Keyed Tryd.prog 60 := Keyed.of_law (deep_law_laid laidOut (m := 2) (by omega) row60 (by kernel_rfl) wide60)
theorem cells60 : Tryd.prog.cellsOf 60 = 4 := by kernel_rfl
theorem cells3 : Tryd.prog.cellsOf 3 = 1 := by kernel_rfl
set_option maxRecDepth 100000 in
theorem key60 : Tryd.prog.keyType 60 = true := by kernel_rfl
theorem lits3 (d : Nat) (n : Int) : Tryd.prog.keyLits (d + 1) 3 [.int .i64 n] = if (Lit.int .i64 n).wf = true then some [.int .i64 n] else none := by
  unfold Program.keyLits
  rw [Tryd.underlying3]
  simp
theorem lits3_inv {d : Nat} {v : Value} {ls : List Lit} (h : Tryd.prog.keyLits (d + 1) 3 [v] = some ls) : ∃ n, v = .int .i64 n ∧ ls = [.int .i64 n] ∧ (Lit.int .i64 n).wf = true := by
  unfold Program.keyLits at h
  rw [Tryd.underlying3] at h
  cases v <;> simp at h
  obtain ⟨⟨rfl, h1⟩, rfl⟩ := h
  exact ⟨_, rfl, rfl, h1⟩
theorem lits60 (d : Nat) (a b c e : Value) : Tryd.prog.keyLits (d + 2) 60 [a, b, c, e] =
    (Tryd.prog.keyLits (d + 1) 3 [a]).bind fun l0 => (Tryd.prog.keyLits (d + 1) 3 [b]).bind fun l1 => (Tryd.prog.keyLits (d + 1) 3 [c]).bind fun l2 => (Tryd.prog.keyLits (d + 1) 3 [e]).bind fun l3 => some (l0 ++ l1 ++ l2 ++ l3) := by
  generalize ha : Tryd.prog.keyLits (d + 1) 3 [a] = qa
  generalize hb : Tryd.prog.keyLits (d + 1) 3 [b] = qb
  generalize hc : Tryd.prog.keyLits (d + 1) 3 [c] = qc
  generalize he : Tryd.prog.keyLits (d + 1) 3 [e] = qe
  unfold Program.keyLits
  rw [Tryd.underlying60]
  simp only [cells60, cells3, List.length_cons, List.length_nil, List.mapM_cons, List.mapM_nil, List.drop_zero, List.drop_succ_cons, List.take_succ_cons, List.take_zero, ha, hb, hc, he]
  rw [if_pos (by simp)]
  cases qa <;> cases qb <;> cases qc <;> cases qe <;> simp
theorem size_succ : ∃ d, Tryd.prog.types.size = d + 1 := by
  have h := row60
  generalize Tryd.prog.types.size = n at h
  cases n with
  | zero => exact absurd h (Nat.not_lt_zero _)
  | succ d => exact ⟨d, rfl⟩
theorem keyOf_mk {x : A4} (h : wfA x) : keyOf Tryd.prog 60 (encV x) = some (kA x) := by
  obtain ⟨h1, h2, h3, h4⟩ := h
  obtain ⟨d, hd⟩ := size_succ
  unfold keyOf
  rw [hd, Tryd.underlying60]
  simp only [key60, Value.formed, Tryd.underlying60, cells60]
  rw [if_pos (by simp), show (encV x).cells.toList = [.int .i64 x.o, .int .i64 x.c, .int .i64 x.n, .int .i64 x.d] from rfl, lits60]
  simp [lits3, h1, h2, h3, h4, kA]
theorem keyOf_inv {key : Value} {kl : Lit} (h : keyOf Tryd.prog 60 key = some kl) : ∃ x : A4, key = encV x ∧ kl = kA x ∧ wfA x := by
  obtain ⟨d, hd⟩ := size_succ
  unfold keyOf at h
  rw [hd, Tryd.underlying60] at h
  simp only [key60] at h
  split at h
  · rename_i hf
    simp only [Bool.true_and] at hf
    cases key <;> simp [Value.formed, Tryd.underlying60, cells60] at hf
    rename_i cs
    obtain ⟨ls, hls, rfl⟩ := Option.map_eq_some_iff.1 h
    obtain ⟨l⟩ := cs
    rcases l with _ | ⟨v0, _ | ⟨v1, _ | ⟨v2, _ | ⟨v3, _ | ⟨v4, l⟩⟩⟩⟩⟩ <;> simp at hf
    rw [show (Value.agg #[v0, v1, v2, v3]).cells.toList = [v0, v1, v2, v3] from rfl, lits60] at hls
    simp only [Option.bind_eq_some_iff] at hls
    obtain ⟨l0, h0, l1, h1, l2, h2, l3, h3, hls⟩ := hls
    obtain ⟨n0, rfl, rfl, w0⟩ := lits3_inv h0
    obtain ⟨n1, rfl, rfl, w1⟩ := lits3_inv h1
    obtain ⟨n2, rfl, rfl, w2⟩ := lits3_inv h2
    obtain ⟨n3, rfl, rfl, w3⟩ := lits3_inv h3
    obtain rfl := Option.some.inj hls
    exact ⟨⟨n0, n1, n2, n3⟩, rfl, rfl, w0, w1, w2, w3⟩
  · cases h
theorem kA_inj {x y : A4} (hx : wfA x) (hy : wfA y) (h : kA x = kA y) : x = y :=
  encV_inj (keyed60.inj (keyOf_mk hx) (by rw [h]; exact keyOf_mk hy))
theorem same_kA {x y : A4} (hx : wfA x) (hy : wfA y) : (kA y).sameKey (kA x) = decide (y = x) := by
  by_cases h : y = x
  · subst h; simp [kA, Lit.sameKey]
  · have : kA y ≠ kA x := fun e => h (kA_inj hy hx e)
    unfold kA at this
    have h2 : keyBytes [.int .i64 y.o, .int .i64 y.c, .int .i64 y.n, .int .i64 y.d] ≠ keyBytes [.int .i64 x.o, .int .i64 x.c, .int .i64 x.n, .int .i64 x.d] := fun e => this (by rw [e])
    simp [kA, Lit.sameKey, h, h2]
/-- No key twice; a key is on the list just where the map has it and it is no longer to come. -/
def ColA {H : Type} (D0 : DataW H) (left : Lit → Bool) (ss : List A4) : Prop := ss.Nodup ∧ (∀ x ∈ ss, wfA x) ∧ ∀ x, wfA x → (x ∈ ss ↔ (has D0 (kA x) = true ∧ left (kA x) = false))
theorem ColA.start {H : Type} (D0 : DataW H) : ColA D0 (has D0) [] := ⟨List.nodup_nil, fun x hx => (by cases hx), fun x _ => (by cases has D0 (kA x) <;> simp)⟩
theorem ColA.step {H : Type} {D0 : DataW H} {left : Lit → Bool} {ss : List A4} (h : ColA D0 left ss) {x : A4} {y : DataW H} (hx : wfA x) (hlk : left (kA x) = true) (hat : ∀ zd, D0.atKey (kA x) zd = y) : ColA D0 (fun z => left z && !z.sameKey (kA x)) (ss ++ [x]) := by
  have hhas : has D0 (kA x) = true := has_true_of_atKey hat
  have hnew : x ∉ ss := fun hm => by have := ((h.2.2 x hx).1 hm).2; rw [hlk] at this; cases this
  refine ⟨List.nodup_append.2 ⟨h.1, by simp, fun a ha b hb => by simp at hb; subst hb; exact fun e => hnew (e ▸ ha)⟩, fun y hy => ?_, fun y hy => ?_⟩
  · rcases List.mem_append.1 hy with hy | hy
    · exact h.2.1 y hy
    · rw [List.mem_singleton.1 hy]; exact hx
  · by_cases e : y = x
    · subst e; simp [hhas, same_kA hx hx]
    · simp [h.2.2 y hy, e, same_kA hx hy]
/-- The map's keys, each once. -/
def AllA {H : Type} (D0 : DataW H) (ss : List A4) : Prop := ss.Nodup ∧ (∀ x ∈ ss, wfA x) ∧ ∀ x, wfA x → (x ∈ ss ↔ has D0 (kA x) = true)
set_option maxHeartbeats 1000000 in
theorem keys1_in {H : Type} (F : Fence) (n : Nat) (h10 : F.fn 56) (hro : F.round = none) (hn : 1 ≤ n) (l Bm b nn : Nat) (D0 : DataW H) {R : Value → Option (DataW H × List MemPlace)} (J Jx : List A4 → World → Prop)
    (hY : ∀ pre x W, J pre W → pre.length < Maps.size D0 → YieldAt F (n - 1) Tryd.prog l #[encV x] W fun e W' =>
      (e = .returned (.bool true) ∧ J (pre ++ [x]) W' ∧ KeepsWalks W W') ∨ (e = .returned (.bool false) ∧ Jx (pre ++ [x]) W'))
    (W : World) (hJ : AbidesFrom W.heap.size J) (hm : W.cell? ⟨Bm, 0, none⟩ = some (.map (some b))) (hown : W.ownsMap Tryd.prog 60 R b nn D0) (h0 : J [] W) :
    CallsIn F n Tryd.prog 56 #[.func (.yield l) #[] #[], .pointer (some ⟨Bm, 0, none⟩)] W fun e W' => (∃ v, e = .returned v) ∧
      ((∃ ss : List A4, (AllA D0 ss ∧ ss.length ≤ Maps.size D0) ∧ J ss W') ∨ (∃ pre : List A4, True ∧ Jx pre W')) := by
  refine callsIn_of_wp Tryd.func56 rfl h10 ?_ hro
  simp only [Tryd.ntmps56, List.size_toArray, List.length_cons, List.length_nil, Nat.reduceAdd, Nat.reduceSub, Array.replicate_succ, Array.replicate_zero, List.push_toArray, List.append_toArray, List.nil_append, List.cons_append]
  gi_wp2_with (first
    | (gi_at_range; refine wpListIn_range_own _ rfl _ 54 rfl 60 4 keyed60 Tryd.underlying54 _ b nn _ rfl hown ?_; intro w0 hrg0 hg0 hs0)
    | gi_in)
  go_frame
  gi_loopw [3] (fun _ wr => ∃ (left : Lit → Bool) (cnt : Nat) (ss : List A4), wr.ranges Tryd.prog 60 R b W.heap.size nn D0 left cnt ∧ ss.length + cnt ≤ Maps.size D0 ∧ ColA D0 left ss ∧ J ss wr)
    (fun _ wr => wr.rangeLeft b W.heap.size)
  case atStart =>
    exact ⟨_, _, [], hrg0, by simp, ColA.start D0, hJ [] W w0 none h0 hg0 (fun r e => by cases e)⟩
  case round =>
    obtain ⟨left, cnt, ss, hrg, hcs, hC, hJs⟩ := hrel
    gi_wp2_with (first
      | (gi_at_next; refine wpListIn_next_ranges _ rfl _ rfl 60 keyed60 R encV id (fun key kl hk => by obtain ⟨x, hx, _⟩ := keyOf_inv hk; exact ⟨x, hx⟩) (fun v _ _ => ⟨v, rfl⟩) b W.heap.size nn _ _ _ rfl hrg ?_ ?_)
      | gi_in)
    · intro hc0 hl0
      gi_wp2
      go_end0
      exact ⟨⟨_, rfl⟩, .inl ⟨ss, ⟨⟨hC.1, hC.2.1, fun x hx => by rw [hC.2.2 x hx, hl0]; simp⟩, by omega⟩, hJs⟩⟩
    · intro x c kl yd yp w2 cnt2 hkey hlk hv hat hrg2 hlt hg2 hs2 hen
      obtain ⟨x', ex, rfl, hwf⟩ := keyOf_inv hkey
      obtain rfl : x = x' := encV_inj ex
      have hJ2 : J ss w2 := hJ ss wr w2 (some W.heap.size) hJs hg2 (fun r e => by cases e; exact ⟨Nat.le_refl _, hrg.iter_walk⟩)
      have hJ2' := hJ ss w2 (w2.alloc (.cells #[.int .i64 x.o, .int .i64 x.c, .int .i64 x.n, .int .i64 x.d] 60)) none hJ2 (World.grownBy_alloc w2 _ none) (fun r e => by cases e)
      have hrg2' := hrg2.of_walks (KeepsWalks.alloc w2 (.cells #[.int .i64 x.o, .int .i64 x.c, .int .i64 x.n, .int .i64 x.d] 60))
      obtain ⟨fn, tmps, assign, body, hy, hR⟩ := hY ss x _ hJ2' (by omega)
      simp only [encV] at hy
      clear hs2
      gi_wp2
      refine hR.mono ?_
      have hC2 := hC.step hwf hlk hat
      rintro e W3 (⟨rfl, hJ3, hk3⟩ | ⟨rfl, hJx3⟩)
      · gi_wp2
        have hrg3 := hrg2'.of_walks hk3
        go_roundw
        case rel => exact ⟨_, cnt2, ss ++ [x], hrg3, by simp; omega, hC2, hJ3⟩
        case measure => rw [hrg3.left_eq, hrg.left_eq]; exact hlt
      · gi_wp2
        refine bodyPost_ret (results_none rfl _ _ _) rfl ?_
        exact ⟨⟨_, rfl⟩, .inr ⟨ss ++ [x], trivial, hJx3⟩⟩
theorem keys_stopsA {H : Type} (F : Fence) (n : Nat) (h10 : F.fn 56) (hro : F.round = none) (hn : 1 ≤ n) (Bm b nn : Nat) (D0 : DataW H) {R : Value → Option (DataW H × List MemPlace)} (w : World) (hBm : Bm < w.heap.size)
    (hm : w.cell? ⟨Bm, 0, none⟩ = some (.map (some b))) (hown : w.ownsMap Tryd.prog 60 R b nn D0) :
    SeqStopsK F n Tryd.prog 56 #[.pointer (some ⟨Bm, 0, none⟩)] (fun x : A4 => #[.agg (encA x).toArray]) KeepsWalks (fun ss => AllA D0 ss ∧ ss.length ≤ Maps.size D0) (fun _ => True) (Maps.size D0) w := fun l J Jx W hW hJ _ hY h0 => by
  have hown' : W.ownsMap Tryd.prog 60 R b nn D0 := by
    have hbl := hown.lt
    obtain ⟨es, clock, hb, Ft, hs, hD⟩ := hown
    exact ⟨es, clock, (hW.block b hbl).trans hb, Ft, hs, hD⟩
  exact keys1_in F n h10 hro hn l Bm b nn D0 J Jx hY W hJ ((hW.cell (p := ⟨Bm, 0, none⟩) hBm).trans hm) hown' h0
theorem keys_calls (mb : Option Nat) (w : World) :
    Calls Tryd.prog 40 #[.map mb] w fun e w' => e = .returned (.func (.func 56) #[] #[.pointer (some ⟨w.heap.size, 0, none⟩)]) ∧ w' = w.alloc (.cells #[.map mb] 54) := by
  go_enter Tryd.func40, Tryd.ntmps40
  go_wp2
  go_ret
  exact ⟨rfl, rfl⟩
theorem own_not_walk {w : World} {base : Nat} {e sz : Nat} {v : Value} {m : Nat} {cs : List Value} (h : w.ownsRow base e sz v m cs) : ∀ (j : Nat) (o : Obj), v.ownBlock = some j → w.heap[j]? = some o → o.isWalk = false := by
  intro j o hj ho
  obtain ⟨_, h | ⟨g, cap, cur, hv, hb, hblk, _⟩⟩ := h
  · obtain ⟨rfl, _⟩ := h
    cases hj
  · subst hv
    simp [Value.ownBlock] at hj
    subst hj
    rw [hblk] at ho
    cases ho
    rfl
theorem cells_new (W : World) (cs : List Value) (t : TypeId) : ∀ j u, cs[j]? = some u → (W.alloc (.cells cs.toArray t)).cell? ((⟨W.heap.size, 0, none⟩ : Addr).add j) = some u := by
  intro j u hu
  rw [add_plain]
  exact (blk_cell (World.alloc_heap_new W _) j).trans (by simpa using hu)
set_option maxRecDepth 100000 in
set_option maxHeartbeats 4000000 in
theorem appendSeq_in (F : Fence) (n : Nat) (h28 : F.fn 64) (hro : F.round = none) (hn : 3 ≤ n) (gf : Nat) (lb : Array Value) (hgf : F.fn gf) (eg : ∀ args w, (callFunc gf args).run Tryd.prog w = .ok (.enter gf args) w)
    (T Tp : List A4 → Prop) (N : Nat) {base : Nat} {A : Option Addr} {m c : Nat} {xs : List A4} {w : World} (hbase : base ≤ w.heap.size) (hrow : w.ownsRow base 60 4 (.slice A m c) xs.length (xs.flatMap encA)) (own0 : Option Nat) (hown0 : own0 = (Value.slice A m c).ownBlock)
    (hN : (xs.length + N) * 32 ≤ 140737488355328)
    (hseq : SeqStopsK F (n - 1) Tryd.prog gf lb (fun x : A4 => #[.agg (encA x).toArray]) KeepsWalks T Tp N w) :
    CallsIn F n Tryd.prog 64 #[.slice A m c, .func (.func gf) #[] lb] w fun e w' => ∃ v ys, e = .returned v ∧ T ys ∧ w'.ownsRow base 60 4 v (xs ++ ys).length ((xs ++ ys).flatMap encA) ∧ w.grownBy w' own0 := by
  obtain ⟨i0, hi, hz0, hz1, hz2⟩ := info_parts info60
  have HOWN := Aside0.mk hown0
  clear hown0
  have h1 : 1 ≤ n := by omega
  refine callsIn_of_wp_marks Tryd.func64 rfl h28 ?_ hro
  simp only [Tryd.ntmps64, List.size_toArray, List.length_cons, List.length_nil, Nat.reduceAdd, Nat.reduceSub, Array.replicate_succ, Array.replicate_zero, List.push_toArray, List.append_toArray, List.nil_append, List.cons_append]
  gi_wp2
  have bS := Boxed.new w 64 (.slice A m c)
  have hsz : (w.alloc (.cells #[.slice A m c] 64)).heap.size = w.heap.size + 1 := by simp
  have hg0 : w.grownBy (w.alloc (.cells #[.slice A m c] 64)) own0 := World.grownBy_alloc w _ _
  have hol : ∀ k, own0 = some k → k < w.heap.size := fun k hk => by rw [HOWN.out] at hk; exact (hrow.lt k hk).2
  refine wpIn_rangeFunc_ownH hro h1 (gf := gf) (lb := lb) rfl hgf eg hseq (fun h k => KeepsWalks.trans h k) (fun W l o o' hl hlo _ hw => KeepsWalks.putObj o' hlo hw) ((Below.refl _ w).alloc (Nat.le_refl _) _) (fun _ => rfl)
    (fun pre W => (∃ v, Boxed W w.heap.size 64 v ∧ W.ownsRow base 60 4 v (xs ++ pre).length ((xs ++ pre).flatMap encA) ∧ (∀ k, v.ownBlock = some k → own0 = some k ∨ w.heap.size < k)) ∧ w.grownBy W own0)
    (fun _ _ _ => False)
    (OwnFrom.and (Own.from (holdsRow_own base w.heap.size 64 60 4 (fun pre => (xs ++ pre).length) (fun pre => (xs ++ pre).flatMap encA) (fun _ v => ∀ k, v.ownBlock = some k → own0 = some k ∨ w.heap.size < k)) _) ?hI2)
    (fun _ _ _ _ _ hs _ _ => hs)
    ⟨⟨_, bS, ?h0a, ?h0b⟩, hg0⟩
    (fun x a' W => ∃ Bx, w.heap.size + 1 ≤ Bx ∧ W.heap[Bx]? = some (.cells (encA x).toArray 60 (0, 0)) ∧ a' = { tmps := #[.slice A m c, .func (.func gf) #[] lb, .pointer (some ⟨w.heap.size, 0, none⟩), undef, .slice none 0 0, .pointer (some ⟨Bx, 0, none⟩), .func (.func gf) #[] lb, .agg (encA x).toArray, undef, undef, undef, undef, undef], defers := [] })
    ?hAx ?assign ?body ?done ?stop
  case hI2 =>
    intro pre X Y row hs hg hr
    exact ⟨hg.os.trans hs.os, hg.tape.trans hs.tape, hg.output.trans hs.output, Nat.le_trans hs.size hg.size, fun k hk hne => (hg.block k (Nat.lt_of_lt_of_le hk hs.size) (fun e => by have := (hr k e.symm).1; rw [hsz] at this; omega)).trans (hs.block k hk hne)⟩
  case h0a => simpa using hrow.alloc _
  case h0b => exact fun k hk => .inl (by rw [HOWN.out]; exact hk)
  case hAx =>
    rintro x a' _ X Y row ⟨Bx, hb, hx, rfl⟩ hg hr
    refine ⟨Bx, hb, (hg.block Bx (Array.getElem?_eq_some_iff.1 hx).1 (fun e => ?_)).trans hx, rfl⟩
    obtain ⟨_, o, ho, hc⟩ := hr Bx e.symm
    rw [hx] at ho
    cases ho
    cases hc
  case assign =>
    rintro l pre x W K ⟨⟨v, hv, hr, hk⟩, hg⟩ hK
    simp only [encA]
    gi_wp2
    refine hK _ _ ((KeepsOthers.alloc _ _).from _) ?_ ⟨⟨v, hv.alloc _, hr.alloc _, hk⟩, Flat.grown_trans hg (World.grownBy_alloc _ _ _)⟩ ⟨W.heap.size, ?_, World.alloc_heap_new W _, rfl⟩
    · exact KeepsWalks.alloc W _
    · exact hv.lt
  case body =>
    rintro l pre x a' W hl ⟨r, hlr⟩ ⟨⟨v, hv, hr, hk⟩, hg⟩ ⟨Bx, hBx, hx, rfl⟩ hlen
    obtain ⟨A', c', rfl⟩ := own_slice hr
    have hc := hv.cell
    have HV := Aside0.mk hv
    have HR := Aside0.mk hr
    have HK := Aside0.mk hk
    have HG := Aside0.mk hg
    have hWl : w.heap.size < W.heap.size := hv.lt
    clear hv hr hk hg
    simp only [encA] at hx
    have hx0 : W.cell? ⟨Bx, 0, none⟩ = some (.int .i64 x.o) := (blk_cell hx 0).trans rfl
    have hx1 : W.cell? ⟨Bx, 1, none⟩ = some (.int .i64 x.c) := (blk_cell hx 1).trans rfl
    have hx2 : W.cell? ⟨Bx, 2, none⟩ = some (.int .i64 x.n) := (blk_cell hx 2).trans rfl
    have hx3 : W.cell? ⟨Bx, 3, none⟩ = some (.int .i64 x.d) := (blk_cell hx 3).trans rfl
    have HXB := Aside0.mk hx
    clear hx
    have HL := Aside0.mk hlr
    clear hlr
    have hcap : (xs ++ pre).length + 1 ≤ xs.length + N := by rw [List.length_append]; omega
    have hm1 : (xs ++ pre).length + 1 ≤ maxLen := by simp only [maxLen]; omega
    obtain ⟨ys, HYS, hys⟩ : ∃ ys, Aside0 (ys = xs ++ pre) ∧ xs ++ pre = ys := ⟨_, ⟨rfl⟩, rfl⟩
    rw [hys] at hc HV HR HK hcap hm1
    clear hys
    gi_wp2_with (gi_at_builtin; go_must (refine wpListIn_append_own_at _ rfl _ _ 64 rfl base 60 i0 _ 4 32 Tryd.underlying64 hi hz0 hz1 hz2 rfl (by decide) _ _ _ rfl (HR.out.alloc _) ⟨W.heap.size, 0, none⟩ 1 1 (encA x) rfl rfl ?hcl (encA_one x) hm1 (by omega) (by simp; omega) ?_); (case hcl => exact cells_new _ _ _); intro v' w1 hown' hgrow _ hat; have HAT := Aside0.mk hat; clear hat; have HO1 := Aside0.mk hown'; have HG1 := Aside0.mk hgrow; clear hown' hgrow; obtain ⟨g', cap', hv'⟩ := ownsRow_succ HO1.out; subst hv'; obtain ⟨hv1, hv2, hr2, hk2, _⟩ := HV.out.appended (by decide) HR.out (by omega) hbase HO1.out HG1.out; have hc1 := hv1.cell; have hf1 := hv1.frozen)
    have hg1 : W.grownBy w1 (Value.slice A' ys.length c').ownBlock := Flat.grown_trans (World.grownBy_alloc W _ _) HG1.out
    have hne : ∀ k, k < w.heap.size → some k ≠ own0 → some k ≠ (Value.slice A' ys.length c').ownBlock := fun k hk hk0 e => by
      rcases HK.out k e.symm with h | h
      · exact hk0 h.symm
      · omega
    have hblk : ∀ k, k < w.heap.size → some k ≠ own0 → (w1.setCell ⟨w.heap.size, 0, none⟩ (.slice (some ⟨g', 0, none⟩) (ys.length + 1) cap')).heap[k]? = W.heap[k]? := fun k hk hk0 =>
      (Below.heap_setCell w1 _ _ k (fun e => by simp only at e; omega)).trans (hg1.block k (by omega) (hne k hk hk0))
    have hsz2 : (w1.setCell ⟨w.heap.size, 0, none⟩ (.slice (some ⟨g', 0, none⟩) (ys.length + 1) cap')).heap.size = w1.heap.size := by simp [World.setCell]
    refine ⟨hk2.from _, (KeepsWalks.of_grownBy hg1 (own_not_walk HR.out)).trans (KeepsWalks.setCell _ _ _), ⟨_, hv2, ?_, ?_⟩, ⟨hg1.os.trans HG.out.os, hg1.tape.trans HG.out.tape, hg1.output.trans HG.out.output, by rw [hsz2]; exact Nat.le_trans HG.out.size hg1.size, fun k hk hk0 => (hblk k hk hk0).trans (HG.out.block k hk hk0)⟩⟩
    · have e1 : xs ++ (pre ++ [x]) = ys ++ [x] := by rw [HYS.out, List.append_assoc]
      rw [e1, List.length_append, List.flatMap_append]
      simpa using hr2
    · intro k hk
      rcases HAT.out with h | h
      · exact HK.out k (h ▸ hk)
      · rw [h] at hk
        injection hk with hk
        simp at hk
        omega
  case done =>
    rintro D ys W hD hT ⟨⟨v, hv, hr, hk⟩, hg⟩ hK
    have hc := hv.cell
    gi_wp2
    refine ⟨by simp, .inl ⟨_, _, rfl, run_takeDeferred hK, ?_⟩⟩
    refine ⟨_, results_tmp rfl _ _ _, v, ys, rfl, hT, ownsRow_putObj hr _ hK rfl, ?_⟩
    have hlt : D < W.heap.size := (Array.getElem?_eq_some_iff.1 hK).1
    exact ⟨hg.os, hg.tape, hg.output, Nat.le_trans hg.size (by simp [World.putObj]), fun k hk hne => (World.putObj_heap_other (by omega)).trans (hg.block k hk hne)⟩
  case stop =>
    rintro D c pre W _ _ h _
    exact h.elim
/-- slices.Collect at atoms. -/
theorem collect_in (F : Fence) (n : Nat) (h54 : F.fn 54) (h64 : F.fn 64) (hro : F.round = none) (hn : 4 ≤ n) (hd : F.depth = none) (gf : Nat) (lb : Array Value) (hgf : F.fn gf) (eg : ∀ args w, (callFunc gf args).run Tryd.prog w = .ok (.enter gf args) w)
    (T Tp : List A4 → Prop) (N : Nat) {w : World} (hN : N * 32 ≤ 140737488355328)
    (hseq : SeqStopsK F (n - 1 - 1) Tryd.prog gf lb (fun x : A4 => #[.agg (encA x).toArray]) KeepsWalks T Tp N w) :
    CallsIn F n Tryd.prog 54 #[.func (.func gf) #[] lb] w fun e w' => ∃ v ys, e = .returned v ∧ T ys ∧ w'.ownsRow w.heap.size 60 4 v ys.length (ys.flatMap encA) ∧ w.grownBy w' none := by
  have hdd : ∀ k : Nat, (F.depth.isSome = true → 1 ≤ k) := fun k h => by rw [hd] at h; cases h
  have hrow : w.ownsRow w.heap.size 60 4 (.slice none 0 0) ([] : List A4).length (([] : List A4).flatMap encA) := ⟨rfl, .inl ⟨rfl, rfl⟩⟩
  have G := Aside0.mk (appendSeq_in F (n - 1) h64 hro (by omega) gf lb hgf eg T Tp N (xs := []) (Nat.le_refl _) hrow none rfl (by simpa using hN) hseq)
  refine callsIn_of_wp Tryd.func54 rfl h54 ?_ hro
  simp only [Tryd.ntmps54, List.size_toArray, List.length_cons, List.length_nil, Nat.reduceAdd, Nat.reduceSub, Array.replicate_succ, Array.replicate_zero, List.push_toArray, List.append_toArray, List.nil_append, List.cons_append]
  gi_wp2_with ((try refine ⟨hdd _, ?_⟩); gi_at_call 64; refine G.out.mono ?_; clear G; rintro e w' ⟨v, ys, rfl, hT, hr, hg⟩)
  go_ret
  exact ⟨v, ys, rfl, hT, by simpa using hr, hg⟩
end Go.Proofs.YtabocfninjankaaDoor.P
namespace Go.Proofs
open Go.Shelf Go.RowKit Go.Lib Go.Sort
def Tryd.sortAtom_ren : Go.Shelf.Ren := ⟨fun | 6 => 55 | 15 => 66 | 14 => 65 | 28 => 80 | 29 => 81 | 20 => 72 | 21 => 73 | 22 => 74 | 23 => 75 | 24 => 76 | 25 => 77 | 26 => 78 | 27 => 79 | 46 => 93 | 47 => 94 | 48 => 95 | 49 => 96 | 50 => 97 | 57 => 101 | n => n, fun | 22 => 64 | 24 => 60 | 25 => 63 | 3 => 3 | 39 => 92 | 0 => 0 | 53 => 108 | 55 => 95 | 4 => 4 | 46 => 101 | 45 => 100 | 50 => 105 | 5 => 5 | 9 => 9 | 66 => 116 | 70 => 120 | 76 => 124 | 77 => 125 | n => n, fun | n => n⟩
theorem Tryd.sortAtom : Go.Proofs.SlLaysF0.n6 Tryd.prog Tryd.sortAtom_ren := {
  mixed := by kernel_rfl,
  f6 := ⟨Tryd.f55.name, by decide, Tryd.func55.trans (congrArg some (by kernel_rfl))⟩,
  f14 := ⟨Tryd.f65.name, by decide, Tryd.func65.trans (congrArg some (by kernel_rfl))⟩,
  f15 := Tryd.func66.trans (congrArg some (by kernel_rfl)),
  f20 := ⟨Tryd.f72.name, by decide, Tryd.func72.trans (congrArg some (by kernel_rfl))⟩,
  f21 := ⟨Tryd.f73.name, by decide, Tryd.func73.trans (congrArg some (by kernel_rfl))⟩,
  f22 := ⟨Tryd.f74.name, by decide, Tryd.func74.trans (congrArg some (by kernel_rfl))⟩,
  f23 := ⟨Tryd.f75.name, by decide, Tryd.func75.trans (congrArg some (by kernel_rfl))⟩,
  f24 := ⟨Tryd.f76.name, by decide, Tryd.func76.trans (congrArg some (by kernel_rfl))⟩,
  f25 := ⟨Tryd.f77.name, by decide, Tryd.func77.trans (congrArg some (by kernel_rfl))⟩,
  f26 := ⟨Tryd.f78.name, by decide, Tryd.func78.trans (congrArg some (by kernel_rfl))⟩,
  f27 := ⟨Tryd.f79.name, by decide, Tryd.func79.trans (congrArg some (by kernel_rfl))⟩,
  f28 := Tryd.func80.trans (congrArg some (by kernel_rfl)),
  f29 := Tryd.func81.trans (congrArg some (by kernel_rfl)),
  f46 := ⟨Tryd.f93.name, by decide, Tryd.func93.trans (congrArg some (by kernel_rfl))⟩,
  f47 := Tryd.func94.trans (congrArg some (by kernel_rfl)),
  f48 := Tryd.func95.trans (congrArg some (by kernel_rfl)),
  f49 := ⟨Tryd.f96.name, by decide, Tryd.func96.trans (congrArg some (by kernel_rfl))⟩,
  f50 := ⟨Tryd.f97.name, by decide, Tryd.func97.trans (congrArg some (by kernel_rfl))⟩,
  f57 := ⟨Tryd.f101.name, by decide, Tryd.func101.trans (congrArg some (by kernel_rfl))⟩,
  t0 := Tryd.underlying0,
  a0 := Tryd.isAgg0,
  z0 := Tryd.sizeOf0,
  v0 := Tryd.zeroValue0,
  t3 := Tryd.underlying3,
  a3 := Tryd.isAgg3,
  z3 := Tryd.sizeOf3,
  v3 := Tryd.zeroValue3,
  t4 := Tryd.underlying4,
  a4 := Tryd.isAgg4,
  z4 := Tryd.sizeOf4,
  v4 := Tryd.zeroValue4,
  t5 := Tryd.underlying5,
  a5 := Tryd.isAgg5,
  z5 := Tryd.sizeOf5,
  v5 := Tryd.zeroValue5,
  t9 := Tryd.underlying9,
  a9 := Tryd.isAgg9,
  z9 := Tryd.sizeOf9,
  v9 := Tryd.zeroValue9,
  t22 := Tryd.underlying64,
  a22 := Tryd.isAgg64,
  z22 := Tryd.sizeOf64,
  v22 := Tryd.zeroValue64,
  t25 := Tryd.underlying63,
  a25 := Tryd.isAgg63,
  z25 := Tryd.sizeOf63,
  v25 := Tryd.zeroValue63,
  t39 := Tryd.underlying92,
  a39 := Tryd.isAgg92,
  z39 := Tryd.sizeOf92,
  v39 := Tryd.zeroValue92,
  t45 := Tryd.underlying100,
  a45 := Tryd.isAgg100,
  z45 := Tryd.sizeOf100,
  v45 := Tryd.zeroValue100,
  t46 := Tryd.underlying101,
  a46 := Tryd.isAgg101,
  z46 := Tryd.sizeOf101,
  v46 := Tryd.zeroValue101,
  t50 := Tryd.underlying105,
  a50 := Tryd.isAgg105,
  z50 := Tryd.sizeOf105,
  v50 := Tryd.zeroValue105,
  t53 := Tryd.underlying108,
  a53 := Tryd.isAgg108,
  z53 := Tryd.sizeOf108,
  v53 := Tryd.zeroValue108,
  t55 := Tryd.underlying95,
  a55 := Tryd.isAgg95,
  z55 := Tryd.sizeOf95,
  v55 := Tryd.zeroValue95,
  t66 := Tryd.underlying116,
  a66 := Tryd.isAgg116,
  z66 := Tryd.sizeOf116,
  v66 := Tryd.zeroValue116,
  t70 := Tryd.underlying120,
  a70 := Tryd.isAgg120,
  z70 := Tryd.sizeOf120,
  v70 := Tryd.zeroValue120,
  t76 := Tryd.underlying124,
  a76 := Tryd.isAgg124,
  z76 := Tryd.sizeOf124,
  v76 := Tryd.zeroValue124,
  t77 := Tryd.underlying125,
  a77 := Tryd.isAgg125,
  z77 := Tryd.sizeOf125,
  v77 := Tryd.zeroValue125 }
end Go.Proofs
namespace Go.Proofs.YtabocfninjankaaDoor.P
open Go.RowKit Go.Proofs.YtabocfninjankaaDoorW.PrintWords Go.Proofs.YtabocfninjankaaDoorW.PrintLast Go.Proofs.YtabocfninjankaaDoorW.PrintMore
attribute [local go_sem] max2_int min2_int max_two min_two max_three min_three max_four min_four
set_option linter.unusedVariables false
set_option linter.unusedSimpArgs false
set_option maxHeartbeats 8000000 in
set_option maxRecDepth 100000 in
theorem rules_Atoms_1.grows (k : Nat) (a0_0 : Int) (a0_1 : Int) (a0_2 : Int) (a0_3 : Int) (a1_0 : Int) (a1_1 : Int) (a1_2 : Int) (a1_3 : Int) (r : Int) (w : World) (h : rules_Atoms_1.f k a0_0 a0_1 a0_2 a0_3 a1_0 a1_1 a1_2 a1_3 = some r) :
  Calls Tryd.prog 36 #[.agg #[.int .i64 a0_0, .int .i64 a0_1, .int .i64 a0_2, .int .i64 a0_3], .agg #[.int .i64 a1_0, .int .i64 a1_1, .int .i64 a1_2, .int .i64 a1_3]] w fun e w' => e = .returned (.int .i64 r) ∧ Below w.heap.size w w' ∧ w.drawn ≤ w'.drawn := by
 have hu60 := Tryd.underlying60
 have HB := Aside0.mk (Below.refl w.heap.size w)
 have HD := Aside0.mk (Nat.le_refl w.drawn)
 have H : ((cmp_Compare_int.f a0_0 a1_0).bind fun t171 => ((cmp_Compare_int.f a0_1 a1_1).bind fun t172 => ((cmp_Compare_int.f a0_2 a1_2).bind fun t173 => ((cmp_Compare_int.f a0_3 a1_3).bind fun t174 => ((cmp_Or_int.f k (([t171, t172, t173, t174] : List Int))).bind fun t178 => (some t178)))))) = some r := h
 clear h
 replace H := Option.bind_eq_some_iff.mp H
 obtain ⟨t171, A30, H⟩ := H
 replace H : ((cmp_Compare_int.f a0_1 a1_1).bind fun t172 => ((cmp_Compare_int.f a0_2 a1_2).bind fun t173 => ((cmp_Compare_int.f a0_3 a1_3).bind fun t174 => ((cmp_Or_int.f k (([t171, t172, t173, t174] : List Int))).bind fun t178 => (some t178))))) = some r := H
 have A3 := Aside0.mk A30
 clear A30
 replace H := Option.bind_eq_some_iff.mp H
 obtain ⟨t172, A40, H⟩ := H
 replace H : ((cmp_Compare_int.f a0_2 a1_2).bind fun t173 => ((cmp_Compare_int.f a0_3 a1_3).bind fun t174 => ((cmp_Or_int.f k (([t171, t172, t173, t174] : List Int))).bind fun t178 => (some t178)))) = some r := H
 have A4 := Aside0.mk A40
 clear A40
 replace H := Option.bind_eq_some_iff.mp H
 obtain ⟨t173, A50, H⟩ := H
 replace H : ((cmp_Compare_int.f a0_3 a1_3).bind fun t174 => ((cmp_Or_int.f k (([t171, t172, t173, t174] : List Int))).bind fun t178 => (some t178))) = some r := H
 have A5 := Aside0.mk A50
 clear A50
 replace H := Option.bind_eq_some_iff.mp H
 obtain ⟨t174, A60, H⟩ := H
 replace H : ((cmp_Or_int.f k (([t171, t172, t173, t174] : List Int))).bind fun t178 => (some t178)) = some r := H
 have A6 := Aside0.mk A60
 clear A60
 obtain ⟨y175, hy175⟩ : ∃ y_ : List Int, y_ = (([t171, t172, t173, t174] : List Int)) := ⟨_, rfl⟩
 replace H : ((cmp_Or_int.f k y175).bind fun t178 => (some t178)) = some r := by first | (rw [hy175]; with_reducible exact H) | (have H2_ := (Option.bind_some _ _).symm.trans H; rw [hy175]; with_reducible exact H2_) | (have H2_ := (Option.bind_some _ _).symm.trans H; with_reducible exact H2_) | with_reducible exact H | (rw [hy175]; exact H) | exact H
 have Ny175 := Aside0.mk hy175
 clear hy175
 replace H := Option.bind_eq_some_iff.mp H
 obtain ⟨t178, A70, H⟩ := H
 replace H : (some t178) = some r := H
 have A7 := Aside0.mk A70
 clear A70
 obtain rfl := Option.some.inj H
 go_enter Tryd.func36, Tryd.ntmps36
 try go_wp2_with (first | ((with_reducible refine gate_dst (N := 2) rfl ?_); refine Grow.box_event ?hg (N := 2) ?hd (cs := #[.int .i64 a0_0, .int .i64 a0_1, .int .i64 a0_2, .int .i64 a0_3]) (t := 60) ?hr ?_; (case hd => rfl); (case hg => rfl); (case hr => first | (go_simp; done) | (go_simp; rfl)); intro gb169 hg w8 hbox hb hd_; have HDn_ : Aside0 (w.drawn ≤ w8.drawn) := ⟨by have h1_ := HD.out; have h2_ := hd_; (try simp only [Grow.drawn_drewN, Grow.drawn_alloc] at h1_ h2_); omega⟩; clear HD hd_; have HD := HDn_; clear HDn_; have n0_ := Aside0.mk (below_step (by repeat (first | (with_reducible first | exact HB.out | apply below_alloc | apply pw_below_drewN | apply below_drew1) | exact HB.out)) hb); have n1_ := Aside0.mk (hbox); have n2_ := Aside0.mk ((by rw [hg]; exact (below_size (by repeat (first | (with_reducible first | exact HB.out | apply below_alloc | apply pw_below_drewN | apply below_drew1) | exact HB.out))) : w.heap.size ≤ gb169)); have n3_ := Aside0.mk ((by rw [hg]; exact (below_size (by repeat (first | (with_reducible first | exact HB.out | apply below_alloc | apply pw_below_drewN | apply below_drew1) | exact HB.out))) : w.heap.size ≤ gb169)); clear HB; have HB := n0_; have BK169 := n1_; have GW169 := n2_; have GE169 := n3_; clear n0_ n1_ n2_ n3_; clear hb hbox hg) | ((with_reducible refine gate_dst (N := 3) rfl ?_); refine Grow.box_event ?hg (N := 3) ?hd (cs := #[.int .i64 a1_0, .int .i64 a1_1, .int .i64 a1_2, .int .i64 a1_3]) (t := 60) ?hr ?_; (case hd => rfl); (case hg => rfl); (case hr => first | (go_simp; done) | (go_simp; rfl)); intro gb170 hg w9 hbox hb hd_; have HDn_ : Aside0 (w.drawn ≤ w9.drawn) := ⟨by have h1_ := HD.out; have h2_ := hd_; (try simp only [Grow.drawn_drewN, Grow.drawn_alloc] at h1_ h2_); omega⟩; clear HD hd_; have HD := HDn_; clear HDn_; have n0_ := Aside0.mk (blk_below (g := gb169) (o := .cells #[.int .i64 a0_0, .int .i64 a0_1, .int .i64 a0_2, .int .i64 a0_3] 60 (0, 0)) (by (with_reducible repeat (first | refine blk_drewN ?_ _ | refine blk_drew ?_ | refine blk_alloc ?_ _)); exact BK169.out) hb); have n1_ := Aside0.mk (below_step (by repeat (first | (with_reducible first | exact HB.out | apply below_alloc | apply pw_below_drewN | apply below_drew1 | refine below_set ?_ GE169.out) | exact HB.out)) hb); have n2_ := Aside0.mk (hbox); have n3_ := Aside0.mk ((by rw [hg]; exact (below_size (by repeat (first | (with_reducible first | exact HB.out | apply below_alloc | apply pw_below_drewN | apply below_drew1 | refine below_set ?_ GE169.out) | exact HB.out))) : w.heap.size ≤ gb170)); have n4_ := Aside0.mk ((by rw [hg]; exact (below_size (by repeat (first | (with_reducible first | exact HB.out | apply below_alloc | apply pw_below_drewN | apply below_drew1 | refine below_set ?_ GE169.out) | exact HB.out))) : w.heap.size ≤ gb170)); have n5_ := Aside0.mk ((by rw [hg]; exact Nat.ne_of_lt (blk_lt (g := gb169) (o := .cells #[.int .i64 a0_0, .int .i64 a0_1, .int .i64 a0_2, .int .i64 a0_3] 60 (0, 0)) (by (with_reducible repeat (first | refine blk_drewN ?_ _ | refine blk_drew ?_ | refine blk_alloc ?_ _)); exact BK169.out)) : gb169 ≠ gb170)); have n6_ := Aside0.mk ((by rw [hg]; exact Nat.ne_of_gt (blk_lt (g := gb169) (o := .cells #[.int .i64 a0_0, .int .i64 a0_1, .int .i64 a0_2, .int .i64 a0_3] 60 (0, 0)) (by (with_reducible repeat (first | refine blk_drewN ?_ _ | refine blk_drew ?_ | refine blk_alloc ?_ _)); exact BK169.out)) : gb170 ≠ gb169)); clear BK169; clear HB; have BK169 := n0_; have HB := n1_; have BK170 := n2_; have GW170 := n3_; have GE170 := n4_; have NB169_170 := n5_; have NB170_169 := n6_; clear n0_ n1_ n2_ n3_ n4_ n5_ n6_; clear hb hbox hg))
 have n0_ := Aside0.mk (blk_drew BK169.out)
 have n1_ := Aside0.mk (blk_drew BK170.out)
 have n2_ := Aside0.mk (below_drew1 HB.out)
 clear BK169
 clear BK170
 clear HB
 have BK169 := n0_
 have BK170 := n1_
 have HB := n2_
 clear n0_ n1_ n2_
 refine start_ (n := 23) (S := fun w' => w'.cell? ⟨gb169, 0, none⟩ = some (.int .i64 a0_0) ∧ w'.cell? ⟨gb169, 1, none⟩ = some (.int .i64 a0_1) ∧ w'.cell? ⟨gb169, 2, none⟩ = some (.int .i64 a0_2) ∧ w'.cell? ⟨gb169, 3, none⟩ = some (.int .i64 a0_3) ∧ w'.cell? ⟨gb170, 0, none⟩ = some (.int .i64 a1_0) ∧ w'.cell? ⟨gb170, 1, none⟩ = some (.int .i64 a1_1) ∧ w'.cell? ⟨gb170, 2, none⟩ = some (.int .i64 a1_2) ∧ w'.cell? ⟨gb170, 3, none⟩ = some (.int .i64 a1_3)) (ds := []) #[false, false, false, false, false, false, false, false, false, false, false, false, false, false, false, false, false, false, false, false, false, false, false] (by kernel_rfl) rfl rfl ⟨(blk_cell BK169.out 0).trans rfl, (blk_cell BK169.out 1).trans rfl, (blk_cell BK169.out 2).trans rfl, (blk_cell BK169.out 3).trans rfl, (blk_cell BK170.out 0).trans rfl, (blk_cell BK170.out 1).trans rfl, (blk_cell BK170.out 2).trans rfl, (blk_cell BK170.out 3).trans rfl⟩ (fun hHeld => ?_); refine with_tabW rules_Atoms_1.tab1 rules_Atoms_1.bits1 (fun HT_ HW_ => ?_)
 have HDn_ : Aside0 (w.drawn ≤ w9.drew.drawn) := ⟨Nat.le_succ_of_le HD.out⟩
 clear HD
 have HD := HDn_
 clear HDn_
 generalize w9.drew = w10 at BK169 BK170 HB HD hHeld ⊢
 refine pure_ (i := 0) (N := some 5) (v := ?_) (a' := ?_) #[true, false, false, false, false, false, false, false, false, false, false, false, false, false, false, false, false, false, false, false, false, false, false] rfl rfl (any_of HT_.out (by kernel_rfl)) (fun _ _ _ h => h) (Or.inl ⟨by rfl, ?_⟩) ?_ ?_
 rotate_left
 ·intro w'
  go_simp
  with_reducible rfl
 rotate_left
 ·simp only [Act.put, List.setIfInBounds_toArray, List.set_cons_zero, List.set_cons_succ, i64_w, i32_w]
  rfl
 refine pure_ (i := 2) (N := some 7) (v := ?_) (a' := ?_) #[true, false, true, false, false, false, false, false, false, false, false, false, false, false, false, false, false, false, false, false, false, false, false] rfl rfl (any_of HT_.out (by kernel_rfl)) (fun _ _ _ h => h) (Or.inl ⟨by rfl, ?_⟩) ?_ ?_
 rotate_left
 ·intro w'
  go_simp
  with_reducible rfl
 rotate_left
 ·simp only [Act.put, List.setIfInBounds_toArray, List.set_cons_zero, List.set_cons_succ, i64_w, i32_w]
  rfl
 refine pure_ (i := 5) (N := some 10) (v := ?_) (a' := ?_) #[true, false, true, false, false, true, false, false, false, false, false, false, false, false, false, false, false, false, false, false, false, false, false] rfl rfl (any_of HT_.out (by kernel_rfl)) (fun _ _ _ h => h) (Or.inl ⟨by rfl, ?_⟩) ?_ ?_
 rotate_left
 ·intro w'
  go_simp
  with_reducible rfl
 rotate_left
 ·simp only [Act.put, List.setIfInBounds_toArray, List.set_cons_zero, List.set_cons_succ, i64_w, i32_w]
  rfl
 refine pure_ (i := 7) (N := some 12) (v := ?_) (a' := ?_) #[true, false, true, false, false, true, false, true, false, false, false, false, false, false, false, false, false, false, false, false, false, false, false] rfl rfl (any_of HT_.out (by kernel_rfl)) (fun _ _ _ h => h) (Or.inl ⟨by rfl, ?_⟩) ?_ ?_
 rotate_left
 ·intro w'
  go_simp
  with_reducible rfl
 rotate_left
 ·simp only [Act.put, List.setIfInBounds_toArray, List.set_cons_zero, List.set_cons_succ, i64_w, i32_w]
  rfl
 refine pure_ (i := 10) (N := some 15) (v := ?_) (a' := ?_) #[true, false, true, false, false, true, false, true, false, false, true, false, false, false, false, false, false, false, false, false, false, false, false] rfl rfl (any_of HT_.out (by kernel_rfl)) (fun _ _ _ h => h) (Or.inl ⟨by rfl, ?_⟩) ?_ ?_
 rotate_left
 ·intro w'
  go_simp
  with_reducible rfl
 rotate_left
 ·simp only [Act.put, List.setIfInBounds_toArray, List.set_cons_zero, List.set_cons_succ, i64_w, i32_w]
  rfl
 refine pure_ (i := 12) (N := some 17) (v := ?_) (a' := ?_) #[true, false, true, false, false, true, false, true, false, false, true, false, true, false, false, false, false, false, false, false, false, false, false] rfl rfl (any_of HT_.out (by kernel_rfl)) (fun _ _ _ h => h) (Or.inl ⟨by rfl, ?_⟩) ?_ ?_
 rotate_left
 ·intro w'
  go_simp
  with_reducible rfl
 rotate_left
 ·simp only [Act.put, List.setIfInBounds_toArray, List.set_cons_zero, List.set_cons_succ, i64_w, i32_w]
  rfl
 refine pure_ (i := 15) (N := some 20) (v := ?_) (a' := ?_) #[true, false, true, false, false, true, false, true, false, false, true, false, true, false, false, true, false, false, false, false, false, false, false] rfl rfl (any_of HT_.out (by kernel_rfl)) (fun _ _ _ h => h) (Or.inl ⟨by rfl, ?_⟩) ?_ ?_
 rotate_left
 ·intro w'
  go_simp
  with_reducible rfl
 rotate_left
 ·simp only [Act.put, List.setIfInBounds_toArray, List.set_cons_zero, List.set_cons_succ, i64_w, i32_w]
  rfl
 refine pure_ (i := 17) (N := some 22) (v := ?_) (a' := ?_) #[true, false, true, false, false, true, false, true, false, false, true, false, true, false, false, true, false, true, false, false, false, false, false] rfl rfl (any_of HT_.out (by kernel_rfl)) (fun _ _ _ h => h) (Or.inl ⟨by rfl, ?_⟩) ?_ ?_
 rotate_left
 ·intro w'
  go_simp
  with_reducible rfl
 rotate_left
 ·simp only [Act.put, List.setIfInBounds_toArray, List.set_cons_zero, List.set_cons_succ, i64_w, i32_w]
  rfl
 refine take_ (i := 1) (N := some 6) (v := ?_) (a' := ?_) #[true, true, true, false, false, true, false, true, false, false, true, false, true, false, false, true, false, true, false, false, false, false, false] rfl rfl (take_ofW HT_.out HW_.out (by kernel_rfl)) (fun _ _ _ h => h) (Or.inl ⟨by rfl, ?_⟩) hHeld ?_ ?_
 rotate_left
 ·rintro w' ⟨s0, s1, s2, s3, s4, s5, s6, s7⟩
  go_simp
  with_reducible rfl
 rotate_left
 ·simp only [Act.put, List.setIfInBounds_toArray, List.set_cons_zero, List.set_cons_succ, i64_w, i32_w]
  rfl
 refine take_ (i := 3) (N := some 8) (v := ?_) (a' := ?_) #[true, true, true, true, false, true, false, true, false, false, true, false, true, false, false, true, false, true, false, false, false, false, false] rfl rfl (take_ofW HT_.out HW_.out (by kernel_rfl)) (fun _ _ _ h => h) (Or.inl ⟨by rfl, ?_⟩) hHeld ?_ ?_
 rotate_left
 ·rintro w' ⟨s0, s1, s2, s3, s4, s5, s6, s7⟩
  go_simp
  with_reducible rfl
 rotate_left
 ·simp only [Act.put, List.setIfInBounds_toArray, List.set_cons_zero, List.set_cons_succ, i64_w, i32_w]
  rfl
 refine take_ (i := 6) (N := some 11) (v := ?_) (a' := ?_) #[true, true, true, true, false, true, true, true, false, false, true, false, true, false, false, true, false, true, false, false, false, false, false] rfl rfl (take_ofW HT_.out HW_.out (by kernel_rfl)) (fun _ _ _ h => h) (Or.inl ⟨by rfl, ?_⟩) hHeld ?_ ?_
 rotate_left
 ·rintro w' ⟨s0, s1, s2, s3, s4, s5, s6, s7⟩
  go_simp
  with_reducible rfl
 rotate_left
 ·simp only [Act.put, List.setIfInBounds_toArray, List.set_cons_zero, List.set_cons_succ, i64_w, i32_w]
  rfl
 refine take_ (i := 8) (N := some 13) (v := ?_) (a' := ?_) #[true, true, true, true, false, true, true, true, true, false, true, false, true, false, false, true, false, true, false, false, false, false, false] rfl rfl (take_ofW HT_.out HW_.out (by kernel_rfl)) (fun _ _ _ h => h) (Or.inl ⟨by rfl, ?_⟩) hHeld ?_ ?_
 rotate_left
 ·rintro w' ⟨s0, s1, s2, s3, s4, s5, s6, s7⟩
  go_simp
  with_reducible rfl
 rotate_left
 ·simp only [Act.put, List.setIfInBounds_toArray, List.set_cons_zero, List.set_cons_succ, i64_w, i32_w]
  rfl
 refine take_ (i := 11) (N := some 16) (v := ?_) (a' := ?_) #[true, true, true, true, false, true, true, true, true, false, true, true, true, false, false, true, false, true, false, false, false, false, false] rfl rfl (take_ofW HT_.out HW_.out (by kernel_rfl)) (fun _ _ _ h => h) (Or.inl ⟨by rfl, ?_⟩) hHeld ?_ ?_
 rotate_left
 ·rintro w' ⟨s0, s1, s2, s3, s4, s5, s6, s7⟩
  go_simp
  with_reducible rfl
 rotate_left
 ·simp only [Act.put, List.setIfInBounds_toArray, List.set_cons_zero, List.set_cons_succ, i64_w, i32_w]
  rfl
 refine take_ (i := 13) (N := some 18) (v := ?_) (a' := ?_) #[true, true, true, true, false, true, true, true, true, false, true, true, true, true, false, true, false, true, false, false, false, false, false] rfl rfl (take_ofW HT_.out HW_.out (by kernel_rfl)) (fun _ _ _ h => h) (Or.inl ⟨by rfl, ?_⟩) hHeld ?_ ?_
 rotate_left
 ·rintro w' ⟨s0, s1, s2, s3, s4, s5, s6, s7⟩
  go_simp
  with_reducible rfl
 rotate_left
 ·simp only [Act.put, List.setIfInBounds_toArray, List.set_cons_zero, List.set_cons_succ, i64_w, i32_w]
  rfl
 refine take_ (i := 16) (N := some 21) (v := ?_) (a' := ?_) #[true, true, true, true, false, true, true, true, true, false, true, true, true, true, false, true, true, true, false, false, false, false, false] rfl rfl (take_ofW HT_.out HW_.out (by kernel_rfl)) (fun _ _ _ h => h) (Or.inl ⟨by rfl, ?_⟩) hHeld ?_ ?_
 rotate_left
 ·rintro w' ⟨s0, s1, s2, s3, s4, s5, s6, s7⟩
  go_simp
  with_reducible rfl
 rotate_left
 ·simp only [Act.put, List.setIfInBounds_toArray, List.set_cons_zero, List.set_cons_succ, i64_w, i32_w]
  rfl
 refine take_ (i := 18) (N := some 23) (v := ?_) (a' := ?_) #[true, true, true, true, false, true, true, true, true, false, true, true, true, true, false, true, true, true, true, false, false, false, false] rfl rfl (take_ofW HT_.out HW_.out (by kernel_rfl)) (fun _ _ _ h => h) (Or.inl ⟨by rfl, ?_⟩) hHeld ?_ ?_
 rotate_left
 ·rintro w' ⟨s0, s1, s2, s3, s4, s5, s6, s7⟩
  go_simp
  with_reducible rfl
 rotate_left
 ·simp only [Act.put, List.setIfInBounds_toArray, List.set_cons_zero, List.set_cons_succ, i64_w, i32_w]
  rfl
 refine one_ (i := 4) (N := some 9) #[true, true, true, true, true, true, true, true, true, false, true, true, true, true, false, true, true, true, true, false, false, false, false] rfl rfl (one_of HT_.out (by kernel_rfl)) (by decide) (fun K hK => ?_)
 refine goes_ Tryd.func38 (by kernel_rfl) rfl #[.int .i64 a0_0, .int .i64 a1_0] (by rfl) rfl rfl (by (try simp only [List.map_toArray, List.map_cons, List.map_nil]); first | done | rfl | (simp only [List.length_drop, List.length_take]; rfl)) ?_
 with_reducible refine (cmp_Compare_int.calls a0_0 a1_0 t171 _ A3.out).mono ?_
 rintro e w' ⟨rfl, ⟨nd, rfl⟩⟩
 refine ⟨_, rfl, ?_⟩
 refine hK.out _ _ ⟨(blk_cell BK169.out 0).trans rfl, (blk_cell BK169.out 1).trans rfl, (blk_cell BK169.out 2).trans rfl, (blk_cell BK169.out 3).trans rfl, (blk_cell BK170.out 0).trans rfl, (blk_cell BK170.out 1).trans rfl, (blk_cell BK170.out 2).trans rfl, (blk_cell BK170.out 3).trans rfl⟩ (fun hHeld => ?_)
 clear hK K
 refine norm_ (a' := ?_) ?_ ?_
 rotate_left
 ·show Act.put _ (some 9) _ = _
  simp only [Act.put, List.setIfInBounds_toArray, List.set_cons_zero, List.set_cons_succ, i64_w, i32_w]
  rfl
 refine one_ (i := 9) (N := some 14) #[true, true, true, true, true, true, true, true, true, true, true, true, true, true, false, true, true, true, true, false, false, false, false] rfl rfl (one_of HT_.out (by kernel_rfl)) (by decide) (fun K hK => ?_)
 refine goes_ Tryd.func38 (by kernel_rfl) rfl #[.int .i64 a0_1, .int .i64 a1_1] (by rfl) rfl rfl (by (try simp only [List.map_toArray, List.map_cons, List.map_nil]); first | done | rfl | (simp only [List.length_drop, List.length_take]; rfl)) ?_
 with_reducible refine (cmp_Compare_int.calls a0_1 a1_1 t172 _ A4.out).mono ?_
 rintro e w' ⟨rfl, ⟨nd, rfl⟩⟩
 refine ⟨_, rfl, ?_⟩
 refine hK.out _ _ ⟨(blk_cell BK169.out 0).trans rfl, (blk_cell BK169.out 1).trans rfl, (blk_cell BK169.out 2).trans rfl, (blk_cell BK169.out 3).trans rfl, (blk_cell BK170.out 0).trans rfl, (blk_cell BK170.out 1).trans rfl, (blk_cell BK170.out 2).trans rfl, (blk_cell BK170.out 3).trans rfl⟩ (fun hHeld => ?_)
 clear hK K
 refine norm_ (a' := ?_) ?_ ?_
 rotate_left
 ·show Act.put _ (some 14) _ = _
  simp only [Act.put, List.setIfInBounds_toArray, List.set_cons_zero, List.set_cons_succ, i64_w, i32_w]
  rfl
 refine one_ (i := 14) (N := some 19) #[true, true, true, true, true, true, true, true, true, true, true, true, true, true, true, true, true, true, true, false, false, false, false] rfl rfl (one_of HT_.out (by kernel_rfl)) (by decide) (fun K hK => ?_)
 refine goes_ Tryd.func38 (by kernel_rfl) rfl #[.int .i64 a0_2, .int .i64 a1_2] (by rfl) rfl rfl (by (try simp only [List.map_toArray, List.map_cons, List.map_nil]); first | done | rfl | (simp only [List.length_drop, List.length_take]; rfl)) ?_
 with_reducible refine (cmp_Compare_int.calls a0_2 a1_2 t173 _ A5.out).mono ?_
 rintro e w' ⟨rfl, ⟨nd, rfl⟩⟩
 refine ⟨_, rfl, ?_⟩
 refine hK.out _ _ ⟨(blk_cell BK169.out 0).trans rfl, (blk_cell BK169.out 1).trans rfl, (blk_cell BK169.out 2).trans rfl, (blk_cell BK169.out 3).trans rfl, (blk_cell BK170.out 0).trans rfl, (blk_cell BK170.out 1).trans rfl, (blk_cell BK170.out 2).trans rfl, (blk_cell BK170.out 3).trans rfl⟩ (fun hHeld => ?_)
 clear hK K
 refine norm_ (a' := ?_) ?_ ?_
 rotate_left
 ·show Act.put _ (some 19) _ = _
  simp only [Act.put, List.setIfInBounds_toArray, List.set_cons_zero, List.set_cons_succ, i64_w, i32_w]
  rfl
 refine one_ (i := 19) (N := some 24) #[true, true, true, true, true, true, true, true, true, true, true, true, true, true, true, true, true, true, true, true, false, false, false] rfl rfl (one_of HT_.out (by kernel_rfl)) (by decide) (fun K hK => ?_)
 refine goes_ Tryd.func38 (by kernel_rfl) rfl #[.int .i64 a0_3, .int .i64 a1_3] (by rfl) rfl rfl (by (try simp only [List.map_toArray, List.map_cons, List.map_nil]); first | done | rfl | (simp only [List.length_drop, List.length_take]; rfl)) ?_
 with_reducible refine (cmp_Compare_int.calls a0_3 a1_3 t174 _ A6.out).mono ?_
 rintro e w' ⟨rfl, ⟨nd, rfl⟩⟩
 refine ⟨_, rfl, ?_⟩
 refine hK.out _ _ ⟨(blk_cell BK169.out 0).trans rfl, (blk_cell BK169.out 1).trans rfl, (blk_cell BK169.out 2).trans rfl, (blk_cell BK169.out 3).trans rfl, (blk_cell BK170.out 0).trans rfl, (blk_cell BK170.out 1).trans rfl, (blk_cell BK170.out 2).trans rfl, (blk_cell BK170.out 3).trans rfl⟩ (fun hHeld => ?_)
 clear hK K
 refine norm_ (a' := ?_) ?_ ?_
 rotate_left
 ·show Act.put _ (some 24) _ = _
  simp only [Act.put, List.setIfInBounds_toArray, List.set_cons_zero, List.set_cons_succ, i64_w, i32_w]
  rfl
 refine one_ (i := 20) (N := some 25) #[true, true, true, true, true, true, true, true, true, true, true, true, true, true, true, true, true, true, true, true, true, false, false] rfl rfl (one_of HT_.out (by kernel_rfl)) (by decide) (fun K hK => ?_)
 refine Grow.R_lit_step (Kd.int .i64) _ 3 ?hg (N := 25) ?hd (xs := ([t171, t172, t173, t174] : List Int)) (inner := [.int .i64 t171, .int .i64 t172, .int .i64 t173, .int .i64 t174]) (ok := fun _ => True) (okp := fun _ => True) ?hr ?hp (fun _ hk => hk) trivial (Below.refl _ _) (Nat.le_refl _) (by simp) ?_; (case hd => rfl); (case hg => rfl); (case hr => first | (go_simp; done) | (go_simp; rfl)); (case hp => exact (Reps.one (show Kd.M (Kd.int .i64) _ _ _ t171 [.int .i64 t171] from rfl) (Reps.one (show Kd.M (Kd.int .i64) _ _ _ t172 [.int .i64 t172] from rfl) (Reps.one (show Kd.M (Kd.int .i64) _ _ _ t173 [.int .i64 t173] from rfl) (Reps.one (show Kd.M (Kd.int .i64) _ _ _ t174 [.int .i64 t174] from rfl) (Reps.none _ _))))))
 intro v176 w11 ho12 hb hg_ hnew_ hd_
 have HDn_ : Aside0 (w.drawn ≤ w11.drawn) := ⟨by have h1_ := HD.out; have h2_ := hd_; (try simp only [Grow.drawn_drewN, Grow.drawn_alloc] at h1_ h2_); omega⟩; clear HD hd_; have HD := HDn_; clear HDn_
 clear hg_ hnew_
 (first | rw [← Ny175.out] at ho12 | (simp only [Int.reduceToNat] at ho12; rw [← Ny175.out] at ho12))
 have n0_ := Aside0.mk (Kd.R_lower ho12 (below_size (by repeat (first | (with_reducible first | exact HB.out | apply below_alloc | apply pw_below_drewN | apply below_drew1 | refine below_set ?_ GE169.out | refine below_set ?_ GE170.out) | exact HB.out))))
 have n1_ := Aside0.mk (blk_below (g := gb169) (o := .cells #[.int .i64 a0_0, .int .i64 a0_1, .int .i64 a0_2, .int .i64 a0_3] 60 (0, 0)) (by (with_reducible repeat (first | refine blk_drewN ?_ _ | refine blk_drew ?_ | refine blk_alloc ?_ _)); exact BK169.out) hb)
 have n2_ := Aside0.mk (blk_below (g := gb170) (o := .cells #[.int .i64 a1_0, .int .i64 a1_1, .int .i64 a1_2, .int .i64 a1_3] 60 (0, 0)) (by (with_reducible repeat (first | refine blk_drewN ?_ _ | refine blk_drew ?_ | refine blk_alloc ?_ _)); exact BK170.out) hb)
 have n3_ := Aside0.mk (below_step (by repeat (first | (with_reducible first | exact HB.out | apply below_alloc | apply pw_below_drewN | apply below_drew1 | refine below_set ?_ GE169.out | refine below_set ?_ GE170.out) | exact HB.out)) hb)
 clear BK169
 clear BK170
 clear HB
 have HO177 := n0_
 have BK169 := n1_
 have BK170 := n2_
 have HB := n3_
 clear n0_ n1_ n2_ n3_
 clear hb ho12
 obtain ⟨Ao13, co13, eo13⟩ := Kd.R_slice HO177.out
 (first | subst eo13 | (injection eo13 with f1_ f2_ f3_; have f4_ := f1_.symm; have f5_ := f3_.symm; clear f1_ f2_ f3_; subst f4_; subst f5_))
 refine hK.out _ _ ⟨(blk_cell BK169.out 0).trans rfl, (blk_cell BK169.out 1).trans rfl, (blk_cell BK169.out 2).trans rfl, (blk_cell BK169.out 3).trans rfl, (blk_cell BK170.out 0).trans rfl, (blk_cell BK170.out 1).trans rfl, (blk_cell BK170.out 2).trans rfl, (blk_cell BK170.out 3).trans rfl⟩ (fun hHeld => ?_)
 clear hK K
 refine norm_ (a' := ?_) ?_ ?_
 rotate_left
 ·show Act.put _ (some 25) _ = _
  simp only [Act.put, List.setIfInBounds_toArray, List.set_cons_zero, List.set_cons_succ, i64_w, i32_w]
  rfl
 refine one_ (i := 21) (N := some 26) #[true, true, true, true, true, true, true, true, true, true, true, true, true, true, true, true, true, true, true, true, true, true, false] rfl rfl (one_of HT_.out (by kernel_rfl)) (by decide) (fun K hK => ?_)
 refine goes_ Tryd.func37 (by kernel_rfl) rfl #[.slice Ao13 y175.length co13] (by rfl) rfl rfl (by (try simp only [List.map_toArray, List.map_cons, List.map_nil]); first | done | rfl | (simp only [List.length_drop, List.length_take]; rfl)) ?_
 with_reducible refine (cmp_Or_int.calls k _ _ y175 t178 _ ?side1 ?side2 A7.out).mono ?_
 (case side1 => repeat (first | exact (Kd.R_reads' HO177.out).2.2 | (with_reducible refine Kd.C_alloc ?_ _) | (with_reducible refine Kd.C_drewN ?_ _) | (with_reducible refine Kd.C_drew ?_)))
 (case side2 => exact (Kd.R_reads' HO177.out).2.1)
 rintro e w' ⟨rfl, ⟨nd, rfl⟩⟩
 refine ⟨_, rfl, ?_⟩
 refine hK.out _ _ ⟨(blk_cell BK169.out 0).trans rfl, (blk_cell BK169.out 1).trans rfl, (blk_cell BK169.out 2).trans rfl, (blk_cell BK169.out 3).trans rfl, (blk_cell BK170.out 0).trans rfl, (blk_cell BK170.out 1).trans rfl, (blk_cell BK170.out 2).trans rfl, (blk_cell BK170.out 3).trans rfl⟩ (fun hHeld => ?_)
 clear hK K
 refine norm_ (a' := ?_) ?_ ?_
 rotate_left
 ·show Act.put _ (some 26) _ = _
  simp only [Act.put, List.setIfInBounds_toArray, List.set_cons_zero, List.set_cons_succ, i64_w, i32_w]
  rfl
 refine pure_ (i := 22) (N := some 4) (v := ?_) (a' := ?_) #[true, true, true, true, true, true, true, true, true, true, true, true, true, true, true, true, true, true, true, true, true, true, true] rfl rfl (any_of HT_.out (by kernel_rfl)) (fun _ _ _ h => h) (Or.inl ⟨by rfl, ?_⟩) ?_ ?_
 rotate_left
 ·intro w'
  go_simp
  with_reducible rfl
 rotate_left
 ·simp only [Act.put, List.setIfInBounds_toArray, List.set_cons_zero, List.set_cons_succ, i64_w, i32_w]
  rfl
 refine done_ (done_of HT_.out (by kernel_rfl)) ?_
 try go_wp2
 go_ret
 exact ⟨by first | rfl | (simp [errW_none, errW_some] <;> rfl) | (simp [*, errW_none, errW_some] <;> rfl), by repeat (first | (with_reducible first | exact HB.out | apply below_alloc | apply pw_below_drewN | apply below_drew1 | refine below_set ?_ GE169.out | refine below_set ?_ GE170.out) | exact HB.out), (by have h1_ := HD.out; (try simp only [Grow.drawn_drewN, Grow.drawn_alloc] at h1_ ⊢); omega)⟩
end Go.Proofs.YtabocfninjankaaDoor.P
namespace Go.Proofs.YtabocfninjankaaDoor.P
open Go.RowKit Go.Proofs.YtabocfninjankaaDoorW.PrintWords Go.Proofs.YtabocfninjankaaDoorW.PrintLast Go.Proofs.YtabocfninjankaaDoorW.PrintMore
theorem cmpLaysA (blk off size : Nat) (w : World) : CmpLays Tryd.prog 36 #[] encA 4 cfA blk off size w :=
  fun m os dk _ x y => (rules_Atoms_1.grows 10 x.o x.c x.n x.d y.o y.c y.n y.d (cfA x y) (sortWorldK encA 4 w blk off m dk os) (rules_Atoms_1_f x y)).mono
    fun _ _ ⟨he, hb, hd⟩ => ⟨he, Grow.grow_of hb hd⟩
theorem slices_SortFunc_atom {base : Nat} {ok : Nat → Prop} {A : Option Addr} {n c : Nat} {xs : List A4} {w : World} (h : k60.R 60 w base ok (.slice A n c) xs) (hl : xs.length ≤ 4611686018427387000) :
    Calls Tryd.prog 55 #[.slice A n c, .func (.func 36) #[] #[]] w fun e w' => e = .returned (.tuple #[]) ∧ k60.R 60 w' base ok (.slice A n c) (sortA xs) ∧ w.grownBy w' (Value.slice A n c).ownBlock := by
  rcases Flat.rowAt_of_R flatA h with ⟨hv, rfl⟩ | ⟨g, cap, hv, hb, hok, hr⟩
  · injection hv with h1 h2 h3
    subst h1 h2 h3
    have hc := AnyF.slices_SortFunc_none { Tryd.sortAtom with } none 0 (.func (.func 36) #[] #[]) w
    change Calls Tryd.prog 55 _ _ _ at hc
    refine Calls.mono hc ?_
    rintro e w' ⟨rfl, rfl⟩
    exact ⟨rfl, by simpa [sortA] using Kd.R_nil k60 60 _ base ok, ⟨rfl, rfl, rfl, Nat.le_refl _, fun _ _ _ => rfl⟩⟩
  · injection hv with h1 h2 h3
    subst h1 h2 h3
    have eg : ∀ args w, (callFunc 36 args).run Tryd.prog w = .ok (.enter 36 args) w := enters_of Tryd.func36 (by kernel_rfl) rfl
    have hc := AnyQ.slices_SortFunc_total Tryd.sortAtom 4 Tryd.isAgg60 Tryd.sizeOf60 encA encA_len encA_one cfA swoA 36 #[] g 0 c xs.toArray w eg (cmpLaysA _ _ _ _) (hr.holds flatA) hr.lt (by rw [List.size_toArray]; omega) cfA_sep
    rw [List.size_toArray] at hc
    change Calls Tryd.prog 55 _ _ _ at hc
    refine Calls.mono hc ?_
    rintro e w' ⟨rfl, n, os, rfl⟩
    have hy : (xs.mergeSort fun x y => !ltOf cfA y x).toArray.size = xs.length := by simp
    obtain ⟨h1, h2⟩ := hr.sorted (n := n) (os := os) flatA hy
    have h3 := Flat.R_of_rowAt flatA hb hok h1
    refine ⟨rfl, ?_, h2⟩
    have e1 : (sortA xs).length = xs.length := by simp [sortA]
    rw [← e1]
    exact h3
end Go.Proofs.YtabocfninjankaaDoor.P
namespace Go.Proofs.YtabocfninjankaaDoor.P
open Go.RowKit Go.Shelf Go.Maps Go.Proofs.YtabocfninjankaaDoorW.PrintWords Go.Proofs.YtabocfninjankaaDoorW.PrintLast Go.Proofs.YtabocfninjankaaDoorW.PrintMore
attribute [local go_sem] Oper.semAt_some
set_option linter.unusedVariables false
set_option linter.unusedSimpArgs false
/-- slices.SortedFunc at atoms, with the program's order. -/
theorem sortedFunc_in (n : Nat) (hn : 5 ≤ n) (gf : Nat) (lb : Array Value) (eg : ∀ args w, (callFunc gf args).run Tryd.prog w = .ok (.enter gf args) w)
    (T Tp : List A4 → Prop) (N : Nat) {w : World} (hN : N * 32 ≤ 140737488355328) (hT : ∀ ys, T ys → ys.length ≤ 4611686018427387000)
    (hseq : SeqStopsK Fence.wide (n - 1 - 1 - 1) Tryd.prog gf lb (fun x : A4 => #[.agg (encA x).toArray]) KeepsWalks T Tp N w) :
    CallsIn Fence.wide n Tryd.prog 39 #[.func (.func gf) #[] lb, .func (.func 36) #[] #[]] w fun e w' => ∃ v ys, e = .returned v ∧ T ys ∧ k60.R 60 w' w.heap.size (fun _ => True) v (sortA ys) ∧ w.grownBy w' none := by
  have hdd : ∀ k : Nat, (Fence.wide.depth.isSome = true → 1 ≤ k) := fun k h => by cases h
  have G := Aside0.mk (collect_in Fence.wide (n - 1) trivial trivial rfl (by omega) rfl gf lb trivial eg T Tp N hN hseq)
  refine callsIn_of_wp Tryd.func39 rfl trivial ?_ rfl
  simp only [Tryd.ntmps39, List.size_toArray, List.length_cons, List.length_nil, Nat.reduceAdd, Nat.reduceSub, Array.replicate_succ, Array.replicate_zero, List.push_toArray, List.append_toArray, List.nil_append, List.cons_append]
  have hf54 : Fence.wide.fn 54 := trivial
  have hf55 : Fence.wide.fn 55 := trivial
  gi_wp2_with (first
    | ((try refine ⟨hdd _, ?_⟩); gi_at_call 54; refine G.out.mono ?_; clear G; rintro e w1 ⟨v, ys, rfl, hT1, hr, hg⟩; have HR := Aside0.mk hr; obtain ⟨A, c, rfl⟩ := own_slice HR.out; have HG := Aside0.mk hg; have HT1 := Aside0.mk hT1; clear hg hr hT1)
    | ((try refine ⟨hdd _, ?_⟩); gi_at_call 55; refine (callsIn_wide.2 (slices_SortFunc_atom (base := w.heap.size) (ok := fun _ => True) (xs := ys) ⟨fun _ _ => trivial, _, HR.out, Flat.flat_reps flatA _ _ _ _⟩ (hT _ HT1.out))).mono ?_; rintro e w2 ⟨rfl, hr2, hg2⟩))
  go_ret
  refine ⟨_, ys, rfl, HT1.out, hr2, hg2.os.trans HG.out.os, hg2.tape.trans HG.out.tape, hg2.output.trans HG.out.output, Nat.le_trans HG.out.size hg2.size, fun k hk hne => (hg2.block k (Nat.lt_of_lt_of_le hk HG.out.size) (fun e => ?_)).trans (HG.out.block k hk hne)⟩
  have := (HR.out.lt k e.symm).1
  omega
/-- Is a part an atom? -/
def isA (r : S24) : Bool := decide (5 ≤ r.f0) && decide (r.f0 ≤ 9)
def atomOf (r : S24) : A4 := ⟨r.f0, r.f1, r.f3, r.f4⟩
/-- The rule of an atom. -/
def ruleOf (x : A4) : S24 := ⟨x.o, x.c, ⟨#[]⟩, x.n, x.d, []⟩
mutual
/-- The numbers of each part that is an atom can be a key. -/
def wfaR : S24 → Prop
  | ⟨a, b, c, n, d, ks⟩ => (isA ⟨a, b, c, n, d, ks⟩ = true → wfA ⟨a, b, n, d⟩) ∧ wfaL ks
def wfaL : List S24 → Prop
  | [] => True
  | k :: ks => wfaR k ∧ wfaL ks
end
mutual
def wfaB : S24 → Bool
  | ⟨a, b, c, n, d, ks⟩ => (!isA ⟨a, b, c, n, d, ks⟩ || ((Lit.int .i64 a).wf && ((Lit.int .i64 b).wf && ((Lit.int .i64 n).wf && (Lit.int .i64 d).wf)))) && wfaLB ks
def wfaLB : List S24 → Bool
  | [] => true
  | k :: ks => wfaB k && wfaLB ks
end
mutual
theorem wfaB_iff : ∀ r, wfaB r = true ↔ wfaR r
  | ⟨a, b, c, n, d, ks⟩ => by
    simp only [wfaB, wfaR, Bool.and_eq_true, wfaLB_iff ks, wfA]
    cases isA ⟨a, b, c, n, d, ks⟩ <;> simp
theorem wfaLB_iff : ∀ ks, wfaLB ks = true ↔ wfaL ks
  | [] => by simp [wfaLB, wfaL]
  | k :: ks => by simp only [wfaLB, wfaL, Bool.and_eq_true, wfaB_iff k, wfaLB_iff ks]
end
theorem wfaL_mem : ∀ {ks : List S24}, wfaL ks → ∀ k, k ∈ ks → wfaR k
  | [], _, k, hk => by cases hk
  | x :: xs, h, k, hk => by
    simp only [wfaL] at h
    rcases List.mem_cons.1 hk with rfl | hk
    · exact h.1
    · exact wfaL_mem h.2 k hk
theorem wfaR_kid (r : S24) (h : wfaR r) : ∀ k, k ∈ r.f5 → wfaR k := by
  cases r
  simp only [wfaR] at h
  exact wfaL_mem h.2
theorem wfaR_key (r : S24) (h : wfaR r) : isA r = true → wfA (atomOf r) := by
  cases r
  simp only [wfaR] at h
  exact h.1
def atPut (D : DataW Unit) (p : Int × S24) : DataW Unit := if isA p.2 = true then D.put (kA (atomOf p.2)) (.lit (.bool true)) else D
def atAll (ps : List (Int × S24)) : DataW Unit := ps.foldl atPut (.map [])
theorem atAll_snoc (ps : List (Int × S24)) (p : Int × S24) : atAll (ps ++ [p]) = atPut (atAll ps) p := by simp [atAll]
/-- The cells of an atom's rule. -/
def encR (x : A4) : List Value := [.int .i64 x.o, .int .i64 x.c, .string ⟨#[]⟩, .int .i64 x.n, .int .i64 x.d, .slice none 0 0]
theorem encR_one (x : A4) : ∀ v ∈ encR x, v.oneCell' = true := by
  intro v hv
  simp only [encR, List.mem_cons, List.not_mem_nil, or_false] at hv
  rcases hv with rfl | rfl | rfl | rfl | rfl | rfl <;> rfl
theorem encR_lens : ∀ xs : List A4, (xs.flatMap encR).length = xs.length * 6
  | [] => rfl
  | x :: xs => by rw [List.flatMap_cons, List.length_append, encR_lens xs, List.length_cons]; simp [encR]; omega
theorem reps_rules (w : World) (base : Nat) (ok : Nat → Prop) : ∀ xs : List A4, Reps (k24.M w base ok) 6 (xs.map ruleOf) (xs.flatMap encR)
  | [] => Reps.none _ _
  | x :: xs => by
    refine ⟨by rw [encR_lens, List.length_map], fun j p hj => ?_⟩
    rw [List.flatMap_cons]
    cases j with
    | zero =>
      have : ruleOf x = p := by simpa using hj
      subst this
      have hM := k24_mkM w base ok (ruleOf x) (v5 := .slice none 0 0) (Kd.R_nil k24 24 w base ok)
      simpa [encR, ruleOf] using hM
    | succ j =>
      have h2 := (reps_rules w base ok xs).2 j p (by simpa using hj)
      rwa [show (j + 1) * 6 = (encR x).length + j * 6 by simp [encR]; omega, ← List.drop_drop, List.drop_left]
theorem R_rules {w : World} {base : Nat} {v : Value} {xs : List A4} (h : w.ownsRow base 24 6 v xs.length (xs.flatMap encR)) : Kd.R k24 24 w base (fun _ => True) v (xs.map ruleOf) :=
  ⟨fun _ _ => trivial, _, by rw [List.length_map]; exact h, reps_rules _ _ _ _⟩
theorem at_A {w : World} {A : Option Addr} {n : Nat} {xs : List A4} (h : Kd.C k60 w A n xs) (i : Nat) (h1 : i < n) (h2 : i < xs.length) : ∃ ad, A = some ad ∧ w.cell? (ad.add (i * 4)) = some (.int .i64 xs[i].o) ∧ w.cell? ⟨(ad.add (i * 4)).block, (ad.add (i * 4)).off + 1, none⟩ = some (.int .i64 xs[i].c) ∧
    w.cell? ⟨(ad.add (i * 4)).block, (ad.add (i * 4)).off + 2, none⟩ = some (.int .i64 xs[i].n) ∧ w.cell? ⟨(ad.add (i * 4)).block, (ad.add (i * 4)).off + 3, none⟩ = some (.int .i64 xs[i].d) := by
  obtain ⟨ad, c, e, _, hK, hc0⟩ := Kd.C_get h ⟨0, 0, 0, 0⟩ (i : Int) (by omega) (by omega)
  have hx : xs.getD (i : Int).toNat ⟨0, 0, 0, 0⟩ = xs[i] := by simp [List.getD_eq_getElem?_getD, h2]
  rw [hx] at hK
  have hc : ∀ j u, c[j]? = some u → w.cell? (ad.add (i * 4 + j)) = some u := hc0
  obtain rfl := k60_open hK
  exact ⟨ad, e, hc 0 _ rfl, by rw [← add_field _ _ 1 (by omega)]; exact hc 1 _ rfl, by rw [← add_field _ _ 2 (by omega)]; exact hc 2 _ rfl, by rw [← add_field _ _ 3 (by omega)]; exact hc 3 _ rfl⟩
/-- Where the walk of rules.Atoms stands. -/
structure AtW (w : World) (b : Nat) (n : Nat) (D : DataW Unit) (W : World) : Prop where
  below : Below w.heap.size w W
  box : W.heap[b + 1]? = some (.cells #[.map (some b)] 54 (0, 0))
  own : W.ownsMap Tryd.prog 60 (plainElem Tryd.prog 4) b n D
theorem AtW.grown {w W W' : World} {b n : Nat} {D : DataW Unit} {row : Option Nat} (h : AtW w b n D W) (hg : W.grownBy W' row) (hr : ∀ k, row = some k → b + 2 ≤ k ∧ w.heap.size ≤ k) : AtW w b n D W' := by
  have hlt := h.own.lt
  refine ⟨h.below.grown hg h.below.size (fun k e => (hr k e).2), blk_grown h.box hg (fun e => by have := (hr _ e.symm).1; omega), h.own.kept hg (fun e => by have := (hr _ e.symm).1; omega)⟩
theorem AtW.put {w W W' : World} {b n n' : Nat} {D D' : DataW Unit} (h : AtW w b n D W) (hwb : w.heap.size ≤ b) (hg : W.grownBy W' (some b)) (ho : W'.ownsMap Tryd.prog 60 (plainElem Tryd.prog 4) b n' D') : AtW w b n' D' W' := by
  have hlt := h.own.lt
  exact ⟨h.below.grown hg h.below.size (fun k e => by injection e; omega), blk_grown h.box hg (fun e => by injection e; omega), ho⟩
theorem AtW.mono {w W : World} {b n n' : Nat} {D : DataW Unit} (h : AtW w b n D W) (hn : n ≤ n') : AtW w b n' D W := ⟨h.below, h.box, h.own.mono hn⟩
set_option maxHeartbeats 4000000 in
set_option maxRecDepth 100000 in
theorem atoms_in (r : S24) (A : Option Addr) (c : Nat) (w : World) (hC : Kd.C k24 w A r.f5.length r.f5) (hc : r.f5.length ≤ c) (hq : wfaR r) (hn : (preR 1 r).length ≤ 100000) :
    CallsIn Fence.wide 8 Tryd.prog 15 #[.agg #[.int .i64 r.f0, .int .i64 r.f1, .string r.f2, .int .i64 r.f3, .int .i64 r.f4, .slice A r.f5.length c]] w
      fun e w' => ∃ v0_ : Value, e = .returned v0_ ∧ (∃ ys, AllA (atAll (preR 1 r)) ys ∧ Kd.R k24 24 w' w.heap.size (fun _ => True) v0_ ((sortA ys).map ruleOf)) ∧ Below w.heap.size w w' := by
  have hu24 := Tryd.underlying24
  have hu60 := Tryd.underlying60
  have hmm := @run_makeMap Tryd.prog
  have HC := Aside0.mk hC
  clear hC
  refine callsIn_of_wp_marks Tryd.func15 rfl trivial ?_ rfl
  simp only [Tryd.ntmps15, List.size_toArray, List.length_cons, List.length_nil, Nat.reduceAdd, Nat.reduceSub, Array.replicate_succ, Array.replicate_zero, List.push_toArray, List.append_toArray, List.nil_append, List.cons_append]
  have cP : ∀ W, CallsIn Fence.wide 7 Tryd.prog 34 #[.agg #[.int .i64 r.f0, .int .i64 r.f1, .string r.f2, .int .i64 r.f3, .int .i64 r.f4, .slice A r.f5.length c]] W fun e w' =>
      e = .returned (.func (.func 52) #[] #[.pointer (some ⟨W.heap.size + 1, 0, none⟩), .pointer (some ⟨W.heap.size, 0, none⟩)]) ∧
      w' = (W.alloc (.cells #[.int .i64 r.f0, .int .i64 r.f1, .string r.f2, .int .i64 r.f3, .int .i64 r.f4, .slice A r.f5.length c] 24)).alloc (.cells #[.func (.func 51) #[] #[.pointer (some ⟨W.heap.size + 1, 0, none⟩)]] 82) := fun W => callsIn_wide.2 (parts_calls r A c W)
  have CP := Aside0.mk cP
  clear cP
  have hfP : Fence.wide.fn 34 := trivial
  gi_wp2_with (gi_at_call 34; refine (CP.out _).mono ?_; rintro e w' ⟨rfl, rfl⟩)
  generalize hWn : World.alloc (World.alloc _ _) (Obj.cells #[.func (.func 51) #[] #[.pointer (some ⟨_, 0, none⟩)]] 82) = Wn
  have hz : Wn.heap.size = w.heap.size + 5 := by rw [← hWn]; simp
  have hBW : Below w.heap.size w Wn := by rw [← hWn]; exact ((((((Below.refl _ w).alloc (Nat.le_refl _) _).alloc (by simp) _).alloc (by simp; omega) _).alloc (by simp; omega) _).alloc (by simp; omega) _)
  have HW0 : AtW w (w.heap.size + 1) 0 (.map []) Wn := by
    rw [← hWn]
    refine AtW.grown (row := none) (AtW.grown (row := none) ⟨?_, ?_, ?_⟩ (World.grownBy_alloc _ _ none) (fun k e => by cases e)) (World.grownBy_alloc _ _ none) (fun k e => by cases e)
    · exact (((Below.refl _ w).alloc (Nat.le_refl _) _).alloc (by simp) _).alloc (by simp; omega) _
    · exact new_blk _ _ (by simp)
    · have h := World.ownsMap_made (w.alloc (.cells #[.int .i64 r.f0, .int .i64 r.f1, .string r.f2, .int .i64 r.f3, .int .i64 r.f4, .slice A r.f5.length c] 24)) Tryd.prog 60 (plainElem (H := Unit) Tryd.prog 4)
      rw [World.size_alloc] at h
      exact h.alloc _
  have bR : Wn.heap[w.heap.size + 1 + 1 + 1]? = some (.cells #[.int .i64 r.f0, .int .i64 r.f1, .string r.f2, .int .i64 r.f3, .int .i64 r.f4, .slice A r.f5.length c] 24 (0, 0)) := by
    rw [← hWn]
    refine (Below.heap_alloc _ _ _ (by simp)).trans (new_blk _ _ (by simp))
  have bK : Wn.heap[w.heap.size + 1 + 1 + 1 + 1]? = some (.cells #[.func (.func 51) #[] #[.pointer (some ⟨w.heap.size + 1 + 1 + 1 + 1, 0, none⟩)]] 82 (0, 0)) := by
    rw [← hWn]
    exact new_blk _ _ (by simp)
  clear hWn
  refine wpIn_rangeFunc_ownH (α := PartQ w wfaR) (F := Fence.wide) (n := 8) rfl (by omega) (gf := 52) (lb := #[.pointer (some ⟨w.heap.size + 1 + 1 + 1 + 1, 0, none⟩), .pointer (some ⟨w.heap.size + 1 + 1 + 1, 0, none⟩)]) rfl trivial (enters_of Tryd.func52 (by kernel_rfl) rfl)
    (parts_stopsQ w wfaR wfaR_kid (fun k => k = w.heap.size + 1) Fence.wide rfl trivial trivial rfl 7 _ _ r A c Wn hq hc HC.out hBW (fun k hk => by omega) (by omega) bK bR)
    (fun h k => KeptC.trans h k) (fun W l o o' hl hlo ho _ => KeptC.putObj o' (by omega) hlo ho) (Below.refl _ _) (fun _ => rfl)
    (fun pre W => AtW w (w.heap.size + 1) pre.length (atAll (pre.map PartQ.key)) W ∧ Wn.heap.size ≤ W.heap.size)
    (fun _ _ _ => False)
    ?hI (fun _ _ _ _ _ hs _ _ => hs) ⟨HW0, Nat.le_refl _⟩
    (fun x a' W => ∃ Bx, Wn.heap.size ≤ Bx ∧ W.heap[Bx]? = some (.cells #[.int .i64 x.r.f0, .int .i64 x.r.f1, .string x.r.f2, .int .i64 x.r.f3, .int .i64 x.r.f4, .slice x.A x.r.f5.length x.c] 24 (0, 0)) ∧ a' = { tmps := #[.agg #[.int .i64 r.f0, .int .i64 r.f1, .string r.f2, .int .i64 r.f3, .int .i64 r.f4, .slice A r.f5.length c], .pointer (some ⟨w.heap.size, 0, none⟩), .slice none 0 0, .pointer (some ⟨w.heap.size + 1 + 1, 0, none⟩), undef, .pointer (some ⟨Bx, 0, none⟩), undef, undef, undef, .map (some (w.heap.size + 1)), .agg #[.int .i64 r.f0, .int .i64 r.f1, .string r.f2, .int .i64 r.f3, .int .i64 r.f4, .slice A r.f5.length c], .func (.func 52) #[] #[.pointer (some ⟨w.heap.size + 1 + 1 + 1 + 1, 0, none⟩), .pointer (some ⟨w.heap.size + 1 + 1 + 1, 0, none⟩)], .int .i64 x.d, x.cells, undef, undef, undef, undef, undef, undef, undef, undef, undef, undef, undef, undef, undef, undef, undef, undef, undef, undef, undef, undef, undef, undef, undef, undef, undef, undef, undef, undef, undef, undef, undef, undef, undef, undef, undef, undef], defers := [] })
    ?hAx ?assign ?body ?done ?stop
  case hI =>
    rintro pre X Y row ⟨h3, h4⟩ hg hr
    exact ⟨h3.grown hg (fun k e => by have := (hr k e).1; omega), Nat.le_trans h4 hg.size⟩
  case hAx =>
    rintro x a' _ X Y row ⟨Bx, hb, hx, rfl⟩ hg hr
    refine ⟨Bx, hb, (hg.block Bx (Array.getElem?_eq_some_iff.1 hx).1 (fun e => ?_)).trans hx, rfl⟩
    obtain ⟨_, o, ho, hc⟩ := hr Bx e.symm
    rw [hx] at ho
    cases ho
    cases hc
  case assign =>
    rintro l pre x W K ⟨h3, h4⟩ hK
    simp only [PartQ.cells]
    gi_wp2
    refine hK _ _ ((KeepsOthers.alloc _ _).from _) (KeptC.alloc (KeptC.refl _ _ _) (by omega) _) ⟨h3.grown (World.grownBy_alloc W _ none) (fun k e => by cases e), by simp; omega⟩ ⟨W.heap.size, h4, blk_new _ _, rfl⟩
  case stop =>
    rintro D c pre W hD _ h hK
    exact h.elim
  case body =>
    rintro l pre x a' W hl ⟨rr, hlr⟩ ⟨h3, h4⟩ ⟨Bx, hBx, hx, rfl⟩ hlen
    have y0 := (blk_cell hx 0).trans rfl
    have HX := Aside0.mk hx
    have HBX := Aside0.mk h3.box
    have H3 := Aside0.mk h3
    have H4 := Aside0.mk h4
    have hex : atAll ((pre ++ [x]).map PartQ.key) = atPut (atAll (pre.map PartQ.key)) x.key := by rw [List.map_append]; exact atAll_snoc _ _
    unfold atPut at hex
    have HEX := Aside0.mk hex
    clear hex h3 h4 hlr hx
    simp only [PartQ.cells]
    have hnm : pre.length < maxLen := by simp only [maxLen]; omega
    have hwi : rules_within.f x.r.f0 5 9 = some (isA x.r) := by
      unfold rules_within.f isA
      by_cases h5 : 5 ≤ x.r.f0 <;> by_cases h9 : x.r.f0 ≤ 9 <;> simp [h5, h9]
    have HWI := Aside0.mk hwi
    clear hwi
    gi_wp2_with fail
    refine ⟨trivial, ?_⟩
    refine (CallsIn.inRound l (callsIn_wide.2 (rules_within.calls _ _ _ _ W HWI.out))).mono ?_
    rintro e w' ⟨rfl, nw, rfl⟩
    obtain ⟨W2, HW2⟩ : ∃ W2, Aside0 (W2 = W.drewN nw) := ⟨_, ⟨rfl⟩⟩
    have HG2 : Aside0 (W.grownBy W2 (some (w.heap.size + 1))) := ⟨by rw [HW2.out]; exact ⟨rfl, rfl, rfl, Nat.le_refl _, fun _ _ _ => rfl⟩⟩
    have HX2 : Aside0 (W2.heap[Bx]? = some (.cells #[.int .i64 x.r.f0, .int .i64 x.r.f1, .string x.r.f2, .int .i64 x.r.f3, .int .i64 x.r.f4, .slice x.A x.r.f5.length x.c] 24 (0, 0))) := ⟨by rw [HW2.out]; exact HX.out⟩
    have H32 : Aside0 (AtW w (w.heap.size + 1) pre.length (atAll (pre.map PartQ.key)) W2) := ⟨by rw [HW2.out]; exact H3.out.grown (row := none) ⟨rfl, rfl, rfl, Nat.le_refl _, fun _ _ _ => rfl⟩ (fun k e => by cases e)⟩
    rw [← HW2.out]
    clear y0
    have y0 := (blk_cell HX2.out 0).trans rfl
    have y1 := (blk_cell HX2.out 1).trans rfl
    have y3 := (blk_cell HX2.out 3).trans rfl
    have y4 := (blk_cell HX2.out 4).trans rfl
    have hbx : W2.cell? ⟨w.heap.size + 1 + 1, 0, none⟩ = some (.map (some (w.heap.size + 1))) := (blk_cell H32.out.box 0).trans rfl
    have fin : ∀ w1 D', W.grownBy w1 (some (w.heap.size + 1)) → D' = atAll ((pre ++ [x]).map PartQ.key) → AtW w (w.heap.size + 1) (pre.length + 1) D' w1 →
        KeepsFrom Wn.heap.size W w1 ∧ KeptC w.heap.size (fun k => k = w.heap.size + 1) W w1 ∧ AtW w (w.heap.size + 1) (pre ++ [x]).length (atAll ((pre ++ [x]).map PartQ.key)) w1 ∧ Wn.heap.size ≤ w1.heap.size := fun w1 D' hg hD h => by
      have hs4 := H4.out
      refine ⟨KeepsFrom.of_grownBy hg (fun j e => by cases e; omega), ⟨hg.size, fun k hk => hg.block k (by omega) (fun e => by injection e; omega), fun k cs t m hX hc => (hg.block k (Array.getElem?_eq_some_iff.1 hc).1 (fun e => hX (by injection e))).trans hc⟩, ?_, Nat.le_trans hs4 hg.size⟩
      rw [← hD, List.length_append]
      exact h
    have FIN := Aside0.mk fin
    clear fin hlen
    rw [show (x.key.2) = x.r from rfl] at HEX
    cases ht : isA x.r with
    | true =>
      rw [ht, if_pos rfl] at HEX
      have hwf := wfaR_key x.r x.ok ht
      clear ht
      gi_wp2_with (gi_at_mapUpdate; refine wpListIn_mapUpdate_own _ rfl _ _ _ 54 rfl 60 4 keyed60 Tryd.underlying54 _ (w.heap.size + 1) pre.length _ rfl H32.out.own hnm _ _ _ rfl rfl (keyOf_mk hwf) _ [] (plainElem_bool Tryd.underlying4 true) ?_; intro w1 hown1 hgrow1)
      exact FIN.out _ _ (Flat.grown_trans HG2.out hgrow1) HEX.out.symm (H32.out.put (by omega) hgrow1 hown1)
    | false =>
      rw [ht, if_neg (by simp)] at HEX
      clear ht
      gi_wp2
      exact FIN.out _ _ HG2.out HEX.out.symm (H32.out.mono (by omega))
  case done =>
    rintro D ys W hD hys ⟨h3, h4⟩ hK
    rw [hys] at h3
    have hyl : ys.length = (preR 1 r).length := by rw [← hys, List.length_map]
    rw [hyl] at h3
    have hown := h3.own
    have HB := Aside0.mk h3.below
    have HK := Aside0.mk hK
    have hbx : W.cell? ⟨w.heap.size + 1 + 1, 0, none⟩ = some (.map (some (w.heap.size + 1))) := (blk_cell h3.box 0).trans rfl
    have hsz : Maps.size (atAll (preR 1 r)) ≤ 100000 := Nat.le_trans (size_le hown) hn
    have hbl := hown.lt
    have hseq : SeqStopsK Fence.wide (7 - 1 - 1 - 1) Tryd.prog 56 #[.pointer (some ⟨W.heap.size, 0, none⟩)] (fun x : A4 => #[.agg (encA x).toArray]) KeepsWalks (fun ss => AllA (atAll (preR 1 r)) ss ∧ ss.length ≤ Maps.size (atAll (preR 1 r))) (fun _ => True) (Maps.size (atAll (preR 1 r))) (W.alloc (.cells #[.map (some (w.heap.size + 1))] 54)) :=
      keys_stopsA (R := plainElem Tryd.prog 4) Fence.wide _ trivial rfl (by omega) W.heap.size (w.heap.size + 1) (preR 1 r).length _ _ (by simp) (by exact (blk_cell (blk_new W _) 0).trans rfl) (hown.alloc _)
    have cK : ∀ mb W, CallsIn Fence.wide 7 Tryd.prog 40 #[.map mb] W fun e w' => e = .returned (.func (.func 56) #[] #[.pointer (some ⟨W.heap.size, 0, none⟩)]) ∧ w' = W.alloc (.cells #[.map mb] 54) := fun mb W => callsIn_wide.2 (keys_calls mb W)
    have cS := sortedFunc_in 7 (by omega) 56 #[.pointer (some ⟨W.heap.size, 0, none⟩)] (enters_of Tryd.func56 (by kernel_rfl) rfl) _ _ _ (by omega) (fun ys h => by have := h.2; omega) hseq
    have hfK : Fence.wide.fn 40 := trivial
    have hfS : Fence.wide.fn 39 := trivial
    have CS := Aside0.mk cS
    have h4' := h4
    clear cS hseq h3 hown hK h4
    gi_wp2_with (first
      | (gi_at_call 40; refine (cK _ _).mono ?_; rintro e w' ⟨rfl, rfl⟩)
      | (gi_at_call 39; refine CS.out.mono ?_; rintro e w' ⟨v, ss, rfl, hS, hrow, hg⟩; have HROW := Aside0.mk hrow; obtain ⟨_, inner, hown1, _⟩ := hrow; obtain ⟨A2, c2, rfl⟩ := own_slice hown1; clear hown1))
    have HC2 := Aside0.mk (Kd.R_reads' HROW.out).2.2
    have HG1 : Aside0 (W.grownBy w' none) := ⟨Flat.grown_trans (World.grownBy_alloc W _ none) hg⟩
    have hWw := hg.size
    rw [World.size_alloc] at hWw
    have hsl : (sortA ss).length = ss.length := by simp [sortA]
    have hs5 : (sortA ss).length ≤ 100000 := by rw [hsl]; exact Nat.le_trans hS.2 hsz
    have HS := Aside0.mk hS.1
    clear hg hS hsl hbx
    generalize hns : sortA ss = ns at *
    have HNS := Aside0.mk hns
    clear hns
    gi_loopw [2, 32] (fun t2 t32 wr => ∃ (k : Nat), t32 = .int .i64 k ∧ k ≤ ns.length ∧ Aside0 (wr.ownsRow w'.heap.size 24 6 t2 k ((ns.take k).flatMap encR)) ∧ Aside0 (w'.grownBy wr none))
      (fun _ t32 _ => ns.length - (intOf t32).toNat)
    case atStart => exact ⟨0, rfl, Nat.zero_le _, ⟨⟨rfl, .inl ⟨rfl, rfl⟩⟩⟩, ⟨⟨rfl, rfl, rfl, Nat.le_refl _, fun _ _ _ => rfl⟩⟩⟩
    case round =>
      obtain ⟨k, rfl, hk, HR, HG⟩ := hrel
      by_cases hlt : k < ns.length
      · obtain ⟨ad, e, x0, x1, x2, x3⟩ := at_A HC2.out k hlt hlt
        subst e
        obtain ⟨x, HXX, hx⟩ : ∃ x, Aside0 (x = ns[k]) ∧ ns[k] = x := ⟨_, ⟨rfl⟩, rfl⟩
        rw [hx] at x0 x1 x2 x3
        clear hx
        have hbl0 := World.block_lt_of_cell? w' _ x0
        have mv : ∀ (a : Addr) (v : Value), a.block < w'.heap.size → w'.cell? a = some v → wr.cell? a = some v := fun a v ha h => (World.cell?_of_block (HG.out.block a.block ha (by simp))).trans h
        replace x0 := mv _ _ hbl0 x0
        replace x1 := mv ⟨(ad.add (k * 4)).block, (ad.add (k * 4)).off + 1, none⟩ _ hbl0 x1
        replace x2 := mv ⟨(ad.add (k * 4)).block, (ad.add (k * 4)).off + 2, none⟩ _ hbl0 x2
        replace x3 := mv ⟨(ad.add (k * 4)).block, (ad.add (k * 4)).off + 3, none⟩ _ hbl0 x3
        clear mv hbl0
        obtain ⟨A4', c4, rfl⟩ := own_slice HR.out
        obtain ⟨i0, hi, hz0, hz1, hz2⟩ := info_parts info24
        have hm1 : k + 1 ≤ maxLen := by simp only [maxLen]; omega
        have hwl := HG.out.size
        gi_wp2_with (gi_at_builtin; go_must (refine wpListIn_append_own_at _ rfl _ _ 22 rfl w'.heap.size 24 i0 _ 6 72 Tryd.underlying22 hi hz0 hz1 hz2 rfl (by decide) _ _ _ rfl ((HR.out.alloc _).alloc _) ⟨wr.heap.size + 1, 0, none⟩ 1 1 (encR x) rfl rfl ?hcl (encR_one x) hm1 (by omega) (by simp; omega) ?_); (case hcl => have h_ := cells_new (wr.alloc (.cells #[.int .i64 x.o, .int .i64 x.c, .int .i64 x.n, .int .i64 x.d] 60)) (encR x) 24; rw [World.size_alloc] at h_; exact h_); intro v' w1 hown' hgrow _ hat; clear hat; have HO1 := Aside0.mk hown'; have HG1' := Aside0.mk hgrow; clear hown' hgrow; obtain ⟨g', cap', hv'⟩ := ownsRow_succ HO1.out; subst hv')
        have hgr : w'.grownBy w1 none := by
          have h0 := HG1'.out
          have hol : ∀ j, j < w'.heap.size → some j ≠ (Value.slice A4' k c4).ownBlock := fun j hj e => by
            have := (HR.out.lt j e.symm).1
            omega
          exact ⟨h0.os.trans HG.out.os, h0.tape.trans HG.out.tape, h0.output.trans HG.out.output, by have := h0.size; simp at this; omega, fun j hj _ => (h0.block j (by simp; omega) (hol j hj)).trans ((Below.heap_alloc _ _ _ (by simp; omega)).trans ((Below.heap_alloc _ _ _ (by omega)).trans (HG.out.block j hj (by simp))))⟩
        refine ⟨⟨k + 1, by go_num, by omega, ⟨?_⟩, ⟨hgr⟩⟩, by simp [intOf]; omega⟩
        rw [List.take_succ_eq_append_getElem hlt, List.flatMap_append, ← HXX.out]
        simpa using HO1.out
      · have hkn : k = ns.length := by omega
        subst hkn
        gi_wp2
        have hHD : ∀ D' ∈ [D], wr.heap[D']? = some (.deferred (some [])) := fun D' hD' => by
          have hDl := (Array.getElem?_eq_some_iff.1 HK.out).1
          rw [List.mem_singleton.1 hD']
          exact (HG.out.block D (by omega) (by simp)).trans ((HG1.out.block D hDl (by simp)).trans HK.out)
        refine leaves_marks [D] _ (by simp) hHD (fun w2 hw => ?_)
        refine ⟨_, results_tmp rfl _ _ _, _, rfl, ⟨ss, HS.out, ?_⟩, ?_⟩
        · rw [HNS.out]
          have hr2 := HR.out
          rw [List.take_length] at hr2
          refine R_rules ?_
          obtain ⟨hl, h | ⟨g, cap, cur, hv, hb, hblk, h1, h2, h3, h4⟩⟩ := hr2
          · exact ⟨hl, .inl h⟩
          · refine ⟨hl, .inr ⟨g, cap, cur, hv, by omega, (hw.block g (fun hg => ?_)).trans hblk, h1, h2, h3, h4⟩⟩
            have := hHD g hg
            rw [hblk] at this
            cases this
        · have hb1 : Below w.heap.size w wr := (HB.out.grown HG1.out (by omega) (fun k e => by cases e)).grown HG.out (by omega) (fun k e => by cases e)
          exact ⟨hw.os.trans hb1.os, hw.tape.trans hb1.tape, hw.output.trans hb1.output, by rw [hw.size]; exact hb1.size, fun j hj => (hw.block j (fun h => by have := List.mem_singleton.1 h; omega)).trans (hb1.block j hj)⟩
def dd : List A4 → List A4
  | [] => []
  | x :: xs => if x ∈ xs then dd xs else x :: dd xs
theorem mem_dd {a : A4} : ∀ xs, a ∈ dd xs ↔ a ∈ xs
  | [] => by simp [dd]
  | x :: xs => by
    unfold dd
    split
    · rename_i h
      rw [mem_dd xs, List.mem_cons]
      exact ⟨.inr, fun h' => h'.elim (fun e => e ▸ h) id⟩
    · rw [List.mem_cons, List.mem_cons, mem_dd xs]
theorem nodup_dd : ∀ xs, (dd xs).Nodup
  | [] => List.nodup_nil
  | x :: xs => by
    unfold dd
    split
    · exact nodup_dd xs
    · rename_i h
      exact List.nodup_cons.2 ⟨fun h' => h ((mem_dd xs).1 h'), nodup_dd xs⟩
/-- The atoms among parts. -/
def atomsOf (ps : List (Int × S24)) : List A4 := (ps.filter fun p => isA p.2).map fun p => atomOf p.2
theorem sortA_perm {l l' : List A4} (h : l.Perm l') : sortA l = sortA l' := by
  have tr : ∀ a b c : A4, (!ltOf cfA b a) = true → (!ltOf cfA c b) = true → (!ltOf cfA c a) = true := fun a b c h1 h2 => by
    simp only [Bool.not_eq_true'] at *
    exact swoA.ntrans c b a h2 h1
  have tot : ∀ a b : A4, ((!ltOf cfA b a) || (!ltOf cfA a b)) = true := fun a b => by
    rw [ltOf_cfA, ltOf_cfA]
    by_cases h1 : LtA b a
    · by_cases h2 : LtA a b
      · exact absurd (h1.trans h2) (LtA.irrefl _)
      · simp [h2]
    · simp [h1]
  refine List.Perm.eq_of_pairwise (le := fun a b => (!ltOf cfA b a) = true) (fun a b _ _ h1 h2 => ?_) (List.pairwise_mergeSort tr tot l) (List.pairwise_mergeSort tr tot l') (((List.mergeSort_perm l _).trans h).trans (List.mergeSort_perm l' _).symm)
  simp only [Bool.not_eq_true'] at h1 h2
  exact cfA_sep a b h2 h1
theorem atAll_lits (ps : List (Int × S24)) : ∀ D : DataW Unit, ps.foldl atPut D = (((atomsOf ps).map kA).foldl (fun m x => m.put x (.lit (.bool true))) D) := by
  induction ps with
  | nil => intro D; rfl
  | cons p ps ih =>
    intro D
    rw [List.foldl_cons, ih]
    unfold atPut atomsOf
    by_cases h : isA p.2 = true
    · simp [h]
    · simp [h]
theorem has_atAll {ps : List (Int × S24)} (hw : ∀ a ∈ atomsOf ps, wfA a) {x : A4} (hx : wfA x) : has (atAll ps) (kA x) = true ↔ x ∈ atomsOf ps := by
  have h0 := has_fold (.lit (.bool true)) (kA x) ((atomsOf ps).map kA) (.map [] : DataW Unit) ⟨[], rfl⟩ (fun l hl => by obtain ⟨a, _, rfl⟩ := List.mem_map.1 hl; trivial)
  unfold atAll
  rw [atAll_lits, h0]
  simp only [has_eq, List.any_nil, Bool.false_or, List.any_eq_true, List.mem_map]
  constructor
  · rintro ⟨_, ⟨a, ha, rfl⟩, hs⟩
    rw [same_kA hx (hw a ha)] at hs
    rw [← of_decide_eq_true hs]
    exact ha
  · intro h
    exact ⟨_, ⟨x, h, rfl⟩, by rw [same_kA hx hx]; simp⟩
theorem sortA_all {ps : List (Int × S24)} (hw : ∀ a ∈ atomsOf ps, wfA a) {ss : List A4} (h : AllA (atAll ps) ss) : sortA ss = sortA (dd (atomsOf ps)) := by
  refine sortA_perm ((List.perm_ext_iff_of_nodup h.1 (nodup_dd _)).2 fun a => ?_)
  rw [mem_dd]
  constructor
  · intro ha
    have hwa := h.2.1 a ha
    exact (has_atAll hw hwa).1 ((h.2.2 a hwa).1 ha)
  · intro ha
    exact (h.2.2 a (hw a ha)).2 ((has_atAll hw (hw a ha)).2 ha)
mutual
theorem wfaR_parts (d : Int) : ∀ r, wfaR r → ∀ p ∈ preR d r, isA p.2 = true → wfA (atomOf p.2)
  | ⟨a, b, c, n, e, ks⟩, h, p, hp, hi => by
    simp only [preR, List.mem_cons] at hp
    simp only [wfaR] at h
    rcases hp with rfl | hp
    · exact h.1 hi
    · exact wfaL_parts _ ks h.2 p hp hi
theorem wfaL_parts (d : Int) : ∀ ks, wfaL ks → ∀ p ∈ preL d ks, isA p.2 = true → wfA (atomOf p.2)
  | [], _, p, hp, _ => by simp [preL] at hp
  | k :: ks, h, p, hp, hi => by
    simp only [preL, List.mem_append] at hp
    simp only [wfaL] at h
    rcases hp with hp | hp
    · exact wfaR_parts d k h.1 p hp hi
    · exact wfaL_parts d ks h.2 p hp hi
end
theorem wfa_atoms {r : S24} (h : wfaR r) : ∀ a ∈ atomsOf (preR 1 r), wfA a := by
  intro a ha
  obtain ⟨p, hp, rfl⟩ := List.mem_map.1 ha
  obtain ⟨h1, h2⟩ := List.mem_filter.1 hp
  exact wfaR_parts 1 r h p h1 h2
def rules_Atoms.f (a0 a1 : Int) (a2 : ByteArray) (a3 a4 : Int) (l : List S24) : Option (List S24) :=
  if wfaB ⟨a0, a1, a2, a3, a4, l⟩ = true ∧ (preR 1 ⟨a0, a1, a2, a3, a4, l⟩).length ≤ 100000 then some ((sortA (dd (atomsOf (preR 1 ⟨a0, a1, a2, a3, a4, l⟩)))).map ruleOf) else none
theorem rules_Atoms.calls (a0_0 : Int) (a0_1 : Int) (a0_2 : ByteArray) (a0_3 : Int) (a0_4 : Int) (A0_5 : Option Addr) (c0_5 : Nat) (l0_5 : List (S24)) (r : List S24) (w : World) (hr0_5 : Kd.C k24 w A0_5 l0_5.length l0_5) (hc0_5 : l0_5.length ≤ c0_5) (h : rules_Atoms.f a0_0 a0_1 a0_2 a0_3 a0_4 l0_5 = some r) :
    Calls Tryd.prog 15 #[.agg #[.int .i64 a0_0, .int .i64 a0_1, .string a0_2, .int .i64 a0_3, .int .i64 a0_4, .slice A0_5 l0_5.length c0_5]] w fun e w' => ∃ v0_ : Value, e = .returned v0_ ∧ Kd.R k24 24 w' w.heap.size (fun _ => True) v0_ r ∧ Below w.heap.size w w' := by
  unfold rules_Atoms.f at h
  split at h
  · rename_i hh
    obtain rfl := Option.some.inj h
    have hw := (wfaB_iff _).1 hh.1
    refine ((callsIn_wide (n := 8)).1 (atoms_in ⟨a0_0, a0_1, a0_2, a0_3, a0_4, l0_5⟩ A0_5 c0_5 w hr0_5 hc0_5 hw hh.2)).mono ?_
    rintro e w' ⟨v, rfl, ⟨ys, hA, hR⟩, hb⟩
    rw [sortA_all (wfa_atoms hw) hA] at hR
    exact ⟨v, rfl, hR, hb⟩
  · cases h
end Go.Proofs.YtabocfninjankaaDoor.P
namespace Go.Proofs.YtabocfninjankaaDoor.P
open Go.RowKit Go.Maps Go.Proofs.YtabocfninjankaaDoorW.PrintWords Go.Proofs.YtabocfninjankaaDoorW.PrintLast Go.Proofs.YtabocfninjankaaDoorW.PrintMore
set_option linter.unusedVariables false
set_option linter.unusedSimpArgs false
theorem ratio_zero {n d : Int} (h : ratio_Check.f n d = some 0) : 1 ≤ d ∧ d ≤ 1073741824 ∧ -1073741824 ≤ n ∧ n ≤ 1073741824 := by
  unfold ratio_Check.f at h
  by_cases h1 : d < 1
  · rw [if_pos h1] at h; cases h
  by_cases h2 : d > 1073741824
  · rw [if_neg h1, if_pos h2] at h; cases h
  by_cases h3 : n < -1073741824
  · rw [if_neg h1, if_neg h2, if_pos h3] at h; cases h
  by_cases h4 : n > 1073741824
  · rw [if_neg h1, if_neg h2, if_neg h3, if_pos h4] at h; cases h
  omega
theorem mean_true {n d : Int} (h : meanB n d = true) : ratio_Check.f n d = some 0 ∧ 0 ≤ n := by
  have hm := mean_f n d
  rw [h] at hm
  unfold rules_mean.f at hm
  obtain ⟨t, ht, hm⟩ := Option.bind_eq_some_iff.1 hm
  by_cases h0 : t = 0
  · rw [if_pos h0] at hm
    by_cases hn : n ≥ 0
    · exact ⟨by rw [ht, h0], hn⟩
    · rw [if_neg hn] at hm; cases hm
  · rw [if_neg h0] at hm; cases hm
theorem cmpP_eq {a b c d : Int} (h1 : meanB a b = true) (h2 : meanB c d = true) : cmpP a b c d = cmpI (a * d) (c * b) ∧ 0 < b ∧ 0 < d ∧ 0 ≤ a ∧ 0 ≤ c := by
  obtain ⟨r1, n1⟩ := mean_true h1
  obtain ⟨r2, n2⟩ := mean_true h2
  obtain ⟨b1, b2, _, b3⟩ := ratio_zero r1
  obtain ⟨c1, c2, _, c3⟩ := ratio_zero r2
  have m1 : a * d ≤ 1073741824 * 1073741824 := Int.mul_le_mul b3 c2 (by omega) (by omega)
  have m2 : c * b ≤ 1073741824 * 1073741824 := Int.mul_le_mul c3 b2 (by omega) (by omega)
  have p1 : 0 ≤ a * d := Int.mul_nonneg n1 (by omega)
  have p2 : 0 ≤ c * b := Int.mul_nonneg n2 (by omega)
  have w1 : wrap64 (a * d) = a * d := by unfold wrap64; omega
  have w2 : wrap64 (c * b) = c * b := by unfold wrap64; omega
  refine ⟨?_, by omega, by omega, n1, n2⟩
  unfold cmpP ratio_Compare.f
  rw [r1, Option.bind_some, if_pos rfl, r2, Option.bind_some, if_pos rfl, w1, w2, compare_f]
  rfl
theorem cmpI_ge (a b : Int) : cmpI a b ≥ 0 ↔ b ≤ a := by
  have := cmpI_lt a b
  omega
theorem fitS_mean {l : List S49} {e m1 m2 : Int} (h : fitS l e m1 m2 = true) : fitL (-1) l = true ∧ (0 ≤ e ∧ e ≤ 10000) ∧ meanB m1 m2 = true := by
  unfold fitS at h
  by_cases h1 : fitL (-1) l = true
  · rw [if_pos h1] at h
    by_cases h2 : 0 ≤ e ∧ e ≤ 10000
    · rw [if_pos h2] at h
      exact ⟨h1, h2, h⟩
    · rw [if_neg h2] at h; cases h
  · rw [if_neg h1] at h; cases h
end Go.Proofs.YtabocfninjankaaDoor.P
namespace Go.Proofs.YtabocfninjankaaDoor.P
open Go.RowKit Go.Maps Go.Proofs.YtabocfninjankaaDoorW.PrintWords Go.Proofs.YtabocfninjankaaDoorW.PrintLast Go.Proofs.YtabocfninjankaaDoorW.PrintMore
set_option linter.unusedVariables false
set_option linter.unusedSimpArgs false
theorem insert_perm {H : Type} (x : Lit × DataW H) : ∀ l : List (Lit × DataW H), (DataW.insert x l).Perm (x :: l)
  | [] => List.Perm.refl _
  | y :: r => by
    unfold DataW.insert
    split
    · exact List.Perm.refl _
    · exact ((insert_perm x r).cons y).trans (List.Perm.swap x y r)
/-- The set holds just the numbers S, each once. -/
def SetI (D : DataW Unit) (S : Int → Prop) : Prop := ∃ es, D = .map es ∧ (∀ p ∈ es, ∃ x, p.1 = .int .i64 x) ∧ (intKeys D).Nodup ∧ ∀ a, a ∈ intKeys D ↔ S a
theorem SetI.empty : SetI (.map []) fun _ => False := ⟨[], rfl, fun p h => by simp at h, by simp [intKeys], fun a => by simp [intKeys]⟩
theorem SetI.put {D : DataW Unit} {S : Int → Prop} (h : SetI D S) (a : Int) (v : DataW Unit) : SetI (D.put (.int .i64 a) v) fun z => z = a ∨ S z := by
  obtain ⟨es, rfl, h1, h2, h3⟩ := h
  have hp := insert_perm (Lit.int .i64 a, v) (es.filter fun p => !p.1.sameKey (.int .i64 a))
  have hk : (intKeys (DataW.put (.map es) (.int .i64 a) v)).Perm (a :: (es.filter fun p => !p.1.sameKey (.int .i64 a)).map fun p => Go.intOf p.1) := hp.map _
  have hmem : ∀ z, z ∈ (es.filter fun p => !p.1.sameKey (.int .i64 a)).map (fun p => Go.intOf p.1) ↔ z ∈ intKeys (.map es) ∧ z ≠ a := by
    intro z
    simp only [intKeys, List.mem_map, List.mem_filter]
    constructor
    · rintro ⟨p, ⟨hp, hs⟩, rfl⟩
      refine ⟨⟨p, hp, rfl⟩, fun e => ?_⟩
      obtain ⟨x, hx⟩ := h1 p hp
      rw [hx] at hs e
      have e' : x = a := e
      subst e'
      simp [Lit.sameKey] at hs
    · rintro ⟨⟨p, hp, rfl⟩, hne⟩
      refine ⟨p, ⟨hp, ?_⟩, rfl⟩
      obtain ⟨x, hx⟩ := h1 p hp
      rw [hx] at hne ⊢
      have hne' : x ≠ a := hne
      simp [Lit.sameKey, hne']
  refine ⟨_, rfl, fun p hp' => ?_, hk.nodup_iff.2 (List.nodup_cons.2 ⟨fun h => ((hmem a).1 h).2 rfl, ?_⟩), fun z => ?_⟩
  · rcases List.mem_cons.1 (hp.mem_iff.1 hp') with rfl | hp'
    · exact ⟨a, rfl⟩
    · exact h1 p (List.mem_filter.1 hp').1
  · exact h2.sublist (List.filter_sublist.map _)
  · rw [hk.mem_iff, List.mem_cons, hmem z, h3 z]
    constructor
    · rintro (h | h)
      · exact .inl h
      · exact .inr h.1
    · rintro (h | h)
      · exact .inl h
      · by_cases e : z = a
        · exact .inl e
        · exact .inr ⟨h, e⟩
theorem SetI.congr {D : DataW Unit} {S S' : Int → Prop} (h : SetI D S) (hS : ∀ a, S a ↔ S' a) : SetI D S' := by
  obtain ⟨es, h0, h1, h2, h3⟩ := h
  exact ⟨es, h0, h1, h2, fun a => (h3 a).trans (hS a)⟩
/-- What a situation says of the courses in l. -/
def only (l : List Int) (s : List S49) : List S49 := s.filter fun x => decide (x.f0 ∈ l)
end Go.Proofs.YtabocfninjankaaDoor.P
namespace Go.Proofs.YtabocfninjankaaDoor.P
open Go.RowKit Go.Proofs.YtabocfninjankaaDoorW.PrintWords Go.Proofs.YtabocfninjankaaDoorW.PrintLast Go.Proofs.YtabocfninjankaaDoorW.PrintMore
attribute [local go_sem] max2_int min2_int max_two min_two max_three min_three max_four min_four   -- for this text's walks alone
set_option linter.unusedVariables false
set_option linter.unusedSimpArgs false
mutual
def sizarref12_Value.l0 : Nat → Int → Int → Int → Int → ByteArray → Int → Int → List (S24) → List (S49) → Int → Int → Int → Option (Bool)
 | 0, _, _, _, _, _, _, _, _, _, _, _, _ => none
 | k + 1, x5, x6, x271000, x271001, x271002, x271003, x271004, x271005, x272000, x272001, x272002, x272003 => if x6 < (x271005.length : Int) then (if 0 ≤ x6 then ((sizarref12_Value.f k ((rd_T24 x271005 x6).f0) ((rd_T24 x271005 x6).f1) ((rd_T24 x271005 x6).f2) ((rd_T24 x271005 x6).f3) ((rd_T24 x271005 x6).f4) ((rd_T24 x271005 x6).f5) x272000 x272001 x272002 x272003).bind fun t273 => (if t273 = true then (sizarref12_Value.l0 k (wrap64 (x5 + 1)) (wrap64 (x6 + 1)) x271000 x271001 x271002 x271003 x271004 x271005 x272000 x272001 x272002 x272003) else (sizarref12_Value.l0 k x5 (wrap64 (x6 + 1)) x271000 x271001 x271002 x271003 x271004 x271005 x272000 x272001 x272002 x272003))) else (none)) else (if x271000 = 1 then (some (x5 == (x271005.length : Int))) else (if x271000 = 2 then (some (decide (x5 > 0))) else (if x271000 = 3 then (some (decide (x5 ≥ x271003))) else (if x271000 = 4 then (some (x5 == 0)) else (if x271000 = 5 then ((sizarref12_About.f k x272000 x272001 x272002 x272003 x271001).bind fun bt274 => (some (decide (bt274.2.2.1 ≥ x271003)))) else (if x271000 = 6 then ((sizarref12_About.f k x272000 x272001 x272002 x272003 x271001).bind fun bt278 => (some (decide (bt278.2.1 ≥ x271003)))) else (if x271000 = 7 then (some (decide (x272001 ≥ x271003))) else (if x271000 = 8 then (some (decide ((wrap64 (x272002 * x271004)) ≥ (wrap64 (x271003 * x272003))))) else ((sizarref12_About.f k x272000 x272001 x272002 x272003 x271001).bind fun bt282 => (some bt282.2.2.2))))))))))
def sizarref12_Value.f : Nat → Int → Int → ByteArray → Int → Int → List (S24) → List (S49) → Int → Int → Int → Option (Bool)
 | 0, _, _, _, _, _, _, _, _, _, _ => none
 | k + 1, a0_0, a0_1, a0_2, a0_3, a0_4, l0_5, l1_0, a1_1, a1_2, a1_3 => sizarref12_Value.l0 k 0 0 a0_0 a0_1 a0_2 a0_3 a0_4 l0_5 l1_0 a1_1 a1_2 a1_3
end
def sizarref12_Value.T17 : Bool × List (List Nat × List Nat) := (true, [([], []), ([], []), ([1], [1]), ([0, 2], [0, 2]), ([3], [3]), ([], []), ([5], [5]), ([4, 6], [4, 6]), ([7, 3, 0, 1, 2, 3, 4, 5, 6, 7], [7])])
def sizarref12_Value.B17 : List Nat := [0, 0, 2, 7, 15, 0, 32, 127, 255]
theorem sizarref12_Value.tab17 : rtab .any (opsOf Tryd.f32 17) = sizarref12_Value.T17 := by kernel_rfl
theorem sizarref12_Value.bits17 : waitsOk sizarref12_Value.T17.2 sizarref12_Value.B17 = true := by kernel_rfl
def sizarref12_Value.T19 : Bool × List (List Nat × List Nat) := (true, [([], []), ([], []), ([1], [1]), ([0, 2], [0, 2]), ([3], [3]), ([], []), ([5], [5]), ([4, 6], [4, 6]), ([7, 3, 0, 1, 2, 3, 4, 5, 6, 7], [7])])
def sizarref12_Value.B19 : List Nat := [0, 0, 2, 7, 15, 0, 32, 127, 255]
theorem sizarref12_Value.tab19 : rtab .any (opsOf Tryd.f32 19) = sizarref12_Value.T19 := by kernel_rfl
theorem sizarref12_Value.bits19 : waitsOk sizarref12_Value.T19.2 sizarref12_Value.B19 = true := by kernel_rfl
set_option maxHeartbeats 8000000 in
set_option maxRecDepth 100000 in
theorem sizarref12_Value.calls (k : Nat) : ∀ (a0_0 : Int) (a0_1 : Int) (a0_2 : ByteArray) (a0_3 : Int) (a0_4 : Int) (A0_5 : Option Addr) (c0_5 : Nat) (l0_5 : List (S24)) (A1_0 : Option Addr) (c1_0 : Nat) (l1_0 : List (S49)) (a1_1 : Int) (a1_2 : Int) (a1_3 : Int) (r : Bool) (w : World) (hr0_5 : Kd.C k24 w A0_5 l0_5.length l0_5) (hc0_5 : l0_5.length ≤ c0_5) (hr1_0 : Kd.C k49 w A1_0 l1_0.length l1_0) (hc1_0 : l1_0.length ≤ c1_0) (h : sizarref12_Value.f k a0_0 a0_1 a0_2 a0_3 a0_4 l0_5 l1_0 a1_1 a1_2 a1_3 = some r),
  Calls Tryd.prog 32 #[.agg #[.int .i64 a0_0, .int .i64 a0_1, .string a0_2, .int .i64 a0_3, .int .i64 a0_4, .slice A0_5 l0_5.length c0_5], .agg #[.slice A1_0 l1_0.length c1_0, .int .i64 a1_1, .int .i64 a1_2, .int .i64 a1_3]] w fun e w' => e = .returned (.bool r) ∧ Below w.heap.size w w' := by
 induction k using Nat.strongRecOn with
 | _ k ih =>
 intro a0_0 a0_1 a0_2 a0_3 a0_4 A0_5 c0_5 l0_5 A1_0 c1_0 l1_0 a1_1 a1_2 a1_3 r w hr0_5 hc0_5 hr1_0 hc1_0 h
 cases k with
 | zero => exact absurd h (by simp [sizarref12_Value.f])
 | succ k =>
 simp only [sizarref12_Value.f] at h
 have hu24 := Tryd.underlying24
 have hu29 := Tryd.underlying29
 have hfs1 : ∀ (a b c : Int) (d : Bool) (w : World), (Instr.field 49 (.agg #[.int .i64 a, .int .i64 b, .int .i64 c, .bool d]) 1).run Tryd.prog w = .ok (.int .i64 b) w := fun _ _ _ _ _ => by kernel_rfl
 have hfs2 : ∀ (a b c : Int) (d : Bool) (w : World), (Instr.field 49 (.agg #[.int .i64 a, .int .i64 b, .int .i64 c, .bool d]) 2).run Tryd.prog w = .ok (.int .i64 c) w := fun _ _ _ _ _ => by kernel_rfl
 have hfs3 : ∀ (a b c : Int) (d : Bool) (w : World), (Instr.field 49 (.agg #[.int .i64 a, .int .i64 b, .int .i64 c, .bool d]) 3).run Tryd.prog w = .ok (.bool d) w := fun _ _ _ _ _ => by kernel_rfl
 have HR0_5 := Aside0.mk hr0_5
 have HC0_5 := Aside0.mk hc0_5
 clear hr0_5 hc0_5
 have HR1_0 := Aside0.mk hr1_0
 have HC1_0 := Aside0.mk hc1_0
 clear hr1_0 hc1_0
 have HB := Aside0.mk (Below.refl w.heap.size w)
 have H : (sizarref12_Value.l0 k 0 0 a0_0 a0_1 a0_2 a0_3 a0_4 l0_5 l1_0 a1_1 a1_2 a1_3) = some r := h
 clear h
 have H' := Aside0.mk H
 clear H
 go_enter Tryd.func32, Tryd.ntmps32
 go_wp2_with (first | ((with_reducible refine gate_dst (N := 2) rfl ?_); refine box_event ?hg (N := 2) ?hd (cs := #[.int .i64 a0_0, .int .i64 a0_1, .string a0_2, .int .i64 a0_3, .int .i64 a0_4, .slice A0_5 l0_5.length c0_5]) (t := 24) ?hr ?_; (case hd => rfl); (case hg => rfl); (case hr => first | (go_simp; done) | (go_simp; rfl)); intro gb270 hg w3 hbox hb; have n0_ := Aside0.mk (below_step (by repeat (first | (with_reducible first | exact HB.out | apply below_alloc | apply pw_below_drewN | apply below_drew1) | exact HB.out)) hb); have n1_ := Aside0.mk (hbox); have n2_ := Aside0.mk ((by rw [hg]; exact (below_size (by repeat (first | (with_reducible first | exact HB.out | apply below_alloc | apply pw_below_drewN | apply below_drew1) | exact HB.out))) : w.heap.size ≤ gb270)); have n3_ := Aside0.mk ((by rw [hg]; exact (below_size (by repeat (first | (with_reducible first | exact HB.out | apply below_alloc | apply pw_below_drewN | apply below_drew1) | exact HB.out))) : w.heap.size ≤ gb270)); clear HB; have HB := n0_; have BK270 := n1_; have GW270 := n2_; have GE270 := n3_; clear n0_ n1_ n2_ n3_; clear hb hbox hg) | ((with_reducible refine gate_dst (N := 3) rfl ?_); refine box_event ?hg (N := 3) ?hd (cs := #[.slice A1_0 l1_0.length c1_0, .int .i64 a1_1, .int .i64 a1_2, .int .i64 a1_3]) (t := 29) ?hr ?_; (case hd => rfl); (case hg => rfl); (case hr => first | (go_simp; done) | (go_simp; rfl)); intro gb271 hg w4 hbox hb; have n0_ := Aside0.mk (blk_below (g := gb270) (o := .cells #[.int .i64 a0_0, .int .i64 a0_1, .string a0_2, .int .i64 a0_3, .int .i64 a0_4, .slice A0_5 l0_5.length c0_5] 24 (0, 0)) (by (with_reducible repeat (first | refine blk_drewN ?_ _ | refine blk_drew ?_ | refine blk_alloc ?_ _)); exact BK270.out) hb); have n1_ := Aside0.mk (below_step (by repeat (first | (with_reducible first | exact HB.out | apply below_alloc | apply pw_below_drewN | apply below_drew1 | refine below_set ?_ GE270.out) | exact HB.out)) hb); have n2_ := Aside0.mk (hbox); have n3_ := Aside0.mk ((by rw [hg]; exact (below_size (by repeat (first | (with_reducible first | exact HB.out | apply below_alloc | apply pw_below_drewN | apply below_drew1 | refine below_set ?_ GE270.out) | exact HB.out))) : w.heap.size ≤ gb271)); have n4_ := Aside0.mk ((by rw [hg]; exact (below_size (by repeat (first | (with_reducible first | exact HB.out | apply below_alloc | apply pw_below_drewN | apply below_drew1 | refine below_set ?_ GE270.out) | exact HB.out))) : w.heap.size ≤ gb271)); have n5_ := Aside0.mk ((by rw [hg]; exact Nat.ne_of_lt (blk_lt (g := gb270) (o := .cells #[.int .i64 a0_0, .int .i64 a0_1, .string a0_2, .int .i64 a0_3, .int .i64 a0_4, .slice A0_5 l0_5.length c0_5] 24 (0, 0)) (by (with_reducible repeat (first | refine blk_drewN ?_ _ | refine blk_drew ?_ | refine blk_alloc ?_ _)); exact BK270.out)) : gb270 ≠ gb271)); have n6_ := Aside0.mk ((by rw [hg]; exact Nat.ne_of_gt (blk_lt (g := gb270) (o := .cells #[.int .i64 a0_0, .int .i64 a0_1, .string a0_2, .int .i64 a0_3, .int .i64 a0_4, .slice A0_5 l0_5.length c0_5] 24 (0, 0)) (by (with_reducible repeat (first | refine blk_drewN ?_ _ | refine blk_drew ?_ | refine blk_alloc ?_ _)); exact BK270.out)) : gb271 ≠ gb270)); clear BK270; clear HB; have BK270 := n0_; have HB := n1_; have BK271 := n2_; have GW271 := n3_; have GE271 := n4_; have NB270_271 := n5_; have NB271_270 := n6_; clear n0_ n1_ n2_ n3_ n4_ n5_ n6_; clear hb hbox hg))
 go_loopg [5, 6] k (fun kq v5 v6 w' => ∃ (x5_1 : Int) (x6_1 : Int), v5 = .int .i64 x5_1 ∧ v6 = .int .i64 x6_1 ∧ Aside0 (sizarref12_Value.l0 kq x5_1 x6_1 a0_0 a0_1 a0_2 a0_3 a0_4 l0_5 l1_0 a1_1 a1_2 a1_3 = some r) ∧ Aside0 (kq ≤ k) ∧ Aside0 (w'.heap[gb270]? = some (.cells #[.int .i64 a0_0, .int .i64 a0_1, .string a0_2, .int .i64 a0_3, .int .i64 a0_4, (.slice A0_5 l0_5.length c0_5)] 24 (0, 0))) ∧ Aside0 (w'.heap[gb271]? = some (.cells #[(.slice A1_0 l1_0.length c1_0), .int .i64 a1_1, .int .i64 a1_2, .int .i64 a1_3] 29 (0, 0))) ∧ Aside0 (Below w.heap.size w w'))
 case atStart => exact ⟨(0), (0), (by first | rfl | (simp; done) | (simp [*]; done)), (by first | rfl | (simp; done) | (simp [*]; done)), H', ⟨Nat.le_refl _⟩, ⟨by (with_reducible repeat (first | refine blk_drewN ?_ _ | refine blk_drew ?_ | refine blk_alloc ?_ _)); exact BK270.out⟩, ⟨by (with_reducible repeat (first | refine blk_drewN ?_ _ | refine blk_drew ?_ | refine blk_alloc ?_ _)); exact BK271.out⟩, ⟨by repeat (first | (with_reducible first | exact HB.out | apply below_alloc | apply pw_below_drewN | apply below_drew1 | refine below_set ?_ GE270.out | refine below_set ?_ GE271.out) | exact HB.out)⟩⟩
 case round =>
  clear H'
  try clear c1
  try clear p2
  try clear c3
  obtain ⟨x5_1, x6_1, rfl, rfl, HA, HK1, BK270, BK271, HB⟩ := hrel
  cases gk with
  | zero => exact absurd HA.out (by simp [sizarref12_Value.l0])
  | succ k1 =>
   have H := HA.out
   clear HA
   simp only [sizarref12_Value.l0] at H
   by_cases c5 : x6_1 < (l0_5.length : Int)
   ·rw [if_pos c5] at H
    have c5b0 : decide (x6_1 < (l0_5.length : Int)) = true := decide_eq_true c5
    clear c5
    by_cases c6 : 0 ≤ x6_1
    ·rw [if_pos c6] at H
     have c6b0 : decide (0 ≤ x6_1) = true := decide_eq_true c6
     clear c6
     replace H := Option.bind_eq_some_iff.mp H
     obtain ⟨t273, A70, H⟩ := H
     replace H : (if t273 = true then (sizarref12_Value.l0 k1 (wrap64 (x5_1 + 1)) (wrap64 (x6_1 + 1)) a0_0 a0_1 a0_2 a0_3 a0_4 l0_5 l1_0 a1_1 a1_2 a1_3) else (sizarref12_Value.l0 k1 x5_1 (wrap64 (x6_1 + 1)) a0_0 a0_1 a0_2 a0_3 a0_4 l0_5 l1_0 a1_1 a1_2 a1_3)) = some r := H
     have A7 := Aside0.mk A70
     clear A70
     by_cases c8 : t273 = true
     ·subst c8
      have H1 : (sizarref12_Value.l0 k1 (wrap64 (x5_1 + 1)) (wrap64 (x6_1 + 1)) a0_0 a0_1 a0_2 a0_3 a0_4 l0_5 l1_0 a1_1 a1_2 a1_3) = some r := by rw [if_pos rfl] at H; exact H
      clear H
      have H := H1
      clear H1
      have H' := Aside0.mk H
      clear H
      have hnb9 := NB270_271.out
      have hnc9 := NB271_270.out
      have hcz10_0 : wr.cell? ⟨gb270, 0, none⟩ = some (.int .i64 a0_0) := (blk_cell BK270.out 0).trans rfl
      have hcz10_1 : wr.cell? ⟨gb270, 1, none⟩ = some (.int .i64 a0_1) := (blk_cell BK270.out 1).trans rfl
      have hcz10_2 : wr.cell? ⟨gb270, 2, none⟩ = some (.string a0_2) := (blk_cell BK270.out 2).trans rfl
      have hcz10_3 : wr.cell? ⟨gb270, 3, none⟩ = some (.int .i64 a0_3) := (blk_cell BK270.out 3).trans rfl
      have hcz10_4 : wr.cell? ⟨gb270, 4, none⟩ = some (.int .i64 a0_4) := (blk_cell BK270.out 4).trans rfl
      have hcz10_5 : wr.cell? ⟨gb270, 5, none⟩ = some (.slice A0_5 l0_5.length c0_5) := (blk_cell BK270.out 5).trans rfl
      have hfz10_0 := blk_frozen BK270.out 0
      have hfz10_1 := blk_frozen BK270.out 1
      have hfz10_2 := blk_frozen BK270.out 2
      have hfz10_3 := blk_frozen BK270.out 3
      have hfz10_4 := blk_frozen BK270.out 4
      have hfz10_5 := blk_frozen BK270.out 5
      try go_wp2
      have n0_ := Aside0.mk (blk_drew BK270.out)
      have n1_ := Aside0.mk (blk_drew BK271.out)
      have n2_ := Aside0.mk (below_drew1 HB.out)
      clear BK270
      clear BK271
      clear HB
      have BK270 := n0_
      have BK271 := n1_
      have HB := n2_
      clear n0_ n1_ n2_
      have p272 : 0 ≤ (x6_1 : Int) := of_decide_eq_true (by first | (with_reducible assumption) | assumption)
      have q272 : x6_1 < (l0_5.length : Int) := of_decide_eq_true (by first | (with_reducible assumption) | assumption)
      obtain ⟨ad272, A272_5, c272_5, e272, hx272_0, hx272_1, hx272_2, hx272_3, hx272_4, hx272_5, hl272_5, hi272_5⟩ := at_T24 HR0_5.out x6_1 p272 q272
      have hw272_5 := hx272_5
      have hw272_4 := hx272_4
      have hw272_3 := hx272_3
      have hw272_2 := hx272_2
      have hw272_1 := hx272_1
      have hw272_0 := hx272_0
      cases e272
      replace hx272_0 := (HB.out.cell (World.block_lt_of_cell? w _ hx272_0)).trans hx272_0
      replace hx272_1 := (HB.out.cell (World.block_lt_of_cell? w _ hx272_1)).trans hx272_1
      replace hx272_2 := (HB.out.cell (World.block_lt_of_cell? w _ hx272_2)).trans hx272_2
      replace hx272_3 := (HB.out.cell (World.block_lt_of_cell? w _ hx272_3)).trans hx272_3
      replace hx272_4 := (HB.out.cell (World.block_lt_of_cell? w _ hx272_4)).trans hx272_4
      replace hx272_5 := (HB.out.cell (World.block_lt_of_cell? w _ hx272_5)).trans hx272_5
      have HR272_5 := Aside0.mk hi272_5
      have HC272_5 := Aside0.mk hl272_5
      clear hi272_5 hl272_5
      replace p272 := eq_true p272
      replace q272 := eq_true q272
      refine start_ (n := 7) (S := fun w' => w'.cell? ⟨gb270, 0, none⟩ = some (.int .i64 a0_0) ∧ w'.cell? ⟨gb270, 1, none⟩ = some (.int .i64 a0_1) ∧ w'.cell? ⟨gb270, 2, none⟩ = some (.string a0_2) ∧ w'.cell? ⟨gb270, 3, none⟩ = some (.int .i64 a0_3) ∧ w'.cell? ⟨gb270, 4, none⟩ = some (.int .i64 a0_4) ∧ w'.cell? ⟨gb270, 5, none⟩ = some (.slice (some ad272) l0_5.length c0_5) ∧ w'.cell? ⟨gb271, 0, none⟩ = some (.slice A1_0 l1_0.length c1_0) ∧ w'.cell? ⟨gb271, 1, none⟩ = some (.int .i64 a1_1) ∧ w'.cell? ⟨gb271, 2, none⟩ = some (.int .i64 a1_2) ∧ w'.cell? ⟨gb271, 3, none⟩ = some (.int .i64 a1_3) ∧ w'.cell? (ad272.add ((x6_1).toNat * 6)) = some (.int .i64 ((rd_T24 l0_5 x6_1).f0)) ∧ w'.cell? ⟨(ad272.add ((x6_1).toNat * 6)).block, (ad272.add ((x6_1).toNat * 6)).off + 1, none⟩ = some (.int .i64 ((rd_T24 l0_5 x6_1).f1)) ∧ w'.cell? ⟨(ad272.add ((x6_1).toNat * 6)).block, (ad272.add ((x6_1).toNat * 6)).off + 2, none⟩ = some (.string ((rd_T24 l0_5 x6_1).f2)) ∧ w'.cell? ⟨(ad272.add ((x6_1).toNat * 6)).block, (ad272.add ((x6_1).toNat * 6)).off + 3, none⟩ = some (.int .i64 ((rd_T24 l0_5 x6_1).f3)) ∧ w'.cell? ⟨(ad272.add ((x6_1).toNat * 6)).block, (ad272.add ((x6_1).toNat * 6)).off + 4, none⟩ = some (.int .i64 ((rd_T24 l0_5 x6_1).f4)) ∧ w'.cell? ⟨(ad272.add ((x6_1).toNat * 6)).block, (ad272.add ((x6_1).toNat * 6)).off + 5, none⟩ = some (.slice A272_5 ((rd_T24 l0_5 x6_1).f5).length c272_5)) (ds := []) #[false, false, false, false, false, false, false] (by kernel_rfl) rfl rfl ⟨(blk_cell BK270.out 0).trans rfl, (blk_cell BK270.out 1).trans rfl, (blk_cell BK270.out 2).trans rfl, (blk_cell BK270.out 3).trans rfl, (blk_cell BK270.out 4).trans rfl, (blk_cell BK270.out 5).trans rfl, (blk_cell BK271.out 0).trans rfl, (blk_cell BK271.out 1).trans rfl, (blk_cell BK271.out 2).trans rfl, (blk_cell BK271.out 3).trans rfl, ((HB.out.cell (World.block_lt_of_cell? w _ hw272_0)).trans hw272_0), ((HB.out.cell (World.block_lt_of_cell? w _ hw272_1)).trans hw272_1), ((HB.out.cell (World.block_lt_of_cell? w _ hw272_2)).trans hw272_2), ((HB.out.cell (World.block_lt_of_cell? w _ hw272_3)).trans hw272_3), ((HB.out.cell (World.block_lt_of_cell? w _ hw272_4)).trans hw272_4), ((HB.out.cell (World.block_lt_of_cell? w _ hw272_5)).trans hw272_5)⟩ (fun hHeld => ?_)
      generalize wr.drew = w11 at BK270 BK271 HB HR272_5 hx272_0 hx272_1 hx272_2 hx272_3 hx272_4 hx272_5 hHeld ⊢
      refine pure_ (i := 0) (N := some 14) (v := ?_) (a' := ?_) #[true, false, false, false, false, false, false] rfl rfl (by kernel_rfl) (fun _ _ _ h => h) (Or.inl ⟨by rfl, ?_⟩) ?_ ?_
      rotate_left
      ·intro w'
       go_simp
       with_reducible rfl
      rotate_left
      ·simp only [Act.put, List.setIfInBounds_toArray, List.set_cons_zero, List.set_cons_succ, i64_w, i32_w]
       rfl
      refine pure_ (i := 2) (N := some 16) (v := ?_) (a' := ?_) #[true, false, true, false, false, false, false] rfl rfl (by kernel_rfl) (fun _ _ _ h => h) (Or.inl ⟨by rfl, ?_⟩) ?_ ?_
      rotate_left
      ·intro w'
       go_simp
       with_reducible rfl
      rotate_left
      ·simp only [Act.put, List.setIfInBounds_toArray, List.set_cons_zero, List.set_cons_succ, i64_w, i32_w]
       rfl
      refine take_ (i := 1) (N := some 15) (v := ?_) (a' := ?_) #[true, true, true, false, false, false, false] rfl rfl (by kernel_rfl) (fun _ _ _ h => h) (Or.inl ⟨by rfl, ?_⟩) hHeld ?_ ?_
      rotate_left
      ·rintro w' ⟨s0, s1, s2, s3, s4, s5, s6, s7, s8, s9, s10, s11, s12, s13, s14, s15⟩
       go_simp
       with_reducible rfl
      rotate_left
      ·simp only [Act.put, List.setIfInBounds_toArray, List.set_cons_zero, List.set_cons_succ, i64_w, i32_w]
       rfl
      refine pure_ (i := 3) (N := some 17) (v := ?_) (a' := ?_) #[true, true, true, true, false, false, false] rfl rfl (by kernel_rfl) (fun _ _ _ h => h) (Or.inl ⟨by rfl, ?_⟩) ?_ ?_
      rotate_left
      ·intro w'
       go_simp
       with_reducible rfl
      rotate_left
      ·simp only [Act.put, List.setIfInBounds_toArray, List.set_cons_zero, List.set_cons_succ, i64_w, i32_w]
       rfl
      refine take_ (i := 4) (N := some 18) (v := ?_) (a' := ?_) #[true, true, true, true, true, false, false] rfl rfl (by kernel_rfl) (fun _ _ _ h => h) (Or.inl ⟨by rfl, ?_⟩) hHeld ?_ ?_
      rotate_left
      ·rintro w' ⟨s0, s1, s2, s3, s4, s5, s6, s7, s8, s9, s10, s11, s12, s13, s14, s15⟩
       go_simp
       with_reducible rfl
      rotate_left
      ·simp only [Act.put, List.setIfInBounds_toArray, List.set_cons_zero, List.set_cons_succ, i64_w, i32_w]
       rfl
      refine take_ (i := 5) (N := some 19) (v := ?_) (a' := ?_) #[true, true, true, true, true, true, false] rfl rfl (by kernel_rfl) (fun _ _ _ h => h) (Or.inl ⟨by rfl, ?_⟩) hHeld ?_ ?_
      rotate_left
      ·rintro w' ⟨s0, s1, s2, s3, s4, s5, s6, s7, s8, s9, s10, s11, s12, s13, s14, s15⟩
       go_simp
       with_reducible rfl
      rotate_left
      ·simp only [Act.put, List.setIfInBounds_toArray, List.set_cons_zero, List.set_cons_succ, i64_w, i32_w]
       rfl
      refine one_ (i := 6) (N := some 20) #[true, true, true, true, true, true, true] rfl rfl (by kernel_rfl) (by decide) (fun K hK => ?_)
      refine goes_ Tryd.func32 (by kernel_rfl) rfl #[.agg #[.int .i64 ((rd_T24 l0_5 x6_1).f0), .int .i64 ((rd_T24 l0_5 x6_1).f1), .string ((rd_T24 l0_5 x6_1).f2), .int .i64 ((rd_T24 l0_5 x6_1).f3), .int .i64 ((rd_T24 l0_5 x6_1).f4), .slice A272_5 ((rd_T24 l0_5 x6_1).f5).length c272_5], .agg #[.slice A1_0 l1_0.length c1_0, .int .i64 a1_1, .int .i64 a1_2, .int .i64 a1_3]] (by rfl) rfl rfl (by (try simp only [List.map_toArray, List.map_cons, List.map_nil]); first | done | rfl | (simp only [List.length_drop, List.length_take]; rfl)) ?_
      with_reducible refine (ih k1 (by have := HK1.out; omega) ((rd_T24 l0_5 x6_1).f0) ((rd_T24 l0_5 x6_1).f1) ((rd_T24 l0_5 x6_1).f2) ((rd_T24 l0_5 x6_1).f3) ((rd_T24 l0_5 x6_1).f4) _ _ ((rd_T24 l0_5 x6_1).f5) _ _ l1_0 a1_1 a1_2 a1_3 true _ ?side1 ?side2 ?side3 ?side4 A7.out).mono ?_
      (case side1 => repeat (first | exact (Kd.C_below HR272_5.out HB.out) | (with_reducible refine Kd.C_alloc ?_ _) | (with_reducible refine Kd.C_drewN ?_ _) | (with_reducible refine Kd.C_drew ?_)))
      (case side2 => exact HC272_5.out)
      (case side3 => repeat (first | exact (Kd.C_below HR1_0.out HB.out) | (with_reducible refine Kd.C_alloc ?_ _) | (with_reducible refine Kd.C_drewN ?_ _) | (with_reducible refine Kd.C_drew ?_)))
      (case side4 => exact HC1_0.out)
      rintro e w12 ⟨rfl, hb⟩
      refine ⟨_, rfl, ?_⟩
      have n0_ := Aside0.mk (blk_below (g := gb270) (o := .cells #[.int .i64 a0_0, .int .i64 a0_1, .string a0_2, .int .i64 a0_3, .int .i64 a0_4, .slice (some ad272) l0_5.length c0_5] 24 (0, 0)) (by (with_reducible repeat (first | refine blk_drewN ?_ _ | refine blk_drew ?_ | refine blk_alloc ?_ _)); exact BK270.out) hb)
      have n1_ := Aside0.mk (blk_below (g := gb271) (o := .cells #[.slice A1_0 l1_0.length c1_0, .int .i64 a1_1, .int .i64 a1_2, .int .i64 a1_3] 29 (0, 0)) (by (with_reducible repeat (first | refine blk_drewN ?_ _ | refine blk_drew ?_ | refine blk_alloc ?_ _)); exact BK271.out) hb)
      have n2_ := Aside0.mk (below_step (by repeat (first | (with_reducible first | exact HB.out | apply below_alloc | apply pw_below_drewN | apply below_drew1 | refine below_set ?_ GE270.out | refine below_set ?_ GE271.out) | exact HB.out)) hb)
      clear BK270
      clear BK271
      clear HB
      have BK270 := n0_
      have BK271 := n1_
      have HB := n2_
      clear n0_ n1_ n2_
      (try clear hb)
      (try clear hb2)
      (try clear hk)
      (try clear hi)
      refine hK.out _ _ ⟨(blk_cell BK270.out 0).trans rfl, (blk_cell BK270.out 1).trans rfl, (blk_cell BK270.out 2).trans rfl, (blk_cell BK270.out 3).trans rfl, (blk_cell BK270.out 4).trans rfl, (blk_cell BK270.out 5).trans rfl, (blk_cell BK271.out 0).trans rfl, (blk_cell BK271.out 1).trans rfl, (blk_cell BK271.out 2).trans rfl, (blk_cell BK271.out 3).trans rfl, ((HB.out.cell (World.block_lt_of_cell? w _ hw272_0)).trans hw272_0), ((HB.out.cell (World.block_lt_of_cell? w _ hw272_1)).trans hw272_1), ((HB.out.cell (World.block_lt_of_cell? w _ hw272_2)).trans hw272_2), ((HB.out.cell (World.block_lt_of_cell? w _ hw272_3)).trans hw272_3), ((HB.out.cell (World.block_lt_of_cell? w _ hw272_4)).trans hw272_4), ((HB.out.cell (World.block_lt_of_cell? w _ hw272_5)).trans hw272_5)⟩ (fun hHeld => ?_)
      clear hK K
      refine norm_ (a' := ?_) ?_ ?_
      rotate_left
      ·show Act.put _ (some 20) _ = _
       simp only [Act.put, List.setIfInBounds_toArray, List.set_cons_zero, List.set_cons_succ, i64_w, i32_w]
       rfl
      refine done_ (by kernel_rfl) ?_
      try go_wp2
      go_roundg k1
      case measure => have := HK1.out; omega
      case rel => exact ⟨(wrap64 (x5_1 + 1)), (wrap64 (x6_1 + 1)), (by first | rfl | (simp; done) | (simp [*]; done)), (by first | rfl | (simp; done) | (simp [*]; done)), H', ⟨by have := HK1.out; omega⟩, ⟨by (with_reducible repeat (first | refine blk_drewN ?_ _ | refine blk_drew ?_ | refine blk_alloc ?_ _)); exact BK270.out⟩, ⟨by (with_reducible repeat (first | refine blk_drewN ?_ _ | refine blk_drew ?_ | refine blk_alloc ?_ _)); exact BK271.out⟩, ⟨by repeat (first | (with_reducible first | exact HB.out | apply below_alloc | apply pw_below_drewN | apply below_drew1 | refine below_set ?_ GE270.out | refine below_set ?_ GE271.out) | exact HB.out)⟩⟩
     ·replace c8 := Bool.eq_false_iff.mpr c8
      subst c8
      have H1 : (sizarref12_Value.l0 k1 x5_1 (wrap64 (x6_1 + 1)) a0_0 a0_1 a0_2 a0_3 a0_4 l0_5 l1_0 a1_1 a1_2 a1_3) = some r := by rw [if_neg (show ¬ (false = true) by decide)] at H; exact H
      clear H
      have H := H1
      clear H1
      have H' := Aside0.mk H
      clear H
      have hnb13 := NB270_271.out
      have hnc13 := NB271_270.out
      have hcz14_0 : wr.cell? ⟨gb270, 0, none⟩ = some (.int .i64 a0_0) := (blk_cell BK270.out 0).trans rfl
      have hcz14_1 : wr.cell? ⟨gb270, 1, none⟩ = some (.int .i64 a0_1) := (blk_cell BK270.out 1).trans rfl
      have hcz14_2 : wr.cell? ⟨gb270, 2, none⟩ = some (.string a0_2) := (blk_cell BK270.out 2).trans rfl
      have hcz14_3 : wr.cell? ⟨gb270, 3, none⟩ = some (.int .i64 a0_3) := (blk_cell BK270.out 3).trans rfl
      have hcz14_4 : wr.cell? ⟨gb270, 4, none⟩ = some (.int .i64 a0_4) := (blk_cell BK270.out 4).trans rfl
      have hcz14_5 : wr.cell? ⟨gb270, 5, none⟩ = some (.slice A0_5 l0_5.length c0_5) := (blk_cell BK270.out 5).trans rfl
      have hfz14_0 := blk_frozen BK270.out 0
      have hfz14_1 := blk_frozen BK270.out 1
      have hfz14_2 := blk_frozen BK270.out 2
      have hfz14_3 := blk_frozen BK270.out 3
      have hfz14_4 := blk_frozen BK270.out 4
      have hfz14_5 := blk_frozen BK270.out 5
      try go_wp2
      have n0_ := Aside0.mk (blk_drew BK270.out)
      have n1_ := Aside0.mk (blk_drew BK271.out)
      have n2_ := Aside0.mk (below_drew1 HB.out)
      clear BK270
      clear BK271
      clear HB
      have BK270 := n0_
      have BK271 := n1_
      have HB := n2_
      clear n0_ n1_ n2_
      have p272 : 0 ≤ (x6_1 : Int) := of_decide_eq_true (by first | (with_reducible assumption) | assumption)
      have q272 : x6_1 < (l0_5.length : Int) := of_decide_eq_true (by first | (with_reducible assumption) | assumption)
      obtain ⟨ad272, A272_5, c272_5, e272, hx272_0, hx272_1, hx272_2, hx272_3, hx272_4, hx272_5, hl272_5, hi272_5⟩ := at_T24 HR0_5.out x6_1 p272 q272
      have hw272_5 := hx272_5
      have hw272_4 := hx272_4
      have hw272_3 := hx272_3
      have hw272_2 := hx272_2
      have hw272_1 := hx272_1
      have hw272_0 := hx272_0
      cases e272
      replace hx272_0 := (HB.out.cell (World.block_lt_of_cell? w _ hx272_0)).trans hx272_0
      replace hx272_1 := (HB.out.cell (World.block_lt_of_cell? w _ hx272_1)).trans hx272_1
      replace hx272_2 := (HB.out.cell (World.block_lt_of_cell? w _ hx272_2)).trans hx272_2
      replace hx272_3 := (HB.out.cell (World.block_lt_of_cell? w _ hx272_3)).trans hx272_3
      replace hx272_4 := (HB.out.cell (World.block_lt_of_cell? w _ hx272_4)).trans hx272_4
      replace hx272_5 := (HB.out.cell (World.block_lt_of_cell? w _ hx272_5)).trans hx272_5
      have HR272_5 := Aside0.mk hi272_5
      have HC272_5 := Aside0.mk hl272_5
      clear hi272_5 hl272_5
      replace p272 := eq_true p272
      replace q272 := eq_true q272
      refine start_ (n := 7) (S := fun w' => w'.cell? ⟨gb270, 0, none⟩ = some (.int .i64 a0_0) ∧ w'.cell? ⟨gb270, 1, none⟩ = some (.int .i64 a0_1) ∧ w'.cell? ⟨gb270, 2, none⟩ = some (.string a0_2) ∧ w'.cell? ⟨gb270, 3, none⟩ = some (.int .i64 a0_3) ∧ w'.cell? ⟨gb270, 4, none⟩ = some (.int .i64 a0_4) ∧ w'.cell? ⟨gb270, 5, none⟩ = some (.slice (some ad272) l0_5.length c0_5) ∧ w'.cell? ⟨gb271, 0, none⟩ = some (.slice A1_0 l1_0.length c1_0) ∧ w'.cell? ⟨gb271, 1, none⟩ = some (.int .i64 a1_1) ∧ w'.cell? ⟨gb271, 2, none⟩ = some (.int .i64 a1_2) ∧ w'.cell? ⟨gb271, 3, none⟩ = some (.int .i64 a1_3) ∧ w'.cell? (ad272.add ((x6_1).toNat * 6)) = some (.int .i64 ((rd_T24 l0_5 x6_1).f0)) ∧ w'.cell? ⟨(ad272.add ((x6_1).toNat * 6)).block, (ad272.add ((x6_1).toNat * 6)).off + 1, none⟩ = some (.int .i64 ((rd_T24 l0_5 x6_1).f1)) ∧ w'.cell? ⟨(ad272.add ((x6_1).toNat * 6)).block, (ad272.add ((x6_1).toNat * 6)).off + 2, none⟩ = some (.string ((rd_T24 l0_5 x6_1).f2)) ∧ w'.cell? ⟨(ad272.add ((x6_1).toNat * 6)).block, (ad272.add ((x6_1).toNat * 6)).off + 3, none⟩ = some (.int .i64 ((rd_T24 l0_5 x6_1).f3)) ∧ w'.cell? ⟨(ad272.add ((x6_1).toNat * 6)).block, (ad272.add ((x6_1).toNat * 6)).off + 4, none⟩ = some (.int .i64 ((rd_T24 l0_5 x6_1).f4)) ∧ w'.cell? ⟨(ad272.add ((x6_1).toNat * 6)).block, (ad272.add ((x6_1).toNat * 6)).off + 5, none⟩ = some (.slice A272_5 ((rd_T24 l0_5 x6_1).f5).length c272_5)) (ds := []) #[false, false, false, false, false, false, false] (by kernel_rfl) rfl rfl ⟨(blk_cell BK270.out 0).trans rfl, (blk_cell BK270.out 1).trans rfl, (blk_cell BK270.out 2).trans rfl, (blk_cell BK270.out 3).trans rfl, (blk_cell BK270.out 4).trans rfl, (blk_cell BK270.out 5).trans rfl, (blk_cell BK271.out 0).trans rfl, (blk_cell BK271.out 1).trans rfl, (blk_cell BK271.out 2).trans rfl, (blk_cell BK271.out 3).trans rfl, ((HB.out.cell (World.block_lt_of_cell? w _ hw272_0)).trans hw272_0), ((HB.out.cell (World.block_lt_of_cell? w _ hw272_1)).trans hw272_1), ((HB.out.cell (World.block_lt_of_cell? w _ hw272_2)).trans hw272_2), ((HB.out.cell (World.block_lt_of_cell? w _ hw272_3)).trans hw272_3), ((HB.out.cell (World.block_lt_of_cell? w _ hw272_4)).trans hw272_4), ((HB.out.cell (World.block_lt_of_cell? w _ hw272_5)).trans hw272_5)⟩ (fun hHeld => ?_)
      generalize wr.drew = w15 at BK270 BK271 HB HR272_5 hx272_0 hx272_1 hx272_2 hx272_3 hx272_4 hx272_5 hHeld ⊢
      refine pure_ (i := 0) (N := some 14) (v := ?_) (a' := ?_) #[true, false, false, false, false, false, false] rfl rfl (by kernel_rfl) (fun _ _ _ h => h) (Or.inl ⟨by rfl, ?_⟩) ?_ ?_
      rotate_left
      ·intro w'
       go_simp
       with_reducible rfl
      rotate_left
      ·simp only [Act.put, List.setIfInBounds_toArray, List.set_cons_zero, List.set_cons_succ, i64_w, i32_w]
       rfl
      refine pure_ (i := 2) (N := some 16) (v := ?_) (a' := ?_) #[true, false, true, false, false, false, false] rfl rfl (by kernel_rfl) (fun _ _ _ h => h) (Or.inl ⟨by rfl, ?_⟩) ?_ ?_
      rotate_left
      ·intro w'
       go_simp
       with_reducible rfl
      rotate_left
      ·simp only [Act.put, List.setIfInBounds_toArray, List.set_cons_zero, List.set_cons_succ, i64_w, i32_w]
       rfl
      refine take_ (i := 1) (N := some 15) (v := ?_) (a' := ?_) #[true, true, true, false, false, false, false] rfl rfl (by kernel_rfl) (fun _ _ _ h => h) (Or.inl ⟨by rfl, ?_⟩) hHeld ?_ ?_
      rotate_left
      ·rintro w' ⟨s0, s1, s2, s3, s4, s5, s6, s7, s8, s9, s10, s11, s12, s13, s14, s15⟩
       go_simp
       with_reducible rfl
      rotate_left
      ·simp only [Act.put, List.setIfInBounds_toArray, List.set_cons_zero, List.set_cons_succ, i64_w, i32_w]
       rfl
      refine pure_ (i := 3) (N := some 17) (v := ?_) (a' := ?_) #[true, true, true, true, false, false, false] rfl rfl (by kernel_rfl) (fun _ _ _ h => h) (Or.inl ⟨by rfl, ?_⟩) ?_ ?_
      rotate_left
      ·intro w'
       go_simp
       with_reducible rfl
      rotate_left
      ·simp only [Act.put, List.setIfInBounds_toArray, List.set_cons_zero, List.set_cons_succ, i64_w, i32_w]
       rfl
      refine take_ (i := 4) (N := some 18) (v := ?_) (a' := ?_) #[true, true, true, true, true, false, false] rfl rfl (by kernel_rfl) (fun _ _ _ h => h) (Or.inl ⟨by rfl, ?_⟩) hHeld ?_ ?_
      rotate_left
      ·rintro w' ⟨s0, s1, s2, s3, s4, s5, s6, s7, s8, s9, s10, s11, s12, s13, s14, s15⟩
       go_simp
       with_reducible rfl
      rotate_left
      ·simp only [Act.put, List.setIfInBounds_toArray, List.set_cons_zero, List.set_cons_succ, i64_w, i32_w]
       rfl
      refine take_ (i := 5) (N := some 19) (v := ?_) (a' := ?_) #[true, true, true, true, true, true, false] rfl rfl (by kernel_rfl) (fun _ _ _ h => h) (Or.inl ⟨by rfl, ?_⟩) hHeld ?_ ?_
      rotate_left
      ·rintro w' ⟨s0, s1, s2, s3, s4, s5, s6, s7, s8, s9, s10, s11, s12, s13, s14, s15⟩
       go_simp
       with_reducible rfl
      rotate_left
      ·simp only [Act.put, List.setIfInBounds_toArray, List.set_cons_zero, List.set_cons_succ, i64_w, i32_w]
       rfl
      refine one_ (i := 6) (N := some 20) #[true, true, true, true, true, true, true] rfl rfl (by kernel_rfl) (by decide) (fun K hK => ?_)
      refine goes_ Tryd.func32 (by kernel_rfl) rfl #[.agg #[.int .i64 ((rd_T24 l0_5 x6_1).f0), .int .i64 ((rd_T24 l0_5 x6_1).f1), .string ((rd_T24 l0_5 x6_1).f2), .int .i64 ((rd_T24 l0_5 x6_1).f3), .int .i64 ((rd_T24 l0_5 x6_1).f4), .slice A272_5 ((rd_T24 l0_5 x6_1).f5).length c272_5], .agg #[.slice A1_0 l1_0.length c1_0, .int .i64 a1_1, .int .i64 a1_2, .int .i64 a1_3]] (by rfl) rfl rfl (by (try simp only [List.map_toArray, List.map_cons, List.map_nil]); first | done | rfl | (simp only [List.length_drop, List.length_take]; rfl)) ?_
      with_reducible refine (ih k1 (by have := HK1.out; omega) ((rd_T24 l0_5 x6_1).f0) ((rd_T24 l0_5 x6_1).f1) ((rd_T24 l0_5 x6_1).f2) ((rd_T24 l0_5 x6_1).f3) ((rd_T24 l0_5 x6_1).f4) _ _ ((rd_T24 l0_5 x6_1).f5) _ _ l1_0 a1_1 a1_2 a1_3 false _ ?side1 ?side2 ?side3 ?side4 A7.out).mono ?_
      (case side1 => repeat (first | exact (Kd.C_below HR272_5.out HB.out) | (with_reducible refine Kd.C_alloc ?_ _) | (with_reducible refine Kd.C_drewN ?_ _) | (with_reducible refine Kd.C_drew ?_)))
      (case side2 => exact HC272_5.out)
      (case side3 => repeat (first | exact (Kd.C_below HR1_0.out HB.out) | (with_reducible refine Kd.C_alloc ?_ _) | (with_reducible refine Kd.C_drewN ?_ _) | (with_reducible refine Kd.C_drew ?_)))
      (case side4 => exact HC1_0.out)
      rintro e w16 ⟨rfl, hb⟩
      refine ⟨_, rfl, ?_⟩
      have n0_ := Aside0.mk (blk_below (g := gb270) (o := .cells #[.int .i64 a0_0, .int .i64 a0_1, .string a0_2, .int .i64 a0_3, .int .i64 a0_4, .slice (some ad272) l0_5.length c0_5] 24 (0, 0)) (by (with_reducible repeat (first | refine blk_drewN ?_ _ | refine blk_drew ?_ | refine blk_alloc ?_ _)); exact BK270.out) hb)
      have n1_ := Aside0.mk (blk_below (g := gb271) (o := .cells #[.slice A1_0 l1_0.length c1_0, .int .i64 a1_1, .int .i64 a1_2, .int .i64 a1_3] 29 (0, 0)) (by (with_reducible repeat (first | refine blk_drewN ?_ _ | refine blk_drew ?_ | refine blk_alloc ?_ _)); exact BK271.out) hb)
      have n2_ := Aside0.mk (below_step (by repeat (first | (with_reducible first | exact HB.out | apply below_alloc | apply pw_below_drewN | apply below_drew1 | refine below_set ?_ GE270.out | refine below_set ?_ GE271.out) | exact HB.out)) hb)
      clear BK270
      clear BK271
      clear HB
      have BK270 := n0_
      have BK271 := n1_
      have HB := n2_
      clear n0_ n1_ n2_
      (try clear hb)
      (try clear hb2)
      (try clear hk)
      (try clear hi)
      refine hK.out _ _ ⟨(blk_cell BK270.out 0).trans rfl, (blk_cell BK270.out 1).trans rfl, (blk_cell BK270.out 2).trans rfl, (blk_cell BK270.out 3).trans rfl, (blk_cell BK270.out 4).trans rfl, (blk_cell BK270.out 5).trans rfl, (blk_cell BK271.out 0).trans rfl, (blk_cell BK271.out 1).trans rfl, (blk_cell BK271.out 2).trans rfl, (blk_cell BK271.out 3).trans rfl, ((HB.out.cell (World.block_lt_of_cell? w _ hw272_0)).trans hw272_0), ((HB.out.cell (World.block_lt_of_cell? w _ hw272_1)).trans hw272_1), ((HB.out.cell (World.block_lt_of_cell? w _ hw272_2)).trans hw272_2), ((HB.out.cell (World.block_lt_of_cell? w _ hw272_3)).trans hw272_3), ((HB.out.cell (World.block_lt_of_cell? w _ hw272_4)).trans hw272_4), ((HB.out.cell (World.block_lt_of_cell? w _ hw272_5)).trans hw272_5)⟩ (fun hHeld => ?_)
      clear hK K
      refine norm_ (a' := ?_) ?_ ?_
      rotate_left
      ·show Act.put _ (some 20) _ = _
       simp only [Act.put, List.setIfInBounds_toArray, List.set_cons_zero, List.set_cons_succ, i64_w, i32_w]
       rfl
      refine done_ (by kernel_rfl) ?_
      try go_wp2
      go_roundg k1
      case measure => have := HK1.out; omega
      case rel => exact ⟨(x5_1), (wrap64 (x6_1 + 1)), (by first | rfl | (simp; done) | (simp [*]; done)), (by first | rfl | (simp; done) | (simp [*]; done)), H', ⟨by have := HK1.out; omega⟩, ⟨by (with_reducible repeat (first | refine blk_drewN ?_ _ | refine blk_drew ?_ | refine blk_alloc ?_ _)); exact BK270.out⟩, ⟨by (with_reducible repeat (first | refine blk_drewN ?_ _ | refine blk_drew ?_ | refine blk_alloc ?_ _)); exact BK271.out⟩, ⟨by repeat (first | (with_reducible first | exact HB.out | apply below_alloc | apply pw_below_drewN | apply below_drew1 | refine below_set ?_ GE270.out | refine below_set ?_ GE271.out) | exact HB.out)⟩⟩
    ·rw [if_neg c6] at H
     exact absurd H (by simp)
   ·rw [if_neg c5] at H
    have c5b0 : decide (x6_1 < (l0_5.length : Int)) = false := decide_eq_false c5
    clear c5
    by_cases c17 : a0_0 = 1
    ·rw [if_pos c17] at H
     have c17b0 : (a0_0 == 1) = true := beq_iff_eq.mpr c17
     have c17b1 : (a0_0 != 1) = false := bne_eq_false_iff_eq.mpr c17
     clear c17
     obtain rfl := Option.some.inj H
     have hnb18 := NB270_271.out
     have hnc18 := NB271_270.out
     have hcz19_0 : wr.cell? ⟨gb270, 0, none⟩ = some (.int .i64 a0_0) := (blk_cell BK270.out 0).trans rfl
     have hcz19_1 : wr.cell? ⟨gb270, 1, none⟩ = some (.int .i64 a0_1) := (blk_cell BK270.out 1).trans rfl
     have hcz19_2 : wr.cell? ⟨gb270, 2, none⟩ = some (.string a0_2) := (blk_cell BK270.out 2).trans rfl
     have hcz19_3 : wr.cell? ⟨gb270, 3, none⟩ = some (.int .i64 a0_3) := (blk_cell BK270.out 3).trans rfl
     have hcz19_4 : wr.cell? ⟨gb270, 4, none⟩ = some (.int .i64 a0_4) := (blk_cell BK270.out 4).trans rfl
     have hcz19_5 : wr.cell? ⟨gb270, 5, none⟩ = some (.slice A0_5 l0_5.length c0_5) := (blk_cell BK270.out 5).trans rfl
     have hfz19_0 := blk_frozen BK270.out 0
     have hfz19_1 := blk_frozen BK270.out 1
     have hfz19_2 := blk_frozen BK270.out 2
     have hfz19_3 := blk_frozen BK270.out 3
     have hfz19_4 := blk_frozen BK270.out 4
     have hfz19_5 := blk_frozen BK270.out 5
     go_wp2
     go_ret
     exact ⟨by first | rfl | (simp [errW_none, errW_some] <;> rfl) | (simp [*, errW_none, errW_some] <;> rfl), by repeat (first | (with_reducible first | exact HB.out | apply below_alloc | apply pw_below_drewN | apply below_drew1 | refine below_set ?_ GE270.out | refine below_set ?_ GE271.out) | exact HB.out)⟩
    ·rw [if_neg c17] at H
     have c17b0 : (a0_0 == 1) = false := beq_eq_false_iff_ne.mpr c17
     have c17b1 : (a0_0 != 1) = true := bne_iff_ne.mpr c17
     by_cases c20 : a0_0 = 2
     ·rw [if_pos c20] at H
      have c20b0 : (a0_0 == 2) = true := beq_iff_eq.mpr c20
      have c20b1 : (a0_0 != 2) = false := bne_eq_false_iff_eq.mpr c20
      clear c20
      obtain rfl := Option.some.inj H
      have hnb21 := NB270_271.out
      have hnc21 := NB271_270.out
      have hcz22_0 : wr.cell? ⟨gb270, 0, none⟩ = some (.int .i64 a0_0) := (blk_cell BK270.out 0).trans rfl
      have hcz22_1 : wr.cell? ⟨gb270, 1, none⟩ = some (.int .i64 a0_1) := (blk_cell BK270.out 1).trans rfl
      have hcz22_2 : wr.cell? ⟨gb270, 2, none⟩ = some (.string a0_2) := (blk_cell BK270.out 2).trans rfl
      have hcz22_3 : wr.cell? ⟨gb270, 3, none⟩ = some (.int .i64 a0_3) := (blk_cell BK270.out 3).trans rfl
      have hcz22_4 : wr.cell? ⟨gb270, 4, none⟩ = some (.int .i64 a0_4) := (blk_cell BK270.out 4).trans rfl
      have hcz22_5 : wr.cell? ⟨gb270, 5, none⟩ = some (.slice A0_5 l0_5.length c0_5) := (blk_cell BK270.out 5).trans rfl
      have hfz22_0 := blk_frozen BK270.out 0
      have hfz22_1 := blk_frozen BK270.out 1
      have hfz22_2 := blk_frozen BK270.out 2
      have hfz22_3 := blk_frozen BK270.out 3
      have hfz22_4 := blk_frozen BK270.out 4
      have hfz22_5 := blk_frozen BK270.out 5
      go_wp2
      go_ret
      exact ⟨by first | rfl | (simp [errW_none, errW_some] <;> rfl) | (simp [*, errW_none, errW_some] <;> rfl), by repeat (first | (with_reducible first | exact HB.out | apply below_alloc | apply pw_below_drewN | apply below_drew1 | refine below_set ?_ GE270.out | refine below_set ?_ GE271.out) | exact HB.out)⟩
     ·rw [if_neg c20] at H
      have c20b0 : (a0_0 == 2) = false := beq_eq_false_iff_ne.mpr c20
      have c20b1 : (a0_0 != 2) = true := bne_iff_ne.mpr c20
      by_cases c23 : a0_0 = 3
      ·rw [if_pos c23] at H
       have c23b0 : (a0_0 == 3) = true := beq_iff_eq.mpr c23
       have c23b1 : (a0_0 != 3) = false := bne_eq_false_iff_eq.mpr c23
       clear c23
       obtain rfl := Option.some.inj H
       have hnb24 := NB270_271.out
       have hnc24 := NB271_270.out
       have hcz25_0 : wr.cell? ⟨gb270, 0, none⟩ = some (.int .i64 a0_0) := (blk_cell BK270.out 0).trans rfl
       have hcz25_1 : wr.cell? ⟨gb270, 1, none⟩ = some (.int .i64 a0_1) := (blk_cell BK270.out 1).trans rfl
       have hcz25_2 : wr.cell? ⟨gb270, 2, none⟩ = some (.string a0_2) := (blk_cell BK270.out 2).trans rfl
       have hcz25_3 : wr.cell? ⟨gb270, 3, none⟩ = some (.int .i64 a0_3) := (blk_cell BK270.out 3).trans rfl
       have hcz25_4 : wr.cell? ⟨gb270, 4, none⟩ = some (.int .i64 a0_4) := (blk_cell BK270.out 4).trans rfl
       have hcz25_5 : wr.cell? ⟨gb270, 5, none⟩ = some (.slice A0_5 l0_5.length c0_5) := (blk_cell BK270.out 5).trans rfl
       have hfz25_0 := blk_frozen BK270.out 0
       have hfz25_1 := blk_frozen BK270.out 1
       have hfz25_2 := blk_frozen BK270.out 2
       have hfz25_3 := blk_frozen BK270.out 3
       have hfz25_4 := blk_frozen BK270.out 4
       have hfz25_5 := blk_frozen BK270.out 5
       go_wp2
       go_ret
       exact ⟨by first | rfl | (simp [errW_none, errW_some] <;> rfl) | (simp [*, errW_none, errW_some] <;> rfl), by repeat (first | (with_reducible first | exact HB.out | apply below_alloc | apply pw_below_drewN | apply below_drew1 | refine below_set ?_ GE270.out | refine below_set ?_ GE271.out) | exact HB.out)⟩
      ·rw [if_neg c23] at H
       have c23b0 : (a0_0 == 3) = false := beq_eq_false_iff_ne.mpr c23
       have c23b1 : (a0_0 != 3) = true := bne_iff_ne.mpr c23
       by_cases c26 : a0_0 = 4
       ·rw [if_pos c26] at H
        have c26b0 : (a0_0 == 4) = true := beq_iff_eq.mpr c26
        have c26b1 : (a0_0 != 4) = false := bne_eq_false_iff_eq.mpr c26
        clear c26
        obtain rfl := Option.some.inj H
        have hnb27 := NB270_271.out
        have hnc27 := NB271_270.out
        have hcz28_0 : wr.cell? ⟨gb270, 0, none⟩ = some (.int .i64 a0_0) := (blk_cell BK270.out 0).trans rfl
        have hcz28_1 : wr.cell? ⟨gb270, 1, none⟩ = some (.int .i64 a0_1) := (blk_cell BK270.out 1).trans rfl
        have hcz28_2 : wr.cell? ⟨gb270, 2, none⟩ = some (.string a0_2) := (blk_cell BK270.out 2).trans rfl
        have hcz28_3 : wr.cell? ⟨gb270, 3, none⟩ = some (.int .i64 a0_3) := (blk_cell BK270.out 3).trans rfl
        have hcz28_4 : wr.cell? ⟨gb270, 4, none⟩ = some (.int .i64 a0_4) := (blk_cell BK270.out 4).trans rfl
        have hcz28_5 : wr.cell? ⟨gb270, 5, none⟩ = some (.slice A0_5 l0_5.length c0_5) := (blk_cell BK270.out 5).trans rfl
        have hfz28_0 := blk_frozen BK270.out 0
        have hfz28_1 := blk_frozen BK270.out 1
        have hfz28_2 := blk_frozen BK270.out 2
        have hfz28_3 := blk_frozen BK270.out 3
        have hfz28_4 := blk_frozen BK270.out 4
        have hfz28_5 := blk_frozen BK270.out 5
        go_wp2
        go_ret
        exact ⟨by first | rfl | (simp [errW_none, errW_some] <;> rfl) | (simp [*, errW_none, errW_some] <;> rfl), by repeat (first | (with_reducible first | exact HB.out | apply below_alloc | apply pw_below_drewN | apply below_drew1 | refine below_set ?_ GE270.out | refine below_set ?_ GE271.out) | exact HB.out)⟩
       ·rw [if_neg c26] at H
        have c26b0 : (a0_0 == 4) = false := beq_eq_false_iff_ne.mpr c26
        have c26b1 : (a0_0 != 4) = true := bne_iff_ne.mpr c26
        by_cases c29 : a0_0 = 5
        ·rw [if_pos c29] at H
         have c29b0 : (a0_0 == 5) = true := beq_iff_eq.mpr c29
         have c29b1 : (a0_0 != 5) = false := bne_eq_false_iff_eq.mpr c29
         clear c29
         replace H := Option.bind_eq_some_iff.mp H
         obtain ⟨⟨t274, t275, t276, t277⟩, A300, H⟩ := H
         replace H : (some (decide (t276 ≥ a0_3))) = some r := H
         have A30 := Aside0.mk A300
         clear A300
         obtain rfl := Option.some.inj H
         have hnb31 := NB270_271.out
         have hnc31 := NB271_270.out
         have hcz32_0 : wr.cell? ⟨gb270, 0, none⟩ = some (.int .i64 a0_0) := (blk_cell BK270.out 0).trans rfl
         have hcz32_1 : wr.cell? ⟨gb270, 1, none⟩ = some (.int .i64 a0_1) := (blk_cell BK270.out 1).trans rfl
         have hcz32_2 : wr.cell? ⟨gb270, 2, none⟩ = some (.string a0_2) := (blk_cell BK270.out 2).trans rfl
         have hcz32_3 : wr.cell? ⟨gb270, 3, none⟩ = some (.int .i64 a0_3) := (blk_cell BK270.out 3).trans rfl
         have hcz32_4 : wr.cell? ⟨gb270, 4, none⟩ = some (.int .i64 a0_4) := (blk_cell BK270.out 4).trans rfl
         have hcz32_5 : wr.cell? ⟨gb270, 5, none⟩ = some (.slice A0_5 l0_5.length c0_5) := (blk_cell BK270.out 5).trans rfl
         have hfz32_0 := blk_frozen BK270.out 0
         have hfz32_1 := blk_frozen BK270.out 1
         have hfz32_2 := blk_frozen BK270.out 2
         have hfz32_3 := blk_frozen BK270.out 3
         have hfz32_4 := blk_frozen BK270.out 4
         have hfz32_5 := blk_frozen BK270.out 5
         try go_wp2
         have n0_ := Aside0.mk (blk_drew BK270.out)
         have n1_ := Aside0.mk (blk_drew BK271.out)
         have n2_ := Aside0.mk (below_drew1 HB.out)
         clear BK270
         clear BK271
         clear HB
         have BK270 := n0_
         have BK271 := n1_
         have HB := n2_
         clear n0_ n1_ n2_
         refine start_ (n := 9) (S := fun w' => w'.cell? ⟨gb271, 0, none⟩ = some (.slice A1_0 l1_0.length c1_0) ∧ w'.cell? ⟨gb271, 1, none⟩ = some (.int .i64 a1_1) ∧ w'.cell? ⟨gb271, 2, none⟩ = some (.int .i64 a1_2) ∧ w'.cell? ⟨gb271, 3, none⟩ = some (.int .i64 a1_3) ∧ w'.cell? ⟨gb270, 0, none⟩ = some (.int .i64 a0_0) ∧ w'.cell? ⟨gb270, 1, none⟩ = some (.int .i64 a0_1) ∧ w'.cell? ⟨gb270, 2, none⟩ = some (.string a0_2) ∧ w'.cell? ⟨gb270, 3, none⟩ = some (.int .i64 a0_3) ∧ w'.cell? ⟨gb270, 4, none⟩ = some (.int .i64 a0_4) ∧ w'.cell? ⟨gb270, 5, none⟩ = some (.slice A0_5 l0_5.length c0_5)) (ds := []) #[false, false, false, false, false, false, false, false, false] (by kernel_rfl) rfl rfl ⟨(blk_cell BK271.out 0).trans rfl, (blk_cell BK271.out 1).trans rfl, (blk_cell BK271.out 2).trans rfl, (blk_cell BK271.out 3).trans rfl, (blk_cell BK270.out 0).trans rfl, (blk_cell BK270.out 1).trans rfl, (blk_cell BK270.out 2).trans rfl, (blk_cell BK270.out 3).trans rfl, (blk_cell BK270.out 4).trans rfl, (blk_cell BK270.out 5).trans rfl⟩ (fun hHeld => ?_); refine with_tabW sizarref12_Value.tab17 sizarref12_Value.bits17 (fun HT_ HW_ => ?_)
         generalize wr.drew = w33 at BK270 BK271 HB hHeld ⊢
         refine pure_ (i := 1) (N := some 49) (v := ?_) (a' := ?_) #[false, true, false, false, false, false, false, false, false] rfl rfl (any_of HT_.out (by kernel_rfl)) (fun _ _ _ h => h) (Or.inl ⟨by rfl, ?_⟩) ?_ ?_
         rotate_left
         ·intro w'
          go_simp
          with_reducible rfl
         rotate_left
         ·simp only [Act.put, List.setIfInBounds_toArray, List.set_cons_zero, List.set_cons_succ, i64_w, i32_w]
          rfl
         refine pure_ (i := 5) (N := some 53) (v := ?_) (a' := ?_) #[false, true, false, false, false, true, false, false, false] rfl rfl (any_of HT_.out (by kernel_rfl)) (fun _ _ _ h => h) (Or.inl ⟨by rfl, ?_⟩) ?_ ?_
         rotate_left
         ·intro w'
          go_simp
          with_reducible rfl
         rotate_left
         ·simp only [Act.put, List.setIfInBounds_toArray, List.set_cons_zero, List.set_cons_succ, i64_w, i32_w]
          rfl
         refine take_ (i := 0) (N := some 48) (v := ?_) (a' := ?_) #[true, true, false, false, false, true, false, false, false] rfl rfl (take_ofW HT_.out HW_.out (by kernel_rfl)) (fun _ _ _ h => h) (Or.inl ⟨by rfl, ?_⟩) hHeld ?_ ?_
         rotate_left
         ·rintro w' ⟨s0, s1, s2, s3, s4, s5, s6, s7, s8, s9⟩
          go_simp
          with_reducible rfl
         rotate_left
         ·simp only [Act.put, List.setIfInBounds_toArray, List.set_cons_zero, List.set_cons_succ, i64_w, i32_w]
          rfl
         refine take_ (i := 2) (N := some 50) (v := ?_) (a' := ?_) #[true, true, true, false, false, true, false, false, false] rfl rfl (take_ofW HT_.out HW_.out (by kernel_rfl)) (fun _ _ _ h => h) (Or.inl ⟨by rfl, ?_⟩) hHeld ?_ ?_
         rotate_left
         ·rintro w' ⟨s0, s1, s2, s3, s4, s5, s6, s7, s8, s9⟩
          go_simp
          with_reducible rfl
         rotate_left
         ·simp only [Act.put, List.setIfInBounds_toArray, List.set_cons_zero, List.set_cons_succ, i64_w, i32_w]
          rfl
         refine take_ (i := 6) (N := some 54) (v := ?_) (a' := ?_) #[true, true, true, false, false, true, true, false, false] rfl rfl (take_ofW HT_.out HW_.out (by kernel_rfl)) (fun _ _ _ h => h) (Or.inl ⟨by rfl, ?_⟩) hHeld ?_ ?_
         rotate_left
         ·rintro w' ⟨s0, s1, s2, s3, s4, s5, s6, s7, s8, s9⟩
          go_simp
          with_reducible rfl
         rotate_left
         ·simp only [Act.put, List.setIfInBounds_toArray, List.set_cons_zero, List.set_cons_succ, i64_w, i32_w]
          rfl
         refine one_ (i := 3) (N := some 51) #[true, true, true, true, false, true, true, false, false] rfl rfl (one_of HT_.out (by kernel_rfl)) (by decide) (fun K hK => ?_)
         refine goes_ Tryd.func47 (by kernel_rfl) rfl #[.agg #[.slice A1_0 l1_0.length c1_0, .int .i64 a1_1, .int .i64 a1_2, .int .i64 a1_3], .int .i64 a0_1] (by rfl) rfl rfl (by (try simp only [List.map_toArray, List.map_cons, List.map_nil]); first | done | rfl | (simp only [List.length_drop, List.length_take]; rfl)) ?_
         with_reducible refine (sizarref12_About.calls k1 _ _ l1_0 a1_1 a1_2 a1_3 a0_1 t274 t275 t276 t277 _ ?side1 ?side2 A30.out).mono ?_
         (case side1 => repeat (first | exact (Kd.C_below HR1_0.out HB.out) | (with_reducible refine Kd.C_alloc ?_ _) | (with_reducible refine Kd.C_drewN ?_ _) | (with_reducible refine Kd.C_drew ?_)))
         (case side2 => exact HC1_0.out)
         rintro e w34 ⟨rfl, hb⟩
         refine ⟨_, rfl, ?_⟩
         have n0_ := Aside0.mk (blk_below (g := gb270) (o := .cells #[.int .i64 a0_0, .int .i64 a0_1, .string a0_2, .int .i64 a0_3, .int .i64 a0_4, .slice A0_5 l0_5.length c0_5] 24 (0, 0)) (by (with_reducible repeat (first | refine blk_drewN ?_ _ | refine blk_drew ?_ | refine blk_alloc ?_ _)); exact BK270.out) hb)
         have n1_ := Aside0.mk (blk_below (g := gb271) (o := .cells #[.slice A1_0 l1_0.length c1_0, .int .i64 a1_1, .int .i64 a1_2, .int .i64 a1_3] 29 (0, 0)) (by (with_reducible repeat (first | refine blk_drewN ?_ _ | refine blk_drew ?_ | refine blk_alloc ?_ _)); exact BK271.out) hb)
         have n2_ := Aside0.mk (below_step (by repeat (first | (with_reducible first | exact HB.out | apply below_alloc | apply pw_below_drewN | apply below_drew1 | refine below_set ?_ GE270.out | refine below_set ?_ GE271.out) | exact HB.out)) hb)
         clear BK270
         clear BK271
         clear HB
         have BK270 := n0_
         have BK271 := n1_
         have HB := n2_
         clear n0_ n1_ n2_
         (try clear hb)
         (try clear hb2)
         (try clear hk)
         (try clear hi)
         refine hK.out _ _ ⟨(blk_cell BK271.out 0).trans rfl, (blk_cell BK271.out 1).trans rfl, (blk_cell BK271.out 2).trans rfl, (blk_cell BK271.out 3).trans rfl, (blk_cell BK270.out 0).trans rfl, (blk_cell BK270.out 1).trans rfl, (blk_cell BK270.out 2).trans rfl, (blk_cell BK270.out 3).trans rfl, (blk_cell BK270.out 4).trans rfl, (blk_cell BK270.out 5).trans rfl⟩ (fun hHeld => ?_)
         clear hK K
         refine norm_ (a' := ?_) ?_ ?_
         rotate_left
         ·show Act.put _ (some 51) _ = _
          simp only [Act.put, List.setIfInBounds_toArray, List.set_cons_zero, List.set_cons_succ, i64_w, i32_w]
          rfl
         refine pure_ (i := 4) (N := some 52) (v := ?_) (a' := ?_) #[true, true, true, true, true, true, true, false, false] rfl rfl (any_of HT_.out (by kernel_rfl)) (fun _ _ _ h => h) (Or.inl ⟨by rfl, ?_⟩) ?_ ?_
         rotate_left
         ·intro w'
          go_simp
          with_reducible rfl
         rotate_left
         ·simp only [Act.put, List.setIfInBounds_toArray, List.set_cons_zero, List.set_cons_succ, i64_w, i32_w]
          rfl
         refine pure_ (i := 7) (N := some 55) (v := ?_) (a' := ?_) #[true, true, true, true, true, true, true, true, false] rfl rfl (any_of HT_.out (by kernel_rfl)) (fun _ _ _ h => h) (Or.inl ⟨by rfl, ?_⟩) ?_ ?_
         rotate_left
         ·intro w'
          go_simp
          with_reducible rfl
         rotate_left
         ·simp only [Act.put, List.setIfInBounds_toArray, List.set_cons_zero, List.set_cons_succ, i64_w, i32_w]
          rfl
         refine pure_ (i := 8) (N := some 4) (v := ?_) (a' := ?_) #[true, true, true, true, true, true, true, true, true] rfl rfl (any_of HT_.out (by kernel_rfl)) (fun _ _ _ h => h) (Or.inl ⟨by rfl, ?_⟩) ?_ ?_
         rotate_left
         ·intro w'
          go_simp
          with_reducible rfl
         rotate_left
         ·simp only [Act.put, List.setIfInBounds_toArray, List.set_cons_zero, List.set_cons_succ, i64_w, i32_w]
          rfl
         refine done_ (done_of HT_.out (by kernel_rfl)) ?_
         try go_wp2
         go_ret
         exact ⟨by first | rfl | (simp [errW_none, errW_some] <;> rfl) | (simp [*, errW_none, errW_some] <;> rfl), by repeat (first | (with_reducible first | exact HB.out | apply below_alloc | apply pw_below_drewN | apply below_drew1 | refine below_set ?_ GE270.out | refine below_set ?_ GE271.out) | exact HB.out)⟩
        ·rw [if_neg c29] at H
         have c29b0 : (a0_0 == 5) = false := beq_eq_false_iff_ne.mpr c29
         have c29b1 : (a0_0 != 5) = true := bne_iff_ne.mpr c29
         by_cases c35 : a0_0 = 6
         ·rw [if_pos c35] at H
          have c35b0 : (a0_0 == 6) = true := beq_iff_eq.mpr c35
          have c35b1 : (a0_0 != 6) = false := bne_eq_false_iff_eq.mpr c35
          clear c35
          replace H := Option.bind_eq_some_iff.mp H
          obtain ⟨⟨t278, t279, t280, t281⟩, A360, H⟩ := H
          replace H : (some (decide (t279 ≥ a0_3))) = some r := H
          have A36 := Aside0.mk A360
          clear A360
          obtain rfl := Option.some.inj H
          have hnb37 := NB270_271.out
          have hnc37 := NB271_270.out
          have hcz38_0 : wr.cell? ⟨gb270, 0, none⟩ = some (.int .i64 a0_0) := (blk_cell BK270.out 0).trans rfl
          have hcz38_1 : wr.cell? ⟨gb270, 1, none⟩ = some (.int .i64 a0_1) := (blk_cell BK270.out 1).trans rfl
          have hcz38_2 : wr.cell? ⟨gb270, 2, none⟩ = some (.string a0_2) := (blk_cell BK270.out 2).trans rfl
          have hcz38_3 : wr.cell? ⟨gb270, 3, none⟩ = some (.int .i64 a0_3) := (blk_cell BK270.out 3).trans rfl
          have hcz38_4 : wr.cell? ⟨gb270, 4, none⟩ = some (.int .i64 a0_4) := (blk_cell BK270.out 4).trans rfl
          have hcz38_5 : wr.cell? ⟨gb270, 5, none⟩ = some (.slice A0_5 l0_5.length c0_5) := (blk_cell BK270.out 5).trans rfl
          have hfz38_0 := blk_frozen BK270.out 0
          have hfz38_1 := blk_frozen BK270.out 1
          have hfz38_2 := blk_frozen BK270.out 2
          have hfz38_3 := blk_frozen BK270.out 3
          have hfz38_4 := blk_frozen BK270.out 4
          have hfz38_5 := blk_frozen BK270.out 5
          try go_wp2
          have n0_ := Aside0.mk (blk_drew BK270.out)
          have n1_ := Aside0.mk (blk_drew BK271.out)
          have n2_ := Aside0.mk (below_drew1 HB.out)
          clear BK270
          clear BK271
          clear HB
          have BK270 := n0_
          have BK271 := n1_
          have HB := n2_
          clear n0_ n1_ n2_
          refine start_ (n := 9) (S := fun w' => w'.cell? ⟨gb271, 0, none⟩ = some (.slice A1_0 l1_0.length c1_0) ∧ w'.cell? ⟨gb271, 1, none⟩ = some (.int .i64 a1_1) ∧ w'.cell? ⟨gb271, 2, none⟩ = some (.int .i64 a1_2) ∧ w'.cell? ⟨gb271, 3, none⟩ = some (.int .i64 a1_3) ∧ w'.cell? ⟨gb270, 0, none⟩ = some (.int .i64 a0_0) ∧ w'.cell? ⟨gb270, 1, none⟩ = some (.int .i64 a0_1) ∧ w'.cell? ⟨gb270, 2, none⟩ = some (.string a0_2) ∧ w'.cell? ⟨gb270, 3, none⟩ = some (.int .i64 a0_3) ∧ w'.cell? ⟨gb270, 4, none⟩ = some (.int .i64 a0_4) ∧ w'.cell? ⟨gb270, 5, none⟩ = some (.slice A0_5 l0_5.length c0_5)) (ds := []) #[false, false, false, false, false, false, false, false, false] (by kernel_rfl) rfl rfl ⟨(blk_cell BK271.out 0).trans rfl, (blk_cell BK271.out 1).trans rfl, (blk_cell BK271.out 2).trans rfl, (blk_cell BK271.out 3).trans rfl, (blk_cell BK270.out 0).trans rfl, (blk_cell BK270.out 1).trans rfl, (blk_cell BK270.out 2).trans rfl, (blk_cell BK270.out 3).trans rfl, (blk_cell BK270.out 4).trans rfl, (blk_cell BK270.out 5).trans rfl⟩ (fun hHeld => ?_); refine with_tabW sizarref12_Value.tab19 sizarref12_Value.bits19 (fun HT_ HW_ => ?_)
          generalize wr.drew = w39 at BK270 BK271 HB hHeld ⊢
          refine pure_ (i := 1) (N := some 59) (v := ?_) (a' := ?_) #[false, true, false, false, false, false, false, false, false] rfl rfl (any_of HT_.out (by kernel_rfl)) (fun _ _ _ h => h) (Or.inl ⟨by rfl, ?_⟩) ?_ ?_
          rotate_left
          ·intro w'
           go_simp
           with_reducible rfl
          rotate_left
          ·simp only [Act.put, List.setIfInBounds_toArray, List.set_cons_zero, List.set_cons_succ, i64_w, i32_w]
           rfl
          refine pure_ (i := 5) (N := some 63) (v := ?_) (a' := ?_) #[false, true, false, false, false, true, false, false, false] rfl rfl (any_of HT_.out (by kernel_rfl)) (fun _ _ _ h => h) (Or.inl ⟨by rfl, ?_⟩) ?_ ?_
          rotate_left
          ·intro w'
           go_simp
           with_reducible rfl
          rotate_left
          ·simp only [Act.put, List.setIfInBounds_toArray, List.set_cons_zero, List.set_cons_succ, i64_w, i32_w]
           rfl
          refine take_ (i := 0) (N := some 58) (v := ?_) (a' := ?_) #[true, true, false, false, false, true, false, false, false] rfl rfl (take_ofW HT_.out HW_.out (by kernel_rfl)) (fun _ _ _ h => h) (Or.inl ⟨by rfl, ?_⟩) hHeld ?_ ?_
          rotate_left
          ·rintro w' ⟨s0, s1, s2, s3, s4, s5, s6, s7, s8, s9⟩
           go_simp
           with_reducible rfl
          rotate_left
          ·simp only [Act.put, List.setIfInBounds_toArray, List.set_cons_zero, List.set_cons_succ, i64_w, i32_w]
           rfl
          refine take_ (i := 2) (N := some 60) (v := ?_) (a' := ?_) #[true, true, true, false, false, true, false, false, false] rfl rfl (take_ofW HT_.out HW_.out (by kernel_rfl)) (fun _ _ _ h => h) (Or.inl ⟨by rfl, ?_⟩) hHeld ?_ ?_
          rotate_left
          ·rintro w' ⟨s0, s1, s2, s3, s4, s5, s6, s7, s8, s9⟩
           go_simp
           with_reducible rfl
          rotate_left
          ·simp only [Act.put, List.setIfInBounds_toArray, List.set_cons_zero, List.set_cons_succ, i64_w, i32_w]
           rfl
          refine take_ (i := 6) (N := some 64) (v := ?_) (a' := ?_) #[true, true, true, false, false, true, true, false, false] rfl rfl (take_ofW HT_.out HW_.out (by kernel_rfl)) (fun _ _ _ h => h) (Or.inl ⟨by rfl, ?_⟩) hHeld ?_ ?_
          rotate_left
          ·rintro w' ⟨s0, s1, s2, s3, s4, s5, s6, s7, s8, s9⟩
           go_simp
           with_reducible rfl
          rotate_left
          ·simp only [Act.put, List.setIfInBounds_toArray, List.set_cons_zero, List.set_cons_succ, i64_w, i32_w]
           rfl
          refine one_ (i := 3) (N := some 61) #[true, true, true, true, false, true, true, false, false] rfl rfl (one_of HT_.out (by kernel_rfl)) (by decide) (fun K hK => ?_)
          refine goes_ Tryd.func47 (by kernel_rfl) rfl #[.agg #[.slice A1_0 l1_0.length c1_0, .int .i64 a1_1, .int .i64 a1_2, .int .i64 a1_3], .int .i64 a0_1] (by rfl) rfl rfl (by (try simp only [List.map_toArray, List.map_cons, List.map_nil]); first | done | rfl | (simp only [List.length_drop, List.length_take]; rfl)) ?_
          with_reducible refine (sizarref12_About.calls k1 _ _ l1_0 a1_1 a1_2 a1_3 a0_1 t278 t279 t280 t281 _ ?side1 ?side2 A36.out).mono ?_
          (case side1 => repeat (first | exact (Kd.C_below HR1_0.out HB.out) | (with_reducible refine Kd.C_alloc ?_ _) | (with_reducible refine Kd.C_drewN ?_ _) | (with_reducible refine Kd.C_drew ?_)))
          (case side2 => exact HC1_0.out)
          rintro e w40 ⟨rfl, hb⟩
          refine ⟨_, rfl, ?_⟩
          have n0_ := Aside0.mk (blk_below (g := gb270) (o := .cells #[.int .i64 a0_0, .int .i64 a0_1, .string a0_2, .int .i64 a0_3, .int .i64 a0_4, .slice A0_5 l0_5.length c0_5] 24 (0, 0)) (by (with_reducible repeat (first | refine blk_drewN ?_ _ | refine blk_drew ?_ | refine blk_alloc ?_ _)); exact BK270.out) hb)
          have n1_ := Aside0.mk (blk_below (g := gb271) (o := .cells #[.slice A1_0 l1_0.length c1_0, .int .i64 a1_1, .int .i64 a1_2, .int .i64 a1_3] 29 (0, 0)) (by (with_reducible repeat (first | refine blk_drewN ?_ _ | refine blk_drew ?_ | refine blk_alloc ?_ _)); exact BK271.out) hb)
          have n2_ := Aside0.mk (below_step (by repeat (first | (with_reducible first | exact HB.out | apply below_alloc | apply pw_below_drewN | apply below_drew1 | refine below_set ?_ GE270.out | refine below_set ?_ GE271.out) | exact HB.out)) hb)
          clear BK270
          clear BK271
          clear HB
          have BK270 := n0_
          have BK271 := n1_
          have HB := n2_
          clear n0_ n1_ n2_
          (try clear hb)
          (try clear hb2)
          (try clear hk)
          (try clear hi)
          refine hK.out _ _ ⟨(blk_cell BK271.out 0).trans rfl, (blk_cell BK271.out 1).trans rfl, (blk_cell BK271.out 2).trans rfl, (blk_cell BK271.out 3).trans rfl, (blk_cell BK270.out 0).trans rfl, (blk_cell BK270.out 1).trans rfl, (blk_cell BK270.out 2).trans rfl, (blk_cell BK270.out 3).trans rfl, (blk_cell BK270.out 4).trans rfl, (blk_cell BK270.out 5).trans rfl⟩ (fun hHeld => ?_)
          clear hK K
          refine norm_ (a' := ?_) ?_ ?_
          rotate_left
          ·show Act.put _ (some 61) _ = _
           simp only [Act.put, List.setIfInBounds_toArray, List.set_cons_zero, List.set_cons_succ, i64_w, i32_w]
           rfl
          refine pure_ (i := 4) (N := some 62) (v := ?_) (a' := ?_) #[true, true, true, true, true, true, true, false, false] rfl rfl (any_of HT_.out (by kernel_rfl)) (fun _ _ _ h => h) (Or.inl ⟨by rfl, ?_⟩) ?_ ?_
          rotate_left
          ·intro w'
           go_simp
           with_reducible rfl
          rotate_left
          ·simp only [Act.put, List.setIfInBounds_toArray, List.set_cons_zero, List.set_cons_succ, i64_w, i32_w]
           rfl
          refine pure_ (i := 7) (N := some 65) (v := ?_) (a' := ?_) #[true, true, true, true, true, true, true, true, false] rfl rfl (any_of HT_.out (by kernel_rfl)) (fun _ _ _ h => h) (Or.inl ⟨by rfl, ?_⟩) ?_ ?_
          rotate_left
          ·intro w'
           go_simp
           with_reducible rfl
          rotate_left
          ·simp only [Act.put, List.setIfInBounds_toArray, List.set_cons_zero, List.set_cons_succ, i64_w, i32_w]
           rfl
          refine pure_ (i := 8) (N := some 4) (v := ?_) (a' := ?_) #[true, true, true, true, true, true, true, true, true] rfl rfl (any_of HT_.out (by kernel_rfl)) (fun _ _ _ h => h) (Or.inl ⟨by rfl, ?_⟩) ?_ ?_
          rotate_left
          ·intro w'
           go_simp
           with_reducible rfl
          rotate_left
          ·simp only [Act.put, List.setIfInBounds_toArray, List.set_cons_zero, List.set_cons_succ, i64_w, i32_w]
           rfl
          refine done_ (done_of HT_.out (by kernel_rfl)) ?_
          try go_wp2
          go_ret
          exact ⟨by first | rfl | (simp [errW_none, errW_some] <;> rfl) | (simp [*, errW_none, errW_some] <;> rfl), by repeat (first | (with_reducible first | exact HB.out | apply below_alloc | apply pw_below_drewN | apply below_drew1 | refine below_set ?_ GE270.out | refine below_set ?_ GE271.out) | exact HB.out)⟩
         ·rw [if_neg c35] at H
          have c35b0 : (a0_0 == 6) = false := beq_eq_false_iff_ne.mpr c35
          have c35b1 : (a0_0 != 6) = true := bne_iff_ne.mpr c35
          by_cases c41 : a0_0 = 7
          ·rw [if_pos c41] at H
           have c41b0 : (a0_0 == 7) = true := beq_iff_eq.mpr c41
           have c41b1 : (a0_0 != 7) = false := bne_eq_false_iff_eq.mpr c41
           clear c41
           obtain rfl := Option.some.inj H
           have hnb42 := NB270_271.out
           have hnc42 := NB271_270.out
           have hcz43_0 : wr.cell? ⟨gb270, 0, none⟩ = some (.int .i64 a0_0) := (blk_cell BK270.out 0).trans rfl
           have hcz43_1 : wr.cell? ⟨gb270, 1, none⟩ = some (.int .i64 a0_1) := (blk_cell BK270.out 1).trans rfl
           have hcz43_2 : wr.cell? ⟨gb270, 2, none⟩ = some (.string a0_2) := (blk_cell BK270.out 2).trans rfl
           have hcz43_3 : wr.cell? ⟨gb270, 3, none⟩ = some (.int .i64 a0_3) := (blk_cell BK270.out 3).trans rfl
           have hcz43_4 : wr.cell? ⟨gb270, 4, none⟩ = some (.int .i64 a0_4) := (blk_cell BK270.out 4).trans rfl
           have hcz43_5 : wr.cell? ⟨gb270, 5, none⟩ = some (.slice A0_5 l0_5.length c0_5) := (blk_cell BK270.out 5).trans rfl
           have hfz43_0 := blk_frozen BK270.out 0
           have hfz43_1 := blk_frozen BK270.out 1
           have hfz43_2 := blk_frozen BK270.out 2
           have hfz43_3 := blk_frozen BK270.out 3
           have hfz43_4 := blk_frozen BK270.out 4
           have hfz43_5 := blk_frozen BK270.out 5
           have hcz44_0 : wr.cell? ⟨gb271, 0, none⟩ = some (.slice A1_0 l1_0.length c1_0) := (blk_cell BK271.out 0).trans rfl
           have hcz44_1 : wr.cell? ⟨gb271, 1, none⟩ = some (.int .i64 a1_1) := (blk_cell BK271.out 1).trans rfl
           have hcz44_2 : wr.cell? ⟨gb271, 2, none⟩ = some (.int .i64 a1_2) := (blk_cell BK271.out 2).trans rfl
           have hcz44_3 : wr.cell? ⟨gb271, 3, none⟩ = some (.int .i64 a1_3) := (blk_cell BK271.out 3).trans rfl
           have hfz44_0 := blk_frozen BK271.out 0
           have hfz44_1 := blk_frozen BK271.out 1
           have hfz44_2 := blk_frozen BK271.out 2
           have hfz44_3 := blk_frozen BK271.out 3
           go_wp2
           go_ret
           exact ⟨by first | rfl | (simp [errW_none, errW_some] <;> rfl) | (simp [*, errW_none, errW_some] <;> rfl), by repeat (first | (with_reducible first | exact HB.out | apply below_alloc | apply pw_below_drewN | apply below_drew1 | refine below_set ?_ GE270.out | refine below_set ?_ GE271.out) | exact HB.out)⟩
          ·rw [if_neg c41] at H
           have c41b0 : (a0_0 == 7) = false := beq_eq_false_iff_ne.mpr c41
           have c41b1 : (a0_0 != 7) = true := bne_iff_ne.mpr c41
           by_cases c45 : a0_0 = 8
           ·rw [if_pos c45] at H
            have c45b0 : (a0_0 == 8) = true := beq_iff_eq.mpr c45
            have c45b1 : (a0_0 != 8) = false := bne_eq_false_iff_eq.mpr c45
            clear c45
            obtain rfl := Option.some.inj H
            have hnb46 := NB270_271.out
            have hnc46 := NB271_270.out
            have hcz47_0 : wr.cell? ⟨gb270, 0, none⟩ = some (.int .i64 a0_0) := (blk_cell BK270.out 0).trans rfl
            have hcz47_1 : wr.cell? ⟨gb270, 1, none⟩ = some (.int .i64 a0_1) := (blk_cell BK270.out 1).trans rfl
            have hcz47_2 : wr.cell? ⟨gb270, 2, none⟩ = some (.string a0_2) := (blk_cell BK270.out 2).trans rfl
            have hcz47_3 : wr.cell? ⟨gb270, 3, none⟩ = some (.int .i64 a0_3) := (blk_cell BK270.out 3).trans rfl
            have hcz47_4 : wr.cell? ⟨gb270, 4, none⟩ = some (.int .i64 a0_4) := (blk_cell BK270.out 4).trans rfl
            have hcz47_5 : wr.cell? ⟨gb270, 5, none⟩ = some (.slice A0_5 l0_5.length c0_5) := (blk_cell BK270.out 5).trans rfl
            have hfz47_0 := blk_frozen BK270.out 0
            have hfz47_1 := blk_frozen BK270.out 1
            have hfz47_2 := blk_frozen BK270.out 2
            have hfz47_3 := blk_frozen BK270.out 3
            have hfz47_4 := blk_frozen BK270.out 4
            have hfz47_5 := blk_frozen BK270.out 5
            have hcz48_0 : wr.cell? ⟨gb271, 0, none⟩ = some (.slice A1_0 l1_0.length c1_0) := (blk_cell BK271.out 0).trans rfl
            have hcz48_1 : wr.cell? ⟨gb271, 1, none⟩ = some (.int .i64 a1_1) := (blk_cell BK271.out 1).trans rfl
            have hcz48_2 : wr.cell? ⟨gb271, 2, none⟩ = some (.int .i64 a1_2) := (blk_cell BK271.out 2).trans rfl
            have hcz48_3 : wr.cell? ⟨gb271, 3, none⟩ = some (.int .i64 a1_3) := (blk_cell BK271.out 3).trans rfl
            have hfz48_0 := blk_frozen BK271.out 0
            have hfz48_1 := blk_frozen BK271.out 1
            have hfz48_2 := blk_frozen BK271.out 2
            have hfz48_3 := blk_frozen BK271.out 3
            go_wp2
            go_ret
            exact ⟨by first | rfl | (simp [errW_none, errW_some] <;> rfl) | (simp [*, errW_none, errW_some] <;> rfl), by repeat (first | (with_reducible first | exact HB.out | apply below_alloc | apply pw_below_drewN | apply below_drew1 | refine below_set ?_ GE270.out | refine below_set ?_ GE271.out) | exact HB.out)⟩
           ·rw [if_neg c45] at H
            have c45b0 : (a0_0 == 8) = false := beq_eq_false_iff_ne.mpr c45
            have c45b1 : (a0_0 != 8) = true := bne_iff_ne.mpr c45
            replace H := Option.bind_eq_some_iff.mp H
            obtain ⟨⟨t282, t283, t284, t285⟩, A490, H⟩ := H
            replace H : (some t285) = some r := H
            have A49 := Aside0.mk A490
            clear A490
            obtain rfl := Option.some.inj H
            have hnb50 := NB270_271.out
            have hnc50 := NB271_270.out
            have hcz51_0 : wr.cell? ⟨gb270, 0, none⟩ = some (.int .i64 a0_0) := (blk_cell BK270.out 0).trans rfl
            have hcz51_1 : wr.cell? ⟨gb270, 1, none⟩ = some (.int .i64 a0_1) := (blk_cell BK270.out 1).trans rfl
            have hcz51_2 : wr.cell? ⟨gb270, 2, none⟩ = some (.string a0_2) := (blk_cell BK270.out 2).trans rfl
            have hcz51_3 : wr.cell? ⟨gb270, 3, none⟩ = some (.int .i64 a0_3) := (blk_cell BK270.out 3).trans rfl
            have hcz51_4 : wr.cell? ⟨gb270, 4, none⟩ = some (.int .i64 a0_4) := (blk_cell BK270.out 4).trans rfl
            have hcz51_5 : wr.cell? ⟨gb270, 5, none⟩ = some (.slice A0_5 l0_5.length c0_5) := (blk_cell BK270.out 5).trans rfl
            have hfz51_0 := blk_frozen BK270.out 0
            have hfz51_1 := blk_frozen BK270.out 1
            have hfz51_2 := blk_frozen BK270.out 2
            have hfz51_3 := blk_frozen BK270.out 3
            have hfz51_4 := blk_frozen BK270.out 4
            have hfz51_5 := blk_frozen BK270.out 5
            have hcz52_0 : wr.cell? ⟨gb271, 0, none⟩ = some (.slice A1_0 l1_0.length c1_0) := (blk_cell BK271.out 0).trans rfl
            have hcz52_1 : wr.cell? ⟨gb271, 1, none⟩ = some (.int .i64 a1_1) := (blk_cell BK271.out 1).trans rfl
            have hcz52_2 : wr.cell? ⟨gb271, 2, none⟩ = some (.int .i64 a1_2) := (blk_cell BK271.out 2).trans rfl
            have hcz52_3 : wr.cell? ⟨gb271, 3, none⟩ = some (.int .i64 a1_3) := (blk_cell BK271.out 3).trans rfl
            have hfz52_0 := blk_frozen BK271.out 0
            have hfz52_1 := blk_frozen BK271.out 1
            have hfz52_2 := blk_frozen BK271.out 2
            have hfz52_3 := blk_frozen BK271.out 3
            go_wp2_with (first | ((with_reducible refine gate_callee (f := 47) rfl ?_); refine goesL_ (some 91) rfl rfl Tryd.func47 (by kernel_rfl) rfl #[.agg #[.slice A1_0 l1_0.length c1_0, .int .i64 a1_1, .int .i64 a1_2, .int .i64 a1_3], .int .i64 a0_1] rfl (by (try simp only [List.map_toArray, List.map_cons, List.map_nil]); first | done | rfl | (simp only [List.length_drop, List.length_take]; rfl)) ?_; (with_reducible refine (sizarref12_About.calls k1 _ _ l1_0 a1_1 a1_2 a1_3 a0_1 t282 t283 t284 t285 _ ?side1 ?side2 A49.out).mono ?_); (case side1 => repeat (first | exact (Kd.C_below HR1_0.out HB.out) | (with_reducible refine Kd.C_alloc ?_ _) | (with_reducible refine Kd.C_drewN ?_ _) | (with_reducible refine Kd.C_drew ?_))); (case side2 => exact HC1_0.out); rintro e w53 ⟨rfl, hb⟩; refine ⟨_, rfl, ?_⟩; have n0_ := Aside0.mk (blk_below (g := gb270) (o := .cells #[.int .i64 a0_0, .int .i64 a0_1, .string a0_2, .int .i64 a0_3, .int .i64 a0_4, .slice A0_5 l0_5.length c0_5] 24 (0, 0)) (by (with_reducible repeat (first | refine blk_drewN ?_ _ | refine blk_drew ?_ | refine blk_alloc ?_ _)); exact BK270.out) hb); have n1_ := Aside0.mk (blk_below (g := gb271) (o := .cells #[.slice A1_0 l1_0.length c1_0, .int .i64 a1_1, .int .i64 a1_2, .int .i64 a1_3] 29 (0, 0)) (by (with_reducible repeat (first | refine blk_drewN ?_ _ | refine blk_drew ?_ | refine blk_alloc ?_ _)); exact BK271.out) hb); have n2_ := Aside0.mk (below_step (by repeat (first | (with_reducible first | exact HB.out | apply below_alloc | apply pw_below_drewN | apply below_drew1 | refine below_set ?_ GE270.out | refine below_set ?_ GE271.out) | exact HB.out)) hb); clear BK270; clear BK271; clear HB; have BK270 := n0_; have BK271 := n1_; have HB := n2_; clear n0_ n1_ n2_; (try clear hb); (try clear hb2); (try clear hk); (try clear hi)))
            go_ret
            exact ⟨by first | rfl | (simp [errW_none, errW_some] <;> rfl) | (simp [*, errW_none, errW_some] <;> rfl), by repeat (first | (with_reducible first | exact HB.out | apply below_alloc | apply pw_below_drewN | apply below_drew1 | refine below_set ?_ GE270.out | refine below_set ?_ GE271.out) | exact HB.out)⟩
end Go.Proofs.YtabocfninjankaaDoor.P
namespace Go.Proofs.YtabocfninjankaaDoor.P
open Go.RowKit Go.Proofs.YtabocfninjankaaDoorW.PrintWords Go.Proofs.YtabocfninjankaaDoorW.PrintLast Go.Proofs.YtabocfninjankaaDoorW.PrintMore
set_option linter.unusedVariables false
set_option linter.unusedSimpArgs false
def RB (q : Bool) (w : World) (e : Ending) (w' : World) : Prop := e = .returned (.bool q) ∧ Below w.heap.size w w'
theorem RB.mk {q q' : Bool} {w w' : World} (hq : q = q') (hb : Below w.heap.size w w') : RB q' w (.returned (.bool q)) w' := ⟨by rw [hq], hb⟩
theorem course_yes (b : Int) (w : World) (h : 0 ≤ b ∧ b ≤ 4095) : Calls Tryd.prog 49 #[.int .i64 b] w fun e w' => e = .returned (.bool true) ∧ Drawn0 w w' := sizarref12_course.calls b true w (by unfold sizarref12_course.f; rw [if_pos h.1]; simp; omega)
theorem course_no (b : Int) (w : World) (h : ¬ (0 ≤ b ∧ b ≤ 4095)) : Calls Tryd.prog 49 #[.int .i64 b] w fun e w' => e = .returned (.bool false) ∧ Drawn0 w w' := sizarref12_course.calls b false w (by unfold sizarref12_course.f; split <;> simp; omega)
/-- What is asked of a part's own fields, its mean being told. -/
def fitsT (o c n d : Int) (len : Nat) (m : Bool) : Bool :=
  if o = 1 then c == 0 && n == 0 && d == 0 else if o = 2 then c == 0 && n == 0 && d == 0 else if o = 3 then c == 0 && d == 0 && decide (0 ≤ n) && decide (n ≤ 200)
  else if o = 4 then c == 0 && n == 0 && d == 0 && len == 1 else if o = 5 then d == 0 && len == 0 && decide (0 ≤ c) && decide (c ≤ 4095) && decide (0 ≤ n) && decide (n ≤ 12)
  else if o = 6 then d == 0 && len == 0 && decide (0 ≤ c) && decide (c ≤ 4095) && decide (1 ≤ n) && decide (n ≤ 100) else if o = 7 then c == 0 && d == 0 && len == 0 && decide (0 ≤ n) && decide (n ≤ 10000)
  else if o = 8 then c == 0 && len == 0 && m else if o = 9 then n == 0 && d == 0 && len == 0 && decide (0 ≤ c) && decide (c ≤ 4095) else false
def MeanTells (n d : Int) (m : Bool) : Prop := ∃ k, sizarref12_mean.f k n d = some m
theorem mean_calls {n d : Int} {m : Bool} (h : MeanTells n d m) (w : World) : Calls Tryd.prog 50 #[.agg #[.int .i64 n, .int .i64 d]] w fun e w' => e = .returned (.bool m) ∧ Below w.heap.size w w' := by
  obtain ⟨k, hk⟩ := h
  exact sizarref12_mean.calls k n d m w hk
set_option maxRecDepth 100000 in
set_option maxHeartbeats 4000000 in
theorem rformed_1 (b : Int) (s : ByteArray) (n d : Int) (A : Option Addr) (c len : Nat) (w : World) (m : Bool) (hm : len ≤ 9223372036854775807) (hM : MeanTells n d m) :
    Calls Tryd.prog 62 #[.agg #[.int .i64 1, .int .i64 b, .string s, .int .i64 n, .int .i64 d, .slice A len c]] w (RB (fitsT 1 b n d len m) w) := by
  have hu24 := Tryd.underlying24
  have hu27 := Tryd.underlying27
  have HM := Aside0.mk hM
  clear hM
  clear HM
  go_enter Tryd.func62, Tryd.ntmps62
  go_wp2_with (first | (go_at_call 41; refine (sizarref12_Atom.calls 1 false _ (by rfl)).mono ?_; rintro e w' ⟨rfl, nw, rfl⟩))
  all_goals
    go_ret
    refine RB.mk ?_ (by repeat (first | (with_reducible first | exact Below.refl _ _ | apply below_alloc | apply pw_below_drewN | apply below_drew1) | exact Below.refl _ _))
    simp [fitsT, *] <;> first | omega | (rw [Bool.eq_iff_iff]; simp; omega) | (simp_all; done) | (simp_all; omega)
set_option maxRecDepth 100000 in
set_option maxHeartbeats 4000000 in
theorem rformed_2 (b : Int) (s : ByteArray) (n d : Int) (A : Option Addr) (c len : Nat) (w : World) (m : Bool) (hm : len ≤ 9223372036854775807) (hM : MeanTells n d m) :
    Calls Tryd.prog 62 #[.agg #[.int .i64 2, .int .i64 b, .string s, .int .i64 n, .int .i64 d, .slice A len c]] w (RB (fitsT 2 b n d len m) w) := by
  have hu24 := Tryd.underlying24
  have hu27 := Tryd.underlying27
  have HM := Aside0.mk hM
  clear hM
  clear HM
  go_enter Tryd.func62, Tryd.ntmps62
  go_wp2_with (first | (go_at_call 41; refine (sizarref12_Atom.calls 2 false _ (by rfl)).mono ?_; rintro e w' ⟨rfl, nw, rfl⟩))
  all_goals
    go_ret
    refine RB.mk ?_ (by repeat (first | (with_reducible first | exact Below.refl _ _ | apply below_alloc | apply pw_below_drewN | apply below_drew1) | exact Below.refl _ _))
    simp [fitsT, *] <;> first | omega | (rw [Bool.eq_iff_iff]; simp; omega) | (simp_all; done) | (simp_all; omega)
set_option maxRecDepth 100000 in
set_option maxHeartbeats 4000000 in
theorem rformed_3 (b : Int) (s : ByteArray) (n d : Int) (A : Option Addr) (c len : Nat) (w : World) (m : Bool) (hm : len ≤ 9223372036854775807) (hM : MeanTells n d m) :
    Calls Tryd.prog 62 #[.agg #[.int .i64 3, .int .i64 b, .string s, .int .i64 n, .int .i64 d, .slice A len c]] w (RB (fitsT 3 b n d len m) w) := by
  have hu24 := Tryd.underlying24
  have hu27 := Tryd.underlying27
  have HM := Aside0.mk hM
  clear hM
  clear HM
  go_enter Tryd.func62, Tryd.ntmps62
  go_wp2_with (first | (go_at_call 41; refine (sizarref12_Atom.calls 3 false _ (by rfl)).mono ?_; rintro e w' ⟨rfl, nw, rfl⟩))
  all_goals
    go_ret
    refine RB.mk ?_ (by repeat (first | (with_reducible first | exact Below.refl _ _ | apply below_alloc | apply pw_below_drewN | apply below_drew1) | exact Below.refl _ _))
    simp [fitsT, *] <;> first | omega | (rw [Bool.eq_iff_iff]; simp; omega) | (simp_all; done) | (simp_all; omega)
set_option maxRecDepth 100000 in
set_option maxHeartbeats 4000000 in
theorem rformed_4 (b : Int) (s : ByteArray) (n d : Int) (A : Option Addr) (c len : Nat) (w : World) (m : Bool) (hm : len ≤ 9223372036854775807) (hM : MeanTells n d m) :
    Calls Tryd.prog 62 #[.agg #[.int .i64 4, .int .i64 b, .string s, .int .i64 n, .int .i64 d, .slice A len c]] w (RB (fitsT 4 b n d len m) w) := by
  have hu24 := Tryd.underlying24
  have hu27 := Tryd.underlying27
  have HM := Aside0.mk hM
  clear hM
  clear HM
  go_enter Tryd.func62, Tryd.ntmps62
  go_wp2_with (first | (go_at_call 41; refine (sizarref12_Atom.calls 4 false _ (by rfl)).mono ?_; rintro e w' ⟨rfl, nw, rfl⟩))
  all_goals
    go_ret
    refine RB.mk ?_ (by repeat (first | (with_reducible first | exact Below.refl _ _ | apply below_alloc | apply pw_below_drewN | apply below_drew1) | exact Below.refl _ _))
    simp [fitsT, *] <;> first | omega | (rw [Bool.eq_iff_iff]; simp; omega) | (simp_all; done) | (simp_all; omega)
set_option maxRecDepth 100000 in
set_option maxHeartbeats 4000000 in
theorem rformed_7 (b : Int) (s : ByteArray) (n d : Int) (A : Option Addr) (c len : Nat) (w : World) (m : Bool) (hm : len ≤ 9223372036854775807) (hM : MeanTells n d m) :
    Calls Tryd.prog 62 #[.agg #[.int .i64 7, .int .i64 b, .string s, .int .i64 n, .int .i64 d, .slice A len c]] w (RB (fitsT 7 b n d len m) w) := by
  have hu24 := Tryd.underlying24
  have hu27 := Tryd.underlying27
  have HM := Aside0.mk hM
  clear hM
  clear HM
  go_enter Tryd.func62, Tryd.ntmps62
  go_wp2_with (first | (go_at_call 41; refine (sizarref12_Atom.calls 7 true _ (by rfl)).mono ?_; rintro e w' ⟨rfl, nw, rfl⟩))
  all_goals
    go_ret
    refine RB.mk ?_ (by repeat (first | (with_reducible first | exact Below.refl _ _ | apply below_alloc | apply pw_below_drewN | apply below_drew1) | exact Below.refl _ _))
    simp [fitsT, *] <;> first | omega | (rw [Bool.eq_iff_iff]; simp; omega) | (simp_all; done) | (simp_all; omega)
set_option maxRecDepth 100000 in
set_option maxHeartbeats 4000000 in
theorem rformed_5 (b : Int) (s : ByteArray) (n d : Int) (A : Option Addr) (c len : Nat) (w : World) (m : Bool) (hm : len ≤ 9223372036854775807) (hM : MeanTells n d m) :
    Calls Tryd.prog 62 #[.agg #[.int .i64 5, .int .i64 b, .string s, .int .i64 n, .int .i64 d, .slice A len c]] w (RB (fitsT 5 b n d len m) w) := by
  have hu24 := Tryd.underlying24
  have hu27 := Tryd.underlying27
  have HM := Aside0.mk hM
  clear hM
  clear HM
  by_cases hb : 0 ≤ b ∧ b ≤ 4095
  · have HBb := Aside0.mk hb
    clear hb
    go_enter Tryd.func62, Tryd.ntmps62
    go_wp2_with (first | (go_at_call 41; refine (sizarref12_Atom.calls 5 true _ (by rfl)).mono ?_; rintro e w' ⟨rfl, nw, rfl⟩) | (go_at_call 49; refine (course_yes _ _ HBb.out).mono ?_; rintro e w' ⟨rfl, nw2, rfl⟩))
    all_goals
      go_ret
      refine RB.mk ?_ (by repeat (first | (with_reducible first | exact Below.refl _ _ | apply below_alloc | apply pw_below_drewN | apply below_drew1) | exact Below.refl _ _))
      simp [fitsT, HBb.out.1, HBb.out.2, *] <;> first | omega | (rw [Bool.eq_iff_iff]; simp; omega) | (simp_all; done) | (simp_all; omega)
  · have HBb := Aside0.mk hb
    have HBf := Aside0.mk (show (decide (0 ≤ b) && decide (b ≤ 4095)) = false by rw [Bool.eq_false_iff]; simpa using hb)
    clear hb
    go_enter Tryd.func62, Tryd.ntmps62
    go_wp2_with (first | (go_at_call 41; refine (sizarref12_Atom.calls 5 true _ (by rfl)).mono ?_; rintro e w' ⟨rfl, nw, rfl⟩) | (go_at_call 49; refine (course_no _ _ HBb.out).mono ?_; rintro e w' ⟨rfl, nw2, rfl⟩))
    all_goals
      go_ret
      refine RB.mk ?_ (by repeat (first | (with_reducible first | exact Below.refl _ _ | apply below_alloc | apply pw_below_drewN | apply below_drew1) | exact Below.refl _ _))
      have hf := HBf.out
      simp [fitsT, *] <;> first | omega | (rw [Bool.eq_iff_iff]; simp; omega) | (simp_all; done) | (simp_all; omega)
set_option maxRecDepth 100000 in
set_option maxHeartbeats 4000000 in
theorem rformed_6 (b : Int) (s : ByteArray) (n d : Int) (A : Option Addr) (c len : Nat) (w : World) (m : Bool) (hm : len ≤ 9223372036854775807) (hM : MeanTells n d m) :
    Calls Tryd.prog 62 #[.agg #[.int .i64 6, .int .i64 b, .string s, .int .i64 n, .int .i64 d, .slice A len c]] w (RB (fitsT 6 b n d len m) w) := by
  have hu24 := Tryd.underlying24
  have hu27 := Tryd.underlying27
  have HM := Aside0.mk hM
  clear hM
  clear HM
  by_cases hb : 0 ≤ b ∧ b ≤ 4095
  · have HBb := Aside0.mk hb
    clear hb
    go_enter Tryd.func62, Tryd.ntmps62
    go_wp2_with (first | (go_at_call 41; refine (sizarref12_Atom.calls 6 true _ (by rfl)).mono ?_; rintro e w' ⟨rfl, nw, rfl⟩) | (go_at_call 49; refine (course_yes _ _ HBb.out).mono ?_; rintro e w' ⟨rfl, nw2, rfl⟩))
    all_goals
      go_ret
      refine RB.mk ?_ (by repeat (first | (with_reducible first | exact Below.refl _ _ | apply below_alloc | apply pw_below_drewN | apply below_drew1) | exact Below.refl _ _))
      simp [fitsT, HBb.out.1, HBb.out.2, *] <;> first | omega | (rw [Bool.eq_iff_iff]; simp; omega) | (simp_all; done) | (simp_all; omega)
  · have HBb := Aside0.mk hb
    have HBf := Aside0.mk (show (decide (0 ≤ b) && decide (b ≤ 4095)) = false by rw [Bool.eq_false_iff]; simpa using hb)
    clear hb
    go_enter Tryd.func62, Tryd.ntmps62
    go_wp2_with (first | (go_at_call 41; refine (sizarref12_Atom.calls 6 true _ (by rfl)).mono ?_; rintro e w' ⟨rfl, nw, rfl⟩) | (go_at_call 49; refine (course_no _ _ HBb.out).mono ?_; rintro e w' ⟨rfl, nw2, rfl⟩))
    all_goals
      go_ret
      refine RB.mk ?_ (by repeat (first | (with_reducible first | exact Below.refl _ _ | apply below_alloc | apply pw_below_drewN | apply below_drew1) | exact Below.refl _ _))
      have hf := HBf.out
      simp [fitsT, *] <;> first | omega | (rw [Bool.eq_iff_iff]; simp; omega) | (simp_all; done) | (simp_all; omega)
set_option maxRecDepth 100000 in
set_option maxHeartbeats 4000000 in
theorem rformed_9 (b : Int) (s : ByteArray) (n d : Int) (A : Option Addr) (c len : Nat) (w : World) (m : Bool) (hm : len ≤ 9223372036854775807) (hM : MeanTells n d m) :
    Calls Tryd.prog 62 #[.agg #[.int .i64 9, .int .i64 b, .string s, .int .i64 n, .int .i64 d, .slice A len c]] w (RB (fitsT 9 b n d len m) w) := by
  have hu24 := Tryd.underlying24
  have hu27 := Tryd.underlying27
  have HM := Aside0.mk hM
  clear hM
  clear HM
  by_cases hb : 0 ≤ b ∧ b ≤ 4095
  · have HBb := Aside0.mk hb
    clear hb
    go_enter Tryd.func62, Tryd.ntmps62
    go_wp2_with (first | (go_at_call 41; refine (sizarref12_Atom.calls 9 true _ (by rfl)).mono ?_; rintro e w' ⟨rfl, nw, rfl⟩) | (go_at_call 49; refine (course_yes _ _ HBb.out).mono ?_; rintro e w' ⟨rfl, nw2, rfl⟩))
    all_goals
      go_ret
      refine RB.mk ?_ (by repeat (first | (with_reducible first | exact Below.refl _ _ | apply below_alloc | apply pw_below_drewN | apply below_drew1) | exact Below.refl _ _))
      simp [fitsT, HBb.out.1, HBb.out.2, *] <;> first | omega | (rw [Bool.eq_iff_iff]; simp; omega) | (simp_all; done) | (simp_all; omega)
  · have HBb := Aside0.mk hb
    have HBf := Aside0.mk (show (decide (0 ≤ b) && decide (b ≤ 4095)) = false by rw [Bool.eq_false_iff]; simpa using hb)
    clear hb
    go_enter Tryd.func62, Tryd.ntmps62
    go_wp2_with (first | (go_at_call 41; refine (sizarref12_Atom.calls 9 true _ (by rfl)).mono ?_; rintro e w' ⟨rfl, nw, rfl⟩) | (go_at_call 49; refine (course_no _ _ HBb.out).mono ?_; rintro e w' ⟨rfl, nw2, rfl⟩))
    all_goals
      go_ret
      refine RB.mk ?_ (by repeat (first | (with_reducible first | exact Below.refl _ _ | apply below_alloc | apply pw_below_drewN | apply below_drew1) | exact Below.refl _ _))
      have hf := HBf.out
      simp [fitsT, *] <;> first | omega | (rw [Bool.eq_iff_iff]; simp; omega) | (simp_all; done) | (simp_all; omega)
set_option maxRecDepth 100000 in
set_option maxHeartbeats 4000000 in
theorem rformed_8 (b : Int) (s : ByteArray) (n d : Int) (A : Option Addr) (c len : Nat) (w : World) (m : Bool) (hm : len ≤ 9223372036854775807) (hM : MeanTells n d m) :
    Calls Tryd.prog 62 #[.agg #[.int .i64 8, .int .i64 b, .string s, .int .i64 n, .int .i64 d, .slice A len c]] w (RB (fitsT 8 b n d len m) w) := by
  have hu24 := Tryd.underlying24
  have hu27 := Tryd.underlying27
  have HM := Aside0.mk hM
  clear hM
  cases m with
  | true =>
    go_enter Tryd.func62, Tryd.ntmps62
    go_wp2_with (first | (go_at_call 41; refine (sizarref12_Atom.calls 8 true _ (by rfl)).mono ?_; rintro e w' ⟨rfl, nw, rfl⟩) | (go_at_call 50; refine (mean_calls HM.out _).mono ?_; rintro e w' ⟨rfl, hb⟩))
    all_goals
      go_ret
      refine RB.mk ?_ ?_
      rotate_left
      · first | exact below_step (by repeat (first | (with_reducible first | exact Below.refl _ _ | apply below_alloc | apply pw_below_drewN | apply below_drew1) | exact Below.refl _ _)) hb | exact (by repeat (first | (with_reducible first | exact Below.refl _ _ | apply below_alloc | apply pw_below_drewN | apply below_drew1) | exact Below.refl _ _))
      · simp [fitsT, *] <;> first | omega | (rw [Bool.eq_iff_iff]; simp; omega) | (simp_all; done) | (simp_all; omega)
  | false =>
    go_enter Tryd.func62, Tryd.ntmps62
    go_wp2_with (first | (go_at_call 41; refine (sizarref12_Atom.calls 8 true _ (by rfl)).mono ?_; rintro e w' ⟨rfl, nw, rfl⟩) | (go_at_call 50; refine (mean_calls HM.out _).mono ?_; rintro e w' ⟨rfl, hb⟩))
    all_goals
      go_ret
      refine RB.mk ?_ ?_
      rotate_left
      · first | exact below_step (by repeat (first | (with_reducible first | exact Below.refl _ _ | apply below_alloc | apply pw_below_drewN | apply below_drew1) | exact Below.refl _ _)) hb | exact (by repeat (first | (with_reducible first | exact Below.refl _ _ | apply below_alloc | apply pw_below_drewN | apply below_drew1) | exact Below.refl _ _))
      · simp [fitsT, *] <;> first | omega | (rw [Bool.eq_iff_iff]; simp; omega) | (simp_all; done) | (simp_all; omega)
set_option maxRecDepth 100000 in
set_option maxHeartbeats 4000000 in
theorem rformed_0 (a : Int) (h1 : ¬ a = 1) (h2 : ¬ a = 2) (h3 : ¬ a = 3) (h4 : ¬ a = 4) (h5 : ¬ a = 5) (h6 : ¬ a = 6) (h7 : ¬ a = 7) (h8 : ¬ a = 8) (h9 : ¬ a = 9) (b : Int) (s : ByteArray) (n d : Int) (A : Option Addr) (c len : Nat) (w : World) (m : Bool) (hm : len ≤ 9223372036854775807) (hM : MeanTells n d m) :
    Calls Tryd.prog 62 #[.agg #[.int .i64 a, .int .i64 b, .string s, .int .i64 n, .int .i64 d, .slice A len c]] w (RB (fitsT a b n d len m) w) := by
  have hu24 := Tryd.underlying24
  have hu27 := Tryd.underlying27
  have HM := Aside0.mk hM
  clear hM
  clear HM
  have hA : sizarref12_Atom.f a = some false := by
    unfold sizarref12_Atom.f
    split
    · rw [decide_eq_false (by omega)]
    · rfl
  have hF : fitsT a b n d len m = false := by simp [fitsT, h1, h2, h3, h4, h5, h6, h7, h8, h9]
  rw [hF]
  clear hF
  have HA := Aside0.mk hA
  clear hA
  have z1 : (a == 1) = false := by simpa using h1
  have y1 : (a != 1) = true := by simpa using h1
  have z2 : (a == 2) = false := by simpa using h2
  have y2 : (a != 2) = true := by simpa using h2
  have z3 : (a == 3) = false := by simpa using h3
  have y3 : (a != 3) = true := by simpa using h3
  have z4 : (a == 4) = false := by simpa using h4
  have y4 : (a != 4) = true := by simpa using h4
  have z5 : (a == 5) = false := by simpa using h5
  have y5 : (a != 5) = true := by simpa using h5
  have z6 : (a == 6) = false := by simpa using h6
  have y6 : (a != 6) = true := by simpa using h6
  have z7 : (a == 7) = false := by simpa using h7
  have y7 : (a != 7) = true := by simpa using h7
  have z8 : (a == 8) = false := by simpa using h8
  have y8 : (a != 8) = true := by simpa using h8
  have z9 : (a == 9) = false := by simpa using h9
  have y9 : (a != 9) = true := by simpa using h9
  clear h1 h2 h3 h4 h5 h6 h7 h8 h9
  go_enter Tryd.func62, Tryd.ntmps62
  go_wp2_with (go_at_call 41; refine (sizarref12_Atom.calls a false _ HA.out).mono ?_; rintro e w' ⟨rfl, nw, rfl⟩)
  all_goals
    go_ret
    exact RB.mk rfl (by repeat (first | (with_reducible first | exact Below.refl _ _ | apply below_alloc | apply pw_below_drewN | apply below_drew1) | exact Below.refl _ _))
theorem csize (x : Int) : sizarref05_size.f x = some (sizeU x) := by
  unfold sizarref05_size.f sizeU
  split <;> rfl
theorem ccommon : ∀ (y x : Nat), Ev (fun k => sizarref05_common.l0 k (x : Int) (y : Int)) ((Nat.gcd x y : Nat) : Int) := by
  intro y
  induction y using Nat.strongRecOn with
  | _ y ih =>
    intro x
    by_cases h0 : y = 0
    · subst h0
      refine Ev.first fun k => ?_
      simp only [sizarref05_common.l0]
      rw [if_neg (by omega), Nat.gcd_zero_right]
    · have hlt := Nat.mod_lt x (show 0 < y by omega)
      have e1 : Int.tmod (x : Int) (y : Int) = ((x % y : Nat) : Int) := by rw [Int.tmod_eq_emod_of_nonneg (by omega)]; exact (Int.natCast_emod x y).symm
      have eg : Nat.gcd y (x % y) = Nat.gcd x y := by rw [Nat.gcd_comm y (x % y), ← Nat.gcd_rec, Nat.gcd_comm]
      have h := ih (x % y) hlt y
      rw [eg] at h
      refine Ev.next h fun k => ?_
      simp only [sizarref05_common.l0]
      rw [if_pos (by omega), if_neg (by omega), e1]
theorem ratio_ev (n d r : Int) (h : ratio_Check.f n d = some r) : Ev (fun k => sizarref05_Check.f k n d) r := by
  unfold ratio_Check.f at h
  by_cases c1 : d < 1
  · rw [if_pos c1] at h
    exact Ev.now fun k => by unfold sizarref05_Check.f; rw [if_pos c1]; exact h
  by_cases c2 : d > 1073741824
  · rw [if_neg c1, if_pos c2] at h
    exact Ev.now fun k => by unfold sizarref05_Check.f; rw [if_neg c1, if_pos c2]; exact h
  by_cases c3 : n < (-1073741824)
  · rw [if_neg c1, if_neg c2, if_pos c3] at h
    exact Ev.now fun k => by unfold sizarref05_Check.f; rw [if_neg c1, if_neg c2, if_pos c3]; exact h
  by_cases c4 : n > 1073741824
  · rw [if_neg c1, if_neg c2, if_neg c3, if_pos c4] at h
    exact Ev.now fun k => by unfold sizarref05_Check.f; rw [if_neg c1, if_neg c2, if_neg c3, if_pos c4]; exact h
  rw [if_neg c1, if_neg c2, if_neg c3, if_neg c4] at h
  obtain ⟨x, _, ex⟩ := sizeU_nat n
  obtain ⟨y, _, ey⟩ := sizeU_nat d
  have hg : ratio_common.f n d = some ((Nat.gcd x y : Nat) : Int) := by unfold ratio_common.f; rw [ex, ey]; rfl
  rw [hg, Option.bind_some] at h
  refine (Ev.bind (c := fun k (t : Int) => if t = 1 then some (0 : Int) else some 50) (ccommon y x) (b := r) (Ev.now fun k => h)).congr fun k => ?_
  unfold sizarref05_Check.f
  rw [if_neg c1, if_neg c2, if_neg c3, if_neg c4, csize, csize, Option.bind_some, Option.bind_some, ex, ey]
  rfl
theorem meanR_ev (n d : Int) : Ev (fun k => sizarref12_mean.f k n d) (meanB n d) := by
  obtain ⟨q, hq⟩ := check_some n d
  have hm := mean_f n d
  unfold rules_mean.f at hm
  rw [hq, Option.bind_some] at hm
  exact Ev.bind (c := fun k (t : Int) => if t = 0 then (if n ≥ 0 then some (decide (n ≤ wrap64 (12 * d))) else some false) else some false) (ratio_ev n d q hq) (b := meanB n d) (Ev.now fun k => hm)
theorem fitsT_mean (o c n d : Int) (len : Nat) : fitsT o c n d len (meanB n d) = fits o c n d len := rfl
def sizarref12_formed.f (k : Nat) (a0_0 a0_1 : Int) (a0_2 : ByteArray) (a0_3 a0_4 : Int) (l0_5 : List S24) : Option Bool := some (fits a0_0 a0_1 a0_3 a0_4 l0_5.length)
theorem sizarref12_formed.calls (k : Nat) (a0_0 : Int) (a0_1 : Int) (a0_2 : ByteArray) (a0_3 : Int) (a0_4 : Int) (A0_5 : Option Addr) (c0_5 : Nat) (l0_5 : List (S24)) (r : Bool) (w : World) (hr0_5 : Kd.C k24 w A0_5 l0_5.length l0_5) (hc0_5 : l0_5.length ≤ c0_5) (h : sizarref12_formed.f k a0_0 a0_1 a0_2 a0_3 a0_4 l0_5 = some r) :
    Calls Tryd.prog 62 #[.agg #[.int .i64 a0_0, .int .i64 a0_1, .string a0_2, .int .i64 a0_3, .int .i64 a0_4, .slice A0_5 l0_5.length c0_5]] w fun e w' => e = .returned (.bool r) ∧ Below w.heap.size w w' := by
  obtain rfl := Option.some.inj h
  have hm : l0_5.length ≤ 9223372036854775807 := hr0_5.2.1
  have hM : MeanTells a0_3 a0_4 (meanB a0_3 a0_4) := (meanR_ev a0_3 a0_4).get
  rw [← fitsT_mean]
  by_cases h1 : a0_0 = 1
  · subst h1
    exact rformed_1 _ _ _ _ _ _ _ _ _ hm hM
  by_cases h2 : a0_0 = 2
  · subst h2
    exact rformed_2 _ _ _ _ _ _ _ _ _ hm hM
  by_cases h3 : a0_0 = 3
  · subst h3
    exact rformed_3 _ _ _ _ _ _ _ _ _ hm hM
  by_cases h4 : a0_0 = 4
  · subst h4
    exact rformed_4 _ _ _ _ _ _ _ _ _ hm hM
  by_cases h5 : a0_0 = 5
  · subst h5
    exact rformed_5 _ _ _ _ _ _ _ _ _ hm hM
  by_cases h6 : a0_0 = 6
  · subst h6
    exact rformed_6 _ _ _ _ _ _ _ _ _ hm hM
  by_cases h7 : a0_0 = 7
  · subst h7
    exact rformed_7 _ _ _ _ _ _ _ _ _ hm hM
  by_cases h8 : a0_0 = 8
  · subst h8
    exact rformed_8 _ _ _ _ _ _ _ _ _ hm hM
  by_cases h9 : a0_0 = 9
  · subst h9
    exact rformed_9 _ _ _ _ _ _ _ _ _ hm hM
  exact rformed_0 _ h1 h2 h3 h4 h5 h6 h7 h8 h9 _ _ _ _ _ _ _ _ _ hm hM
end Go.Proofs.YtabocfninjankaaDoor.P
namespace Go.Proofs.YtabocfninjankaaDoor.P
open Go.RowKit Go.Proofs.YtabocfninjankaaDoorW.PrintWords Go.Proofs.YtabocfninjankaaDoorW.PrintLast Go.Proofs.YtabocfninjankaaDoorW.PrintMore
attribute [local go_sem] max2_int min2_int max_two min_two max_three min_three max_four min_four   -- for this text's walks alone
set_option linter.unusedVariables false
set_option linter.unusedSimpArgs false
mutual
def sizarref12_allFormed.l0 : Nat → Int → Int → Int → ByteArray → Int → Int → List (S24) → Option (Bool)
  | 0, _, _, _, _, _, _, _ => none
  | k + 1, x3, x312000, x312001, x312002, x312003, x312004, x312005 => if x3 < (x312005.length : Int) then (if 0 ≤ x3 then ((sizarref12_allFormed.f k ((rd_T24 x312005 x3).f0) ((rd_T24 x312005 x3).f1) ((rd_T24 x312005 x3).f2) ((rd_T24 x312005 x3).f3) ((rd_T24 x312005 x3).f4) ((rd_T24 x312005 x3).f5)).bind fun t314 => (if t314 = true then (sizarref12_allFormed.l0 k (wrap64 (x3 + 1)) x312000 x312001 x312002 x312003 x312004 x312005) else (some false))) else (none)) else (some true)
def sizarref12_allFormed.f : Nat → Int → Int → ByteArray → Int → Int → List (S24) → Option (Bool)
  | 0, _, _, _, _, _, _ => none
  | k + 1, a0_0, a0_1, a0_2, a0_3, a0_4, l0_5 => (sizarref12_formed.f k a0_0 a0_1 a0_2 a0_3 a0_4 l0_5).bind fun t312 => (if t312 = true then (sizarref12_allFormed.l0 k 0 a0_0 a0_1 a0_2 a0_3 a0_4 l0_5) else (some false))
end
set_option maxHeartbeats 8000000 in
set_option maxRecDepth 100000 in
theorem sizarref12_allFormed.calls (k : Nat) : ∀ (a0_0 : Int) (a0_1 : Int) (a0_2 : ByteArray) (a0_3 : Int) (a0_4 : Int) (A0_5 : Option Addr) (c0_5 : Nat) (l0_5 : List (S24)) (r : Bool) (w : World) (hr0_5 : Kd.C k24 w A0_5 l0_5.length l0_5) (hc0_5 : l0_5.length ≤ c0_5) (h : sizarref12_allFormed.f k a0_0 a0_1 a0_2 a0_3 a0_4 l0_5 = some r),
    Calls Tryd.prog 48 #[.agg #[.int .i64 a0_0, .int .i64 a0_1, .string a0_2, .int .i64 a0_3, .int .i64 a0_4, .slice A0_5 l0_5.length c0_5]] w fun e w' => e = .returned (.bool r) ∧ Below w.heap.size w w' := by
  induction k using Nat.strongRecOn with
  | _ k ih =>
  intro a0_0 a0_1 a0_2 a0_3 a0_4 A0_5 c0_5 l0_5 r w hr0_5 hc0_5 h
  cases k with
  | zero => exact absurd h (by simp [sizarref12_allFormed.f])
  | succ k =>
  simp only [sizarref12_allFormed.f] at h
  have hu24 := Tryd.underlying24
  have HR0_5 := Aside0.mk hr0_5
  have HC0_5 := Aside0.mk hc0_5
  clear hr0_5 hc0_5
  have HB := Aside0.mk (Below.refl w.heap.size w)
  have H : ((sizarref12_formed.f k a0_0 a0_1 a0_2 a0_3 a0_4 l0_5).bind fun t312 => (if t312 = true then (sizarref12_allFormed.l0 k 0 a0_0 a0_1 a0_2 a0_3 a0_4 l0_5) else (some false))) = some r := h
  clear h
  replace H := Option.bind_eq_some_iff.mp H
  obtain ⟨t312, A20, H⟩ := H
  replace H : (if t312 = true then (sizarref12_allFormed.l0 k 0 a0_0 a0_1 a0_2 a0_3 a0_4 l0_5) else (some false)) = some r := H
  have A2 := Aside0.mk A20
  clear A20
  by_cases c3 : t312 = true
  · subst c3
    have H1 : (sizarref12_allFormed.l0 k 0 a0_0 a0_1 a0_2 a0_3 a0_4 l0_5) = some r := by rw [if_pos rfl] at H; exact H
    clear H
    have H := H1
    clear H1
    have H' := Aside0.mk H
    clear H
    go_enter Tryd.func48, Tryd.ntmps48
    go_wp2_with (first | ((with_reducible refine gate_dst (N := 1) rfl ?_); refine box_event ?hg (N := 1) ?hd (cs := #[.int .i64 a0_0, .int .i64 a0_1, .string a0_2, .int .i64 a0_3, .int .i64 a0_4, .slice A0_5 l0_5.length c0_5]) (t := 24) ?hr ?_; (case hd => rfl); (case hg => rfl); (case hr => first | (go_simp; done) | (go_simp; rfl)); intro gb311 hg w4 hbox hb; have n0_ := Aside0.mk (below_step (by repeat (first | (with_reducible first | exact HB.out | apply below_alloc | apply pw_below_drewN | apply below_drew1) | exact HB.out)) hb); have n1_ := Aside0.mk (hbox); have n2_ := Aside0.mk ((by rw [hg]; exact (below_size (by repeat (first | (with_reducible first | exact HB.out | apply below_alloc | apply pw_below_drewN | apply below_drew1) | exact HB.out))) : w.heap.size ≤ gb311)); have n3_ := Aside0.mk ((by rw [hg]; exact (below_size (by repeat (first | (with_reducible first | exact HB.out | apply below_alloc | apply pw_below_drewN | apply below_drew1) | exact HB.out))) : w.heap.size ≤ gb311)); clear HB; have HB := n0_; have BK311 := n1_; have GW311 := n2_; have GE311 := n3_; clear n0_ n1_ n2_ n3_; clear hb hbox hg; have hcz5_0 : w4.cell? ⟨gb311, 0, none⟩ = some (.int .i64 a0_0) := (blk_cell BK311.out 0).trans rfl; have hcz5_1 : w4.cell? ⟨gb311, 1, none⟩ = some (.int .i64 a0_1) := (blk_cell BK311.out 1).trans rfl; have hcz5_2 : w4.cell? ⟨gb311, 2, none⟩ = some (.string a0_2) := (blk_cell BK311.out 2).trans rfl; have hcz5_3 : w4.cell? ⟨gb311, 3, none⟩ = some (.int .i64 a0_3) := (blk_cell BK311.out 3).trans rfl; have hcz5_4 : w4.cell? ⟨gb311, 4, none⟩ = some (.int .i64 a0_4) := (blk_cell BK311.out 4).trans rfl; have hcz5_5 : w4.cell? ⟨gb311, 5, none⟩ = some (.slice A0_5 l0_5.length c0_5) := (blk_cell BK311.out 5).trans rfl; have hfz5_0 := blk_frozen BK311.out 0; have hfz5_1 := blk_frozen BK311.out 1; have hfz5_2 := blk_frozen BK311.out 2; have hfz5_3 := blk_frozen BK311.out 3; have hfz5_4 := blk_frozen BK311.out 4; have hfz5_5 := blk_frozen BK311.out 5) | ((with_reducible refine gate_callee (f := 62) rfl ?_); refine goesL_ (some 5) rfl rfl Tryd.func62 (by kernel_rfl) rfl #[.agg #[.int .i64 a0_0, .int .i64 a0_1, .string a0_2, .int .i64 a0_3, .int .i64 a0_4, .slice A0_5 l0_5.length c0_5]] rfl (by (try simp only [List.map_toArray, List.map_cons, List.map_nil]); first | done | rfl | (simp only [List.length_drop, List.length_take]; rfl)) ?_; (with_reducible refine (sizarref12_formed.calls k a0_0 a0_1 a0_2 a0_3 a0_4 _ _ l0_5 true _ ?side1 ?side2 A2.out).mono ?_); (case side1 => repeat (first | exact (Kd.C_below HR0_5.out HB.out) | (with_reducible refine Kd.C_alloc ?_ _) | (with_reducible refine Kd.C_drewN ?_ _) | (with_reducible refine Kd.C_drew ?_))); (case side2 => exact HC0_5.out); rintro e w6 ⟨rfl, hb⟩; refine ⟨_, rfl, ?_⟩; have n0_ := Aside0.mk (blk_below (g := gb311) (o := .cells #[.int .i64 a0_0, .int .i64 a0_1, .string a0_2, .int .i64 a0_3, .int .i64 a0_4, .slice A0_5 l0_5.length c0_5] 24 (0, 0)) (by (with_reducible repeat (first | refine blk_drewN ?_ _ | refine blk_drew ?_ | refine blk_alloc ?_ _)); exact BK311.out) hb); have n1_ := Aside0.mk (below_step (by repeat (first | (with_reducible first | exact HB.out | apply below_alloc | apply pw_below_drewN | apply below_drew1 | refine below_set ?_ GE311.out) | exact HB.out)) hb); clear BK311; clear HB; have BK311 := n0_; have HB := n1_; clear n0_ n1_; (try clear hb); (try clear hb2); (try clear hk); (try clear hi)))
    go_loopg [3] k (fun kq v3 w' => ∃ (x3_1 : Int), v3 = .int .i64 x3_1 ∧ Aside0 (sizarref12_allFormed.l0 kq x3_1 a0_0 a0_1 a0_2 a0_3 a0_4 l0_5 = some r) ∧ Aside0 (kq ≤ k) ∧ Aside0 (w'.heap[gb311]? = some (.cells #[.int .i64 a0_0, .int .i64 a0_1, .string a0_2, .int .i64 a0_3, .int .i64 a0_4, (.slice A0_5 l0_5.length c0_5)] 24 (0, 0))) ∧ Aside0 (Below w.heap.size w w'))
    case atStart => exact ⟨(0), (by first | rfl | (simp; done) | (simp [*]; done)), H', ⟨Nat.le_refl _⟩, ⟨by (with_reducible repeat (first | refine blk_drewN ?_ _ | refine blk_drew ?_ | refine blk_alloc ?_ _)); exact BK311.out⟩, ⟨by repeat (first | (with_reducible first | exact HB.out | apply below_alloc | apply pw_below_drewN | apply below_drew1 | refine below_set ?_ GE311.out) | exact HB.out)⟩⟩
    case round =>
      clear H'
      try clear p2
      try clear c3
      try clear c4
      try clear c6
      try clear hcz5_0
      try clear hcz5_1
      try clear hcz5_2
      try clear hcz5_3
      try clear hcz5_4
      try clear hcz5_5
      try clear hfz5_0
      try clear hfz5_1
      try clear hfz5_2
      try clear hfz5_3
      try clear hfz5_4
      try clear hfz5_5
      obtain ⟨x3_1, rfl, HA, HK1, BK311, HB⟩ := hrel
      cases gk with
      | zero => exact absurd HA.out (by simp [sizarref12_allFormed.l0])
      | succ k1 =>
        have H := HA.out
        clear HA
        simp only [sizarref12_allFormed.l0] at H
        by_cases c7 : x3_1 < (l0_5.length : Int)
        · rw [if_pos c7] at H
          have c7b0 : decide (x3_1 < (l0_5.length : Int)) = true := decide_eq_true c7
          clear c7
          by_cases c8 : 0 ≤ x3_1
          · rw [if_pos c8] at H
            have c8b0 : decide (0 ≤ x3_1) = true := decide_eq_true c8
            clear c8
            replace H := Option.bind_eq_some_iff.mp H
            obtain ⟨t314, A90, H⟩ := H
            replace H : (if t314 = true then (sizarref12_allFormed.l0 k1 (wrap64 (x3_1 + 1)) a0_0 a0_1 a0_2 a0_3 a0_4 l0_5) else (some false)) = some r := H
            have A9 := Aside0.mk A90
            clear A90
            by_cases c10 : t314 = true
            · subst c10
              have H1 : (sizarref12_allFormed.l0 k1 (wrap64 (x3_1 + 1)) a0_0 a0_1 a0_2 a0_3 a0_4 l0_5) = some r := by rw [if_pos rfl] at H; exact H
              clear H
              have H := H1
              clear H1
              have H' := Aside0.mk H
              clear H
              have hcz11_0 : wr.cell? ⟨gb311, 0, none⟩ = some (.int .i64 a0_0) := (blk_cell BK311.out 0).trans rfl
              have hcz11_1 : wr.cell? ⟨gb311, 1, none⟩ = some (.int .i64 a0_1) := (blk_cell BK311.out 1).trans rfl
              have hcz11_2 : wr.cell? ⟨gb311, 2, none⟩ = some (.string a0_2) := (blk_cell BK311.out 2).trans rfl
              have hcz11_3 : wr.cell? ⟨gb311, 3, none⟩ = some (.int .i64 a0_3) := (blk_cell BK311.out 3).trans rfl
              have hcz11_4 : wr.cell? ⟨gb311, 4, none⟩ = some (.int .i64 a0_4) := (blk_cell BK311.out 4).trans rfl
              have hcz11_5 : wr.cell? ⟨gb311, 5, none⟩ = some (.slice A0_5 l0_5.length c0_5) := (blk_cell BK311.out 5).trans rfl
              have hfz11_0 := blk_frozen BK311.out 0
              have hfz11_1 := blk_frozen BK311.out 1
              have hfz11_2 := blk_frozen BK311.out 2
              have hfz11_3 := blk_frozen BK311.out 3
              have hfz11_4 := blk_frozen BK311.out 4
              have hfz11_5 := blk_frozen BK311.out 5
              have p313 : 0 ≤ (x3_1 : Int) := of_decide_eq_true (by first | (with_reducible assumption) | assumption)
              have q313 : x3_1 < (l0_5.length : Int) := of_decide_eq_true (by first | (with_reducible assumption) | assumption)
              obtain ⟨ad313, A313_5, c313_5, e313, hx313_0, hx313_1, hx313_2, hx313_3, hx313_4, hx313_5, hl313_5, hi313_5⟩ := at_T24 HR0_5.out x3_1 p313 q313
              cases e313
              replace hx313_0 := (HB.out.cell (World.block_lt_of_cell? w _ hx313_0)).trans hx313_0
              replace hx313_1 := (HB.out.cell (World.block_lt_of_cell? w _ hx313_1)).trans hx313_1
              replace hx313_2 := (HB.out.cell (World.block_lt_of_cell? w _ hx313_2)).trans hx313_2
              replace hx313_3 := (HB.out.cell (World.block_lt_of_cell? w _ hx313_3)).trans hx313_3
              replace hx313_4 := (HB.out.cell (World.block_lt_of_cell? w _ hx313_4)).trans hx313_4
              replace hx313_5 := (HB.out.cell (World.block_lt_of_cell? w _ hx313_5)).trans hx313_5
              have HR313_5 := Aside0.mk hi313_5
              have HC313_5 := Aside0.mk hl313_5
              clear hi313_5 hl313_5
              replace p313 := eq_true p313
              replace q313 := eq_true q313
              go_wp2_with (first | ((with_reducible refine gate_callee (f := 48) rfl ?_); refine goesL_ (some 19) rfl rfl Tryd.func48 (by kernel_rfl) rfl #[.agg #[.int .i64 ((rd_T24 l0_5 x3_1).f0), .int .i64 ((rd_T24 l0_5 x3_1).f1), .string ((rd_T24 l0_5 x3_1).f2), .int .i64 ((rd_T24 l0_5 x3_1).f3), .int .i64 ((rd_T24 l0_5 x3_1).f4), .slice A313_5 ((rd_T24 l0_5 x3_1).f5).length c313_5]] rfl (by (try simp only [List.map_toArray, List.map_cons, List.map_nil]); first | done | rfl | (simp only [List.length_drop, List.length_take]; rfl)) ?_; (with_reducible refine (ih k1 (by have := HK1.out; omega) ((rd_T24 l0_5 x3_1).f0) ((rd_T24 l0_5 x3_1).f1) ((rd_T24 l0_5 x3_1).f2) ((rd_T24 l0_5 x3_1).f3) ((rd_T24 l0_5 x3_1).f4) _ _ ((rd_T24 l0_5 x3_1).f5) true _ ?side1 ?side2 A9.out).mono ?_); (case side1 => repeat (first | exact (Kd.C_below HR313_5.out HB.out) | (with_reducible refine Kd.C_alloc ?_ _) | (with_reducible refine Kd.C_drewN ?_ _) | (with_reducible refine Kd.C_drew ?_))); (case side2 => exact HC313_5.out); rintro e w12 ⟨rfl, hb⟩; refine ⟨_, rfl, ?_⟩; have n0_ := Aside0.mk (blk_below (g := gb311) (o := .cells #[.int .i64 a0_0, .int .i64 a0_1, .string a0_2, .int .i64 a0_3, .int .i64 a0_4, .slice (some ad313) l0_5.length c0_5] 24 (0, 0)) (by (with_reducible repeat (first | refine blk_drewN ?_ _ | refine blk_drew ?_ | refine blk_alloc ?_ _)); exact BK311.out) hb); have n1_ := Aside0.mk (below_step (by repeat (first | (with_reducible first | exact HB.out | apply below_alloc | apply pw_below_drewN | apply below_drew1 | refine below_set ?_ GE311.out) | exact HB.out)) hb); clear BK311; clear HB; have BK311 := n0_; have HB := n1_; clear n0_ n1_; (try clear hb); (try clear hb2); (try clear hk); (try clear hi)))
              go_roundg k1
              case measure => have := HK1.out; omega
              case rel => exact ⟨(wrap64 (x3_1 + 1)), (by first | rfl | (simp; done) | (simp [*]; done)), H', ⟨by have := HK1.out; omega⟩, ⟨by (with_reducible repeat (first | refine blk_drewN ?_ _ | refine blk_drew ?_ | refine blk_alloc ?_ _)); exact BK311.out⟩, ⟨by repeat (first | (with_reducible first | exact HB.out | apply below_alloc | apply pw_below_drewN | apply below_drew1 | refine below_set ?_ GE311.out) | exact HB.out)⟩⟩
            · replace c10 := Bool.eq_false_iff.mpr c10
              subst c10
              have H1 : (some false) = some r := by rw [if_neg (show ¬ (false = true) by decide)] at H; exact H
              clear H
              have H := H1
              clear H1
              obtain rfl := Option.some.inj H
              have hcz13_0 : wr.cell? ⟨gb311, 0, none⟩ = some (.int .i64 a0_0) := (blk_cell BK311.out 0).trans rfl
              have hcz13_1 : wr.cell? ⟨gb311, 1, none⟩ = some (.int .i64 a0_1) := (blk_cell BK311.out 1).trans rfl
              have hcz13_2 : wr.cell? ⟨gb311, 2, none⟩ = some (.string a0_2) := (blk_cell BK311.out 2).trans rfl
              have hcz13_3 : wr.cell? ⟨gb311, 3, none⟩ = some (.int .i64 a0_3) := (blk_cell BK311.out 3).trans rfl
              have hcz13_4 : wr.cell? ⟨gb311, 4, none⟩ = some (.int .i64 a0_4) := (blk_cell BK311.out 4).trans rfl
              have hcz13_5 : wr.cell? ⟨gb311, 5, none⟩ = some (.slice A0_5 l0_5.length c0_5) := (blk_cell BK311.out 5).trans rfl
              have hfz13_0 := blk_frozen BK311.out 0
              have hfz13_1 := blk_frozen BK311.out 1
              have hfz13_2 := blk_frozen BK311.out 2
              have hfz13_3 := blk_frozen BK311.out 3
              have hfz13_4 := blk_frozen BK311.out 4
              have hfz13_5 := blk_frozen BK311.out 5
              have p313 : 0 ≤ (x3_1 : Int) := of_decide_eq_true (by first | (with_reducible assumption) | assumption)
              have q313 : x3_1 < (l0_5.length : Int) := of_decide_eq_true (by first | (with_reducible assumption) | assumption)
              obtain ⟨ad313, A313_5, c313_5, e313, hx313_0, hx313_1, hx313_2, hx313_3, hx313_4, hx313_5, hl313_5, hi313_5⟩ := at_T24 HR0_5.out x3_1 p313 q313
              cases e313
              replace hx313_0 := (HB.out.cell (World.block_lt_of_cell? w _ hx313_0)).trans hx313_0
              replace hx313_1 := (HB.out.cell (World.block_lt_of_cell? w _ hx313_1)).trans hx313_1
              replace hx313_2 := (HB.out.cell (World.block_lt_of_cell? w _ hx313_2)).trans hx313_2
              replace hx313_3 := (HB.out.cell (World.block_lt_of_cell? w _ hx313_3)).trans hx313_3
              replace hx313_4 := (HB.out.cell (World.block_lt_of_cell? w _ hx313_4)).trans hx313_4
              replace hx313_5 := (HB.out.cell (World.block_lt_of_cell? w _ hx313_5)).trans hx313_5
              have HR313_5 := Aside0.mk hi313_5
              have HC313_5 := Aside0.mk hl313_5
              clear hi313_5 hl313_5
              replace p313 := eq_true p313
              replace q313 := eq_true q313
              go_wp2_with (first | ((with_reducible refine gate_callee (f := 48) rfl ?_); refine goesL_ (some 19) rfl rfl Tryd.func48 (by kernel_rfl) rfl #[.agg #[.int .i64 ((rd_T24 l0_5 x3_1).f0), .int .i64 ((rd_T24 l0_5 x3_1).f1), .string ((rd_T24 l0_5 x3_1).f2), .int .i64 ((rd_T24 l0_5 x3_1).f3), .int .i64 ((rd_T24 l0_5 x3_1).f4), .slice A313_5 ((rd_T24 l0_5 x3_1).f5).length c313_5]] rfl (by (try simp only [List.map_toArray, List.map_cons, List.map_nil]); first | done | rfl | (simp only [List.length_drop, List.length_take]; rfl)) ?_; (with_reducible refine (ih k1 (by have := HK1.out; omega) ((rd_T24 l0_5 x3_1).f0) ((rd_T24 l0_5 x3_1).f1) ((rd_T24 l0_5 x3_1).f2) ((rd_T24 l0_5 x3_1).f3) ((rd_T24 l0_5 x3_1).f4) _ _ ((rd_T24 l0_5 x3_1).f5) false _ ?side1 ?side2 A9.out).mono ?_); (case side1 => repeat (first | exact (Kd.C_below HR313_5.out HB.out) | (with_reducible refine Kd.C_alloc ?_ _) | (with_reducible refine Kd.C_drewN ?_ _) | (with_reducible refine Kd.C_drew ?_))); (case side2 => exact HC313_5.out); rintro e w14 ⟨rfl, hb⟩; refine ⟨_, rfl, ?_⟩; have n0_ := Aside0.mk (blk_below (g := gb311) (o := .cells #[.int .i64 a0_0, .int .i64 a0_1, .string a0_2, .int .i64 a0_3, .int .i64 a0_4, .slice (some ad313) l0_5.length c0_5] 24 (0, 0)) (by (with_reducible repeat (first | refine blk_drewN ?_ _ | refine blk_drew ?_ | refine blk_alloc ?_ _)); exact BK311.out) hb); have n1_ := Aside0.mk (below_step (by repeat (first | (with_reducible first | exact HB.out | apply below_alloc | apply pw_below_drewN | apply below_drew1 | refine below_set ?_ GE311.out) | exact HB.out)) hb); clear BK311; clear HB; have BK311 := n0_; have HB := n1_; clear n0_ n1_; (try clear hb); (try clear hb2); (try clear hk); (try clear hi)))
              go_ret
              exact ⟨by first | rfl | (simp [errW_none, errW_some] <;> rfl) | (simp [*, errW_none, errW_some] <;> rfl), by repeat (first | (with_reducible first | exact HB.out | apply below_alloc | apply pw_below_drewN | apply below_drew1 | refine below_set ?_ GE311.out) | exact HB.out)⟩
          · rw [if_neg c8] at H
            exact absurd H (by simp)
        · rw [if_neg c7] at H
          have c7b0 : decide (x3_1 < (l0_5.length : Int)) = false := decide_eq_false c7
          clear c7
          obtain rfl := Option.some.inj H
          have hcz15_0 : wr.cell? ⟨gb311, 0, none⟩ = some (.int .i64 a0_0) := (blk_cell BK311.out 0).trans rfl
          have hcz15_1 : wr.cell? ⟨gb311, 1, none⟩ = some (.int .i64 a0_1) := (blk_cell BK311.out 1).trans rfl
          have hcz15_2 : wr.cell? ⟨gb311, 2, none⟩ = some (.string a0_2) := (blk_cell BK311.out 2).trans rfl
          have hcz15_3 : wr.cell? ⟨gb311, 3, none⟩ = some (.int .i64 a0_3) := (blk_cell BK311.out 3).trans rfl
          have hcz15_4 : wr.cell? ⟨gb311, 4, none⟩ = some (.int .i64 a0_4) := (blk_cell BK311.out 4).trans rfl
          have hcz15_5 : wr.cell? ⟨gb311, 5, none⟩ = some (.slice A0_5 l0_5.length c0_5) := (blk_cell BK311.out 5).trans rfl
          have hfz15_0 := blk_frozen BK311.out 0
          have hfz15_1 := blk_frozen BK311.out 1
          have hfz15_2 := blk_frozen BK311.out 2
          have hfz15_3 := blk_frozen BK311.out 3
          have hfz15_4 := blk_frozen BK311.out 4
          have hfz15_5 := blk_frozen BK311.out 5
          go_wp2
          go_ret
          exact ⟨by first | rfl | (simp [errW_none, errW_some] <;> rfl) | (simp [*, errW_none, errW_some] <;> rfl), by repeat (first | (with_reducible first | exact HB.out | apply below_alloc | apply pw_below_drewN | apply below_drew1 | refine below_set ?_ GE311.out) | exact HB.out)⟩
  · replace c3 := Bool.eq_false_iff.mpr c3
    subst c3
    have H1 : (some false) = some r := by rw [if_neg (show ¬ (false = true) by decide)] at H; exact H
    clear H
    have H := H1
    clear H1
    obtain rfl := Option.some.inj H
    go_enter Tryd.func48, Tryd.ntmps48
    go_wp2_with (first | ((with_reducible refine gate_dst (N := 1) rfl ?_); refine box_event ?hg (N := 1) ?hd (cs := #[.int .i64 a0_0, .int .i64 a0_1, .string a0_2, .int .i64 a0_3, .int .i64 a0_4, .slice A0_5 l0_5.length c0_5]) (t := 24) ?hr ?_; (case hd => rfl); (case hg => rfl); (case hr => first | (go_simp; done) | (go_simp; rfl)); intro gb311 hg w16 hbox hb; have n0_ := Aside0.mk (below_step (by repeat (first | (with_reducible first | exact HB.out | apply below_alloc | apply pw_below_drewN | apply below_drew1) | exact HB.out)) hb); have n1_ := Aside0.mk (hbox); have n2_ := Aside0.mk ((by rw [hg]; exact (below_size (by repeat (first | (with_reducible first | exact HB.out | apply below_alloc | apply pw_below_drewN | apply below_drew1) | exact HB.out))) : w.heap.size ≤ gb311)); have n3_ := Aside0.mk ((by rw [hg]; exact (below_size (by repeat (first | (with_reducible first | exact HB.out | apply below_alloc | apply pw_below_drewN | apply below_drew1) | exact HB.out))) : w.heap.size ≤ gb311)); clear HB; have HB := n0_; have BK311 := n1_; have GW311 := n2_; have GE311 := n3_; clear n0_ n1_ n2_ n3_; clear hb hbox hg; have hcz17_0 : w16.cell? ⟨gb311, 0, none⟩ = some (.int .i64 a0_0) := (blk_cell BK311.out 0).trans rfl; have hcz17_1 : w16.cell? ⟨gb311, 1, none⟩ = some (.int .i64 a0_1) := (blk_cell BK311.out 1).trans rfl; have hcz17_2 : w16.cell? ⟨gb311, 2, none⟩ = some (.string a0_2) := (blk_cell BK311.out 2).trans rfl; have hcz17_3 : w16.cell? ⟨gb311, 3, none⟩ = some (.int .i64 a0_3) := (blk_cell BK311.out 3).trans rfl; have hcz17_4 : w16.cell? ⟨gb311, 4, none⟩ = some (.int .i64 a0_4) := (blk_cell BK311.out 4).trans rfl; have hcz17_5 : w16.cell? ⟨gb311, 5, none⟩ = some (.slice A0_5 l0_5.length c0_5) := (blk_cell BK311.out 5).trans rfl; have hfz17_0 := blk_frozen BK311.out 0; have hfz17_1 := blk_frozen BK311.out 1; have hfz17_2 := blk_frozen BK311.out 2; have hfz17_3 := blk_frozen BK311.out 3; have hfz17_4 := blk_frozen BK311.out 4; have hfz17_5 := blk_frozen BK311.out 5) | ((with_reducible refine gate_callee (f := 62) rfl ?_); refine goesL_ (some 5) rfl rfl Tryd.func62 (by kernel_rfl) rfl #[.agg #[.int .i64 a0_0, .int .i64 a0_1, .string a0_2, .int .i64 a0_3, .int .i64 a0_4, .slice A0_5 l0_5.length c0_5]] rfl (by (try simp only [List.map_toArray, List.map_cons, List.map_nil]); first | done | rfl | (simp only [List.length_drop, List.length_take]; rfl)) ?_; (with_reducible refine (sizarref12_formed.calls k a0_0 a0_1 a0_2 a0_3 a0_4 _ _ l0_5 false _ ?side1 ?side2 A2.out).mono ?_); (case side1 => repeat (first | exact (Kd.C_below HR0_5.out HB.out) | (with_reducible refine Kd.C_alloc ?_ _) | (with_reducible refine Kd.C_drewN ?_ _) | (with_reducible refine Kd.C_drew ?_))); (case side2 => exact HC0_5.out); rintro e w18 ⟨rfl, hb⟩; refine ⟨_, rfl, ?_⟩; have n0_ := Aside0.mk (blk_below (g := gb311) (o := .cells #[.int .i64 a0_0, .int .i64 a0_1, .string a0_2, .int .i64 a0_3, .int .i64 a0_4, .slice A0_5 l0_5.length c0_5] 24 (0, 0)) (by (with_reducible repeat (first | refine blk_drewN ?_ _ | refine blk_drew ?_ | refine blk_alloc ?_ _)); exact BK311.out) hb); have n1_ := Aside0.mk (below_step (by repeat (first | (with_reducible first | exact HB.out | apply below_alloc | apply pw_below_drewN | apply below_drew1 | refine below_set ?_ GE311.out) | exact HB.out)) hb); clear BK311; clear HB; have BK311 := n0_; have HB := n1_; clear n0_ n1_; (try clear hb); (try clear hb2); (try clear hk); (try clear hi)))
    go_ret
    exact ⟨by first | rfl | (simp [errW_none, errW_some] <;> rfl) | (simp [*, errW_none, errW_some] <;> rfl), by repeat (first | (with_reducible first | exact HB.out | apply below_alloc | apply pw_below_drewN | apply below_drew1 | refine below_set ?_ GE311.out) | exact HB.out)⟩
def sizarref12_Check.f (k : Nat) (a0_0 : Int) (a0_1 : Int) (a0_2 : ByteArray) (a0_3 : Int) (a0_4 : Int) (l0_5 : List (S24)) : Option (Int) := (sizarref12_Parts.f k a0_0 a0_1 a0_2 a0_3 a0_4 l0_5).bind fun t316 => (if t316 > 200 then (some 120) else ((sizarref12_Depth.f k a0_0 a0_1 a0_2 a0_3 a0_4 l0_5).bind fun t317 => (if t317 > 16 then (some 120) else ((sizarref12_allFormed.f k a0_0 a0_1 a0_2 a0_3 a0_4 l0_5).bind fun t318 => (if t318 = true then (some 0) else (some 120))))))
set_option maxHeartbeats 8000000 in
set_option maxRecDepth 100000 in
theorem sizarref12_Check.calls (k : Nat) (a0_0 : Int) (a0_1 : Int) (a0_2 : ByteArray) (a0_3 : Int) (a0_4 : Int) (A0_5 : Option Addr) (c0_5 : Nat) (l0_5 : List (S24)) (r : Int) (w : World) (hr0_5 : Kd.C k24 w A0_5 l0_5.length l0_5) (hc0_5 : l0_5.length ≤ c0_5) (h : sizarref12_Check.f k a0_0 a0_1 a0_2 a0_3 a0_4 l0_5 = some r) :
    Calls Tryd.prog 30 #[.agg #[.int .i64 a0_0, .int .i64 a0_1, .string a0_2, .int .i64 a0_3, .int .i64 a0_4, .slice A0_5 l0_5.length c0_5]] w fun e w' => e = .returned (.int .i64 r) ∧ Below w.heap.size w w' := by
  have hu24 := Tryd.underlying24
  have HR0_5 := Aside0.mk hr0_5
  have HC0_5 := Aside0.mk hc0_5
  clear hr0_5 hc0_5
  have HB := Aside0.mk (Below.refl w.heap.size w)
  have H : ((sizarref12_Parts.f k a0_0 a0_1 a0_2 a0_3 a0_4 l0_5).bind fun t316 => (if t316 > 200 then (some 120) else ((sizarref12_Depth.f k a0_0 a0_1 a0_2 a0_3 a0_4 l0_5).bind fun t317 => (if t317 > 16 then (some 120) else ((sizarref12_allFormed.f k a0_0 a0_1 a0_2 a0_3 a0_4 l0_5).bind fun t318 => (if t318 = true then (some 0) else (some 120))))))) = some r := h
  clear h
  replace H := Option.bind_eq_some_iff.mp H
  obtain ⟨t316, A20, H⟩ := H
  replace H : (if t316 > 200 then (some 120) else ((sizarref12_Depth.f k a0_0 a0_1 a0_2 a0_3 a0_4 l0_5).bind fun t317 => (if t317 > 16 then (some 120) else ((sizarref12_allFormed.f k a0_0 a0_1 a0_2 a0_3 a0_4 l0_5).bind fun t318 => (if t318 = true then (some 0) else (some 120)))))) = some r := H
  have A2 := Aside0.mk A20
  clear A20
  by_cases c3 : t316 > 200
  · rw [if_pos c3] at H
    have c3b0 : decide (200 < t316) = true := decide_eq_true c3
    clear c3
    obtain rfl := Option.some.inj H
    go_enter Tryd.func30, Tryd.ntmps30
    go_wp2_with (first | ((with_reducible refine gate_dst (N := 1) rfl ?_); refine box_event ?hg (N := 1) ?hd (cs := #[.int .i64 a0_0, .int .i64 a0_1, .string a0_2, .int .i64 a0_3, .int .i64 a0_4, .slice A0_5 l0_5.length c0_5]) (t := 24) ?hr ?_; (case hd => rfl); (case hg => rfl); (case hr => first | (go_simp; done) | (go_simp; rfl)); intro gb315 hg w4 hbox hb; have n0_ := Aside0.mk (below_step (by repeat (first | (with_reducible first | exact HB.out | apply below_alloc | apply pw_below_drewN | apply below_drew1) | exact HB.out)) hb); have n1_ := Aside0.mk (hbox); have n2_ := Aside0.mk ((by rw [hg]; exact (below_size (by repeat (first | (with_reducible first | exact HB.out | apply below_alloc | apply pw_below_drewN | apply below_drew1) | exact HB.out))) : w.heap.size ≤ gb315)); have n3_ := Aside0.mk ((by rw [hg]; exact (below_size (by repeat (first | (with_reducible first | exact HB.out | apply below_alloc | apply pw_below_drewN | apply below_drew1) | exact HB.out))) : w.heap.size ≤ gb315)); clear HB; have HB := n0_; have BK315 := n1_; have GW315 := n2_; have GE315 := n3_; clear n0_ n1_ n2_ n3_; clear hb hbox hg; have hcz5_0 : w4.cell? ⟨gb315, 0, none⟩ = some (.int .i64 a0_0) := (blk_cell BK315.out 0).trans rfl; have hcz5_1 : w4.cell? ⟨gb315, 1, none⟩ = some (.int .i64 a0_1) := (blk_cell BK315.out 1).trans rfl; have hcz5_2 : w4.cell? ⟨gb315, 2, none⟩ = some (.string a0_2) := (blk_cell BK315.out 2).trans rfl; have hcz5_3 : w4.cell? ⟨gb315, 3, none⟩ = some (.int .i64 a0_3) := (blk_cell BK315.out 3).trans rfl; have hcz5_4 : w4.cell? ⟨gb315, 4, none⟩ = some (.int .i64 a0_4) := (blk_cell BK315.out 4).trans rfl; have hcz5_5 : w4.cell? ⟨gb315, 5, none⟩ = some (.slice A0_5 l0_5.length c0_5) := (blk_cell BK315.out 5).trans rfl; have hfz5_0 := blk_frozen BK315.out 0; have hfz5_1 := blk_frozen BK315.out 1; have hfz5_2 := blk_frozen BK315.out 2; have hfz5_3 := blk_frozen BK315.out 3; have hfz5_4 := blk_frozen BK315.out 4; have hfz5_5 := blk_frozen BK315.out 5) | ((with_reducible refine gate_callee (f := 28) rfl ?_); refine goesL_ (some 4) rfl rfl Tryd.func28 (by kernel_rfl) rfl #[.agg #[.int .i64 a0_0, .int .i64 a0_1, .string a0_2, .int .i64 a0_3, .int .i64 a0_4, .slice A0_5 l0_5.length c0_5]] rfl (by (try simp only [List.map_toArray, List.map_cons, List.map_nil]); first | done | rfl | (simp only [List.length_drop, List.length_take]; rfl)) ?_; (with_reducible refine (sizarref12_Parts.calls k a0_0 a0_1 a0_2 a0_3 a0_4 _ _ l0_5 t316 _ ?side1 ?side2 A2.out).mono ?_); (case side1 => repeat (first | exact (Kd.C_below HR0_5.out HB.out) | (with_reducible refine Kd.C_alloc ?_ _) | (with_reducible refine Kd.C_drewN ?_ _) | (with_reducible refine Kd.C_drew ?_))); (case side2 => exact HC0_5.out); rintro e w6 ⟨rfl, hb⟩; refine ⟨_, rfl, ?_⟩; have n0_ := Aside0.mk (blk_below (g := gb315) (o := .cells #[.int .i64 a0_0, .int .i64 a0_1, .string a0_2, .int .i64 a0_3, .int .i64 a0_4, .slice A0_5 l0_5.length c0_5] 24 (0, 0)) (by (with_reducible repeat (first | refine blk_drewN ?_ _ | refine blk_drew ?_ | refine blk_alloc ?_ _)); exact BK315.out) hb); have n1_ := Aside0.mk (below_step (by repeat (first | (with_reducible first | exact HB.out | apply below_alloc | apply pw_below_drewN | apply below_drew1 | refine below_set ?_ GE315.out) | exact HB.out)) hb); clear BK315; clear HB; have BK315 := n0_; have HB := n1_; clear n0_ n1_; (try clear hb); (try clear hb2); (try clear hk); (try clear hi)))
    go_ret
    exact ⟨by first | rfl | (simp [errW_none, errW_some] <;> rfl) | (simp [*, errW_none, errW_some] <;> rfl), by repeat (first | (with_reducible first | exact HB.out | apply below_alloc | apply pw_below_drewN | apply below_drew1 | refine below_set ?_ GE315.out) | exact HB.out)⟩
  · rw [if_neg c3] at H
    have c3b0 : decide (200 < t316) = false := decide_eq_false c3
    clear c3
    replace H := Option.bind_eq_some_iff.mp H
    obtain ⟨t317, A70, H⟩ := H
    replace H : (if t317 > 16 then (some 120) else ((sizarref12_allFormed.f k a0_0 a0_1 a0_2 a0_3 a0_4 l0_5).bind fun t318 => (if t318 = true then (some 0) else (some 120)))) = some r := H
    have A7 := Aside0.mk A70
    clear A70
    by_cases c8 : t317 > 16
    · rw [if_pos c8] at H
      have c8b0 : decide (16 < t317) = true := decide_eq_true c8
      clear c8
      obtain rfl := Option.some.inj H
      go_enter Tryd.func30, Tryd.ntmps30
      go_wp2_with (first | ((with_reducible refine gate_dst (N := 1) rfl ?_); refine box_event ?hg (N := 1) ?hd (cs := #[.int .i64 a0_0, .int .i64 a0_1, .string a0_2, .int .i64 a0_3, .int .i64 a0_4, .slice A0_5 l0_5.length c0_5]) (t := 24) ?hr ?_; (case hd => rfl); (case hg => rfl); (case hr => first | (go_simp; done) | (go_simp; rfl)); intro gb315 hg w9 hbox hb; have n0_ := Aside0.mk (below_step (by repeat (first | (with_reducible first | exact HB.out | apply below_alloc | apply pw_below_drewN | apply below_drew1) | exact HB.out)) hb); have n1_ := Aside0.mk (hbox); have n2_ := Aside0.mk ((by rw [hg]; exact (below_size (by repeat (first | (with_reducible first | exact HB.out | apply below_alloc | apply pw_below_drewN | apply below_drew1) | exact HB.out))) : w.heap.size ≤ gb315)); have n3_ := Aside0.mk ((by rw [hg]; exact (below_size (by repeat (first | (with_reducible first | exact HB.out | apply below_alloc | apply pw_below_drewN | apply below_drew1) | exact HB.out))) : w.heap.size ≤ gb315)); clear HB; have HB := n0_; have BK315 := n1_; have GW315 := n2_; have GE315 := n3_; clear n0_ n1_ n2_ n3_; clear hb hbox hg; have hcz10_0 : w9.cell? ⟨gb315, 0, none⟩ = some (.int .i64 a0_0) := (blk_cell BK315.out 0).trans rfl; have hcz10_1 : w9.cell? ⟨gb315, 1, none⟩ = some (.int .i64 a0_1) := (blk_cell BK315.out 1).trans rfl; have hcz10_2 : w9.cell? ⟨gb315, 2, none⟩ = some (.string a0_2) := (blk_cell BK315.out 2).trans rfl; have hcz10_3 : w9.cell? ⟨gb315, 3, none⟩ = some (.int .i64 a0_3) := (blk_cell BK315.out 3).trans rfl; have hcz10_4 : w9.cell? ⟨gb315, 4, none⟩ = some (.int .i64 a0_4) := (blk_cell BK315.out 4).trans rfl; have hcz10_5 : w9.cell? ⟨gb315, 5, none⟩ = some (.slice A0_5 l0_5.length c0_5) := (blk_cell BK315.out 5).trans rfl; have hfz10_0 := blk_frozen BK315.out 0; have hfz10_1 := blk_frozen BK315.out 1; have hfz10_2 := blk_frozen BK315.out 2; have hfz10_3 := blk_frozen BK315.out 3; have hfz10_4 := blk_frozen BK315.out 4; have hfz10_5 := blk_frozen BK315.out 5) | ((with_reducible refine gate_callee (f := 28) rfl ?_); refine goesL_ (some 4) rfl rfl Tryd.func28 (by kernel_rfl) rfl #[.agg #[.int .i64 a0_0, .int .i64 a0_1, .string a0_2, .int .i64 a0_3, .int .i64 a0_4, .slice A0_5 l0_5.length c0_5]] rfl (by (try simp only [List.map_toArray, List.map_cons, List.map_nil]); first | done | rfl | (simp only [List.length_drop, List.length_take]; rfl)) ?_; (with_reducible refine (sizarref12_Parts.calls k a0_0 a0_1 a0_2 a0_3 a0_4 _ _ l0_5 t316 _ ?side1 ?side2 A2.out).mono ?_); (case side1 => repeat (first | exact (Kd.C_below HR0_5.out HB.out) | (with_reducible refine Kd.C_alloc ?_ _) | (with_reducible refine Kd.C_drewN ?_ _) | (with_reducible refine Kd.C_drew ?_))); (case side2 => exact HC0_5.out); rintro e w11 ⟨rfl, hb⟩; refine ⟨_, rfl, ?_⟩; have n0_ := Aside0.mk (blk_below (g := gb315) (o := .cells #[.int .i64 a0_0, .int .i64 a0_1, .string a0_2, .int .i64 a0_3, .int .i64 a0_4, .slice A0_5 l0_5.length c0_5] 24 (0, 0)) (by (with_reducible repeat (first | refine blk_drewN ?_ _ | refine blk_drew ?_ | refine blk_alloc ?_ _)); exact BK315.out) hb); have n1_ := Aside0.mk (below_step (by repeat (first | (with_reducible first | exact HB.out | apply below_alloc | apply pw_below_drewN | apply below_drew1 | refine below_set ?_ GE315.out) | exact HB.out)) hb); clear BK315; clear HB; have BK315 := n0_; have HB := n1_; clear n0_ n1_; (try clear hb); (try clear hb2); (try clear hk); (try clear hi); have hcz12_0 : w11.cell? ⟨gb315, 0, none⟩ = some (.int .i64 a0_0) := (blk_cell BK315.out 0).trans rfl; have hcz12_1 : w11.cell? ⟨gb315, 1, none⟩ = some (.int .i64 a0_1) := (blk_cell BK315.out 1).trans rfl; have hcz12_2 : w11.cell? ⟨gb315, 2, none⟩ = some (.string a0_2) := (blk_cell BK315.out 2).trans rfl; have hcz12_3 : w11.cell? ⟨gb315, 3, none⟩ = some (.int .i64 a0_3) := (blk_cell BK315.out 3).trans rfl; have hcz12_4 : w11.cell? ⟨gb315, 4, none⟩ = some (.int .i64 a0_4) := (blk_cell BK315.out 4).trans rfl; have hcz12_5 : w11.cell? ⟨gb315, 5, none⟩ = some (.slice A0_5 l0_5.length c0_5) := (blk_cell BK315.out 5).trans rfl; have hfz12_0 := blk_frozen BK315.out 0; have hfz12_1 := blk_frozen BK315.out 1; have hfz12_2 := blk_frozen BK315.out 2; have hfz12_3 := blk_frozen BK315.out 3; have hfz12_4 := blk_frozen BK315.out 4; have hfz12_5 := blk_frozen BK315.out 5) | (go_at_call 27; (with_reducible refine (sizarref12_Depth.calls k a0_0 a0_1 a0_2 a0_3 a0_4 _ _ l0_5 t317 _ ?side1 ?side2 A7.out).mono ?_); (case side1 => repeat (first | exact (Kd.C_below HR0_5.out HB.out) | (with_reducible refine Kd.C_alloc ?_ _) | (with_reducible refine Kd.C_drewN ?_ _) | (with_reducible refine Kd.C_drew ?_))); (case side2 => exact HC0_5.out); rintro e w13 ⟨rfl, hb⟩; have n0_ := Aside0.mk (blk_below (g := gb315) (o := .cells #[.int .i64 a0_0, .int .i64 a0_1, .string a0_2, .int .i64 a0_3, .int .i64 a0_4, .slice A0_5 l0_5.length c0_5] 24 (0, 0)) (by (with_reducible repeat (first | refine blk_drewN ?_ _ | refine blk_drew ?_ | refine blk_alloc ?_ _)); exact BK315.out) hb); have n1_ := Aside0.mk (below_step (by repeat (first | (with_reducible first | exact HB.out | apply below_alloc | apply pw_below_drewN | apply below_drew1 | refine below_set ?_ GE315.out) | exact HB.out)) hb); clear BK315; clear HB; have BK315 := n0_; have HB := n1_; clear n0_ n1_; (try clear hb); (try clear hb2); (try clear hk); (try clear hi)))
      go_ret
      exact ⟨by first | rfl | (simp [errW_none, errW_some] <;> rfl) | (simp [*, errW_none, errW_some] <;> rfl), by repeat (first | (with_reducible first | exact HB.out | apply below_alloc | apply pw_below_drewN | apply below_drew1 | refine below_set ?_ GE315.out) | exact HB.out)⟩
    · rw [if_neg c8] at H
      have c8b0 : decide (16 < t317) = false := decide_eq_false c8
      clear c8
      replace H := Option.bind_eq_some_iff.mp H
      obtain ⟨t318, A140, H⟩ := H
      replace H : (if t318 = true then (some 0) else (some 120)) = some r := H
      have A14 := Aside0.mk A140
      clear A140
      by_cases c15 : t318 = true
      · subst c15
        have H1 : (some 0) = some r := by rw [if_pos rfl] at H; exact H
        clear H
        have H := H1
        clear H1
        obtain rfl := Option.some.inj H
        go_enter Tryd.func30, Tryd.ntmps30
        go_wp2_with (first | ((with_reducible refine gate_dst (N := 1) rfl ?_); refine box_event ?hg (N := 1) ?hd (cs := #[.int .i64 a0_0, .int .i64 a0_1, .string a0_2, .int .i64 a0_3, .int .i64 a0_4, .slice A0_5 l0_5.length c0_5]) (t := 24) ?hr ?_; (case hd => rfl); (case hg => rfl); (case hr => first | (go_simp; done) | (go_simp; rfl)); intro gb315 hg w16 hbox hb; have n0_ := Aside0.mk (below_step (by repeat (first | (with_reducible first | exact HB.out | apply below_alloc | apply pw_below_drewN | apply below_drew1) | exact HB.out)) hb); have n1_ := Aside0.mk (hbox); have n2_ := Aside0.mk ((by rw [hg]; exact (below_size (by repeat (first | (with_reducible first | exact HB.out | apply below_alloc | apply pw_below_drewN | apply below_drew1) | exact HB.out))) : w.heap.size ≤ gb315)); have n3_ := Aside0.mk ((by rw [hg]; exact (below_size (by repeat (first | (with_reducible first | exact HB.out | apply below_alloc | apply pw_below_drewN | apply below_drew1) | exact HB.out))) : w.heap.size ≤ gb315)); clear HB; have HB := n0_; have BK315 := n1_; have GW315 := n2_; have GE315 := n3_; clear n0_ n1_ n2_ n3_; clear hb hbox hg; have hcz17_0 : w16.cell? ⟨gb315, 0, none⟩ = some (.int .i64 a0_0) := (blk_cell BK315.out 0).trans rfl; have hcz17_1 : w16.cell? ⟨gb315, 1, none⟩ = some (.int .i64 a0_1) := (blk_cell BK315.out 1).trans rfl; have hcz17_2 : w16.cell? ⟨gb315, 2, none⟩ = some (.string a0_2) := (blk_cell BK315.out 2).trans rfl; have hcz17_3 : w16.cell? ⟨gb315, 3, none⟩ = some (.int .i64 a0_3) := (blk_cell BK315.out 3).trans rfl; have hcz17_4 : w16.cell? ⟨gb315, 4, none⟩ = some (.int .i64 a0_4) := (blk_cell BK315.out 4).trans rfl; have hcz17_5 : w16.cell? ⟨gb315, 5, none⟩ = some (.slice A0_5 l0_5.length c0_5) := (blk_cell BK315.out 5).trans rfl; have hfz17_0 := blk_frozen BK315.out 0; have hfz17_1 := blk_frozen BK315.out 1; have hfz17_2 := blk_frozen BK315.out 2; have hfz17_3 := blk_frozen BK315.out 3; have hfz17_4 := blk_frozen BK315.out 4; have hfz17_5 := blk_frozen BK315.out 5) | ((with_reducible refine gate_callee (f := 28) rfl ?_); refine goesL_ (some 4) rfl rfl Tryd.func28 (by kernel_rfl) rfl #[.agg #[.int .i64 a0_0, .int .i64 a0_1, .string a0_2, .int .i64 a0_3, .int .i64 a0_4, .slice A0_5 l0_5.length c0_5]] rfl (by (try simp only [List.map_toArray, List.map_cons, List.map_nil]); first | done | rfl | (simp only [List.length_drop, List.length_take]; rfl)) ?_; (with_reducible refine (sizarref12_Parts.calls k a0_0 a0_1 a0_2 a0_3 a0_4 _ _ l0_5 t316 _ ?side1 ?side2 A2.out).mono ?_); (case side1 => repeat (first | exact (Kd.C_below HR0_5.out HB.out) | (with_reducible refine Kd.C_alloc ?_ _) | (with_reducible refine Kd.C_drewN ?_ _) | (with_reducible refine Kd.C_drew ?_))); (case side2 => exact HC0_5.out); rintro e w18 ⟨rfl, hb⟩; refine ⟨_, rfl, ?_⟩; have n0_ := Aside0.mk (blk_below (g := gb315) (o := .cells #[.int .i64 a0_0, .int .i64 a0_1, .string a0_2, .int .i64 a0_3, .int .i64 a0_4, .slice A0_5 l0_5.length c0_5] 24 (0, 0)) (by (with_reducible repeat (first | refine blk_drewN ?_ _ | refine blk_drew ?_ | refine blk_alloc ?_ _)); exact BK315.out) hb); have n1_ := Aside0.mk (below_step (by repeat (first | (with_reducible first | exact HB.out | apply below_alloc | apply pw_below_drewN | apply below_drew1 | refine below_set ?_ GE315.out) | exact HB.out)) hb); clear BK315; clear HB; have BK315 := n0_; have HB := n1_; clear n0_ n1_; (try clear hb); (try clear hb2); (try clear hk); (try clear hi); have hcz19_0 : w18.cell? ⟨gb315, 0, none⟩ = some (.int .i64 a0_0) := (blk_cell BK315.out 0).trans rfl; have hcz19_1 : w18.cell? ⟨gb315, 1, none⟩ = some (.int .i64 a0_1) := (blk_cell BK315.out 1).trans rfl; have hcz19_2 : w18.cell? ⟨gb315, 2, none⟩ = some (.string a0_2) := (blk_cell BK315.out 2).trans rfl; have hcz19_3 : w18.cell? ⟨gb315, 3, none⟩ = some (.int .i64 a0_3) := (blk_cell BK315.out 3).trans rfl; have hcz19_4 : w18.cell? ⟨gb315, 4, none⟩ = some (.int .i64 a0_4) := (blk_cell BK315.out 4).trans rfl; have hcz19_5 : w18.cell? ⟨gb315, 5, none⟩ = some (.slice A0_5 l0_5.length c0_5) := (blk_cell BK315.out 5).trans rfl; have hfz19_0 := blk_frozen BK315.out 0; have hfz19_1 := blk_frozen BK315.out 1; have hfz19_2 := blk_frozen BK315.out 2; have hfz19_3 := blk_frozen BK315.out 3; have hfz19_4 := blk_frozen BK315.out 4; have hfz19_5 := blk_frozen BK315.out 5) | (go_at_call 27; (with_reducible refine (sizarref12_Depth.calls k a0_0 a0_1 a0_2 a0_3 a0_4 _ _ l0_5 t317 _ ?side1 ?side2 A7.out).mono ?_); (case side1 => repeat (first | exact (Kd.C_below HR0_5.out HB.out) | (with_reducible refine Kd.C_alloc ?_ _) | (with_reducible refine Kd.C_drewN ?_ _) | (with_reducible refine Kd.C_drew ?_))); (case side2 => exact HC0_5.out); rintro e w20 ⟨rfl, hb⟩; have n0_ := Aside0.mk (blk_below (g := gb315) (o := .cells #[.int .i64 a0_0, .int .i64 a0_1, .string a0_2, .int .i64 a0_3, .int .i64 a0_4, .slice A0_5 l0_5.length c0_5] 24 (0, 0)) (by (with_reducible repeat (first | refine blk_drewN ?_ _ | refine blk_drew ?_ | refine blk_alloc ?_ _)); exact BK315.out) hb); have n1_ := Aside0.mk (below_step (by repeat (first | (with_reducible first | exact HB.out | apply below_alloc | apply pw_below_drewN | apply below_drew1 | refine below_set ?_ GE315.out) | exact HB.out)) hb); clear BK315; clear HB; have BK315 := n0_; have HB := n1_; clear n0_ n1_; (try clear hb); (try clear hb2); (try clear hk); (try clear hi); have hcz21_0 : w20.cell? ⟨gb315, 0, none⟩ = some (.int .i64 a0_0) := (blk_cell BK315.out 0).trans rfl; have hcz21_1 : w20.cell? ⟨gb315, 1, none⟩ = some (.int .i64 a0_1) := (blk_cell BK315.out 1).trans rfl; have hcz21_2 : w20.cell? ⟨gb315, 2, none⟩ = some (.string a0_2) := (blk_cell BK315.out 2).trans rfl; have hcz21_3 : w20.cell? ⟨gb315, 3, none⟩ = some (.int .i64 a0_3) := (blk_cell BK315.out 3).trans rfl; have hcz21_4 : w20.cell? ⟨gb315, 4, none⟩ = some (.int .i64 a0_4) := (blk_cell BK315.out 4).trans rfl; have hcz21_5 : w20.cell? ⟨gb315, 5, none⟩ = some (.slice A0_5 l0_5.length c0_5) := (blk_cell BK315.out 5).trans rfl; have hfz21_0 := blk_frozen BK315.out 0; have hfz21_1 := blk_frozen BK315.out 1; have hfz21_2 := blk_frozen BK315.out 2; have hfz21_3 := blk_frozen BK315.out 3; have hfz21_4 := blk_frozen BK315.out 4; have hfz21_5 := blk_frozen BK315.out 5) | (go_at_call 48; (with_reducible refine (sizarref12_allFormed.calls k a0_0 a0_1 a0_2 a0_3 a0_4 _ _ l0_5 true _ ?side1 ?side2 A14.out).mono ?_); (case side1 => repeat (first | exact (Kd.C_below HR0_5.out HB.out) | (with_reducible refine Kd.C_alloc ?_ _) | (with_reducible refine Kd.C_drewN ?_ _) | (with_reducible refine Kd.C_drew ?_))); (case side2 => exact HC0_5.out); rintro e w22 ⟨rfl, hb⟩; have n0_ := Aside0.mk (blk_below (g := gb315) (o := .cells #[.int .i64 a0_0, .int .i64 a0_1, .string a0_2, .int .i64 a0_3, .int .i64 a0_4, .slice A0_5 l0_5.length c0_5] 24 (0, 0)) (by (with_reducible repeat (first | refine blk_drewN ?_ _ | refine blk_drew ?_ | refine blk_alloc ?_ _)); exact BK315.out) hb); have n1_ := Aside0.mk (below_step (by repeat (first | (with_reducible first | exact HB.out | apply below_alloc | apply pw_below_drewN | apply below_drew1 | refine below_set ?_ GE315.out) | exact HB.out)) hb); clear BK315; clear HB; have BK315 := n0_; have HB := n1_; clear n0_ n1_; (try clear hb); (try clear hb2); (try clear hk); (try clear hi)))
        go_ret
        exact ⟨by first | rfl | (simp [errW_none, errW_some] <;> rfl) | (simp [*, errW_none, errW_some] <;> rfl), by repeat (first | (with_reducible first | exact HB.out | apply below_alloc | apply pw_below_drewN | apply below_drew1 | refine below_set ?_ GE315.out) | exact HB.out)⟩
      · replace c15 := Bool.eq_false_iff.mpr c15
        subst c15
        have H1 : (some 120) = some r := by rw [if_neg (show ¬ (false = true) by decide)] at H; exact H
        clear H
        have H := H1
        clear H1
        obtain rfl := Option.some.inj H
        go_enter Tryd.func30, Tryd.ntmps30
        go_wp2_with (first | ((with_reducible refine gate_dst (N := 1) rfl ?_); refine box_event ?hg (N := 1) ?hd (cs := #[.int .i64 a0_0, .int .i64 a0_1, .string a0_2, .int .i64 a0_3, .int .i64 a0_4, .slice A0_5 l0_5.length c0_5]) (t := 24) ?hr ?_; (case hd => rfl); (case hg => rfl); (case hr => first | (go_simp; done) | (go_simp; rfl)); intro gb315 hg w23 hbox hb; have n0_ := Aside0.mk (below_step (by repeat (first | (with_reducible first | exact HB.out | apply below_alloc | apply pw_below_drewN | apply below_drew1) | exact HB.out)) hb); have n1_ := Aside0.mk (hbox); have n2_ := Aside0.mk ((by rw [hg]; exact (below_size (by repeat (first | (with_reducible first | exact HB.out | apply below_alloc | apply pw_below_drewN | apply below_drew1) | exact HB.out))) : w.heap.size ≤ gb315)); have n3_ := Aside0.mk ((by rw [hg]; exact (below_size (by repeat (first | (with_reducible first | exact HB.out | apply below_alloc | apply pw_below_drewN | apply below_drew1) | exact HB.out))) : w.heap.size ≤ gb315)); clear HB; have HB := n0_; have BK315 := n1_; have GW315 := n2_; have GE315 := n3_; clear n0_ n1_ n2_ n3_; clear hb hbox hg; have hcz24_0 : w23.cell? ⟨gb315, 0, none⟩ = some (.int .i64 a0_0) := (blk_cell BK315.out 0).trans rfl; have hcz24_1 : w23.cell? ⟨gb315, 1, none⟩ = some (.int .i64 a0_1) := (blk_cell BK315.out 1).trans rfl; have hcz24_2 : w23.cell? ⟨gb315, 2, none⟩ = some (.string a0_2) := (blk_cell BK315.out 2).trans rfl; have hcz24_3 : w23.cell? ⟨gb315, 3, none⟩ = some (.int .i64 a0_3) := (blk_cell BK315.out 3).trans rfl; have hcz24_4 : w23.cell? ⟨gb315, 4, none⟩ = some (.int .i64 a0_4) := (blk_cell BK315.out 4).trans rfl; have hcz24_5 : w23.cell? ⟨gb315, 5, none⟩ = some (.slice A0_5 l0_5.length c0_5) := (blk_cell BK315.out 5).trans rfl; have hfz24_0 := blk_frozen BK315.out 0; have hfz24_1 := blk_frozen BK315.out 1; have hfz24_2 := blk_frozen BK315.out 2; have hfz24_3 := blk_frozen BK315.out 3; have hfz24_4 := blk_frozen BK315.out 4; have hfz24_5 := blk_frozen BK315.out 5) | ((with_reducible refine gate_callee (f := 28) rfl ?_); refine goesL_ (some 4) rfl rfl Tryd.func28 (by kernel_rfl) rfl #[.agg #[.int .i64 a0_0, .int .i64 a0_1, .string a0_2, .int .i64 a0_3, .int .i64 a0_4, .slice A0_5 l0_5.length c0_5]] rfl (by (try simp only [List.map_toArray, List.map_cons, List.map_nil]); first | done | rfl | (simp only [List.length_drop, List.length_take]; rfl)) ?_; (with_reducible refine (sizarref12_Parts.calls k a0_0 a0_1 a0_2 a0_3 a0_4 _ _ l0_5 t316 _ ?side1 ?side2 A2.out).mono ?_); (case side1 => repeat (first | exact (Kd.C_below HR0_5.out HB.out) | (with_reducible refine Kd.C_alloc ?_ _) | (with_reducible refine Kd.C_drewN ?_ _) | (with_reducible refine Kd.C_drew ?_))); (case side2 => exact HC0_5.out); rintro e w25 ⟨rfl, hb⟩; refine ⟨_, rfl, ?_⟩; have n0_ := Aside0.mk (blk_below (g := gb315) (o := .cells #[.int .i64 a0_0, .int .i64 a0_1, .string a0_2, .int .i64 a0_3, .int .i64 a0_4, .slice A0_5 l0_5.length c0_5] 24 (0, 0)) (by (with_reducible repeat (first | refine blk_drewN ?_ _ | refine blk_drew ?_ | refine blk_alloc ?_ _)); exact BK315.out) hb); have n1_ := Aside0.mk (below_step (by repeat (first | (with_reducible first | exact HB.out | apply below_alloc | apply pw_below_drewN | apply below_drew1 | refine below_set ?_ GE315.out) | exact HB.out)) hb); clear BK315; clear HB; have BK315 := n0_; have HB := n1_; clear n0_ n1_; (try clear hb); (try clear hb2); (try clear hk); (try clear hi); have hcz26_0 : w25.cell? ⟨gb315, 0, none⟩ = some (.int .i64 a0_0) := (blk_cell BK315.out 0).trans rfl; have hcz26_1 : w25.cell? ⟨gb315, 1, none⟩ = some (.int .i64 a0_1) := (blk_cell BK315.out 1).trans rfl; have hcz26_2 : w25.cell? ⟨gb315, 2, none⟩ = some (.string a0_2) := (blk_cell BK315.out 2).trans rfl; have hcz26_3 : w25.cell? ⟨gb315, 3, none⟩ = some (.int .i64 a0_3) := (blk_cell BK315.out 3).trans rfl; have hcz26_4 : w25.cell? ⟨gb315, 4, none⟩ = some (.int .i64 a0_4) := (blk_cell BK315.out 4).trans rfl; have hcz26_5 : w25.cell? ⟨gb315, 5, none⟩ = some (.slice A0_5 l0_5.length c0_5) := (blk_cell BK315.out 5).trans rfl; have hfz26_0 := blk_frozen BK315.out 0; have hfz26_1 := blk_frozen BK315.out 1; have hfz26_2 := blk_frozen BK315.out 2; have hfz26_3 := blk_frozen BK315.out 3; have hfz26_4 := blk_frozen BK315.out 4; have hfz26_5 := blk_frozen BK315.out 5) | (go_at_call 27; (with_reducible refine (sizarref12_Depth.calls k a0_0 a0_1 a0_2 a0_3 a0_4 _ _ l0_5 t317 _ ?side1 ?side2 A7.out).mono ?_); (case side1 => repeat (first | exact (Kd.C_below HR0_5.out HB.out) | (with_reducible refine Kd.C_alloc ?_ _) | (with_reducible refine Kd.C_drewN ?_ _) | (with_reducible refine Kd.C_drew ?_))); (case side2 => exact HC0_5.out); rintro e w27 ⟨rfl, hb⟩; have n0_ := Aside0.mk (blk_below (g := gb315) (o := .cells #[.int .i64 a0_0, .int .i64 a0_1, .string a0_2, .int .i64 a0_3, .int .i64 a0_4, .slice A0_5 l0_5.length c0_5] 24 (0, 0)) (by (with_reducible repeat (first | refine blk_drewN ?_ _ | refine blk_drew ?_ | refine blk_alloc ?_ _)); exact BK315.out) hb); have n1_ := Aside0.mk (below_step (by repeat (first | (with_reducible first | exact HB.out | apply below_alloc | apply pw_below_drewN | apply below_drew1 | refine below_set ?_ GE315.out) | exact HB.out)) hb); clear BK315; clear HB; have BK315 := n0_; have HB := n1_; clear n0_ n1_; (try clear hb); (try clear hb2); (try clear hk); (try clear hi); have hcz28_0 : w27.cell? ⟨gb315, 0, none⟩ = some (.int .i64 a0_0) := (blk_cell BK315.out 0).trans rfl; have hcz28_1 : w27.cell? ⟨gb315, 1, none⟩ = some (.int .i64 a0_1) := (blk_cell BK315.out 1).trans rfl; have hcz28_2 : w27.cell? ⟨gb315, 2, none⟩ = some (.string a0_2) := (blk_cell BK315.out 2).trans rfl; have hcz28_3 : w27.cell? ⟨gb315, 3, none⟩ = some (.int .i64 a0_3) := (blk_cell BK315.out 3).trans rfl; have hcz28_4 : w27.cell? ⟨gb315, 4, none⟩ = some (.int .i64 a0_4) := (blk_cell BK315.out 4).trans rfl; have hcz28_5 : w27.cell? ⟨gb315, 5, none⟩ = some (.slice A0_5 l0_5.length c0_5) := (blk_cell BK315.out 5).trans rfl; have hfz28_0 := blk_frozen BK315.out 0; have hfz28_1 := blk_frozen BK315.out 1; have hfz28_2 := blk_frozen BK315.out 2; have hfz28_3 := blk_frozen BK315.out 3; have hfz28_4 := blk_frozen BK315.out 4; have hfz28_5 := blk_frozen BK315.out 5) | (go_at_call 48; (with_reducible refine (sizarref12_allFormed.calls k a0_0 a0_1 a0_2 a0_3 a0_4 _ _ l0_5 false _ ?side1 ?side2 A14.out).mono ?_); (case side1 => repeat (first | exact (Kd.C_below HR0_5.out HB.out) | (with_reducible refine Kd.C_alloc ?_ _) | (with_reducible refine Kd.C_drewN ?_ _) | (with_reducible refine Kd.C_drew ?_))); (case side2 => exact HC0_5.out); rintro e w29 ⟨rfl, hb⟩; have n0_ := Aside0.mk (blk_below (g := gb315) (o := .cells #[.int .i64 a0_0, .int .i64 a0_1, .string a0_2, .int .i64 a0_3, .int .i64 a0_4, .slice A0_5 l0_5.length c0_5] 24 (0, 0)) (by (with_reducible repeat (first | refine blk_drewN ?_ _ | refine blk_drew ?_ | refine blk_alloc ?_ _)); exact BK315.out) hb); have n1_ := Aside0.mk (below_step (by repeat (first | (with_reducible first | exact HB.out | apply below_alloc | apply pw_below_drewN | apply below_drew1 | refine below_set ?_ GE315.out) | exact HB.out)) hb); clear BK315; clear HB; have BK315 := n0_; have HB := n1_; clear n0_ n1_; (try clear hb); (try clear hb2); (try clear hk); (try clear hi)))
        go_ret
        exact ⟨by first | rfl | (simp [errW_none, errW_some] <;> rfl) | (simp [*, errW_none, errW_some] <;> rfl), by repeat (first | (with_reducible first | exact HB.out | apply below_alloc | apply pw_below_drewN | apply below_drew1 | refine below_set ?_ GE315.out) | exact HB.out)⟩
end Go.Proofs.YtabocfninjankaaDoor.P
namespace Go.Proofs.YtabocfninjankaaDoor.P
open Go.RowKit Go.Proofs.YtabocfninjankaaDoorW.PrintWords Go.Proofs.YtabocfninjankaaDoorW.PrintLast Go.Proofs.YtabocfninjankaaDoorW.PrintMore
attribute [local go_sem] Oper.semAt_some
set_option linter.unusedVariables false
set_option linter.unusedSimpArgs false
def RI (q : Int) (w : World) (e : Ending) (w' : World) : Prop := e = .returned (.int .i64 q) ∧ Below w.heap.size w w'
/-- What is asked of an entry behind another one. -/
def okS (p : Int) (x : S49) : Bool := decide (p + 1 ≤ x.f0) && decide (x.f0 ≤ 4095) && decide (0 ≤ x.f1) && decide (x.f1 ≤ 100) && decide (-1 ≤ x.f2) && decide (x.f2 ≤ 12) && (decide (x.f2 ≥ 0) == decide (x.f1 ≥ 1))
theorem fitL_cons (p : Int) (x : S49) (xs : List S49) : fitL p (x :: xs) = (okS p x && fitL x.f0 xs) := by
  simp only [fitL, okS]
  by_cases h1 : p + 1 ≤ x.f0 <;> by_cases h2 : x.f0 ≤ 4095 <;> by_cases h3 : 0 ≤ x.f1 <;> by_cases h4 : x.f1 ≤ 100 <;> by_cases h5 : -1 ≤ x.f2 <;> by_cases h6 : x.f2 ≤ 12 <;> simp [h1, h2, h3, h4, h5, h6]
theorem cell_alloc_s2 {w : World} {a : Addr} {v : Value} (o : Obj) (h : w.cell? a = some v) : (w.alloc o).cell? a = some v := (World.cell?_alloc_lt _ _ _ (World.block_lt_of_cell? w a h)).trans h
def lastC : Int → List S49 → Int
  | p, [] => p
  | _, x :: xs => lastC x.f0 xs
theorem fitL_append : ∀ (p : Int) (xs ys : List S49), fitL p (xs ++ ys) = (fitL p xs && fitL (lastC p xs) ys)
  | p, [], ys => by simp [fitL, lastC]
  | p, x :: xs, ys => by rw [List.cons_append, fitL_cons, fitL_cons, fitL_append x.f0 xs ys, lastC, Bool.and_assoc]
theorem lastC_snoc : ∀ (p : Int) (xs : List S49) (x : S49), lastC p (xs ++ [x]) = x.f0
  | p, [], x => rfl
  | p, y :: xs, x => by rw [List.cons_append, lastC, lastC_snoc]
theorem fitL_last : ∀ (p : Int) (xs : List S49), -1 ≤ p → fitL p xs = true → -1 ≤ lastC p xs ∧ (xs ≠ [] → 0 ≤ lastC p xs)
  | p, [], hp, _ => ⟨hp, fun h => absurd rfl h⟩
  | p, x :: xs, hp, h => by
    rw [fitL_cons, Bool.and_eq_true] at h
    obtain ⟨h1, h2⟩ := h
    have h0 : 0 ≤ x.f0 := by simp only [okS, Bool.and_eq_true, decide_eq_true_eq] at h1; omega
    have := fitL_last x.f0 xs (by omega) h2
    refine ⟨this.1, fun _ => ?_⟩
    by_cases hx : xs = []
    · subst hx; exact h0
    · exact this.2 hx
/-- The first k entries are in order; where the next one has to begin. -/
structure Pre (l : List S49) (k : Nat) (p : Int) : Prop where
  ok : fitL (-1) (l.take k) = true
  last : lastC (-1) (l.take k) = p
theorem Pre.zero (l : List S49) : Pre l 0 (-1) := ⟨rfl, rfl⟩
theorem Pre.bad {l : List S49} {k : Nat} {p : Int} (h : Pre l k p) (hk : k < l.length) (hb : okS p l[k] = false) (e m1 m2 : Int) : (if fitS l e m1 m2 = true then (0 : Int) else 120) = 120 := by
  have : fitL (-1) l = false := by
    rw [← List.take_append_drop k l, fitL_append, h.last, List.drop_eq_getElem_cons hk, fitL_cons, hb]
    simp
  unfold fitS
  rw [this]
  simp
theorem Pre.next {l : List S49} {k : Nat} {p : Int} (h : Pre l k p) (hk : k < l.length) (hb : okS p l[k] = true) : Pre l (k + 1) l[k].f0 := by
  refine ⟨?_, ?_⟩
  · rw [List.take_succ_eq_append_getElem hk, fitL_append, h.ok, h.last, fitL_cons, hb]; rfl
  · rw [List.take_succ_eq_append_getElem hk, lastC_snoc]
theorem Pre.all {l : List S49} {p : Int} {k : Nat} (h : Pre l k p) (hk : l.length ≤ k) : fitL (-1) l = true := by
  have := h.ok
  rwa [List.take_of_length_le hk] at this
theorem Pre.lo {l : List S49} {k : Nat} {p : Int} (h : Pre l k p) : -1 ≤ p := by
  have := (fitL_last (-1) (l.take k) (by omega) h.ok).1
  rwa [h.last] at this
theorem Pre.prev {l : List S49} {j : Nat} {p : Int} (h : Pre l (j + 1) p) (hj : j < l.length) : p = l[j].f0 := by
  rw [← h.last, List.take_succ_eq_append_getElem hj, lastC_snoc]
theorem course_quiet_yes (b : Int) (w : World) (h : 0 ≤ b ∧ b ≤ 4095) : Calls Tryd.prog 49 #[.int .i64 b] w fun e w' => e = .returned (.bool true) ∧ ∃ n, w' = w.drewN n := (course_yes b w h).mono fun _ _ ⟨e, ⟨n, hw⟩⟩ => ⟨e, n, hw⟩
theorem course_quiet_no (b : Int) (w : World) (h : ¬ (0 ≤ b ∧ b ≤ 4095)) : Calls Tryd.prog 49 #[.int .i64 b] w fun e w' => e = .returned (.bool false) ∧ ∃ n, w' = w.drewN n := (course_no b w h).mono fun _ _ ⟨e, ⟨n, hw⟩⟩ => ⟨e, n, hw⟩
set_option maxRecDepth 100000 in
set_option maxHeartbeats 8000000 in
theorem rfits_walk (A : Option Addr) (c : Nat) (l : List S49) (e m1 m2 : Int) (w : World) (hC : Kd.C k49 w A l.length l) (hc : l.length ≤ c) :
    Calls Tryd.prog 31 #[.agg #[.slice A l.length c, .int .i64 e, .int .i64 m1, .int .i64 m2]] w (RI (if fitS l e m1 m2 = true then 0 else 120) w) := by
  have hu29 := Tryd.underlying29
  have hu49 := Tryd.underlying49
  have hu27 := Tryd.underlying27
  have hm : l.length ≤ 9223372036854775807 := hC.2.1
  have HC := Aside0.mk hC
  clear hC
  generalize hq : (if fitS l e m1 m2 = true then (0 : Int) else 120) = q
  have HQ := Aside0.mk hq
  clear hq
  go_enter Tryd.func31, Tryd.ntmps31
  go_wp2
  go_loopw [3] (fun t3 wr => ∃ (k : Nat) (p : Int), t3 = .int .i64 k ∧ k ≤ l.length ∧ Aside0 (Pre l k p) ∧ Aside0 (wr.heap[w.heap.size]? = some (.cells #[.slice A l.length c, .int .i64 e, .int .i64 m1, .int .i64 m2] 29 (0, 0))) ∧ Aside0 (Below w.heap.size w wr))
    (fun t3 _ => l.length - (intOf t3).toNat)
  case atStart => exact ⟨0, -1, rfl, Nat.zero_le _, ⟨Pre.zero l⟩, ⟨blk_new _ _⟩, ⟨below_alloc (Below.refl _ w) _⟩⟩
  case round =>
    obtain ⟨k, p, rfl, hk, HP, H0, HB⟩ := hrel
    have z0 := (blk_cell H0.out 0).trans rfl
    have z1 := (blk_cell H0.out 1).trans rfl
    have z2 := (blk_cell H0.out 2).trans rfl
    have z3 := (blk_cell H0.out 3).trans rfl
    by_cases hlt : k < l.length
    · obtain ⟨ad, eA, y0, y1, y2, y3⟩ := at_T49 (Kd.C_below HC.out HB.out) (k : Int) (by omega) (by omega)
      subst eA
      rw [Int.toNat_natCast] at y0 y1 y2 y3
      have hrk : rd_T49 l (k : Int) = l[k] := by simp [rd_T49, List.getD_eq_getElem?_getD, hlt]
      obtain ⟨x, HX, hx⟩ : ∃ x, Aside0 (x = l[k]) ∧ l[k] = x := ⟨_, ⟨rfl⟩, rfl⟩
      rw [hrk, hx] at y0 y1 y2 y3
      clear hx hrk
      have BAD : okS p x = false → Aside0 (120 = q) := fun h => ⟨by rw [← HQ.out]; exact (HP.out.bad hlt (by rw [← HX.out]; exact h) e m1 m2).symm⟩
      have GOOD : okS p x = true → Aside0 (Pre l (k + 1) x.f0) := fun h => ⟨by have := HP.out.next hlt (by rw [← HX.out]; exact h); rwa [← HX.out] at this⟩
      have BAD2 := Aside0.mk BAD
      have GOOD2 := Aside0.mk GOOD
      clear BAD GOOD
      have hlo := HP.out.lo
      go_wp2
      have f0 := cell_alloc_s2 (.cells #[.int .i64 x.f0, .int .i64 x.f1, .int .i64 x.f2, .bool x.f3] 49) z0
      clear z0 z1 z2 z3 y0 y1 y2 y3
      rcases k with _ | j
      · obtain rfl : p = -1 := by have := HP.out.last; simpa [lastC] using this.symm
        by_cases hb : 0 ≤ x.f0 ∧ x.f0 ≤ 4095
        rotate_left
        · have hbad : 120 = q := (BAD2.out (by simp only [okS, Bool.and_eq_false_iff, decide_eq_false_iff_not]; omega)).out
          subst hbad
          have HBb := Aside0.mk hb
          clear BAD2 GOOD2 hb
          go_quiet ((go_at_call 49; exact Calls.quiet_of (course_quiet_no _ _ HBb.out)))
          go_wp2
          go_ret
          exact ⟨rfl, pw_below_drewN (below_alloc HB.out _) _⟩
        have HBb := Aside0.mk hb
        by_cases h3 : x.f1 < 0
        · have hbad : 120 = q := (BAD2.out (by simp only [okS, Bool.and_eq_false_iff, decide_eq_false_iff_not]; omega)).out
          subst hbad
          have g3 := decide_eq_true h3
          clear BAD2 GOOD2 hb h3
          go_quiet ((go_at_call 49; exact Calls.quiet_of (course_quiet_yes _ _ HBb.out)))
          go_wp2
          go_ret
          exact ⟨rfl, pw_below_drewN (below_alloc HB.out _) _⟩
        have g3 := decide_eq_false h3
        by_cases h4 : 100 < x.f1
        · have hbad : 120 = q := (BAD2.out (by simp only [okS, Bool.and_eq_false_iff, decide_eq_false_iff_not]; omega)).out
          subst hbad
          have g4 := decide_eq_true h4
          clear BAD2 GOOD2 hb h3 h4
          go_quiet ((go_at_call 49; exact Calls.quiet_of (course_quiet_yes _ _ HBb.out)))
          go_wp2
          go_ret
          exact ⟨rfl, pw_below_drewN (below_alloc HB.out _) _⟩
        have g4 := decide_eq_false h4
        by_cases h5 : x.f2 < -1
        · have hbad : 120 = q := (BAD2.out (by simp only [okS, Bool.and_eq_false_iff, decide_eq_false_iff_not]; omega)).out
          subst hbad
          have g5 := decide_eq_true h5
          clear BAD2 GOOD2 hb h3 h4 h5
          go_quiet ((go_at_call 49; exact Calls.quiet_of (course_quiet_yes _ _ HBb.out)))
          go_wp2
          go_ret
          exact ⟨rfl, pw_below_drewN (below_alloc HB.out _) _⟩
        have g5 := decide_eq_false h5
        by_cases h6 : 12 < x.f2
        · have hbad : 120 = q := (BAD2.out (by simp only [okS, Bool.and_eq_false_iff, decide_eq_false_iff_not]; omega)).out
          subst hbad
          have g6 := decide_eq_true h6
          clear BAD2 GOOD2 hb h3 h4 h5 h6
          go_quiet ((go_at_call 49; exact Calls.quiet_of (course_quiet_yes _ _ HBb.out)))
          go_wp2
          go_ret
          exact ⟨rfl, pw_below_drewN (below_alloc HB.out _) _⟩
        have g6 := decide_eq_false h6
        by_cases h7 : 0 ≤ x.f2
        all_goals by_cases h8 : 1 ≤ x.f1
        · have hg := GOOD2.out (by simp only [okS, Bool.and_eq_true, decide_eq_true_eq, beq_iff_eq, decide_eq_decide]; omega)
          have g7 : decide (0 ≤ x.f2) = true := by simpa using h7
          have g8 : decide (1 ≤ x.f1) = true := by simpa using h8
          clear BAD2 GOOD2 hb h3 h4 h5 h6 h7 h8
          go_quiet ((go_at_call 49; exact Calls.quiet_of (course_quiet_yes _ _ HBb.out)))
          go_wp2
          go_roundw
          case rel => exact ⟨_, x.f0, by go_num, by omega, hg, ⟨blk_drewN (blk_alloc H0.out _) _⟩, ⟨pw_below_drewN (below_alloc HB.out _) _⟩⟩
          case measure => simp [intOf]; omega
        · have hbad : 120 = q := (BAD2.out (by simp only [okS, Bool.and_eq_false_iff, decide_eq_false_iff_not, beq_eq_false_iff_ne, ne_eq, decide_eq_decide]; omega)).out
          subst hbad
          have g7 : decide (0 ≤ x.f2) = true := by simpa using h7
          have g8 : decide (1 ≤ x.f1) = false := by simpa using h8
          clear BAD2 GOOD2 hb h3 h4 h5 h6 h7 h8
          go_quiet ((go_at_call 49; exact Calls.quiet_of (course_quiet_yes _ _ HBb.out)))
          go_wp2
          go_ret
          exact ⟨rfl, pw_below_drewN (below_alloc HB.out _) _⟩
        · have hbad : 120 = q := (BAD2.out (by simp only [okS, Bool.and_eq_false_iff, decide_eq_false_iff_not, beq_eq_false_iff_ne, ne_eq, decide_eq_decide]; omega)).out
          subst hbad
          have g7 : decide (0 ≤ x.f2) = false := by simpa using h7
          have g8 : decide (1 ≤ x.f1) = true := by simpa using h8
          clear BAD2 GOOD2 hb h3 h4 h5 h6 h7 h8
          go_quiet ((go_at_call 49; exact Calls.quiet_of (course_quiet_yes _ _ HBb.out)))
          go_wp2
          go_ret
          exact ⟨rfl, pw_below_drewN (below_alloc HB.out _) _⟩
        · have hg := GOOD2.out (by simp only [okS, Bool.and_eq_true, decide_eq_true_eq, beq_iff_eq, decide_eq_decide]; omega)
          have g7 : decide (0 ≤ x.f2) = false := by simpa using h7
          have g8 : decide (1 ≤ x.f1) = false := by simpa using h8
          clear BAD2 GOOD2 hb h3 h4 h5 h6 h7 h8
          go_quiet ((go_at_call 49; exact Calls.quiet_of (course_quiet_yes _ _ HBb.out)))
          go_wp2
          go_roundw
          case rel => exact ⟨_, x.f0, by go_num, by omega, hg, ⟨blk_drewN (blk_alloc H0.out _) _⟩, ⟨pw_below_drewN (below_alloc HB.out _) _⟩⟩
          case measure => simp [intOf]; omega
      · have hj : j < l.length := by omega
        obtain ⟨ad2, eA, v0, _, _, _⟩ := at_T49 (Kd.C_below HC.out HB.out) (j : Int) (by omega) (by omega)
        obtain rfl := Option.some.inj eA
        rw [Int.toNat_natCast] at v0
        have hrj : rd_T49 l (j : Int) = l[j] := by simp [rd_T49, List.getD_eq_getElem?_getD, hj]
        have hpp := HP.out.prev hj
        rw [hrj] at v0
        generalize l[j] = q2 at v0 hpp
        subst hpp
        clear hrj eA
        have u0 := cell_alloc_s2 (.cells #[.int .i64 x.f0, .int .i64 x.f1, .int .i64 x.f2, .bool x.f3] 49) v0
        clear v0
        have hwr : IntKind.i64.wrap (((j + 1 : Nat) : Int) - 1) = (j : Int) := by rw [show ((j + 1 : Nat) : Int) - 1 = (j : Int) by omega]; exact IntWalk.i64_in _ (by omega)
        by_cases hb : 0 ≤ x.f0 ∧ x.f0 ≤ 4095
        rotate_left
        · have hbad : 120 = q := (BAD2.out (by simp only [okS, Bool.and_eq_false_iff, decide_eq_false_iff_not]; omega)).out
          subst hbad
          have HBb := Aside0.mk hb
          clear BAD2 GOOD2 hb
          go_quiet ((go_at_call 49; exact Calls.quiet_of (course_quiet_no _ _ HBb.out)))
          go_wp2
          go_ret
          exact ⟨rfl, pw_below_drewN (below_alloc HB.out _) _⟩
        have HBb := Aside0.mk hb
        by_cases h2 : x.f0 ≤ q2.f0
        · have hbad : 120 = q := (BAD2.out (by simp only [okS, Bool.and_eq_false_iff, decide_eq_false_iff_not]; omega)).out
          subst hbad
          have g2 := decide_eq_true h2
          clear BAD2 GOOD2 hb h2
          go_quiet ((go_at_call 49; exact Calls.quiet_of (course_quiet_yes _ _ HBb.out)))
          go_wp2
          go_ret
          exact ⟨rfl, pw_below_drewN (below_alloc HB.out _) _⟩
        have g2 := decide_eq_false h2
        by_cases h3 : x.f1 < 0
        · have hbad : 120 = q := (BAD2.out (by simp only [okS, Bool.and_eq_false_iff, decide_eq_false_iff_not]; omega)).out
          subst hbad
          have g3 := decide_eq_true h3
          clear BAD2 GOOD2 hb h2 h3
          go_quiet ((go_at_call 49; exact Calls.quiet_of (course_quiet_yes _ _ HBb.out)))
          go_wp2
          go_ret
          exact ⟨rfl, pw_below_drewN (below_alloc HB.out _) _⟩
        have g3 := decide_eq_false h3
        by_cases h4 : 100 < x.f1
        · have hbad : 120 = q := (BAD2.out (by simp only [okS, Bool.and_eq_false_iff, decide_eq_false_iff_not]; omega)).out
          subst hbad
          have g4 := decide_eq_true h4
          clear BAD2 GOOD2 hb h2 h3 h4
          go_quiet ((go_at_call 49; exact Calls.quiet_of (course_quiet_yes _ _ HBb.out)))
          go_wp2
          go_ret
          exact ⟨rfl, pw_below_drewN (below_alloc HB.out _) _⟩
        have g4 := decide_eq_false h4
        by_cases h5 : x.f2 < -1
        · have hbad : 120 = q := (BAD2.out (by simp only [okS, Bool.and_eq_false_iff, decide_eq_false_iff_not]; omega)).out
          subst hbad
          have g5 := decide_eq_true h5
          clear BAD2 GOOD2 hb h2 h3 h4 h5
          go_quiet ((go_at_call 49; exact Calls.quiet_of (course_quiet_yes _ _ HBb.out)))
          go_wp2
          go_ret
          exact ⟨rfl, pw_below_drewN (below_alloc HB.out _) _⟩
        have g5 := decide_eq_false h5
        by_cases h6 : 12 < x.f2
        · have hbad : 120 = q := (BAD2.out (by simp only [okS, Bool.and_eq_false_iff, decide_eq_false_iff_not]; omega)).out
          subst hbad
          have g6 := decide_eq_true h6
          clear BAD2 GOOD2 hb h2 h3 h4 h5 h6
          go_quiet ((go_at_call 49; exact Calls.quiet_of (course_quiet_yes _ _ HBb.out)))
          go_wp2
          go_ret
          exact ⟨rfl, pw_below_drewN (below_alloc HB.out _) _⟩
        have g6 := decide_eq_false h6
        by_cases h7 : 0 ≤ x.f2
        all_goals by_cases h8 : 1 ≤ x.f1
        · have hg := GOOD2.out (by simp only [okS, Bool.and_eq_true, decide_eq_true_eq, beq_iff_eq, decide_eq_decide]; omega)
          have g7 : decide (0 ≤ x.f2) = true := by simpa using h7
          have g8 : decide (1 ≤ x.f1) = true := by simpa using h8
          clear BAD2 GOOD2 hb h2 h3 h4 h5 h6 h7 h8
          go_quiet ((go_at_call 49; exact Calls.quiet_of (course_quiet_yes _ _ HBb.out)))
          go_wp2
          go_roundw
          case rel => exact ⟨_, x.f0, by go_num, by omega, hg, ⟨blk_drewN (blk_alloc H0.out _) _⟩, ⟨pw_below_drewN (below_alloc HB.out _) _⟩⟩
          case measure => simp [intOf]; omega
        · have hbad : 120 = q := (BAD2.out (by simp only [okS, Bool.and_eq_false_iff, decide_eq_false_iff_not, beq_eq_false_iff_ne, ne_eq, decide_eq_decide]; omega)).out
          subst hbad
          have g7 : decide (0 ≤ x.f2) = true := by simpa using h7
          have g8 : decide (1 ≤ x.f1) = false := by simpa using h8
          clear BAD2 GOOD2 hb h2 h3 h4 h5 h6 h7 h8
          go_quiet ((go_at_call 49; exact Calls.quiet_of (course_quiet_yes _ _ HBb.out)))
          go_wp2
          go_ret
          exact ⟨rfl, pw_below_drewN (below_alloc HB.out _) _⟩
        · have hbad : 120 = q := (BAD2.out (by simp only [okS, Bool.and_eq_false_iff, decide_eq_false_iff_not, beq_eq_false_iff_ne, ne_eq, decide_eq_decide]; omega)).out
          subst hbad
          have g7 : decide (0 ≤ x.f2) = false := by simpa using h7
          have g8 : decide (1 ≤ x.f1) = true := by simpa using h8
          clear BAD2 GOOD2 hb h2 h3 h4 h5 h6 h7 h8
          go_quiet ((go_at_call 49; exact Calls.quiet_of (course_quiet_yes _ _ HBb.out)))
          go_wp2
          go_ret
          exact ⟨rfl, pw_below_drewN (below_alloc HB.out _) _⟩
        · have hg := GOOD2.out (by simp only [okS, Bool.and_eq_true, decide_eq_true_eq, beq_iff_eq, decide_eq_decide]; omega)
          have g7 : decide (0 ≤ x.f2) = false := by simpa using h7
          have g8 : decide (1 ≤ x.f1) = false := by simpa using h8
          clear BAD2 GOOD2 hb h2 h3 h4 h5 h6 h7 h8
          go_quiet ((go_at_call 49; exact Calls.quiet_of (course_quiet_yes _ _ HBb.out)))
          go_wp2
          go_roundw
          case rel => exact ⟨_, x.f0, by go_num, by omega, hg, ⟨blk_drewN (blk_alloc H0.out _) _⟩, ⟨pw_below_drewN (below_alloc HB.out _) _⟩⟩
          case measure => simp [intOf]; omega
    · have HA := Aside0.mk (HP.out.all (show l.length ≤ k by omega))
      have hqv : q = if 0 ≤ e ∧ e ≤ 10000 then if meanB m1 m2 = true then (0 : Int) else 120 else 120 := by
        rw [← HQ.out]
        unfold fitS
        rw [HA.out, if_pos rfl]
        by_cases he : 0 ≤ e ∧ e ≤ 10000
        · rw [if_pos he, if_pos he]
        · rw [if_neg he, if_neg he]; rfl
      have HM := Aside0.mk (show MeanTells m1 m2 (meanB m1 m2) from (meanR_ev m1 m2).get)
      generalize meanB m1 m2 = m at hqv HM
      by_cases he1 : e < 0
      · rw [if_neg (by omega)] at hqv
        subst hqv
        go_wp2
        go_ret
        exact ⟨rfl, HB.out⟩
      by_cases he2 : 10000 < e
      · rw [if_neg (by omega)] at hqv
        subst hqv
        go_wp2
        go_ret
        exact ⟨rfl, HB.out⟩
      rw [if_pos (by omega)] at hqv
      cases m with
      | true =>
        rw [if_pos rfl] at hqv
        subst hqv
        go_wp2_with (go_at_call 50; refine (mean_calls HM.out _).mono ?_; rintro e w' ⟨rfl, hb⟩)
        go_ret
        exact ⟨rfl, below_step HB.out hb⟩
      | false =>
        rw [if_neg (by simp)] at hqv
        subst hqv
        go_wp2_with (go_at_call 50; refine (mean_calls HM.out _).mono ?_; rintro e w' ⟨rfl, hb⟩)
        go_ret
        exact ⟨rfl, below_step HB.out hb⟩
def sizarref12_Fits.f (k : Nat) (l0_0 : List S49) (a0_1 a0_2 a0_3 : Int) : Option Int := some (if fitS l0_0 a0_1 a0_2 a0_3 = true then 0 else 120)
theorem sizarref12_Fits.calls (k : Nat) (A0_0 : Option Addr) (c0_0 : Nat) (l0_0 : List (S49)) (a0_1 : Int) (a0_2 : Int) (a0_3 : Int) (r : Int) (w : World) (hr0_0 : Kd.C k49 w A0_0 l0_0.length l0_0) (hc0_0 : l0_0.length ≤ c0_0) (h : sizarref12_Fits.f k l0_0 a0_1 a0_2 a0_3 = some r) :
    Calls Tryd.prog 31 #[.agg #[.slice A0_0 l0_0.length c0_0, .int .i64 a0_1, .int .i64 a0_2, .int .i64 a0_3]] w fun e w' => e = .returned (.int .i64 r) ∧ Below w.heap.size w w' := by
  obtain rfl := Option.some.inj h
  exact rfits_walk A0_0 c0_0 l0_0 a0_1 a0_2 a0_3 w hr0_0 hc0_0
end Go.Proofs.YtabocfninjankaaDoor.P
namespace Go.Proofs.YtabocfninjankaaDoor.P
open Go.RowKit Go.Shelf Go.Proofs.YtabocfninjankaaDoorW.PrintWords Go.Proofs.YtabocfninjankaaDoorW.PrintLast Go.Proofs.YtabocfninjankaaDoorW.PrintMore
attribute [local go_sem] Oper.semAt_some max2_int min2_int max_two min_two
set_option linter.unusedVariables false
set_option linter.unusedSimpArgs false
def depthF (xs : List (Int × S24)) : Int := xs.foldl (fun n p => mx n p.1) 0
theorem depthF_snoc (xs : List (Int × S24)) (p : Int × S24) : depthF (xs ++ [p]) = mx (depthF xs) p.1 := by simp [depthF]
def rules_Depth.f (a0 a1 : Int) (a2 : ByteArray) (a3 a4 : Int) (l : List S24) : Option Int := some (depthF (preR 1 ⟨a0, a1, a2, a3, a4, l⟩))
set_option maxHeartbeats 4000000 in
set_option maxRecDepth 100000 in
theorem depth_in (r : S24) (A : Option Addr) (c : Nat) (w : World) (hC : Kd.C k24 w A r.f5.length r.f5) (hc : r.f5.length ≤ c) :
    CallsIn Fence.wide 6 Tryd.prog 26 #[.agg #[.int .i64 r.f0, .int .i64 r.f1, .string r.f2, .int .i64 r.f3, .int .i64 r.f4, .slice A r.f5.length c]] w
      fun e w' => e = .returned (.int .i64 (depthF (preR 1 r))) ∧ Below w.heap.size w w' := by
  generalize hv : depthF (preR 1 r) = v
  have HV := Aside0.mk hv
  clear hv
  have hu24 := Tryd.underlying24
  have HC := Aside0.mk hC
  clear hC
  refine callsIn_of_wp_marks Tryd.func26 rfl trivial ?_ rfl
  simp only [Tryd.ntmps26, List.size_toArray, List.length_cons, List.length_nil, Nat.reduceAdd, Nat.reduceSub, Array.replicate_succ, Array.replicate_zero, List.push_toArray, List.append_toArray, List.nil_append, List.cons_append]
  have cP : ∀ W, CallsIn Fence.wide 5 Tryd.prog 34 #[.agg #[.int .i64 r.f0, .int .i64 r.f1, .string r.f2, .int .i64 r.f3, .int .i64 r.f4, .slice A r.f5.length c]] W fun e w' =>
      e = .returned (.func (.func 52) #[] #[.pointer (some ⟨W.heap.size + 1, 0, none⟩), .pointer (some ⟨W.heap.size, 0, none⟩)]) ∧
      w' = (W.alloc (.cells #[.int .i64 r.f0, .int .i64 r.f1, .string r.f2, .int .i64 r.f3, .int .i64 r.f4, .slice A r.f5.length c] 24)).alloc (.cells #[.func (.func 51) #[] #[.pointer (some ⟨W.heap.size + 1, 0, none⟩)]] 82) := fun W => callsIn_wide.2 (parts_calls r A c W)
  have CP := Aside0.mk cP
  clear cP
  have hfP : Fence.wide.fn 34 := trivial
  gi_wp2_with (gi_at_call 34; refine (CP.out _).mono ?_; rintro e w' ⟨rfl, rfl⟩)
  generalize hWn : World.alloc (World.alloc _ _) (Obj.cells #[.func (.func 51) #[] #[.pointer (some ⟨_, 0, none⟩)]] 82) = Wn
  have hz : Wn.heap.size = w.heap.size + 4 := by rw [← hWn]; simp
  have hBW : Below w.heap.size w Wn := by rw [← hWn]; exact (((((Below.refl _ w).alloc (Nat.le_refl _) _).alloc (by simp) _).alloc (by simp; omega) _).alloc (by simp; omega) _)
  have bn : Wn.heap[w.heap.size + 1]? = some (.cells #[.int .i64 0] 3 (0, 0)) := by
    rw [← hWn]
    refine (Below.heap_alloc _ _ _ (by simp)).trans ((Below.heap_alloc _ _ _ (by simp)).trans (new_blk _ _ (by simp)))
  have bR : Wn.heap[w.heap.size + 1 + 1]? = some (.cells #[.int .i64 r.f0, .int .i64 r.f1, .string r.f2, .int .i64 r.f3, .int .i64 r.f4, .slice A r.f5.length c] 24 (0, 0)) := by
    rw [← hWn]
    refine (Below.heap_alloc _ _ _ (by simp)).trans (new_blk _ _ (by simp))
  have bK : Wn.heap[w.heap.size + 1 + 1 + 1]? = some (.cells #[.func (.func 51) #[] #[.pointer (some ⟨w.heap.size + 1 + 1 + 1, 0, none⟩)]] 82 (0, 0)) := by
    rw [← hWn]
    exact new_blk _ _ (by simp)
  clear hWn
  refine wpIn_rangeFunc_ownH (α := PartW w) (F := Fence.wide) (n := 6) rfl (by omega) (gf := 52) (lb := #[.pointer (some ⟨w.heap.size + 1 + 1 + 1, 0, none⟩), .pointer (some ⟨w.heap.size + 1 + 1, 0, none⟩)]) rfl trivial (enters_of Tryd.func52 (by kernel_rfl) rfl)
    (parts_stops w (fun k => k = w.heap.size + 1) Fence.wide rfl trivial trivial rfl 5 _ _ r A c Wn hc HC.out hBW (fun k hk => by omega) (by omega) bK bR)
    (fun h k => KeptC.trans h k) (fun W l o o' hl hlo ho _ => KeptC.putObj o' (by omega) hlo ho) (Below.refl _ _) (fun _ => rfl)
    (fun pre W => W.heap[w.heap.size + 1]? = some (.cells #[.int .i64 (depthF (pre.map PartQ.key))] 3 (0, 0)) ∧ Below w.heap.size w W ∧ Wn.heap.size ≤ W.heap.size)
    (fun _ _ _ => False)
    ?hI (fun _ _ _ _ _ hs _ _ => hs) ⟨bn, hBW, Nat.le_refl _⟩
    (fun x a' W => a' = { tmps := #[.agg #[.int .i64 r.f0, .int .i64 r.f1, .string r.f2, .int .i64 r.f3, .int .i64 r.f4, .slice A r.f5.length c], .pointer (some ⟨w.heap.size, 0, none⟩), .pointer (some ⟨w.heap.size + 1, 0, none⟩), .int .i64 x.d, .agg #[.int .i64 r.f0, .int .i64 r.f1, .string r.f2, .int .i64 r.f3, .int .i64 r.f4, .slice A r.f5.length c], .func (.func 52) #[] #[.pointer (some ⟨w.heap.size + 1 + 1 + 1, 0, none⟩), .pointer (some ⟨w.heap.size + 1 + 1, 0, none⟩)], .int .i64 x.d, x.cells, undef, undef, undef, undef], defers := [] })
    (fun x a' _ _ _ _ h _ _ => h) ?assign ?body ?done ?stop
  case hI =>
    rintro pre X Y row ⟨h2, h3, h4⟩ hg hr
    exact ⟨(hg.block _ (by omega) (fun e => by have := (hr _ e.symm).1; omega)).trans h2, h3.grown hg h3.size (fun k e => by have := (hr k e).1; omega), Nat.le_trans h4 hg.size⟩
  case assign =>
    rintro l pre x W K ⟨h2, h3, h4⟩ hK
    simp only [PartQ.cells]
    gi_wp2
    exact hK _ _ (KeepsFrom.refl _ _) (KeptC.refl _ _ _) ⟨h2, h3, h4⟩ rfl
  case stop =>
    rintro D c pre W hD _ h hK
    exact h.elim
  case done =>
    rintro D ys W hD hys ⟨h2, h3, h4⟩ hK
    rw [hys, HV.out] at h2
    have hz0 := (blk_cell h2 0).trans rfl
    have hf0 := blk_frozen h2 0
    have HZ : Aside0 (((W.setCell ⟨w.heap.size + 1, 0, none⟩ (.int .i64 v)).putObj D (.deferred none)).cell? ⟨w.heap.size + 1, 0, none⟩ = some (.int .i64 v)) := ⟨by
      refine (blk_cell (cs := #[.int .i64 v]) (t := 3) ((World.putObj_heap_other (by omega)).trans ?_) 0).trans rfl
      refine blk_put (cs := #[.int .i64 v]) ?_ 0 _ rfl
      exact h2⟩
    have HD : Aside0 ((W.setCell ⟨w.heap.size + 1, 0, none⟩ (.int .i64 v)).heap[D]? = some (.deferred (some []))) := ⟨(Below.heap_setCell _ _ _ _ (by show D ≠ w.heap.size + 1; omega)).trans hK⟩
    have hB3 := h3.setCell (p := ⟨w.heap.size + 1, 0, none⟩) (by show _ ≤ w.heap.size + 1; omega) (.int .i64 v)
    have HB := Aside0.mk (hB3.grown (grownBy_putObj' _ D (.deferred none)) hB3.size (fun k e => by cases e; omega))
    clear h2 h3 h4 hK hB3
    gi_wp2
    refine ⟨by simp, .inl ⟨_, _, rfl, run_takeDeferred HD.out, ?_⟩⟩
    have hz2 := HZ.out
    exact ⟨.int .i64 v, by simp [results, Tryd.results26, go_sem, hz2], rfl, HB.out⟩
  case body =>
    rintro l pre x a' W hl ⟨rr, hlr⟩ ⟨h2, h3, h4⟩ rfl hlen
    have z1 := (blk_cell h2 0).trans rfl
    have f1 := blk_frozen h2 0
    have H2 := Aside0.mk h2
    have H3 := Aside0.mk h3
    have HS : Aside0 (depthF ((pre ++ [x]).map PartQ.key) = mx (depthF (pre.map PartQ.key)) x.d) := ⟨by rw [List.map_append]; exact depthF_snoc _ _⟩
    generalize depthF (pre.map PartQ.key) = q at z1 H2 HS
    clear h2 h3 hlr
    simp only [PartQ.cells]
    by_cases hq : q < x.d
    all_goals
      gi_wp2
      refine ⟨(KeepsOthers.setCell _ _ _).from _, KeptC.setCell _ _ (by show _ ≤ w.heap.size + 1; omega) rfl, ?_, H3.out.setCell (p := ⟨w.heap.size + 1, 0, none⟩) (by show _ ≤ w.heap.size + 1; omega) _, by simp; omega⟩
      rw [HS.out]
      refine blk_put (cs := #[.int .i64 q]) ?_ 0 _ (by unfold mx; first | (rw [if_pos (by omega)]; rfl) | (rw [if_neg (by omega)]; rfl))
      exact H2.out
theorem rules_Depth.calls (a0_0 : Int) (a0_1 : Int) (a0_2 : ByteArray) (a0_3 : Int) (a0_4 : Int) (A0_5 : Option Addr) (c0_5 : Nat) (l0_5 : List (S24)) (r : Int) (w : World) (hr0_5 : Kd.C k24 w A0_5 l0_5.length l0_5) (hc0_5 : l0_5.length ≤ c0_5) (h : rules_Depth.f a0_0 a0_1 a0_2 a0_3 a0_4 l0_5 = some r) :
    Calls Tryd.prog 26 #[.agg #[.int .i64 a0_0, .int .i64 a0_1, .string a0_2, .int .i64 a0_3, .int .i64 a0_4, .slice A0_5 l0_5.length c0_5]] w fun e w' => e = .returned (.int .i64 r) ∧ Below w.heap.size w w' := by
  have hr : r = depthF (preR 1 ⟨a0_0, a0_1, a0_2, a0_3, a0_4, l0_5⟩) := (Option.some.inj h).symm
  subst hr
  exact (callsIn_wide (n := 6)).1 (depth_in ⟨a0_0, a0_1, a0_2, a0_3, a0_4, l0_5⟩ A0_5 c0_5 w hr0_5 hc0_5)
end Go.Proofs.YtabocfninjankaaDoor.P
namespace Go.Proofs.YtabocfninjankaaDoor.P
open Go.RowKit Go.Proofs.YtabocfninjankaaDoorW.PrintWords Go.Proofs.YtabocfninjankaaDoorW.PrintLast Go.Proofs.YtabocfninjankaaDoorW.PrintMore
attribute [local go_sem] max2_int min2_int max_two min_two max_three min_three max_four min_four   -- for this text's walks alone
set_option linter.unusedVariables false
set_option linter.unusedSimpArgs false
def sizarref12_SameInts.l0 : Nat → List Int → List Int → Int → Option (Bool)
 | 0, _, _, _ => none
 | k + 1, x0, x1, x5 => if x5 < (x0.length : Int) then (if 0 ≤ x5 then (if x5 < (x1.length : Int) then (if (rd x0 x5) = (rd x1 x5) then (sizarref12_SameInts.l0 k x0 x1 (wrap64 (x5 + 1))) else (some false)) else (none)) else (none)) else (some true)
def sizarref12_SameInts.f (k : Nat) (l0 : List Int) (l1 : List Int) : Option (Bool) := if (l0.length : Int) = (l1.length : Int) then (sizarref12_SameInts.l0 k l0 l1 0) else (some false)
set_option maxHeartbeats 8000000 in
set_option maxRecDepth 100000 in
theorem sizarref12_SameInts.calls (k : Nat) (A0 : Option Addr) (c0 : Nat) (l0 : List Int) (A1 : Option Addr) (c1 : Nat) (l1 : List Int) (r : Bool) (w : World) (hr0 : Kd.C (Kd.int .i64) w A0 l0.length l0) (hc0 : l0.length ≤ c0) (hr1 : Kd.C (Kd.int .i64) w A1 l1.length l1) (hc1 : l1.length ≤ c1) (h : sizarref12_SameInts.f k l0 l1 = some r) :
  Calls Tryd.prog 17 #[.slice A0 l0.length c0, .slice A1 l1.length c1] w fun e w' => e = .returned (.bool r) ∧ Drawn0 w w' := by
 have HR0 := Aside0.mk hr0
 have HC0 := Aside0.mk hc0
 clear hr0 hc0
 have HR1 := Aside0.mk hr1
 have HC1 := Aside0.mk hc1
 clear hr1 hc1
 have H : (if (l0.length : Int) = (l1.length : Int) then (sizarref12_SameInts.l0 k l0 l1 0) else (some false)) = some r := h
 clear h
 by_cases c3 : (l0.length : Int) = (l1.length : Int)
 ·rw [if_pos c3] at H
  have c3b0 : ((l0.length : Int) == (l1.length : Int)) = true := beq_iff_eq.mpr c3
  have c3b1 : ((l0.length : Int) != (l1.length : Int)) = false := bne_eq_false_iff_eq.mpr c3
  have c3b2 : (l0.length == l1.length) = true := by first | simpa using c3 | (simp at c3 ⊢; omega)
  clear c3
  have H' := Aside0.mk H
  clear H
  go_enter Tryd.func17, Tryd.ntmps17
  go_wp2
  repeat (go_quiet (fail); try go_wp2)
  go_loopg [5] k (fun kq v5 w' => ∃ (x5_1 : Int), v5 = .int .i64 x5_1 ∧ Aside0 (sizarref12_SameInts.l0 kq l0 l1 x5_1 = some r) ∧ Aside0 (kq ≤ k) ∧ Drawn0 w w')
  case atStart => exact ⟨(0), (by first | rfl | (simp; done) | (simp [*]; done)), H', ⟨Nat.le_refl _⟩, by repeat (first | exact Drawn0.refl _ | apply Drawn0.step)⟩
  case round =>
   clear H'
   try clear c1
   try clear p2
   try clear c3
   try clear c3b0
   try clear c3b1
   try clear c3b2
   obtain ⟨x5_1, rfl, HA, HK1, ⟨m1, rfl⟩⟩ := hrel
   cases gk with
   | zero => exact absurd HA.out (by simp [sizarref12_SameInts.l0])
   | succ k1 =>
    have H := HA.out
    clear HA
    simp only [sizarref12_SameInts.l0] at H
    by_cases c4 : x5_1 < (l0.length : Int)
    ·rw [if_pos c4] at H
     have c4b0 : decide (x5_1 < (l0.length : Int)) = true := decide_eq_true c4
     clear c4
     by_cases c5 : 0 ≤ x5_1
     ·rw [if_pos c5] at H
      have c5b0 : decide (0 ≤ x5_1) = true := decide_eq_true c5
      clear c5
      by_cases c6 : x5_1 < (l1.length : Int)
      ·rw [if_pos c6] at H
       have c6b0 : decide (x5_1 < (l1.length : Int)) = true := decide_eq_true c6
       clear c6
       by_cases c7 : (rd l0 x5_1) = (rd l1 x5_1)
       ·rw [if_pos c7] at H
        have c7b0 : ((rd l0 x5_1) == (rd l1 x5_1)) = true := beq_iff_eq.mpr c7
        have c7b1 : ((rd l0 x5_1) != (rd l1 x5_1)) = false := bne_eq_false_iff_eq.mpr c7
        clear c7
        have H' := Aside0.mk H
        clear H
        have p193 : 0 ≤ (x5_1 : Int) := of_decide_eq_true (by first | (with_reducible assumption) | assumption)
        have q193 : x5_1 < (l0.length : Int) := of_decide_eq_true (by first | (with_reducible assumption) | assumption)
        obtain ⟨ad193, e193, hx193_0⟩ := Kd.at_int HR0.out x5_1 p193 q193
        cases e193
        replace p193 := eq_true p193
        replace q193 := eq_true q193
        have p194 : 0 ≤ (x5_1 : Int) := of_decide_eq_true (by first | (with_reducible assumption) | assumption)
        have q194 : x5_1 < (l1.length : Int) := of_decide_eq_true (by first | (with_reducible assumption) | assumption)
        obtain ⟨ad194, e194, hx194_0⟩ := Kd.at_int HR1.out x5_1 p194 q194
        cases e194
        replace p194 := eq_true p194
        replace q194 := eq_true q194
        go_wp2
        repeat (go_quiet (fail); try go_wp2)
        go_roundg k1
        case measure => have := HK1.out; omega
        case rel => exact ⟨(wrap64 (x5_1 + 1)), (by first | rfl | (simp; done) | (simp [*]; done)), H', ⟨by have := HK1.out; omega⟩, by repeat (first | exact Drawn0.refl _ | apply Drawn0.step)⟩
       ·rw [if_neg c7] at H
        have c7b0 : ((rd l0 x5_1) == (rd l1 x5_1)) = false := beq_eq_false_iff_ne.mpr c7
        have c7b1 : ((rd l0 x5_1) != (rd l1 x5_1)) = true := bne_iff_ne.mpr c7
        obtain rfl := Option.some.inj H
        have p193 : 0 ≤ (x5_1 : Int) := of_decide_eq_true (by first | (with_reducible assumption) | assumption)
        have q193 : x5_1 < (l0.length : Int) := of_decide_eq_true (by first | (with_reducible assumption) | assumption)
        obtain ⟨ad193, e193, hx193_0⟩ := Kd.at_int HR0.out x5_1 p193 q193
        cases e193
        replace p193 := eq_true p193
        replace q193 := eq_true q193
        have p194 : 0 ≤ (x5_1 : Int) := of_decide_eq_true (by first | (with_reducible assumption) | assumption)
        have q194 : x5_1 < (l1.length : Int) := of_decide_eq_true (by first | (with_reducible assumption) | assumption)
        obtain ⟨ad194, e194, hx194_0⟩ := Kd.at_int HR1.out x5_1 p194 q194
        cases e194
        replace p194 := eq_true p194
        replace q194 := eq_true q194
        go_wp2
        repeat (go_quiet (fail); try go_wp2)
        go_ret
        exact ⟨by first | rfl | (simp; done) | (simp [*]; done), by repeat (first | exact Drawn0.refl _ | apply Drawn0.step)⟩
      ·rw [if_neg c6] at H
       exact absurd H (by simp)
     ·rw [if_neg c5] at H
      exact absurd H (by simp)
    ·rw [if_neg c4] at H
     have c4b0 : decide (x5_1 < (l0.length : Int)) = false := decide_eq_false c4
     clear c4
     obtain rfl := Option.some.inj H
     go_wp2
     repeat (go_quiet (fail); try go_wp2)
     go_ret
     exact ⟨by first | rfl | (simp; done) | (simp [*]; done), by repeat (first | exact Drawn0.refl _ | apply Drawn0.step)⟩
 ·rw [if_neg c3] at H
  have c3b0 : ((l0.length : Int) == (l1.length : Int)) = false := beq_eq_false_iff_ne.mpr c3
  have c3b1 : ((l0.length : Int) != (l1.length : Int)) = true := bne_iff_ne.mpr c3
  have c3b2 : (l0.length == l1.length) = false := by first | simpa using c3 | (simp at c3 ⊢; omega)
  obtain rfl := Option.some.inj H
  go_enter Tryd.func17, Tryd.ntmps17
  go_wp2
  repeat (go_quiet (fail); try go_wp2)
  go_ret
  exact ⟨by first | rfl | (simp; done) | (simp [*]; done), by repeat (first | exact Drawn0.refl _ | apply Drawn0.step)⟩
end Go.Proofs.YtabocfninjankaaDoor.P
