/- Texts of this claim, one behind the other: Formed, Check, Value, Px3, Px9, Px11, Px7, PureA, Opens, LayInts, Flat, Courses, Grow, Row, SeqA, LaySort, CmpG. Merged by wip/mkmerge.py. -/
import Derived.Test.YtabocfninjankaaDoorCaLs1
import Derived.StillTailTactics
import Derived.Deep.Slices
import Derived.ChangeSame
import Derived.ChangeArms
import Derived.DataReads
import Derived.Shelf.SlIterI.Nil
import Derived.Shelf.SortM.Plain
import Derived.Shelf.SortM.SortNone
import Derived.Test.YtabocfninjankaaDoorProg
import Derived.Shelf.GgSortFunc.InsertionK
import Derived.Laws.IdiomCopy
import Derived.Maps.OwnIn
import Derived.Lib.SlKeysI
import Derived.RangeFuncWrites
import Derived.RangeFuncNested
import Derived.RangeFuncCalls
import Derived.Sort.Grow
import Derived.Shelf.SlSortCmp.Insertion
import Derived.RangeFuncBound
import Derived.RangeFuncLeaves
import Derived.RangeFuncStops
import Derived.RangeFuncSeq
import Derived.Shelf.Abstract
import Derived.Shelf.AbstractIn
import Derived.Shelf.RegionOpen
import Derived.Sort.MapsRangeIn
import Derived.Sort.KeysCollected
import Derived.WalkKit
import Derived.OwnWalkIn
import Derived.TacticsInMore
import Derived.RegionIn
import Derived.LoopNIn
import Derived.LoopIn
import Derived.Maps.AppendAt
import Derived.WalkSpells
import Derived.DeepKeys4
import Derived.Shelf.SlSortCmp.WholeK
namespace Go.Proofs.YtabocfninjankaaDoor.P
open Go.RowKit Go.Proofs.YtabocfninjankaaDoorW.PrintWords Go.Proofs.YtabocfninjankaaDoorW.PrintLast Go.Proofs.YtabocfninjankaaDoorW.PrintMore
set_option linter.unusedVariables false
set_option linter.unusedSimpArgs false
def formed_1 (a1 : Int) (a2 : ByteArray) (a3 a4 : Int) (l : List S24) : Option Bool := if a1 = 0 ∧ a3 = 0 ∧ a4 = 0 then rules_kinds_1.f 1 a1 a2 a3 a4 l else some false
set_option maxHeartbeats 8000000 in
set_option maxRecDepth 100000 in
theorem formed_1_calls (a1 : Int) (a2 : ByteArray) (a3 a4 : Int) (A : Option Addr) (c : Nat) (l : List S24) (r : Bool) (w : World) (hC : Kd.C k24 w A l.length l) (hc : l.length ≤ c) (hK : KindsAt w) (h : formed_1 a1 a2 a3 a4 l = some r) :
  Calls Tryd.prog 45 #[.agg #[.int .i64 1, .int .i64 a1, .string a2, .int .i64 a3, .int .i64 a4, .slice A l.length c]] w fun e w' => e = .returned (.bool r) ∧ Below w.heap.size w w' := by
 have hu24 := Tryd.underlying24
 have hu80 := Tryd.underlying80
 have hu81 := Tryd.underlying81
 have t0 := hK.at_ 6 _ rfl
 have t1 := hK.at_ 7 _ rfl
 have t2 := hK.at_ 8 _ rfl
 have t3 := hK.at_ 9 _ rfl
 have t4 := hK.at_ 10 _ rfl
 have t5 := hK.at_ 11 _ rfl
 have HC := Aside0.mk hC
 have HK := Aside0.mk hK
 have hm : l.length ≤ 9223372036854775807 := hC.2.1
 clear hC hK
 have HB := Aside0.mk (Below.refl w.heap.size w)
 have hlw := HK.out.lt
 unfold formed_1 at h
 by_cases q_course : a1 = 0
 rotate_left
 ·rw [if_neg (by simp [q_course])] at h
  have Q := Aside0.mk q_course
  obtain rfl := Option.some.inj h
  clear h
  have q1 : (a1 != 0) = true := by simpa using q_course
  clear q_course
  go_enter Tryd.func45, Tryd.ntmps45
  go_wp2_with (first | (go_at_call 35; refine (rules_within.calls _ _ _ true _ (by rfl)).mono ?_; rintro e w' ⟨rfl, nw, rfl⟩))
  go_ret
  exact ⟨rfl, (by repeat (first | (with_reducible first | exact HB.out | apply below_alloc | apply pw_below_drewN | apply below_drew1) | exact HB.out))⟩
 subst q_course
 by_cases q_n : a3 = 0
 rotate_left
 ·rw [if_neg (by simp [q_n])] at h
  have Q := Aside0.mk q_n
  obtain rfl := Option.some.inj h
  clear h
  have q1 : (a3 != 0) = true := by simpa using q_n
  clear q_n
  go_enter Tryd.func45, Tryd.ntmps45
  go_wp2_with (first | (go_at_call 35; refine (rules_within.calls _ _ _ true _ (by rfl)).mono ?_; rintro e w' ⟨rfl, nw, rfl⟩))
  go_ret
  exact ⟨rfl, (by repeat (first | (with_reducible first | exact HB.out | apply below_alloc | apply pw_below_drewN | apply below_drew1) | exact HB.out))⟩
 subst q_n
 by_cases q_d : a4 = 0
 rotate_left
 ·rw [if_neg (by simp [q_d])] at h
  have Q := Aside0.mk q_d
  obtain rfl := Option.some.inj h
  clear h
  have q1 : (a4 != 0) = true := by simpa using q_d
  clear q_d
  go_enter Tryd.func45, Tryd.ntmps45
  go_wp2_with (first | (go_at_call 35; refine (rules_within.calls _ _ _ true _ (by rfl)).mono ?_; rintro e w' ⟨rfl, nw, rfl⟩))
  go_ret
  exact ⟨rfl, (by repeat (first | (with_reducible first | exact HB.out | apply below_alloc | apply pw_below_drewN | apply below_drew1) | exact HB.out))⟩
 subst q_d
 rw [if_pos (by simp)] at h
 have HH := Aside0.mk h
 clear h
 go_enter Tryd.func45, Tryd.ntmps45
 go_wp2_with (first | (go_at_call 35; refine (rules_within.calls _ _ _ true _ (by rfl)).mono ?_; rintro e w' ⟨rfl, nw, rfl⟩) | (go_at_call 119; refine (rules_kinds_1.calls 1 0 a2 0 0 _ _ l _ _ (by (with_reducible repeat (first | refine Kd.C_alloc ?_ _ | refine Kd.C_drewN ?_ _)); exact HC.out) hc HH.out).mono ?_; rintro e w' ⟨rfl, hb⟩))
 go_ret
 exact ⟨rfl, below_then (by repeat (first | (with_reducible first | exact HB.out | apply below_alloc | apply pw_below_drewN | apply below_drew1) | exact HB.out)) (below_size (by repeat (first | (with_reducible first | exact HB.out | apply below_alloc | apply pw_below_drewN | apply below_drew1) | exact HB.out))) hb⟩
def formed_2 (a1 : Int) (a2 : ByteArray) (a3 a4 : Int) (l : List S24) : Option Bool := if a1 = 0 ∧ a3 = 0 ∧ a4 = 0 then rules_kinds_3.f 2 a1 a2 a3 a4 l else some false
set_option maxHeartbeats 8000000 in
set_option maxRecDepth 100000 in
theorem formed_2_calls (a1 : Int) (a2 : ByteArray) (a3 a4 : Int) (A : Option Addr) (c : Nat) (l : List S24) (r : Bool) (w : World) (hC : Kd.C k24 w A l.length l) (hc : l.length ≤ c) (hK : KindsAt w) (h : formed_2 a1 a2 a3 a4 l = some r) :
  Calls Tryd.prog 45 #[.agg #[.int .i64 2, .int .i64 a1, .string a2, .int .i64 a3, .int .i64 a4, .slice A l.length c]] w fun e w' => e = .returned (.bool r) ∧ Below w.heap.size w w' := by
 have hu24 := Tryd.underlying24
 have hu80 := Tryd.underlying80
 have hu81 := Tryd.underlying81
 have t0 := hK.at_ 12 _ rfl
 have t1 := hK.at_ 13 _ rfl
 have t2 := hK.at_ 14 _ rfl
 have t3 := hK.at_ 15 _ rfl
 have t4 := hK.at_ 16 _ rfl
 have t5 := hK.at_ 17 _ rfl
 have HC := Aside0.mk hC
 have HK := Aside0.mk hK
 have hm : l.length ≤ 9223372036854775807 := hC.2.1
 clear hC hK
 have HB := Aside0.mk (Below.refl w.heap.size w)
 have hlw := HK.out.lt
 unfold formed_2 at h
 by_cases q_course : a1 = 0
 rotate_left
 ·rw [if_neg (by simp [q_course])] at h
  have Q := Aside0.mk q_course
  obtain rfl := Option.some.inj h
  clear h
  have q1 : (a1 != 0) = true := by simpa using q_course
  clear q_course
  go_enter Tryd.func45, Tryd.ntmps45
  go_wp2_with (first | (go_at_call 35; refine (rules_within.calls _ _ _ true _ (by rfl)).mono ?_; rintro e w' ⟨rfl, nw, rfl⟩))
  go_ret
  exact ⟨rfl, (by repeat (first | (with_reducible first | exact HB.out | apply below_alloc | apply pw_below_drewN | apply below_drew1) | exact HB.out))⟩
 subst q_course
 by_cases q_n : a3 = 0
 rotate_left
 ·rw [if_neg (by simp [q_n])] at h
  have Q := Aside0.mk q_n
  obtain rfl := Option.some.inj h
  clear h
  have q1 : (a3 != 0) = true := by simpa using q_n
  clear q_n
  go_enter Tryd.func45, Tryd.ntmps45
  go_wp2_with (first | (go_at_call 35; refine (rules_within.calls _ _ _ true _ (by rfl)).mono ?_; rintro e w' ⟨rfl, nw, rfl⟩))
  go_ret
  exact ⟨rfl, (by repeat (first | (with_reducible first | exact HB.out | apply below_alloc | apply pw_below_drewN | apply below_drew1) | exact HB.out))⟩
 subst q_n
 by_cases q_d : a4 = 0
 rotate_left
 ·rw [if_neg (by simp [q_d])] at h
  have Q := Aside0.mk q_d
  obtain rfl := Option.some.inj h
  clear h
  have q1 : (a4 != 0) = true := by simpa using q_d
  clear q_d
  go_enter Tryd.func45, Tryd.ntmps45
  go_wp2_with (first | (go_at_call 35; refine (rules_within.calls _ _ _ true _ (by rfl)).mono ?_; rintro e w' ⟨rfl, nw, rfl⟩))
  go_ret
  exact ⟨rfl, (by repeat (first | (with_reducible first | exact HB.out | apply below_alloc | apply pw_below_drewN | apply below_drew1) | exact HB.out))⟩
 subst q_d
 rw [if_pos (by simp)] at h
 have HH := Aside0.mk h
 clear h
 go_enter Tryd.func45, Tryd.ntmps45
 go_wp2_with (first | (go_at_call 35; refine (rules_within.calls _ _ _ true _ (by rfl)).mono ?_; rintro e w' ⟨rfl, nw, rfl⟩) | (go_at_call 121; refine (rules_kinds_3.calls 2 0 a2 0 0 _ _ l _ _ (by (with_reducible repeat (first | refine Kd.C_alloc ?_ _ | refine Kd.C_drewN ?_ _)); exact HC.out) hc HH.out).mono ?_; rintro e w' ⟨rfl, hb⟩))
 go_ret
 exact ⟨rfl, below_then (by repeat (first | (with_reducible first | exact HB.out | apply below_alloc | apply pw_below_drewN | apply below_drew1) | exact HB.out)) (below_size (by repeat (first | (with_reducible first | exact HB.out | apply below_alloc | apply pw_below_drewN | apply below_drew1) | exact HB.out))) hb⟩
def formed_3 (a1 : Int) (a2 : ByteArray) (a3 a4 : Int) (l : List S24) : Option Bool := if a1 = 0 ∧ a4 = 0 then rules_kinds_5.f 3 a1 a2 a3 a4 l else some false
set_option maxHeartbeats 8000000 in
set_option maxRecDepth 100000 in
theorem formed_3_calls (a1 : Int) (a2 : ByteArray) (a3 a4 : Int) (A : Option Addr) (c : Nat) (l : List S24) (r : Bool) (w : World) (hC : Kd.C k24 w A l.length l) (hc : l.length ≤ c) (hK : KindsAt w) (h : formed_3 a1 a2 a3 a4 l = some r) :
  Calls Tryd.prog 45 #[.agg #[.int .i64 3, .int .i64 a1, .string a2, .int .i64 a3, .int .i64 a4, .slice A l.length c]] w fun e w' => e = .returned (.bool r) ∧ Below w.heap.size w w' := by
 have hu24 := Tryd.underlying24
 have hu80 := Tryd.underlying80
 have hu81 := Tryd.underlying81
 have t0 := hK.at_ 18 _ rfl
 have t1 := hK.at_ 19 _ rfl
 have t2 := hK.at_ 20 _ rfl
 have t3 := hK.at_ 21 _ rfl
 have t4 := hK.at_ 22 _ rfl
 have t5 := hK.at_ 23 _ rfl
 have HC := Aside0.mk hC
 have HK := Aside0.mk hK
 have hm : l.length ≤ 9223372036854775807 := hC.2.1
 clear hC hK
 have HB := Aside0.mk (Below.refl w.heap.size w)
 have hlw := HK.out.lt
 unfold formed_3 at h
 by_cases q_course : a1 = 0
 rotate_left
 ·rw [if_neg (by simp [q_course])] at h
  have Q := Aside0.mk q_course
  obtain rfl := Option.some.inj h
  clear h
  have q1 : (a1 != 0) = true := by simpa using q_course
  clear q_course
  go_enter Tryd.func45, Tryd.ntmps45
  go_wp2_with (first | (go_at_call 35; refine (rules_within.calls _ _ _ true _ (by rfl)).mono ?_; rintro e w' ⟨rfl, nw, rfl⟩))
  go_ret
  exact ⟨rfl, (by repeat (first | (with_reducible first | exact HB.out | apply below_alloc | apply pw_below_drewN | apply below_drew1) | exact HB.out))⟩
 subst q_course
 by_cases q_d : a4 = 0
 rotate_left
 ·rw [if_neg (by simp [q_d])] at h
  have Q := Aside0.mk q_d
  obtain rfl := Option.some.inj h
  clear h
  have q1 : (a4 != 0) = true := by simpa using q_d
  clear q_d
  go_enter Tryd.func45, Tryd.ntmps45
  go_wp2_with (first | (go_at_call 35; refine (rules_within.calls _ _ _ true _ (by rfl)).mono ?_; rintro e w' ⟨rfl, nw, rfl⟩))
  go_ret
  exact ⟨rfl, (by repeat (first | (with_reducible first | exact HB.out | apply below_alloc | apply pw_below_drewN | apply below_drew1) | exact HB.out))⟩
 subst q_d
 rw [if_pos (by simp)] at h
 have HH := Aside0.mk h
 clear h
 go_enter Tryd.func45, Tryd.ntmps45
 go_wp2_with (first | (go_at_call 35; refine (rules_within.calls _ _ _ true _ (by rfl)).mono ?_; rintro e w' ⟨rfl, nw, rfl⟩) | (go_at_call 123; refine (rules_kinds_5.calls 3 0 a2 a3 0 _ _ l _ _ (by (with_reducible repeat (first | refine Kd.C_alloc ?_ _ | refine Kd.C_drewN ?_ _)); exact HC.out) hc HH.out).mono ?_; rintro e w' ⟨rfl, hb⟩))
 go_ret
 exact ⟨rfl, below_then (by repeat (first | (with_reducible first | exact HB.out | apply below_alloc | apply pw_below_drewN | apply below_drew1) | exact HB.out)) (below_size (by repeat (first | (with_reducible first | exact HB.out | apply below_alloc | apply pw_below_drewN | apply below_drew1) | exact HB.out))) hb⟩
def formed_4 (a1 : Int) (a2 : ByteArray) (a3 a4 : Int) (l : List S24) : Option Bool := if a1 = 0 ∧ a3 = 0 ∧ a4 = 0 then rules_kinds_7.f 4 a1 a2 a3 a4 l else some false
set_option maxHeartbeats 8000000 in
set_option maxRecDepth 100000 in
theorem formed_4_calls (a1 : Int) (a2 : ByteArray) (a3 a4 : Int) (A : Option Addr) (c : Nat) (l : List S24) (r : Bool) (w : World) (hC : Kd.C k24 w A l.length l) (hc : l.length ≤ c) (hK : KindsAt w) (h : formed_4 a1 a2 a3 a4 l = some r) :
  Calls Tryd.prog 45 #[.agg #[.int .i64 4, .int .i64 a1, .string a2, .int .i64 a3, .int .i64 a4, .slice A l.length c]] w fun e w' => e = .returned (.bool r) ∧ Below w.heap.size w w' := by
 have hu24 := Tryd.underlying24
 have hu80 := Tryd.underlying80
 have hu81 := Tryd.underlying81
 have t0 := hK.at_ 24 _ rfl
 have t1 := hK.at_ 25 _ rfl
 have t2 := hK.at_ 26 _ rfl
 have t3 := hK.at_ 27 _ rfl
 have t4 := hK.at_ 28 _ rfl
 have t5 := hK.at_ 29 _ rfl
 have HC := Aside0.mk hC
 have HK := Aside0.mk hK
 have hm : l.length ≤ 9223372036854775807 := hC.2.1
 clear hC hK
 have HB := Aside0.mk (Below.refl w.heap.size w)
 have hlw := HK.out.lt
 unfold formed_4 at h
 by_cases q_course : a1 = 0
 rotate_left
 ·rw [if_neg (by simp [q_course])] at h
  have Q := Aside0.mk q_course
  obtain rfl := Option.some.inj h
  clear h
  have q1 : (a1 != 0) = true := by simpa using q_course
  clear q_course
  go_enter Tryd.func45, Tryd.ntmps45
  go_wp2_with (first | (go_at_call 35; refine (rules_within.calls _ _ _ true _ (by rfl)).mono ?_; rintro e w' ⟨rfl, nw, rfl⟩))
  go_ret
  exact ⟨rfl, (by repeat (first | (with_reducible first | exact HB.out | apply below_alloc | apply pw_below_drewN | apply below_drew1) | exact HB.out))⟩
 subst q_course
 by_cases q_n : a3 = 0
 rotate_left
 ·rw [if_neg (by simp [q_n])] at h
  have Q := Aside0.mk q_n
  obtain rfl := Option.some.inj h
  clear h
  have q1 : (a3 != 0) = true := by simpa using q_n
  clear q_n
  go_enter Tryd.func45, Tryd.ntmps45
  go_wp2_with (first | (go_at_call 35; refine (rules_within.calls _ _ _ true _ (by rfl)).mono ?_; rintro e w' ⟨rfl, nw, rfl⟩))
  go_ret
  exact ⟨rfl, (by repeat (first | (with_reducible first | exact HB.out | apply below_alloc | apply pw_below_drewN | apply below_drew1) | exact HB.out))⟩
 subst q_n
 by_cases q_d : a4 = 0
 rotate_left
 ·rw [if_neg (by simp [q_d])] at h
  have Q := Aside0.mk q_d
  obtain rfl := Option.some.inj h
  clear h
  have q1 : (a4 != 0) = true := by simpa using q_d
  clear q_d
  go_enter Tryd.func45, Tryd.ntmps45
  go_wp2_with (first | (go_at_call 35; refine (rules_within.calls _ _ _ true _ (by rfl)).mono ?_; rintro e w' ⟨rfl, nw, rfl⟩))
  go_ret
  exact ⟨rfl, (by repeat (first | (with_reducible first | exact HB.out | apply below_alloc | apply pw_below_drewN | apply below_drew1) | exact HB.out))⟩
 subst q_d
 rw [if_pos (by simp)] at h
 have HH := Aside0.mk h
 clear h
 go_enter Tryd.func45, Tryd.ntmps45
 go_wp2_with (first | (go_at_call 35; refine (rules_within.calls _ _ _ true _ (by rfl)).mono ?_; rintro e w' ⟨rfl, nw, rfl⟩) | (go_at_call 125; refine (rules_kinds_7.calls 4 0 a2 0 0 _ _ l _ _ (by (with_reducible repeat (first | refine Kd.C_alloc ?_ _ | refine Kd.C_drewN ?_ _)); exact HC.out) hc HH.out).mono ?_; rintro e w' ⟨rfl, hb⟩))
 go_ret
 exact ⟨rfl, below_then (by repeat (first | (with_reducible first | exact HB.out | apply below_alloc | apply pw_below_drewN | apply below_drew1) | exact HB.out)) (below_size (by repeat (first | (with_reducible first | exact HB.out | apply below_alloc | apply pw_below_drewN | apply below_drew1) | exact HB.out))) hb⟩
def formed_5 (a1 : Int) (a2 : ByteArray) (a3 a4 : Int) (l : List S24) : Option Bool := if a4 = 0 ∧ l.length = 0 then rules_kinds_9.f 5 a1 a2 a3 a4 l else some false
set_option maxHeartbeats 8000000 in
set_option maxRecDepth 100000 in
theorem formed_5_calls (a1 : Int) (a2 : ByteArray) (a3 a4 : Int) (A : Option Addr) (c : Nat) (l : List S24) (r : Bool) (w : World) (hC : Kd.C k24 w A l.length l) (hc : l.length ≤ c) (hK : KindsAt w) (h : formed_5 a1 a2 a3 a4 l = some r) :
  Calls Tryd.prog 45 #[.agg #[.int .i64 5, .int .i64 a1, .string a2, .int .i64 a3, .int .i64 a4, .slice A l.length c]] w fun e w' => e = .returned (.bool r) ∧ Below w.heap.size w w' := by
 have hu24 := Tryd.underlying24
 have hu80 := Tryd.underlying80
 have hu81 := Tryd.underlying81
 have t0 := hK.at_ 30 _ rfl
 have t1 := hK.at_ 31 _ rfl
 have t2 := hK.at_ 32 _ rfl
 have t3 := hK.at_ 33 _ rfl
 have t4 := hK.at_ 34 _ rfl
 have t5 := hK.at_ 35 _ rfl
 have HC := Aside0.mk hC
 have HK := Aside0.mk hK
 have hm : l.length ≤ 9223372036854775807 := hC.2.1
 clear hC hK
 have HB := Aside0.mk (Below.refl w.heap.size w)
 have hlw := HK.out.lt
 unfold formed_5 at h
 by_cases q_d : a4 = 0
 rotate_left
 ·rw [if_neg (by simp [q_d])] at h
  have Q := Aside0.mk q_d
  obtain rfl := Option.some.inj h
  clear h
  have q1 : (a4 != 0) = true := by simpa using q_d
  clear q_d
  go_enter Tryd.func45, Tryd.ntmps45
  go_wp2_with (first | (go_at_call 35; refine (rules_within.calls _ _ _ true _ (by rfl)).mono ?_; rintro e w' ⟨rfl, nw, rfl⟩))
  go_ret
  exact ⟨rfl, (by repeat (first | (with_reducible first | exact HB.out | apply below_alloc | apply pw_below_drewN | apply below_drew1) | exact HB.out))⟩
 subst q_d
 by_cases q_kids : l.length = 0
 rotate_left
 ·rw [if_neg (by simp [q_kids])] at h
  have Q := Aside0.mk q_kids
  obtain rfl := Option.some.inj h
  clear h
  have q1 : 0 < l.length := by omega
  have q2 : decide ((l.length : Int) > 0) = true := decide_eq_true (by omega)
  clear q_kids
  go_enter Tryd.func45, Tryd.ntmps45
  go_wp2_with (first | (go_at_call 35; refine (rules_within.calls _ _ _ true _ (by rfl)).mono ?_; rintro e w' ⟨rfl, nw, rfl⟩))
  go_ret
  exact ⟨rfl, (by repeat (first | (with_reducible first | exact HB.out | apply below_alloc | apply pw_below_drewN | apply below_drew1) | exact HB.out))⟩
 have f_kids : decide ((l.length : Int) > 0) = false := decide_eq_false (by omega)
 have f_kids2 : decide (0 < l.length) = false := decide_eq_false (by omega)
 rw [if_pos (by simp [q_kids])] at h
 clear q_kids
 have HH := Aside0.mk h
 clear h
 go_enter Tryd.func45, Tryd.ntmps45
 go_wp2_with (first | (go_at_call 35; refine (rules_within.calls _ _ _ true _ (by rfl)).mono ?_; rintro e w' ⟨rfl, nw, rfl⟩) | (go_at_call 127; refine (rules_kinds_9.calls 5 a1 a2 a3 0 _ _ l _ _ (by (with_reducible repeat (first | refine Kd.C_alloc ?_ _ | refine Kd.C_drewN ?_ _)); exact HC.out) hc HH.out).mono ?_; rintro e w' ⟨rfl, hb⟩))
 go_ret
 exact ⟨rfl, below_then (by repeat (first | (with_reducible first | exact HB.out | apply below_alloc | apply pw_below_drewN | apply below_drew1) | exact HB.out)) (below_size (by repeat (first | (with_reducible first | exact HB.out | apply below_alloc | apply pw_below_drewN | apply below_drew1) | exact HB.out))) hb⟩
def formed_6 (a1 : Int) (a2 : ByteArray) (a3 a4 : Int) (l : List S24) : Option Bool := if a4 = 0 ∧ l.length = 0 then rules_kinds_11.f 6 a1 a2 a3 a4 l else some false
set_option maxHeartbeats 8000000 in
set_option maxRecDepth 100000 in
theorem formed_6_calls (a1 : Int) (a2 : ByteArray) (a3 a4 : Int) (A : Option Addr) (c : Nat) (l : List S24) (r : Bool) (w : World) (hC : Kd.C k24 w A l.length l) (hc : l.length ≤ c) (hK : KindsAt w) (h : formed_6 a1 a2 a3 a4 l = some r) :
  Calls Tryd.prog 45 #[.agg #[.int .i64 6, .int .i64 a1, .string a2, .int .i64 a3, .int .i64 a4, .slice A l.length c]] w fun e w' => e = .returned (.bool r) ∧ Below w.heap.size w w' := by
 have hu24 := Tryd.underlying24
 have hu80 := Tryd.underlying80
 have hu81 := Tryd.underlying81
 have t0 := hK.at_ 36 _ rfl
 have t1 := hK.at_ 37 _ rfl
 have t2 := hK.at_ 38 _ rfl
 have t3 := hK.at_ 39 _ rfl
 have t4 := hK.at_ 40 _ rfl
 have t5 := hK.at_ 41 _ rfl
 have HC := Aside0.mk hC
 have HK := Aside0.mk hK
 have hm : l.length ≤ 9223372036854775807 := hC.2.1
 clear hC hK
 have HB := Aside0.mk (Below.refl w.heap.size w)
 have hlw := HK.out.lt
 unfold formed_6 at h
 by_cases q_d : a4 = 0
 rotate_left
 ·rw [if_neg (by simp [q_d])] at h
  have Q := Aside0.mk q_d
  obtain rfl := Option.some.inj h
  clear h
  have q1 : (a4 != 0) = true := by simpa using q_d
  clear q_d
  go_enter Tryd.func45, Tryd.ntmps45
  go_wp2_with (first | (go_at_call 35; refine (rules_within.calls _ _ _ true _ (by rfl)).mono ?_; rintro e w' ⟨rfl, nw, rfl⟩))
  go_ret
  exact ⟨rfl, (by repeat (first | (with_reducible first | exact HB.out | apply below_alloc | apply pw_below_drewN | apply below_drew1) | exact HB.out))⟩
 subst q_d
 by_cases q_kids : l.length = 0
 rotate_left
 ·rw [if_neg (by simp [q_kids])] at h
  have Q := Aside0.mk q_kids
  obtain rfl := Option.some.inj h
  clear h
  have q1 : 0 < l.length := by omega
  have q2 : decide ((l.length : Int) > 0) = true := decide_eq_true (by omega)
  clear q_kids
  go_enter Tryd.func45, Tryd.ntmps45
  go_wp2_with (first | (go_at_call 35; refine (rules_within.calls _ _ _ true _ (by rfl)).mono ?_; rintro e w' ⟨rfl, nw, rfl⟩))
  go_ret
  exact ⟨rfl, (by repeat (first | (with_reducible first | exact HB.out | apply below_alloc | apply pw_below_drewN | apply below_drew1) | exact HB.out))⟩
 have f_kids : decide ((l.length : Int) > 0) = false := decide_eq_false (by omega)
 have f_kids2 : decide (0 < l.length) = false := decide_eq_false (by omega)
 rw [if_pos (by simp [q_kids])] at h
 clear q_kids
 have HH := Aside0.mk h
 clear h
 go_enter Tryd.func45, Tryd.ntmps45
 go_wp2_with (first | (go_at_call 35; refine (rules_within.calls _ _ _ true _ (by rfl)).mono ?_; rintro e w' ⟨rfl, nw, rfl⟩) | (go_at_call 131; refine (rules_kinds_11.calls 6 a1 a2 a3 0 _ _ l _ _ (by (with_reducible repeat (first | refine Kd.C_alloc ?_ _ | refine Kd.C_drewN ?_ _)); exact HC.out) hc HH.out).mono ?_; rintro e w' ⟨rfl, hb⟩))
 go_ret
 exact ⟨rfl, below_then (by repeat (first | (with_reducible first | exact HB.out | apply below_alloc | apply pw_below_drewN | apply below_drew1) | exact HB.out)) (below_size (by repeat (first | (with_reducible first | exact HB.out | apply below_alloc | apply pw_below_drewN | apply below_drew1) | exact HB.out))) hb⟩
def formed_7 (a1 : Int) (a2 : ByteArray) (a3 a4 : Int) (l : List S24) : Option Bool := if a1 = 0 ∧ a4 = 0 ∧ l.length = 0 then rules_kinds_13.f 7 a1 a2 a3 a4 l else some false
set_option maxHeartbeats 8000000 in
set_option maxRecDepth 100000 in
theorem formed_7_calls (a1 : Int) (a2 : ByteArray) (a3 a4 : Int) (A : Option Addr) (c : Nat) (l : List S24) (r : Bool) (w : World) (hC : Kd.C k24 w A l.length l) (hc : l.length ≤ c) (hK : KindsAt w) (h : formed_7 a1 a2 a3 a4 l = some r) :
  Calls Tryd.prog 45 #[.agg #[.int .i64 7, .int .i64 a1, .string a2, .int .i64 a3, .int .i64 a4, .slice A l.length c]] w fun e w' => e = .returned (.bool r) ∧ Below w.heap.size w w' := by
 have hu24 := Tryd.underlying24
 have hu80 := Tryd.underlying80
 have hu81 := Tryd.underlying81
 have t0 := hK.at_ 42 _ rfl
 have t1 := hK.at_ 43 _ rfl
 have t2 := hK.at_ 44 _ rfl
 have t3 := hK.at_ 45 _ rfl
 have t4 := hK.at_ 46 _ rfl
 have t5 := hK.at_ 47 _ rfl
 have HC := Aside0.mk hC
 have HK := Aside0.mk hK
 have hm : l.length ≤ 9223372036854775807 := hC.2.1
 clear hC hK
 have HB := Aside0.mk (Below.refl w.heap.size w)
 have hlw := HK.out.lt
 unfold formed_7 at h
 by_cases q_course : a1 = 0
 rotate_left
 ·rw [if_neg (by simp [q_course])] at h
  have Q := Aside0.mk q_course
  obtain rfl := Option.some.inj h
  clear h
  have q1 : (a1 != 0) = true := by simpa using q_course
  clear q_course
  go_enter Tryd.func45, Tryd.ntmps45
  go_wp2_with (first | (go_at_call 35; refine (rules_within.calls _ _ _ true _ (by rfl)).mono ?_; rintro e w' ⟨rfl, nw, rfl⟩))
  go_ret
  exact ⟨rfl, (by repeat (first | (with_reducible first | exact HB.out | apply below_alloc | apply pw_below_drewN | apply below_drew1) | exact HB.out))⟩
 subst q_course
 by_cases q_d : a4 = 0
 rotate_left
 ·rw [if_neg (by simp [q_d])] at h
  have Q := Aside0.mk q_d
  obtain rfl := Option.some.inj h
  clear h
  have q1 : (a4 != 0) = true := by simpa using q_d
  clear q_d
  go_enter Tryd.func45, Tryd.ntmps45
  go_wp2_with (first | (go_at_call 35; refine (rules_within.calls _ _ _ true _ (by rfl)).mono ?_; rintro e w' ⟨rfl, nw, rfl⟩))
  go_ret
  exact ⟨rfl, (by repeat (first | (with_reducible first | exact HB.out | apply below_alloc | apply pw_below_drewN | apply below_drew1) | exact HB.out))⟩
 subst q_d
 by_cases q_kids : l.length = 0
 rotate_left
 ·rw [if_neg (by simp [q_kids])] at h
  have Q := Aside0.mk q_kids
  obtain rfl := Option.some.inj h
  clear h
  have q1 : 0 < l.length := by omega
  have q2 : decide ((l.length : Int) > 0) = true := decide_eq_true (by omega)
  clear q_kids
  go_enter Tryd.func45, Tryd.ntmps45
  go_wp2_with (first | (go_at_call 35; refine (rules_within.calls _ _ _ true _ (by rfl)).mono ?_; rintro e w' ⟨rfl, nw, rfl⟩))
  go_ret
  exact ⟨rfl, (by repeat (first | (with_reducible first | exact HB.out | apply below_alloc | apply pw_below_drewN | apply below_drew1) | exact HB.out))⟩
 have f_kids : decide ((l.length : Int) > 0) = false := decide_eq_false (by omega)
 have f_kids2 : decide (0 < l.length) = false := decide_eq_false (by omega)
 rw [if_pos (by simp [q_kids])] at h
 clear q_kids
 have HH := Aside0.mk h
 clear h
 go_enter Tryd.func45, Tryd.ntmps45
 go_wp2_with (first | (go_at_call 35; refine (rules_within.calls _ _ _ true _ (by rfl)).mono ?_; rintro e w' ⟨rfl, nw, rfl⟩) | (go_at_call 133; refine (rules_kinds_13.calls 7 0 a2 a3 0 _ _ l _ _ (by (with_reducible repeat (first | refine Kd.C_alloc ?_ _ | refine Kd.C_drewN ?_ _)); exact HC.out) hc HH.out).mono ?_; rintro e w' ⟨rfl, hb⟩))
 go_ret
 exact ⟨rfl, below_then (by repeat (first | (with_reducible first | exact HB.out | apply below_alloc | apply pw_below_drewN | apply below_drew1) | exact HB.out)) (below_size (by repeat (first | (with_reducible first | exact HB.out | apply below_alloc | apply pw_below_drewN | apply below_drew1) | exact HB.out))) hb⟩
def formed_8 (a1 : Int) (a2 : ByteArray) (a3 a4 : Int) (l : List S24) : Option Bool := if a1 = 0 ∧ l.length = 0 then rules_kinds_15.f 8 a1 a2 a3 a4 l else some false
set_option maxHeartbeats 8000000 in
set_option maxRecDepth 100000 in
theorem formed_8_calls (a1 : Int) (a2 : ByteArray) (a3 a4 : Int) (A : Option Addr) (c : Nat) (l : List S24) (r : Bool) (w : World) (hC : Kd.C k24 w A l.length l) (hc : l.length ≤ c) (hK : KindsAt w) (h : formed_8 a1 a2 a3 a4 l = some r) :
  Calls Tryd.prog 45 #[.agg #[.int .i64 8, .int .i64 a1, .string a2, .int .i64 a3, .int .i64 a4, .slice A l.length c]] w fun e w' => e = .returned (.bool r) ∧ Below w.heap.size w w' := by
 have hu24 := Tryd.underlying24
 have hu80 := Tryd.underlying80
 have hu81 := Tryd.underlying81
 have t0 := hK.at_ 48 _ rfl
 have t1 := hK.at_ 49 _ rfl
 have t2 := hK.at_ 50 _ rfl
 have t3 := hK.at_ 51 _ rfl
 have t4 := hK.at_ 52 _ rfl
 have t5 := hK.at_ 53 _ rfl
 have HC := Aside0.mk hC
 have HK := Aside0.mk hK
 have hm : l.length ≤ 9223372036854775807 := hC.2.1
 clear hC hK
 have HB := Aside0.mk (Below.refl w.heap.size w)
 have hlw := HK.out.lt
 unfold formed_8 at h
 by_cases q_course : a1 = 0
 rotate_left
 ·rw [if_neg (by simp [q_course])] at h
  have Q := Aside0.mk q_course
  obtain rfl := Option.some.inj h
  clear h
  have q1 : (a1 != 0) = true := by simpa using q_course
  clear q_course
  go_enter Tryd.func45, Tryd.ntmps45
  go_wp2_with (first | (go_at_call 35; refine (rules_within.calls _ _ _ true _ (by rfl)).mono ?_; rintro e w' ⟨rfl, nw, rfl⟩))
  go_ret
  exact ⟨rfl, (by repeat (first | (with_reducible first | exact HB.out | apply below_alloc | apply pw_below_drewN | apply below_drew1) | exact HB.out))⟩
 subst q_course
 by_cases q_kids : l.length = 0
 rotate_left
 ·rw [if_neg (by simp [q_kids])] at h
  have Q := Aside0.mk q_kids
  obtain rfl := Option.some.inj h
  clear h
  have q1 : 0 < l.length := by omega
  have q2 : decide ((l.length : Int) > 0) = true := decide_eq_true (by omega)
  clear q_kids
  go_enter Tryd.func45, Tryd.ntmps45
  go_wp2_with (first | (go_at_call 35; refine (rules_within.calls _ _ _ true _ (by rfl)).mono ?_; rintro e w' ⟨rfl, nw, rfl⟩))
  go_ret
  exact ⟨rfl, (by repeat (first | (with_reducible first | exact HB.out | apply below_alloc | apply pw_below_drewN | apply below_drew1) | exact HB.out))⟩
 have f_kids : decide ((l.length : Int) > 0) = false := decide_eq_false (by omega)
 have f_kids2 : decide (0 < l.length) = false := decide_eq_false (by omega)
 rw [if_pos (by simp [q_kids])] at h
 clear q_kids
 have HH := Aside0.mk h
 clear h
 go_enter Tryd.func45, Tryd.ntmps45
 go_wp2_with (first | (go_at_call 35; refine (rules_within.calls _ _ _ true _ (by rfl)).mono ?_; rintro e w' ⟨rfl, nw, rfl⟩) | (go_at_call 135; refine (rules_kinds_15.calls 8 0 a2 a3 a4 _ _ l _ _ (by (with_reducible repeat (first | refine Kd.C_alloc ?_ _ | refine Kd.C_drewN ?_ _)); exact HC.out) hc HH.out).mono ?_; rintro e w' ⟨rfl, hb⟩))
 go_ret
 exact ⟨rfl, below_then (by repeat (first | (with_reducible first | exact HB.out | apply below_alloc | apply pw_below_drewN | apply below_drew1) | exact HB.out)) (below_size (by repeat (first | (with_reducible first | exact HB.out | apply below_alloc | apply pw_below_drewN | apply below_drew1) | exact HB.out))) hb⟩
def formed_9 (a1 : Int) (a2 : ByteArray) (a3 a4 : Int) (l : List S24) : Option Bool := if a3 = 0 ∧ a4 = 0 ∧ l.length = 0 then rules_course.f 9 a1 a2 a3 a4 l else some false
set_option maxHeartbeats 8000000 in
set_option maxRecDepth 100000 in
theorem formed_9_calls (a1 : Int) (a2 : ByteArray) (a3 a4 : Int) (A : Option Addr) (c : Nat) (l : List S24) (r : Bool) (w : World) (hC : Kd.C k24 w A l.length l) (hc : l.length ≤ c) (hK : KindsAt w) (h : formed_9 a1 a2 a3 a4 l = some r) :
  Calls Tryd.prog 45 #[.agg #[.int .i64 9, .int .i64 a1, .string a2, .int .i64 a3, .int .i64 a4, .slice A l.length c]] w fun e w' => e = .returned (.bool r) ∧ Below w.heap.size w w' := by
 have hu24 := Tryd.underlying24
 have hu80 := Tryd.underlying80
 have hu81 := Tryd.underlying81
 have t0 := hK.at_ 54 _ rfl
 have t1 := hK.at_ 55 _ rfl
 have t2 := hK.at_ 56 _ rfl
 have t3 := hK.at_ 57 _ rfl
 have t4 := hK.at_ 58 _ rfl
 have t5 := hK.at_ 59 _ rfl
 have HC := Aside0.mk hC
 have HK := Aside0.mk hK
 have hm : l.length ≤ 9223372036854775807 := hC.2.1
 clear hC hK
 have HB := Aside0.mk (Below.refl w.heap.size w)
 have hlw := HK.out.lt
 unfold formed_9 at h
 by_cases q_n : a3 = 0
 rotate_left
 ·rw [if_neg (by simp [q_n])] at h
  have Q := Aside0.mk q_n
  obtain rfl := Option.some.inj h
  clear h
  have q1 : (a3 != 0) = true := by simpa using q_n
  clear q_n
  go_enter Tryd.func45, Tryd.ntmps45
  go_wp2_with (first | (go_at_call 35; refine (rules_within.calls _ _ _ true _ (by rfl)).mono ?_; rintro e w' ⟨rfl, nw, rfl⟩))
  go_ret
  exact ⟨rfl, (by repeat (first | (with_reducible first | exact HB.out | apply below_alloc | apply pw_below_drewN | apply below_drew1) | exact HB.out))⟩
 subst q_n
 by_cases q_d : a4 = 0
 rotate_left
 ·rw [if_neg (by simp [q_d])] at h
  have Q := Aside0.mk q_d
  obtain rfl := Option.some.inj h
  clear h
  have q1 : (a4 != 0) = true := by simpa using q_d
  clear q_d
  go_enter Tryd.func45, Tryd.ntmps45
  go_wp2_with (first | (go_at_call 35; refine (rules_within.calls _ _ _ true _ (by rfl)).mono ?_; rintro e w' ⟨rfl, nw, rfl⟩))
  go_ret
  exact ⟨rfl, (by repeat (first | (with_reducible first | exact HB.out | apply below_alloc | apply pw_below_drewN | apply below_drew1) | exact HB.out))⟩
 subst q_d
 by_cases q_kids : l.length = 0
 rotate_left
 ·rw [if_neg (by simp [q_kids])] at h
  have Q := Aside0.mk q_kids
  obtain rfl := Option.some.inj h
  clear h
  have q1 : 0 < l.length := by omega
  have q2 : decide ((l.length : Int) > 0) = true := decide_eq_true (by omega)
  clear q_kids
  go_enter Tryd.func45, Tryd.ntmps45
  go_wp2_with (first | (go_at_call 35; refine (rules_within.calls _ _ _ true _ (by rfl)).mono ?_; rintro e w' ⟨rfl, nw, rfl⟩))
  go_ret
  exact ⟨rfl, (by repeat (first | (with_reducible first | exact HB.out | apply below_alloc | apply pw_below_drewN | apply below_drew1) | exact HB.out))⟩
 have f_kids : decide ((l.length : Int) > 0) = false := decide_eq_false (by omega)
 have f_kids2 : decide (0 < l.length) = false := decide_eq_false (by omega)
 rw [if_pos (by simp [q_kids])] at h
 clear q_kids
 have HH := Aside0.mk h
 clear h
 go_enter Tryd.func45, Tryd.ntmps45
 go_wp2_with (first | (go_at_call 35; refine (rules_within.calls _ _ _ true _ (by rfl)).mono ?_; rintro e w' ⟨rfl, nw, rfl⟩) | (go_at_call 128; refine (rules_course.calls 9 a1 a2 0 0 _ _ l _ _ (by (with_reducible repeat (first | refine Kd.C_alloc ?_ _ | refine Kd.C_drewN ?_ _)); exact HC.out) hc HH.out).mono ?_; rintro e w' ⟨rfl, hb⟩))
 go_ret
 exact ⟨rfl, below_then (by repeat (first | (with_reducible first | exact HB.out | apply below_alloc | apply pw_below_drewN | apply below_drew1) | exact HB.out)) (below_size (by repeat (first | (with_reducible first | exact HB.out | apply below_alloc | apply pw_below_drewN | apply below_drew1) | exact HB.out))) hb⟩
def rules_formed.f (a0 a1 : Int) (a2 : ByteArray) (a3 a4 : Int) (l : List S24) : Option Bool :=
 if a0 = 1 then formed_1 a1 a2 a3 a4 l else if a0 = 2 then formed_2 a1 a2 a3 a4 l else if a0 = 3 then formed_3 a1 a2 a3 a4 l else if a0 = 4 then formed_4 a1 a2 a3 a4 l else if a0 = 5 then formed_5 a1 a2 a3 a4 l else if a0 = 6 then formed_6 a1 a2 a3 a4 l else if a0 = 7 then formed_7 a1 a2 a3 a4 l else if a0 = 8 then formed_8 a1 a2 a3 a4 l else if a0 = 9 then formed_9 a1 a2 a3 a4 l else some false
set_option maxHeartbeats 8000000 in
theorem rules_formed.calls (a0 a1 : Int) (a2 : ByteArray) (a3 a4 : Int) (A : Option Addr) (c : Nat) (l : List S24) (r : Bool) (w : World) (hC : Kd.C k24 w A l.length l) (hc : l.length ≤ c) (hK : KindsAt w) (h : rules_formed.f a0 a1 a2 a3 a4 l = some r) :
  Calls Tryd.prog 45 #[.agg #[.int .i64 a0, .int .i64 a1, .string a2, .int .i64 a3, .int .i64 a4, .slice A l.length c]] w fun e w' => e = .returned (.bool r) ∧ Below w.heap.size w w' := by
 unfold rules_formed.f at h
 by_cases h1 : a0 = 1
 ·rw [if_pos h1] at h
  subst h1
  exact formed_1_calls a1 a2 a3 a4 A c l r w hC hc hK h
 rw [if_neg h1] at h
 by_cases h2 : a0 = 2
 ·rw [if_pos h2] at h
  subst h2
  exact formed_2_calls a1 a2 a3 a4 A c l r w hC hc hK h
 rw [if_neg h2] at h
 by_cases h3 : a0 = 3
 ·rw [if_pos h3] at h
  subst h3
  exact formed_3_calls a1 a2 a3 a4 A c l r w hC hc hK h
 rw [if_neg h3] at h
 by_cases h4 : a0 = 4
 ·rw [if_pos h4] at h
  subst h4
  exact formed_4_calls a1 a2 a3 a4 A c l r w hC hc hK h
 rw [if_neg h4] at h
 by_cases h5 : a0 = 5
 ·rw [if_pos h5] at h
  subst h5
  exact formed_5_calls a1 a2 a3 a4 A c l r w hC hc hK h
 rw [if_neg h5] at h
 by_cases h6 : a0 = 6
 ·rw [if_pos h6] at h
  subst h6
  exact formed_6_calls a1 a2 a3 a4 A c l r w hC hc hK h
 rw [if_neg h6] at h
 by_cases h7 : a0 = 7
 ·rw [if_pos h7] at h
  subst h7
  exact formed_7_calls a1 a2 a3 a4 A c l r w hC hc hK h
 rw [if_neg h7] at h
 by_cases h8 : a0 = 8
 ·rw [if_pos h8] at h
  subst h8
  exact formed_8_calls a1 a2 a3 a4 A c l r w hC hc hK h
 rw [if_neg h8] at h
 by_cases h9 : a0 = 9
 ·rw [if_pos h9] at h
  subst h9
  exact formed_9_calls a1 a2 a3 a4 A c l r w hC hc hK h
 rw [if_neg h9] at h
 obtain rfl := Option.some.inj h
 have hw : rules_within.f a0 1 9 = some false := by
  unfold rules_within.f
  by_cases g : a0 ≥ 1
  ·rw [if_pos g, decide_eq_false (by omega)]
  ·rw [if_neg g]
 have HW := Aside0.mk hw
 have HB := Aside0.mk (Below.refl w.heap.size w)
 have hu24 := Tryd.underlying24
 clear h hC hc hw h1 h2 h3 h4 h5 h6 h7 h8 h9
 go_enter Tryd.func45, Tryd.ntmps45
 go_wp2_with (first | (go_at_call 35; refine (rules_within.calls _ _ _ false _ HW.out).mono ?_; rintro e w' ⟨rfl, nw, rfl⟩))
 go_ret
 exact ⟨rfl, (by repeat (first | (with_reducible first | exact HB.out | apply below_alloc | apply pw_below_drewN | apply below_drew1) | exact HB.out))⟩
end Go.Proofs.YtabocfninjankaaDoor.P
namespace Go.Proofs.YtabocfninjankaaDoor.P
open Go.RowKit Go.Shelf Go.Proofs.YtabocfninjankaaDoorW.PrintWords Go.Proofs.YtabocfninjankaaDoorW.PrintLast Go.Proofs.YtabocfninjankaaDoorW.PrintMore
attribute [local go_sem] Oper.semAt_some
set_option linter.unusedVariables false
set_option linter.unusedSimpArgs false
/-- Has a part the right fields? -/
def formedB (r : S24) : Bool := (rules_formed.f r.f0 r.f1 r.f2 r.f3 r.f4 r.f5).getD false
theorem within_some (a b c : Int) : ∃ r, rules_within.f a b c = some r := by unfold rules_within.f; split <;> exact ⟨_, rfl⟩
theorem bind_total {α β : Type} {x : Option α} {f : α → Option β} (hx : ∃ a, x = some a) (hf : ∀ a, ∃ b, f a = some b) : ∃ b, x.bind f = some b := by
 obtain ⟨a, rfl⟩ := hx
 exact hf a
theorem if_total {β : Type} {p : Prop} [Decidable p] {x y : Option β} (hx : ∃ b, x = some b) (hy : ∃ b, y = some b) : ∃ b, (if p then x else y) = some b := by split <;> assumption
theorem check_some (a b : Int) : ∃ r, ratio_Check.f a b = some r := by
 unfold ratio_Check.f ratio_common.f
 repeat' first | exact ⟨_, rfl⟩ | apply if_total | (apply bind_total (x := some _) ⟨_, rfl⟩; intro _)
theorem mean_some (a b : Int) : ∃ r, rules_mean.f a b = some r := by
 unfold rules_mean.f
 refine bind_total (check_some a b) fun _ => ?_
 repeat' first | exact ⟨_, rfl⟩ | apply if_total
theorem course_some (a b : Int) (s : ByteArray) (c d : Int) (l : List S24) : ∃ r, rules_course.f a b s c d l = some r := by
 unfold rules_course.f
 exact bind_total (within_some _ _ _) fun _ => ⟨_, rfl⟩
theorem formed_some (r : S24) : rules_formed.f r.f0 r.f1 r.f2 r.f3 r.f4 r.f5 = some (formedB r) := by
 have h : ∃ b, rules_formed.f r.f0 r.f1 r.f2 r.f3 r.f4 r.f5 = some b := by
  unfold rules_formed.f formed_1 formed_2 formed_3 formed_4 formed_5 formed_6 formed_7 formed_8 formed_9 rules_kinds_1.f rules_kinds_3.f rules_kinds_5.f rules_kinds_7.f rules_kinds_9.f rules_kinds_11.f rules_kinds_13.f rules_kinds_15.f
  repeat' first | exact ⟨_, rfl⟩ | apply if_total | exact course_some _ _ _ _ _ _ | exact mean_some _ _ | exact within_some _ _ _ | (refine bind_total (within_some _ _ _) fun _ => ?_) | (refine bind_total (mean_some _ _) fun _ => ?_) | (refine bind_total (course_some _ _ _ _ _ _) fun _ => ?_)
 obtain ⟨b, hb⟩ := h
 unfold formedB
 rw [hb]
 rfl
/-- Parts, the first of which is the i-th, are few, not deep, and have the right fields. -/
def chk : Nat → List (Int × S24) → Bool
 | _, [] => true
 | i, (d, p) :: xs => if 200 < i + 1 then false else if 16 < d then false else if formedB p = true then chk (i + 1) xs else false
def chkR (r : S24) : Bool := chk 0 (preR 1 r)
def rules_Check.f (a0 a1 : Int) (a2 : ByteArray) (a3 a4 : Int) (l : List S24) : Option Int := some (if chkR ⟨a0, a1, a2, a3, a4, l⟩ = true then 0 else 120)
theorem new_blk (W : World) (o : Obj) {b : Nat} (hb : b = W.heap.size) : (W.alloc o).heap[b]? = some o := by subst hb; exact blk_new _ _
theorem KeptC.setCell {b0 : Nat} {X : Nat → Prop} {W : World} (p : Addr) (u : Value) (hb : b0 ≤ p.block) (hX : X p.block) : KeptC b0 X W (W.setCell p u) :=
 ⟨by simp, fun k hk => Below.heap_setCell W p u k (by omega), fun k cs t m hx hc => (Below.heap_setCell W p u k (fun e => hx (by rw [e]; exact hX))).trans hc⟩
theorem KeptC.of_below {b0 : Nat} {X : Nat → Prop} {W W' : World} (hb : Below W.heap.size W W') (hle : b0 ≤ W.heap.size) : KeptC b0 X W W' :=
 ⟨hb.size, fun k hk => hb.block k (by omega), fun k cs t m _ hc => (hb.block k (Array.getElem?_eq_some_iff.1 hc).1).trans hc⟩
theorem keepsFrom_below {B : Nat} {W W' : World} (hb : Below W.heap.size W W') : KeepsFrom B W W' := ⟨hb.size, fun k o _ hk _ => (hb.block k (Array.getElem?_eq_some_iff.1 hk).1).trans hk⟩
set_option maxHeartbeats 4000000 in
set_option maxRecDepth 100000 in
theorem check_in (r : S24) (A : Option Addr) (c : Nat) (w : World) (hC : Kd.C k24 w A r.f5.length r.f5) (hc : r.f5.length ≤ c) (hK : KindsAt w) :
  CallsIn Fence.wide 6 Tryd.prog 20 #[.agg #[.int .i64 r.f0, .int .i64 r.f1, .string r.f2, .int .i64 r.f3, .int .i64 r.f4, .slice A r.f5.length c]] w
   fun e w' => e = .returned (.int .i64 (if chkR r = true then 0 else 120)) ∧ Below w.heap.size w w' := by
 generalize hv : (if chkR r = true then (0 : Int) else 120) = v
 have HV := Aside0.mk hv
 clear hv
 have hu24 := Tryd.underlying24
 have HC := Aside0.mk hC
 have HK := Aside0.mk hK
 clear hC hK
 refine callsIn_of_wp_marks Tryd.func20 rfl trivial ?_ rfl
 simp only [Tryd.ntmps20, List.size_toArray, List.length_cons, List.length_nil, Nat.reduceAdd, Nat.reduceSub, Array.replicate_succ, Array.replicate_zero, List.push_toArray, List.append_toArray, List.nil_append, List.cons_append]
 have cP : ∀ W, CallsIn Fence.wide 5 Tryd.prog 34 #[.agg #[.int .i64 r.f0, .int .i64 r.f1, .string r.f2, .int .i64 r.f3, .int .i64 r.f4, .slice A r.f5.length c]] W fun e w' =>
   e = .returned (.func (.func 52) #[] #[.pointer (some ⟨W.heap.size + 1, 0, none⟩), .pointer (some ⟨W.heap.size, 0, none⟩)]) ∧
   w' = (W.alloc (.cells #[.int .i64 r.f0, .int .i64 r.f1, .string r.f2, .int .i64 r.f3, .int .i64 r.f4, .slice A r.f5.length c] 24)).alloc (.cells #[.func (.func 51) #[] #[.pointer (some ⟨W.heap.size + 1, 0, none⟩)]] 82) := fun W => callsIn_wide.2 (parts_calls r A c W)
 have CP := Aside0.mk cP
 clear cP
 have hfP : Fence.wide.fn 34 := trivial
 gi_wp2_with (gi_at_call 34; refine (CP.out _).mono ?_; rintro e w' ⟨rfl, rfl⟩)
 generalize hWn : World.alloc (World.alloc _ _) (Obj.cells #[.func (.func 51) #[] #[.pointer (some ⟨_, 0, none⟩)]] 82) = Wn
 have hz : Wn.heap.size = w.heap.size + 5 := by rw [← hWn]; simp
 have hBW : Below w.heap.size w Wn := by rw [← hWn]; exact ((((((Below.refl _ w).alloc (Nat.le_refl _) _).alloc (by simp) _).alloc (by simp; omega) _).alloc (by simp; omega) _).alloc (by simp; omega) _)
 have be : Wn.heap[w.heap.size + 1]? = some (.cells #[.int .i64 0] 32 (0, 0)) := by
  rw [← hWn]
  refine (Below.heap_alloc _ _ _ (by simp)).trans ((Below.heap_alloc _ _ _ (by simp)).trans ((Below.heap_alloc _ _ _ (by simp)).trans (new_blk _ _ (by simp))))
 have bn : Wn.heap[w.heap.size + 1 + 1]? = some (.cells #[.int .i64 0] 3 (0, 0)) := by
  rw [← hWn]
  refine (Below.heap_alloc _ _ _ (by simp)).trans ((Below.heap_alloc _ _ _ (by simp)).trans (new_blk _ _ (by simp)))
 have bR : Wn.heap[w.heap.size + 1 + 1 + 1]? = some (.cells #[.int .i64 r.f0, .int .i64 r.f1, .string r.f2, .int .i64 r.f3, .int .i64 r.f4, .slice A r.f5.length c] 24 (0, 0)) := by
  rw [← hWn]
  refine (Below.heap_alloc _ _ _ (by simp)).trans (new_blk _ _ (by simp))
 have bK : Wn.heap[w.heap.size + 1 + 1 + 1 + 1]? = some (.cells #[.func (.func 51) #[] #[.pointer (some ⟨w.heap.size + 1 + 1 + 1 + 1, 0, none⟩)]] 82 (0, 0)) := by
  rw [← hWn]
  exact new_blk _ _ (by simp)
 clear hWn
 refine wpIn_rangeFunc_ownH (α := PartW w) (F := Fence.wide) (n := 6) rfl (by omega) (gf := 52) (lb := #[.pointer (some ⟨w.heap.size + 1 + 1 + 1 + 1, 0, none⟩), .pointer (some ⟨w.heap.size + 1 + 1 + 1, 0, none⟩)]) rfl trivial (enters_of Tryd.func52 (by kernel_rfl) rfl)
  (parts_stops w (fun k => k = w.heap.size + 1 ∨ k = w.heap.size + 1 + 1) Fence.wide rfl trivial trivial rfl 5 _ _ r A c Wn hc HC.out hBW (fun k hk => by omega) (by omega) bK bR)
  (fun h k => KeptC.trans h k) (fun W l o o' hl hlo ho _ => KeptC.putObj o' (by omega) hlo ho) (Below.refl _ _) (fun _ => rfl)
  (fun pre W => W.heap[w.heap.size + 1]? = some (.cells #[.int .i64 0] 32 (0, 0)) ∧ W.heap[w.heap.size + 1 + 1]? = some (.cells #[.int .i64 (pre.length : Int)] 3 (0, 0)) ∧ Below w.heap.size w W ∧ Wn.heap.size ≤ W.heap.size ∧ Aside0 (pre.length ≤ 200 ∧ ∀ rest, chk 0 (pre.map PartQ.key ++ rest) = chk pre.length rest))
  (fun c pre W => c = .ret ∧ W.heap[w.heap.size + 1]? = some (.cells #[.int .i64 120] 32 (0, 0)) ∧ Below w.heap.size w W ∧ ∀ rest, chk 0 (pre.map PartQ.key ++ rest) = false)
  ?hI ?hIx ⟨be, bn, hBW, Nat.le_refl _, ⟨Nat.zero_le _, fun rest => rfl⟩⟩
  (fun x a' W => ∃ Bx, Wn.heap.size ≤ Bx ∧ W.heap[Bx]? = some (.cells #[.int .i64 x.r.f0, .int .i64 x.r.f1, .string x.r.f2, .int .i64 x.r.f3, .int .i64 x.r.f4, .slice x.A x.r.f5.length x.c] 24 (0, 0)) ∧ a' = { tmps := #[.agg #[.int .i64 r.f0, .int .i64 r.f1, .string r.f2, .int .i64 r.f3, .int .i64 r.f4, .slice A r.f5.length c], .pointer (some ⟨w.heap.size, 0, none⟩), .pointer (some ⟨w.heap.size + 1, 0, none⟩), .pointer (some ⟨w.heap.size + 1 + 1, 0, none⟩), .int .i64 x.d, .pointer (some ⟨Bx, 0, none⟩), .agg #[.int .i64 r.f0, .int .i64 r.f1, .string r.f2, .int .i64 r.f3, .int .i64 r.f4, .slice A r.f5.length c], .func (.func 52) #[] #[.pointer (some ⟨w.heap.size + 1 + 1 + 1 + 1, 0, none⟩), .pointer (some ⟨w.heap.size + 1 + 1 + 1, 0, none⟩)], .int .i64 x.d, x.cells, undef, undef, undef, undef, undef, undef, undef, undef, undef, undef, undef, undef, undef], defers := [] })
  ?hAx ?assign ?body ?done ?stop
 case hI =>
  rintro pre X Y row ⟨h1, h2, h3, h4, h5⟩ hg hr
  exact ⟨(hg.block _ (by omega) (fun e => by have := (hr _ e.symm).1; omega)).trans h1, (hg.block _ (by omega) (fun e => by have := (hr _ e.symm).1; omega)).trans h2, h3.grown hg h3.size (fun k e => by have := (hr k e).1; omega), Nat.le_trans h4 hg.size, h5⟩
 case hIx =>
  rintro c pre X Y row ⟨h0, h1, h3, h5⟩ hg hr
  exact ⟨h0, (hg.block _ (Array.getElem?_eq_some_iff.1 h1).1 (fun e => by have := (hr _ e.symm).1; omega)).trans h1, h3.grown hg h3.size (fun k e => by have := (hr k e).1; omega), h5⟩
 case hAx =>
  rintro x a' _ X Y row ⟨Bx, hb, hx, rfl⟩ hg hr
  refine ⟨Bx, hb, (hg.block Bx (Array.getElem?_eq_some_iff.1 hx).1 (fun e => ?_)).trans hx, rfl⟩
  obtain ⟨_, o, ho, hc⟩ := hr Bx e.symm
  rw [hx] at ho
  cases ho
  cases hc
 case assign =>
  rintro l pre x W K ⟨h1, h2, h3, h4, h5⟩ hK
  simp only [PartQ.cells]
  gi_wp2
  refine hK _ _ ((KeepsOthers.alloc _ _).from _) (KeptC.alloc (KeptC.refl _ _ _) (by omega) _) ⟨(Below.heap_alloc _ _ _ (by omega)).trans h1, (Below.heap_alloc _ _ _ (by omega)).trans h2, h3.alloc h3.size _, by simp; omega, h5⟩ ⟨W.heap.size, h4, blk_new _ _, rfl⟩
 case stop =>
  rintro D c pre W hD ⟨rest, hrest⟩ ⟨rfl, h1, h3, h5⟩ hK
  have HE : Aside0 (v = 120) := ⟨by rw [← HV.out, if_neg (by unfold chkR; rw [← hrest, h5 rest]; simp)]⟩
  have hz2 : (W.putObj D (.deferred none)).cell? ⟨w.heap.size + 1, 0, none⟩ = some (.int .i64 120) := (blk_cell ((World.putObj_heap_other (by omega)).trans h1) 0).trans rfl
  have hB := Aside0.mk (h3.grown (grownBy_putObj' W D (.deferred none)) h3.size (fun k e => by cases e; omega))
  clear h1 h5 hrest
  gi_wp2
  refine ⟨by simp, .inl ⟨_, _, rfl, run_takeDeferred hK, ?_⟩⟩
  refine ⟨.int .i64 120, by simp [results, Tryd.results20, go_sem, hz2], ?_, hB.out⟩
  rw [HE.out]
 case done =>
  rintro D ys W hD hys ⟨h1, h2, h3, h4, h5⟩ hK
  have HE : Aside0 (v = 0) := ⟨by
   have := h5.out.2 []
   rw [List.append_nil, hys] at this
   rw [← HV.out, if_pos (by unfold chkR; rw [this]; rfl)]⟩
  have hz0 := (blk_cell h1 0).trans rfl
  have hf0 := blk_frozen h1 0
  have HZ : Aside0 (((W.setCell ⟨w.heap.size + 1, 0, none⟩ (.int .i64 0)).putObj D (.deferred none)).cell? ⟨w.heap.size + 1, 0, none⟩ = some (.int .i64 0)) := ⟨by
   refine (blk_cell (cs := #[.int .i64 0]) (t := 32) ((World.putObj_heap_other (by omega)).trans ?_) 0).trans rfl
   refine blk_put (cs := #[.int .i64 0]) ?_ 0 _ rfl
   exact h1⟩
  have HD : Aside0 ((W.setCell ⟨w.heap.size + 1, 0, none⟩ (.int .i64 0)).heap[D]? = some (.deferred (some []))) := ⟨(Below.heap_setCell _ _ _ _ (by show D ≠ w.heap.size + 1; omega)).trans hK⟩
  have hB3 := h3.setCell (p := ⟨w.heap.size + 1, 0, none⟩) (by show _ ≤ w.heap.size + 1; omega) (.int .i64 0)
  have HB := Aside0.mk (hB3.grown (grownBy_putObj' _ D (.deferred none)) hB3.size (fun k e => by cases e; omega))
  clear h1 h2 h3 h4 h5 hK hB3
  gi_wp2
  refine ⟨by simp, .inl ⟨_, _, rfl, run_takeDeferred HD.out, ?_⟩⟩
  have hz2 := HZ.out
  refine ⟨.int .i64 0, by simp [results, Tryd.results20, go_sem, hz2], ?_, HB.out⟩
  rw [HE.out]
 case body =>
  rintro l pre x a' W hl ⟨rr, hlr⟩ ⟨h1, h2, h3, h4, h5⟩ ⟨Bx, hBx, hx, rfl⟩ hlen
  have hp := h5.out.1
  have z1 := (blk_cell h2 0).trans rfl
  have f1 := blk_frozen h2 0
  have z2 := (blk_cell h1 0).trans rfl
  have f2 := blk_frozen h1 0
  have y0 := (blk_cell hx 0).trans rfl
  have y1 := (blk_cell hx 1).trans rfl
  have y2 := (blk_cell hx 2).trans rfl
  have y3 := (blk_cell hx 3).trans rfl
  have y4 := (blk_cell hx 4).trans rfl
  have y5 := (blk_cell hx 5).trans rfl
  have H1 := Aside0.mk h1
  have H2 := Aside0.mk h2
  have H3 := Aside0.mk h3
  have H4 := Aside0.mk h4
  have HX := Aside0.mk hx
  clear h1 h2 h3 h4 hx hlr
  simp only [PartQ.cells]
  have HXL := Aside0.mk (Array.getElem?_eq_some_iff.1 HX.out).1
  -- the world behind 'n++'
  obtain ⟨W1, hW1⟩ : ∃ W1, W1 = W.setCell ⟨w.heap.size + 1 + 1, 0, none⟩ (.int .i64 ((pre.length : Int) + 1)) := ⟨_, rfl⟩
  have HW1 := Aside0.mk hW1
  have N1 : Aside0 (W1.heap[w.heap.size + 1 + 1]? = some (.cells #[.int .i64 ((pre ++ [x]).length : Int)] 3 (0, 0))) := ⟨by
   rw [hW1, List.length_append]
   refine blk_put (cs := #[.int .i64 (pre.length : Int)]) ?_ 0 _ rfl
   exact H2.out⟩
  have E1 : Aside0 (W1.heap[w.heap.size + 1]? = some (.cells #[.int .i64 0] 32 (0, 0))) := ⟨by rw [hW1]; exact blk_far H1.out (by show w.heap.size + 1 ≠ w.heap.size + 1 + 1; omega) _⟩
  have B1 : Aside0 (Below w.heap.size w W1) := ⟨by rw [hW1]; exact H3.out.setCell (p := ⟨w.heap.size + 1 + 1, 0, none⟩) (by show _ ≤ w.heap.size + 1 + 1; omega) _⟩
  have K1 : Aside0 (KeepsFrom Wn.heap.size W W1) := ⟨by rw [hW1]; exact (KeepsOthers.setCell _ _ _).from _⟩
  have C1 : Aside0 (KeptC w.heap.size (fun k => k = w.heap.size + 1 ∨ k = w.heap.size + 1 + 1) W W1) := ⟨by rw [hW1]; exact KeptC.setCell _ _ (by show _ ≤ w.heap.size + 1 + 1; omega) (.inr rfl)⟩
  have S1 : Aside0 (W.heap.size ≤ W1.heap.size) := ⟨K1.out.size⟩
  clear hW1
  -- the way out: the error is stored
  have out : ∀ W2, Below W1.heap.size W1 W2 → (∀ rest, chk 0 ((pre ++ [x]).map PartQ.key ++ rest) = false) →
    KeepsFrom Wn.heap.size W (W2.setCell ⟨w.heap.size + 1, 0, none⟩ (.int .i64 120)) ∧ (W2.setCell ⟨w.heap.size + 1, 0, none⟩ (.int .i64 120)).heap[w.heap.size + 1]? = some (.cells #[.int .i64 120] 32 (0, 0)) ∧
     Below w.heap.size w (W2.setCell ⟨w.heap.size + 1, 0, none⟩ (.int .i64 120)) ∧ ∀ rest, chk 0 ((pre ++ [x]).map PartQ.key ++ rest) = false := fun W2 hb hf => by
   have hlt := (Array.getElem?_eq_some_iff.1 E1.out).1
   refine ⟨(K1.out.trans (keepsFrom_below hb)).trans ((KeepsOthers.setCell _ _ _).from _), ?_, (B1.out.trans (hb.mono B1.out.size)).setCell (p := ⟨w.heap.size + 1, 0, none⟩) (by show _ ≤ w.heap.size + 1; omega) _, hf⟩
   refine blk_put (cs := #[.int .i64 0]) ?_ 0 _ rfl
   exact (hb.block _ hlt).trans E1.out
  have OUT := Aside0.mk out
  clear out
  have hfe : W1.frozen? ⟨w.heap.size + 1, 0, none⟩ = false := blk_frozen E1.out 0
  have hze : W1.cell? ⟨w.heap.size + 1, 0, none⟩ = some (.int .i64 0) := (blk_cell E1.out 0).trans rfl
  have STEP : Aside0 (∀ rest, chk 0 ((pre ++ [x]).map PartQ.key ++ rest) = chk pre.length ((x.d, x.r) :: rest)) := ⟨fun rest => by rw [List.map_append, List.append_assoc, h5.out.2]; rfl⟩
  have HF := Aside0.mk (formed_some x.r)
  have HK1 := Aside0.mk (HK.out.below B1.out)
  have HC1 := Aside0.mk (Kd.C_below x.rd B1.out)
  by_cases hA : 200 < pre.length + 1
  ·have d1 : decide ((pre.length : Int) + 1 > 200) = true := decide_eq_true (by omega)
   gi_wp2_with fail
   refine ⟨trivial, ?_⟩
   rw [← HW1.out]
   gi_wp2
   obtain ⟨o1, o2, o3, o4⟩ := OUT.out W1 (Below.refl _ _) (fun rest => by rw [STEP.out]; simp only [chk]; rw [if_pos (by omega)])
   exact ⟨o1, rfl, o2, o3, o4⟩
  ·have d1 : decide ((pre.length : Int) + 1 > 200) = false := decide_eq_false (by omega)
   by_cases hD : 16 < x.d
   ·have d2 : decide (x.d > 16) = true := decide_eq_true (by omega)
    gi_wp2_with fail
    refine ⟨trivial, ?_⟩
    rw [← HW1.out]
    gi_wp2
    obtain ⟨o1, o2, o3, o4⟩ := OUT.out W1 (Below.refl _ _) (fun rest => by rw [STEP.out]; simp only [chk]; rw [if_neg (by omega), if_pos (by omega)])
    exact ⟨o1, rfl, o2, o3, o4⟩
   ·have d2 : decide (x.d > 16) = false := decide_eq_false (by omega)
    gi_wp2_with fail
    refine ⟨trivial, ?_⟩
    rw [← HW1.out]
    refine (CallsIn.inRound l (callsIn_wide.2 (rules_formed.calls _ _ _ _ _ _ _ _ _ W1 HC1.out x.le HK1.out HF.out))).mono ?_
    rintro e W2 ⟨rfl, hb⟩
    have HL1 := Aside0.mk (Array.getElem?_eq_some_iff.1 E1.out).1
    have e2 : W2.cell? ⟨w.heap.size + 1, 0, none⟩ = some (.int .i64 0) := (hb.cell (p := ⟨w.heap.size + 1, 0, none⟩) HL1.out).trans hze
    have g2 : W2.frozen? ⟨w.heap.size + 1, 0, none⟩ = false := (hb.frozen (p := ⟨w.heap.size + 1, 0, none⟩) HL1.out).trans hfe
    have HB2 := Aside0.mk hb
    clear hb hze hfe
    cases hf : formedB x.r with
    | true =>
     have HFB := Aside0.mk hf
     clear hf
     gi_wp2
     have hle := HB2.out.size
     have hs1 := S1.out
     have h4' := H4.out
     refine ⟨K1.out.trans (keepsFrom_below HB2.out), C1.out.trans (KeptC.of_below HB2.out (by omega)), (HB2.out.block _ HL1.out).trans E1.out, (HB2.out.block _ (Array.getElem?_eq_some_iff.1 N1.out).1).trans N1.out, B1.out.trans (HB2.out.mono B1.out.size), by omega, ⟨?_, fun rest => ?_⟩⟩
     ·rw [List.length_append]; simp; omega
     ·rw [STEP.out]
      simp only [chk]
      rw [if_neg (by omega), if_neg (by omega), if_pos HFB.out, List.length_append]
      rfl
    | false =>
     have HFB := Aside0.mk hf
     clear hf
     gi_wp2
     obtain ⟨o1, o2, o3, o4⟩ := OUT.out W2 HB2.out (fun rest => by rw [STEP.out]; simp only [chk]; rw [if_neg (by omega), if_neg (by omega), if_neg (by rw [HFB.out]; simp)])
     exact ⟨o1, rfl, o2, o3, o4⟩
theorem rules_Check.calls (a0_0 : Int) (a0_1 : Int) (a0_2 : ByteArray) (a0_3 : Int) (a0_4 : Int) (A0_5 : Option Addr) (c0_5 : Nat) (l0_5 : List (S24)) (r : Int) (w : World) (hr0_5 : Kd.C k24 w A0_5 l0_5.length l0_5) (hc0_5 : l0_5.length ≤ c0_5) (h : rules_Check.f a0_0 a0_1 a0_2 a0_3 a0_4 l0_5 = some r) (hK : KindsAt w) :
  Calls Tryd.prog 20 #[.agg #[.int .i64 a0_0, .int .i64 a0_1, .string a0_2, .int .i64 a0_3, .int .i64 a0_4, .slice A0_5 l0_5.length c0_5]] w fun e w' => e = .returned (.int .i64 r) ∧ Below w.heap.size w w' := by
 have hr : r = if chkR ⟨a0_0, a0_1, a0_2, a0_3, a0_4, l0_5⟩ = true then 0 else 120 := (Option.some.inj h).symm
 subst hr
 exact (callsIn_wide (n := 6)).1 (check_in ⟨a0_0, a0_1, a0_2, a0_3, a0_4, l0_5⟩ A0_5 c0_5 w hr0_5 hc0_5 hK)
end Go.Proofs.YtabocfninjankaaDoor.P
namespace Go.Proofs.YtabocfninjankaaDoor.P
open Go.RowKit Go.Shelf Go.Proofs.YtabocfninjankaaDoorW.PrintWords Go.Proofs.YtabocfninjankaaDoorW.PrintLast Go.Proofs.YtabocfninjankaaDoorW.PrintMore
attribute [local go_sem] Oper.semAt_some
set_option linter.unusedVariables false
set_option linter.unusedSimpArgs false
/-- What a situation says of a course. -/
def aboutP (l : List S49) (c : Int) : S49 := (l.find? fun x => x.f0 == c).getD ⟨c, 0, -1, false⟩
theorem about_l0 (c : Int) (l : List S49) (hl : l.length ≤ 9223372036854775807) : ∀ (m k i : Nat), m = l.length - i → i ≤ l.length → m < k →
  rules_about.l0 k c l (l.length : Int) i = some ((((l.drop i).find? fun x => x.f0 == c).getD ⟨c, 0, -1, false⟩).f0, (((l.drop i).find? fun x => x.f0 == c).getD ⟨c, 0, -1, false⟩).f1, (((l.drop i).find? fun x => x.f0 == c).getD ⟨c, 0, -1, false⟩).f2, (((l.drop i).find? fun x => x.f0 == c).getD ⟨c, 0, -1, false⟩).f3)
 | m, 0, i, hm, hi, hk => absurd hk (by omega)
 | 0, k + 1, i, hm, hi, hk => by
  unfold rules_about.l0
  rw [if_neg (by omega), List.drop_eq_nil_of_le (by omega)]
  rfl
 | m + 1, k + 1, i, hm, hi, hk => by
  have hlt : i < l.length := by omega
  have hr : rd_T49 l (i : Int) = l[i] := by simp [rd_T49, List.getD_eq_getElem?_getD, hlt]
  unfold rules_about.l0
  rw [if_pos (by omega), if_pos (by omega), if_pos (by omega), hr, List.drop_eq_getElem_cons hlt, List.find?_cons]
  by_cases h : l[i].f0 = c
  ·rw [if_pos h]
   simp [h]
  ·rw [if_neg h]
   have h2 : (l[i].f0 == c) = false := by simpa using h
   rw [h2]
   have hw : wrap64 ((i : Int) + 1) = ((i + 1 : Nat) : Int) := by unfold wrap64; omega
   rw [hw]
   exact about_l0 c l hl m k (i + 1) (by omega) (by omega) (by omega)
theorem about_f (l : List S49) (hl : l.length ≤ 9223372036854775807) (e m1 m2 c : Int) : rules_about.f (l.length + 1) l e m1 m2 c = some ((aboutP l c).f0, (aboutP l c).f1, (aboutP l c).f2, (aboutP l c).f3) :=
 about_l0 c l hl l.length (l.length + 1) 0 (by omega) (by omega) (by omega)
theorem compare_some (a b c d : Int) : ∃ r, ratio_Compare.f a b c d = some r := by
 unfold ratio_Compare.f
 refine bind_total (check_some _ _) fun _ => ?_
 refine if_total (bind_total (check_some _ _) fun _ => ?_) ⟨_, rfl⟩
 refine if_total ?_ ⟨_, rfl⟩
 unfold cmp_Compare_int.f
 refine bind_total ?_ fun _ => ⟨_, rfl⟩
 repeat' first | exact ⟨_, rfl⟩ | apply if_total
def cmpP (a b c d : Int) : Int := ((ratio_Compare.f a b c d).getD (0, 0)).1
/-- Does a part hold, given how many of its kids do? -/
def opHolds (l : List S49) (e m1 m2 op course n d len cnt : Int) : Bool :=
 if op = 1 then cnt == len else if op = 2 then decide (cnt > 0) else if op = 3 then decide (cnt ≥ n) else if op = 4 then cnt == 0
 else if op = 5 then decide ((aboutP l course).f2 ≥ n) else if op = 6 then decide ((aboutP l course).f1 ≥ n) else if op = 7 then decide (e ≥ n)
 else if op = 8 then decide (cmpP m1 m2 n d ≥ 0) else (aboutP l course).f3
mutual
def valR (l : List S49) (e m1 m2 : Int) : S24 → Bool
 | ⟨a, b, c, n, d, ks⟩ => opHolds l e m1 m2 a b n d ks.length (cntL l e m1 m2 ks)
def cntL (l : List S49) (e m1 m2 : Int) : List S24 → Nat
 | [] => 0
 | k :: ks => (if valR l e m1 m2 k = true then 1 else 0) + cntL l e m1 m2 ks
end
mutual
def opsR : S24 → Bool
 | ⟨a, b, c, n, d, ks⟩ => decide (1 ≤ a) && decide (a ≤ 9) && opsL ks
def opsL : List S24 → Bool
 | [] => true
 | k :: ks => opsR k && opsL ks
end
theorem valR_eq (l : List S49) (e m1 m2 : Int) (r : S24) : valR l e m1 m2 r = opHolds l e m1 m2 r.f0 r.f1 r.f3 r.f4 r.f5.length (cntL l e m1 m2 r.f5) := by cases r; simp [valR]
theorem cntL_append (l : List S49) (e m1 m2 : Int) : ∀ xs ys, cntL l e m1 m2 (xs ++ ys) = cntL l e m1 m2 xs + cntL l e m1 m2 ys
 | [], ys => by simp [cntL]
 | x :: xs, ys => by simp [cntL, cntL_append l e m1 m2 xs ys]; omega
theorem cntL_snoc (l : List S49) (e m1 m2 : Int) (ks : List S24) (k : Nat) (h : k < ks.length) : cntL l e m1 m2 (ks.take (k + 1)) = cntL l e m1 m2 (ks.take k) + if valR l e m1 m2 ks[k] = true then 1 else 0 := by
 rw [List.take_succ_eq_append_getElem h, cntL_append]
 simp [cntL]
theorem cntL_le (l : List S49) (e m1 m2 : Int) : ∀ xs, cntL l e m1 m2 xs ≤ xs.length
 | [] => by simp [cntL]
 | x :: xs => by
  have := cntL_le l e m1 m2 xs
  simp only [cntL, List.length_cons]
  split <;> omega
theorem opsR_eq (r : S24) : opsR r = true ↔ 1 ≤ r.f0 ∧ r.f0 ≤ 9 ∧ ∀ k, k ∈ r.f5 → opsR k = true := by
 have hL : ∀ xs, opsL xs = true ↔ ∀ k, k ∈ xs → opsR k = true := by
  intro xs
  induction xs with
  | nil => simp [opsL]
  | cons x xs ih => simp [opsL, ih]
 cases r
 simp [opsR, hL, and_assoc]
theorem kinds_2_val (l : List S49) (e m1 m2 : Int) (r : S24) (hop : r.f0 = 1) : rules_kinds_2.f 1 r.f1 r.f2 r.f3 r.f4 r.f5 l e m1 m2 (cntL l e m1 m2 r.f5 : Nat) = some (valR l e m1 m2 r) := by
 rw [valR_eq, hop]; unfold rules_kinds_2.f opHolds; simp
theorem kinds_4_val (l : List S49) (e m1 m2 : Int) (r : S24) (hop : r.f0 = 2) : rules_kinds_4.f 2 r.f1 r.f2 r.f3 r.f4 r.f5 l e m1 m2 (cntL l e m1 m2 r.f5 : Nat) = some (valR l e m1 m2 r) := by
 rw [valR_eq, hop]; unfold rules_kinds_4.f opHolds; simp
theorem kinds_6_val (l : List S49) (e m1 m2 : Int) (r : S24) (hop : r.f0 = 3) : rules_kinds_6.f 3 r.f1 r.f2 r.f3 r.f4 r.f5 l e m1 m2 (cntL l e m1 m2 r.f5 : Nat) = some (valR l e m1 m2 r) := by
 rw [valR_eq, hop]; unfold rules_kinds_6.f opHolds; simp
theorem kinds_8_val (l : List S49) (e m1 m2 : Int) (r : S24) (hop : r.f0 = 4) : rules_kinds_8.f 4 r.f1 r.f2 r.f3 r.f4 r.f5 l e m1 m2 (cntL l e m1 m2 r.f5 : Nat) = some (valR l e m1 m2 r) := by
 rw [valR_eq, hop]; unfold rules_kinds_8.f opHolds; simp
theorem kinds_10_val (l : List S49) (hl : l.length ≤ 9223372036854775807) (e m1 m2 : Int) (r : S24) (hop : r.f0 = 5) : rules_kinds_10.f (l.length + 1) 5 r.f1 r.f2 r.f3 r.f4 r.f5 l e m1 m2 (cntL l e m1 m2 r.f5 : Nat) = some (valR l e m1 m2 r) := by
 rw [valR_eq, hop]; unfold rules_kinds_10.f opHolds; rw [about_f _ hl]; simp
theorem kinds_12_val (l : List S49) (hl : l.length ≤ 9223372036854775807) (e m1 m2 : Int) (r : S24) (hop : r.f0 = 6) : rules_kinds_12.f (l.length + 1) 6 r.f1 r.f2 r.f3 r.f4 r.f5 l e m1 m2 (cntL l e m1 m2 r.f5 : Nat) = some (valR l e m1 m2 r) := by
 rw [valR_eq, hop]; unfold rules_kinds_12.f opHolds; rw [about_f _ hl]; simp
theorem kinds_14_val (l : List S49) (e m1 m2 : Int) (r : S24) (hop : r.f0 = 7) : rules_kinds_14.f 7 r.f1 r.f2 r.f3 r.f4 r.f5 l e m1 m2 (cntL l e m1 m2 r.f5 : Nat) = some (valR l e m1 m2 r) := by
 rw [valR_eq, hop]; unfold rules_kinds_14.f opHolds; simp
theorem kinds_16_val (l : List S49) (e m1 m2 : Int) (r : S24) (hop : r.f0 = 8) : rules_kinds_16.f 8 r.f1 r.f2 r.f3 r.f4 r.f5 l e m1 m2 (cntL l e m1 m2 r.f5 : Nat) = some (valR l e m1 m2 r) := by
 rw [valR_eq, hop]
 obtain ⟨q, hq⟩ := compare_some m1 m2 r.f3 r.f4
 unfold rules_kinds_16.f opHolds cmpP
 rw [hq]
 simp
theorem kinds_17_val (l : List S49) (hl : l.length ≤ 9223372036854775807) (e m1 m2 : Int) (r : S24) (hop : r.f0 = 9) : rules_kinds_17.f (l.length + 1) 9 r.f1 r.f2 r.f3 r.f4 r.f5 l e m1 m2 (cntL l e m1 m2 r.f5 : Nat) = some (valR l e m1 m2 r) := by
 rw [valR_eq, hop]; unfold rules_kinds_17.f opHolds; rw [about_f _ hl]; simp
def rules_value.f (a0 a1 : Int) (a2 : ByteArray) (a3 a4 : Int) (l : List S24) (s : List S49) (e m1 m2 : Int) : Option Bool :=
 if opsR ⟨a0, a1, a2, a3, a4, l⟩ = true then some (valR s e m1 m2 ⟨a0, a1, a2, a3, a4, l⟩) else none
set_option maxRecDepth 100000 in
set_option maxHeartbeats 4000000 in
theorem value_walk (A1 : Option Addr) (c1 : Nat) (l1 : List S49) (e1 m1 m2 : Int) : ∀ (sz : Nat) (r : S24) (A : Option Addr) (c : Nat) (w : World), SizeOf.sizeOf r < sz → r.f5.length ≤ c → Kd.C k24 w A r.f5.length r.f5 → Kd.C k49 w A1 l1.length l1 → l1.length ≤ c1 → KindsAt w → opsR r = true →
  Calls Tryd.prog 29 #[.agg #[.int .i64 r.f0, .int .i64 r.f1, .string r.f2, .int .i64 r.f3, .int .i64 r.f4, .slice A r.f5.length c], .agg #[.slice A1 l1.length c1, .int .i64 e1, .int .i64 m1, .int .i64 m2]] w
   fun e w' => e = .returned (.bool (valR l1 e1 m1 m2 r)) ∧ Below w.heap.size w w'
 | 0, r, A, c, w, hsz, _, _, _, _, _, _ => absurd hsz (by omega)
 | sz + 1, r, A, c, w, hsz, hc, hC, hS, hcS, hK, hO => by
  have hu24 := Tryd.underlying24
  have hu29 := Tryd.underlying29
  have hm : r.f5.length ≤ 9223372036854775807 := hC.2.1
  have HC := Aside0.mk hC
  have HSI := Aside0.mk hS
  have HK := Aside0.mk hK
  have HO := Aside0.mk ((opsR_eq r).1 hO)
  have HZ := Aside0.mk hsz
  clear hC hS hK hO hsz
  go_enter Tryd.func29, Tryd.ntmps29
  go_wp2
  go_loopw [5, 11] (fun t5 t11 wr => ∃ (k : Nat), t5 = .int .i64 (cntL l1 e1 m1 m2 (r.f5.take k) : Nat) ∧ t11 = .int .i64 k ∧ k ≤ r.f5.length ∧ Aside0 (wr.heap[w.heap.size]? = some (.cells #[.int .i64 r.f0, .int .i64 r.f1, .string r.f2, .int .i64 r.f3, .int .i64 r.f4, .slice A r.f5.length c] 24 (0, 0))) ∧ Aside0 (wr.heap[w.heap.size + 1]? = some (.cells #[.slice A1 l1.length c1, .int .i64 e1, .int .i64 m1, .int .i64 m2] 29 (0, 0))) ∧ Aside0 (Below w.heap.size w wr))
   (fun _ t11 _ => r.f5.length - (intOf t11).toNat)
  case atStart =>
   refine ⟨0, rfl, rfl, Nat.zero_le _, ⟨?_⟩, ⟨?_⟩, ⟨((Below.refl _ w).alloc (Nat.le_refl _) _).alloc (by simp) _⟩⟩
   ·exact (Below.heap_alloc _ _ _ (by simp)).trans (blk_new _ _)
   ·exact new_blk _ _ (by simp)
  case round =>
   obtain ⟨k, rfl, rfl, hk, H0, H1, HB⟩ := hrel
   have x0 := (blk_cell H0.out 0).trans rfl
   have x1 := (blk_cell H0.out 1).trans rfl
   have x2 := (blk_cell H0.out 2).trans rfl
   have x3 := (blk_cell H0.out 3).trans rfl
   have x4 := (blk_cell H0.out 4).trans rfl
   have x5 := (blk_cell H0.out 5).trans rfl
   have z0 := (blk_cell H1.out 0).trans rfl
   have z1 := (blk_cell H1.out 1).trans rfl
   have z2 := (blk_cell H1.out 2).trans rfl
   have z3 := (blk_cell H1.out 3).trans rfl
   by_cases hlt : k < r.f5.length
   ·obtain ⟨ad, A5, c5, e, y0, y1, y2, y3, y4, y5, hl5, hC5⟩ := at_T24 HC.out (k : Int) (by omega) (by omega)
    subst e
    rw [Int.toNat_natCast] at y0 y1 y2 y3 y4 y5
    have hrk : rd_T24 r.f5 (k : Int) = r.f5[k] := by simp [rd_T24, List.getD_eq_getElem?_getD, hlt]
    have hsk := size_kid r k hlt
    have hok := HO.out.2.2 r.f5[k] (List.getElem_mem hlt)
    obtain ⟨q, HQ, hq⟩ : ∃ q, Aside0 (q = r.f5[k]) ∧ r.f5[k] = q := ⟨_, ⟨rfl⟩, rfl⟩
    rw [hrk, hq] at y0 y1 y2 y3 y4 y5 hl5 hC5
    rw [hq] at hsk hok
    clear hrk hq
    have hbl := World.block_lt_of_cell? w _ y0
    have mv : ∀ (a : Addr) (v : Value), a.block < w.heap.size → w.cell? a = some v → wr.cell? a = some v := fun a v ha h => (HB.out.cell ha).trans h
    replace y0 := mv _ _ hbl y0
    replace y1 := mv ⟨(ad.add (k * 6)).block, (ad.add (k * 6)).off + 1, none⟩ _ hbl y1
    replace y2 := mv ⟨(ad.add (k * 6)).block, (ad.add (k * 6)).off + 2, none⟩ _ hbl y2
    replace y3 := mv ⟨(ad.add (k * 6)).block, (ad.add (k * 6)).off + 3, none⟩ _ hbl y3
    replace y4 := mv ⟨(ad.add (k * 6)).block, (ad.add (k * 6)).off + 4, none⟩ _ hbl y4
    replace y5 := mv ⟨(ad.add (k * 6)).block, (ad.add (k * 6)).off + 5, none⟩ _ hbl y5
    clear mv
    have hbw : Below w.heap.size w (wr.alloc (.cells #[.int .i64 q.f0, .int .i64 q.f1, .string q.f2, .int .i64 q.f3, .int .i64 q.f4, .slice A5 q.f5.length c5] 24)) := HB.out.alloc HB.out.size _
    have G := Aside0.mk (value_walk A1 c1 l1 e1 m1 m2 sz q A5 c5 (wr.alloc (.cells #[.int .i64 q.f0, .int .i64 q.f1, .string q.f2, .int .i64 q.f3, .int .i64 q.f4, .slice A5 q.f5.length c5] 24)) (by have := HZ.out; omega) hl5 (Kd.C_below hC5 hbw) (Kd.C_below HSI.out hbw) hcS (HK.out.below hbw) hok)
    have CN : Aside0 (cntL l1 e1 m1 m2 (r.f5.take (k + 1)) = cntL l1 e1 m1 m2 (r.f5.take k) + if valR l1 e1 m1 m2 q = true then 1 else 0) := ⟨by rw [cntL_snoc _ _ _ _ _ _ hlt, ← HQ.out]⟩
    have hcl : cntL l1 e1 m1 m2 (r.f5.take k) ≤ k := by have := cntL_le l1 e1 m1 m2 (r.f5.take k); rw [List.length_take] at this; omega
    generalize cntL l1 e1 m1 m2 (r.f5.take k) = n at CN hcl ⊢
    generalize valR l1 e1 m1 m2 q = b at CN G
    clear hC5 hok hsk hbl
    clear hbw
    have H1' := (Below.heap_alloc wr (.cells #[.int .i64 q.f0, .int .i64 q.f1, .string q.f2, .int .i64 q.f3, .int .i64 q.f4, .slice A5 q.f5.length c5] 24) (w.heap.size + 1) (Array.getElem?_eq_some_iff.1 H1.out).1).trans H1.out
    have z0' := (blk_cell H1' 0).trans rfl
    have z1' := (blk_cell H1' 1).trans rfl
    have z2' := (blk_cell H1' 2).trans rfl
    have z3' := (blk_cell H1' 3).trans rfl
    clear H1'
    cases b with
    | true =>
     go_wp2_with (go_at_call 29; refine G.out.mono ?_; clear G; rintro e W5 ⟨rfl, hb⟩)
     refine ⟨⟨k + 1, by rw [CN.out]; simp, by simp, by omega, ⟨(hb.block _ (by have := (Array.getElem?_eq_some_iff.1 H0.out).1; simp; omega)).trans ((Below.heap_alloc _ _ _ (Array.getElem?_eq_some_iff.1 H0.out).1).trans H0.out)⟩, ⟨(hb.block _ (by have := (Array.getElem?_eq_some_iff.1 H1.out).1; simp; omega)).trans ((Below.heap_alloc _ _ _ (Array.getElem?_eq_some_iff.1 H1.out).1).trans H1.out)⟩, ⟨(HB.out.alloc HB.out.size _).trans (hb.mono (by have := HB.out.size; simp; omega))⟩⟩, by simp [intOf]; omega⟩
    | false =>
     go_wp2_with (go_at_call 29; refine G.out.mono ?_; clear G; rintro e W5 ⟨rfl, hb⟩)
     refine ⟨⟨k + 1, by rw [CN.out]; simp, by simp, by omega, ⟨(hb.block _ (by have := (Array.getElem?_eq_some_iff.1 H0.out).1; simp; omega)).trans ((Below.heap_alloc _ _ _ (Array.getElem?_eq_some_iff.1 H0.out).1).trans H0.out)⟩, ⟨(hb.block _ (by have := (Array.getElem?_eq_some_iff.1 H1.out).1; simp; omega)).trans ((Below.heap_alloc _ _ _ (Array.getElem?_eq_some_iff.1 H1.out).1).trans H1.out)⟩, ⟨(HB.out.alloc HB.out.size _).trans (hb.mono (by have := HB.out.size; simp; omega))⟩⟩, by simp [intOf]; omega⟩
   ·have hkn : r.f5.take k = r.f5 := by rw [show k = r.f5.length by omega, List.take_length]
    rw [hkn]
    clear hkn
    have hml : l1.length ≤ 9223372036854775807 := HSI.out.2.1
    have HCd := Aside0.mk (Kd.C_drew (Kd.C_below HC.out HB.out))
    have HSd := Aside0.mk (Kd.C_drew (Kd.C_below HSI.out HB.out))
    have HBd := Aside0.mk (below_drew1 HB.out)
    go_wp2
    have hop : r.f0 = 1 ∨ r.f0 = 2 ∨ r.f0 = 3 ∨ r.f0 = 4 ∨ r.f0 = 5 ∨ r.f0 = 6 ∨ r.f0 = 7 ∨ r.f0 = 8 ∨ r.f0 = 9 := by have := HO.out.1; have := HO.out.2.1; omega
    have hu80 := Tryd.underlying80
    have hu81 := Tryd.underlying81
    rcases hop with hop | hop | hop | hop | hop | hop | hop | hop | hop
    ·have t5 := (HB.out.cell (p := ⟨0, 11, none⟩) HK.out.lt).trans (HK.out.at_ 11 _ rfl)
     have hv := Aside0.mk (kinds_2_val l1 e1 m1 m2 r hop)
     go_still_tail 8, (by kernel_rfl)
     go_wp2_with (go_at_call 120; refine (rules_kinds_2.calls _ _ _ _ _ _ _ _ _ _ _ _ _ _ _ _ _ HCd.out hc HSd.out hcS hv.out).mono ?_; rintro e W5 ⟨rfl, hb⟩)
     go_ret
     exact ⟨rfl, HBd.out.trans (hb.mono (by have := HB.out.size; simp; omega))⟩
    ·have t5 := (HB.out.cell (p := ⟨0, 17, none⟩) HK.out.lt).trans (HK.out.at_ 17 _ rfl)
     have hv := Aside0.mk (kinds_4_val l1 e1 m1 m2 r hop)
     go_still_tail 8, (by kernel_rfl)
     go_wp2_with (go_at_call 122; refine (rules_kinds_4.calls _ _ _ _ _ _ _ _ _ _ _ _ _ _ _ _ _ HCd.out hc HSd.out hcS hv.out).mono ?_; rintro e W5 ⟨rfl, hb⟩)
     go_ret
     exact ⟨rfl, HBd.out.trans (hb.mono (by have := HB.out.size; simp; omega))⟩
    ·have t5 := (HB.out.cell (p := ⟨0, 23, none⟩) HK.out.lt).trans (HK.out.at_ 23 _ rfl)
     have hv := Aside0.mk (kinds_6_val l1 e1 m1 m2 r hop)
     go_still_tail 8, (by kernel_rfl)
     go_wp2_with (go_at_call 124; refine (rules_kinds_6.calls _ _ _ _ _ _ _ _ _ _ _ _ _ _ _ _ _ HCd.out hc HSd.out hcS hv.out).mono ?_; rintro e W5 ⟨rfl, hb⟩)
     go_ret
     exact ⟨rfl, HBd.out.trans (hb.mono (by have := HB.out.size; simp; omega))⟩
    ·have t5 := (HB.out.cell (p := ⟨0, 29, none⟩) HK.out.lt).trans (HK.out.at_ 29 _ rfl)
     have hv := Aside0.mk (kinds_8_val l1 e1 m1 m2 r hop)
     go_still_tail 8, (by kernel_rfl)
     go_wp2_with (go_at_call 126; refine (rules_kinds_8.calls _ _ _ _ _ _ _ _ _ _ _ _ _ _ _ _ _ HCd.out hc HSd.out hcS hv.out).mono ?_; rintro e W5 ⟨rfl, hb⟩)
     go_ret
     exact ⟨rfl, HBd.out.trans (hb.mono (by have := HB.out.size; simp; omega))⟩
    ·have t5 := (HB.out.cell (p := ⟨0, 35, none⟩) HK.out.lt).trans (HK.out.at_ 35 _ rfl)
     have hv := Aside0.mk (kinds_10_val l1 hml e1 m1 m2 r hop)
     go_still_tail 8, (by kernel_rfl)
     go_wp2_with (go_at_call 129; refine (rules_kinds_10.calls (l1.length + 1) _ _ _ _ _ _ _ _ _ _ _ _ _ _ _ _ _ HCd.out hc HSd.out hcS hv.out).mono ?_; rintro e W5 ⟨rfl, hb⟩)
     go_ret
     exact ⟨rfl, HBd.out.trans (hb.mono (by have := HB.out.size; simp; omega))⟩
    ·have t5 := (HB.out.cell (p := ⟨0, 41, none⟩) HK.out.lt).trans (HK.out.at_ 41 _ rfl)
     have hv := Aside0.mk (kinds_12_val l1 hml e1 m1 m2 r hop)
     go_still_tail 8, (by kernel_rfl)
     go_wp2_with (go_at_call 132; refine (rules_kinds_12.calls (l1.length + 1) _ _ _ _ _ _ _ _ _ _ _ _ _ _ _ _ _ HCd.out hc HSd.out hcS hv.out).mono ?_; rintro e W5 ⟨rfl, hb⟩)
     go_ret
     exact ⟨rfl, HBd.out.trans (hb.mono (by have := HB.out.size; simp; omega))⟩
    ·have t5 := (HB.out.cell (p := ⟨0, 47, none⟩) HK.out.lt).trans (HK.out.at_ 47 _ rfl)
     have hv := Aside0.mk (kinds_14_val l1 e1 m1 m2 r hop)
     go_still_tail 8, (by kernel_rfl)
     go_wp2_with (go_at_call 134; refine (rules_kinds_14.calls _ _ _ _ _ _ _ _ _ _ _ _ _ _ _ _ _ HCd.out hc HSd.out hcS hv.out).mono ?_; rintro e W5 ⟨rfl, hb⟩)
     go_ret
     exact ⟨rfl, HBd.out.trans (hb.mono (by have := HB.out.size; simp; omega))⟩
    ·have t5 := (HB.out.cell (p := ⟨0, 53, none⟩) HK.out.lt).trans (HK.out.at_ 53 _ rfl)
     have hv := Aside0.mk (kinds_16_val l1 e1 m1 m2 r hop)
     go_still_tail 8, (by kernel_rfl)
     go_wp2_with (go_at_call 136; refine (rules_kinds_16.calls _ _ _ _ _ _ _ _ _ _ _ _ _ _ _ _ _ HCd.out hc HSd.out hcS hv.out).mono ?_; rintro e W5 ⟨rfl, hb⟩)
     go_ret
     exact ⟨rfl, HBd.out.trans (hb.mono (by have := HB.out.size; simp; omega))⟩
    ·have t5 := (HB.out.cell (p := ⟨0, 59, none⟩) HK.out.lt).trans (HK.out.at_ 59 _ rfl)
     have hv := Aside0.mk (kinds_17_val l1 hml e1 m1 m2 r hop)
     go_still_tail 8, (by kernel_rfl)
     go_wp2_with (go_at_call 138; refine (rules_kinds_17.calls (l1.length + 1) _ _ _ _ _ _ _ _ _ _ _ _ _ _ _ _ _ HCd.out hc HSd.out hcS hv.out).mono ?_; rintro e W5 ⟨rfl, hb⟩)
     go_ret
     exact ⟨rfl, HBd.out.trans (hb.mono (by have := HB.out.size; simp; omega))⟩
theorem rules_value.calls (a0_0 : Int) (a0_1 : Int) (a0_2 : ByteArray) (a0_3 : Int) (a0_4 : Int) (A0_5 : Option Addr) (c0_5 : Nat) (l0_5 : List (S24)) (A1_0 : Option Addr) (c1_0 : Nat) (l1_0 : List (S49)) (a1_1 : Int) (a1_2 : Int) (a1_3 : Int) (r : Bool) (w : World) (hr0_5 : Kd.C k24 w A0_5 l0_5.length l0_5) (hc0_5 : l0_5.length ≤ c0_5) (hr1_0 : Kd.C k49 w A1_0 l1_0.length l1_0) (hc1_0 : l1_0.length ≤ c1_0) (h : rules_value.f a0_0 a0_1 a0_2 a0_3 a0_4 l0_5 l1_0 a1_1 a1_2 a1_3 = some r) (hK : KindsAt w) :
  Calls Tryd.prog 29 #[.agg #[.int .i64 a0_0, .int .i64 a0_1, .string a0_2, .int .i64 a0_3, .int .i64 a0_4, .slice A0_5 l0_5.length c0_5], .agg #[.slice A1_0 l1_0.length c1_0, .int .i64 a1_1, .int .i64 a1_2, .int .i64 a1_3]] w fun e w' => e = .returned (.bool r) ∧ Below w.heap.size w w' := by
 unfold rules_value.f at h
 split at h
 ·obtain rfl := Option.some.inj h
  exact value_walk A1_0 c1_0 l1_0 a1_1 a1_2 a1_3 _ ⟨a0_0, a0_1, a0_2, a0_3, a0_4, l0_5⟩ A0_5 c0_5 w (Nat.lt_succ_self _) hc0_5 hr0_5 hr1_0 hc1_0 hK ‹_›
 ·cases h
end Go.Proofs.YtabocfninjankaaDoor.P
namespace Go.Proofs.YtabocfninjankaaDoor.P
open Go.RowKit Go.Proofs.YtabocfninjankaaDoorW.PrintWords Go.Proofs.YtabocfninjankaaDoorW.PrintLast Go.Proofs.YtabocfninjankaaDoorW.PrintMore
attribute [local go_sem] max2_int min2_int max_two min_two max_three min_three max_four min_four   -- for this text's walks alone
set_option linter.unusedVariables false
set_option linter.unusedSimpArgs false
def rules_Atoms_1.f (k : Nat) (a0_0 : Int) (a0_1 : Int) (a0_2 : Int) (a0_3 : Int) (a1_0 : Int) (a1_1 : Int) (a1_2 : Int) (a1_3 : Int) : Option (Int) := (cmp_Compare_int.f a0_0 a1_0).bind fun t171 => ((cmp_Compare_int.f a0_1 a1_1).bind fun t172 => ((cmp_Compare_int.f a0_2 a1_2).bind fun t173 => ((cmp_Compare_int.f a0_3 a1_3).bind fun t174 => ((cmp_Or_int.f k (([t171, t172, t173, t174] : List Int))).bind fun t178 => (some t178)))))
def rules_Atoms_1.T1 : Bool × List (List Nat × List Nat) := (true, [([], []), ([0], [0]), ([], []), ([2], [2]), ([1, 3], [1, 3]), ([], []), ([5], [5]), ([], []), ([7], [7]), ([6, 8, 4], [6, 8]), ([], []), ([10], [10]), ([], []), ([12], [12]), ([11, 13, 9], [11, 13]), ([], []), ([15], [15]), ([], []), ([17], [17]), ([16, 18, 14], [16, 18]), ([4, 9, 14, 19], [4, 9, 14, 19]), ([20, 19], [20]), ([21, 21, 0, 1, 2, 3, 4, 5, 6, 7, 8, 9, 10, 11, 12, 13, 14, 15, 16, 17, 18, 19, 20, 21], [21])])
def rules_Atoms_1.B1 : List Nat := [0, 1, 0, 4, 15, 0, 32, 0, 128, 511, 0, 1024, 0, 4096, 16383, 0, 32768, 0, 131072, 524287, 1048575, 2097151, 4194303]
theorem rules_Atoms_1.tab1 : rtab .any (opsOf Tryd.f36 1) = rules_Atoms_1.T1 := by kernel_rfl
theorem rules_Atoms_1.bits1 : waitsOk rules_Atoms_1.T1.2 rules_Atoms_1.B1 = true := by kernel_rfl
def rules_Holds.f (k : Nat) (a0_0 : Int) (a0_1 : Int) (a0_2 : ByteArray) (a0_3 : Int) (a0_4 : Int) (l0_5 : List (S24)) (l1_0 : List (S49)) (a1_1 : Int) (a1_2 : Int) (a1_3 : Int) : Option (Bool × Int) := (rules_Check.f a0_0 a0_1 a0_2 a0_3 a0_4 l0_5).bind fun t181 => (if t181 = 0 then ((rules_Fits.f k l1_0 a1_1 a1_2 a1_3).bind fun t182 => (if t182 = 0 then ((rules_value.f a0_0 a0_1 a0_2 a0_3 a0_4 l0_5 l1_0 a1_1 a1_2 a1_3).bind fun t183 => (some (t183, 0))) else (some (false, t182)))) else (some (false, t181)))
set_option maxHeartbeats 8000000 in
set_option maxRecDepth 100000 in
theorem rules_Holds.calls (k : Nat) (a0_0 : Int) (a0_1 : Int) (a0_2 : ByteArray) (a0_3 : Int) (a0_4 : Int) (A0_5 : Option Addr) (c0_5 : Nat) (l0_5 : List (S24)) (A1_0 : Option Addr) (c1_0 : Nat) (l1_0 : List (S49)) (a1_1 : Int) (a1_2 : Int) (a1_3 : Int) (r1 : Bool) (r2 : Int) (w : World) (hr0_5 : Kd.C k24 w A0_5 l0_5.length l0_5) (hc0_5 : l0_5.length ≤ c0_5) (hr1_0 : Kd.C k49 w A1_0 l1_0.length l1_0) (hc1_0 : l1_0.length ≤ c1_0) (h : rules_Holds.f k a0_0 a0_1 a0_2 a0_3 a0_4 l0_5 l1_0 a1_1 a1_2 a1_3 = some (r1, r2)) (hKT : KindsAt w) :
  Calls Tryd.prog 12 #[.agg #[.int .i64 a0_0, .int .i64 a0_1, .string a0_2, .int .i64 a0_3, .int .i64 a0_4, .slice A0_5 l0_5.length c0_5], .agg #[.slice A1_0 l1_0.length c1_0, .int .i64 a1_1, .int .i64 a1_2, .int .i64 a1_3]] w fun e w' => e = .returned (.tuple #[.bool r1, .int .i64 r2]) ∧ Below w.heap.size w w' := by
 have HKT := Aside0.mk hKT
 clear hKT
 have hu24 := Tryd.underlying24
 have hu29 := Tryd.underlying29
 have HR0_5 := Aside0.mk hr0_5
 have HC0_5 := Aside0.mk hc0_5
 clear hr0_5 hc0_5
 have HR1_0 := Aside0.mk hr1_0
 have HC1_0 := Aside0.mk hc1_0
 clear hr1_0 hc1_0
 have HB := Aside0.mk (Below.refl w.heap.size w)
 have H : ((rules_Check.f a0_0 a0_1 a0_2 a0_3 a0_4 l0_5).bind fun t181 => (if t181 = 0 then ((rules_Fits.f k l1_0 a1_1 a1_2 a1_3).bind fun t182 => (if t182 = 0 then ((rules_value.f a0_0 a0_1 a0_2 a0_3 a0_4 l0_5 l1_0 a1_1 a1_2 a1_3).bind fun t183 => (some (t183, 0))) else (some (false, t182)))) else (some (false, t181)))) = some (r1, r2) := h
 clear h
 replace H := Option.bind_eq_some_iff.mp H
 obtain ⟨t181, A30, H⟩ := H
 replace H : (if t181 = 0 then ((rules_Fits.f k l1_0 a1_1 a1_2 a1_3).bind fun t182 => (if t182 = 0 then ((rules_value.f a0_0 a0_1 a0_2 a0_3 a0_4 l0_5 l1_0 a1_1 a1_2 a1_3).bind fun t183 => (some (t183, 0))) else (some (false, t182)))) else (some (false, t181))) = some (r1, r2) := H
 have A3 := Aside0.mk A30
 clear A30
 by_cases c4 : t181 = 0
 ·rw [if_pos c4] at H
  have c4b0 : (t181 == 0) = true := beq_iff_eq.mpr c4
  have c4b1 : (t181 != 0) = false := bne_eq_false_iff_eq.mpr c4
  clear c4
  replace H := Option.bind_eq_some_iff.mp H
  obtain ⟨t182, A50, H⟩ := H
  replace H : (if t182 = 0 then ((rules_value.f a0_0 a0_1 a0_2 a0_3 a0_4 l0_5 l1_0 a1_1 a1_2 a1_3).bind fun t183 => (some (t183, 0))) else (some (false, t182))) = some (r1, r2) := H
  have A5 := Aside0.mk A50
  clear A50
  by_cases c6 : t182 = 0
  ·rw [if_pos c6] at H
   have c6b0 : (t182 == 0) = true := beq_iff_eq.mpr c6
   have c6b1 : (t182 != 0) = false := bne_eq_false_iff_eq.mpr c6
   clear c6
   replace H := Option.bind_eq_some_iff.mp H
   obtain ⟨t183, A70, H⟩ := H
   replace H : (some (t183, 0)) = some (r1, r2) := H
   have A7 := Aside0.mk A70
   clear A70
   simp only [Option.some.injEq, Prod.mk.injEq] at H
   obtain ⟨rfl, rfl⟩ := H
   go_enter Tryd.func12, Tryd.ntmps12
   go_wp2_with (first | ((with_reducible refine gate_dst (N := 2) rfl ?_); refine box_event ?hg (N := 2) ?hd (cs := #[.int .i64 a0_0, .int .i64 a0_1, .string a0_2, .int .i64 a0_3, .int .i64 a0_4, .slice A0_5 l0_5.length c0_5]) (t := 24) ?hr ?_; (case hd => rfl); (case hg => rfl); (case hr => first | (go_simp; done) | (go_simp; rfl)); intro gb179 hg w8 hbox hb; have n0_ := Aside0.mk (below_step (by repeat (first | (with_reducible first | exact HB.out | apply below_alloc | apply pw_below_drewN | apply below_drew1) | exact HB.out)) hb); have n1_ := Aside0.mk (hbox); have n2_ := Aside0.mk ((by rw [hg]; exact (below_size (by repeat (first | (with_reducible first | exact HB.out | apply below_alloc | apply pw_below_drewN | apply below_drew1) | exact HB.out))) : w.heap.size ≤ gb179)); have n3_ := Aside0.mk ((by rw [hg]; exact (below_size (by repeat (first | (with_reducible first | exact HB.out | apply below_alloc | apply pw_below_drewN | apply below_drew1) | exact HB.out))) : w.heap.size ≤ gb179)); clear HB; have HB := n0_; have BK179 := n1_; have GW179 := n2_; have GE179 := n3_; clear n0_ n1_ n2_ n3_; clear hb hbox hg) | ((with_reducible refine gate_dst (N := 3) rfl ?_); refine box_event ?hg (N := 3) ?hd (cs := #[.slice A1_0 l1_0.length c1_0, .int .i64 a1_1, .int .i64 a1_2, .int .i64 a1_3]) (t := 29) ?hr ?_; (case hd => rfl); (case hg => rfl); (case hr => first | (go_simp; done) | (go_simp; rfl)); intro gb180 hg w9 hbox hb; have n0_ := Aside0.mk (blk_below (g := gb179) (o := .cells #[.int .i64 a0_0, .int .i64 a0_1, .string a0_2, .int .i64 a0_3, .int .i64 a0_4, .slice A0_5 l0_5.length c0_5] 24 (0, 0)) (by (with_reducible repeat (first | refine blk_drewN ?_ _ | refine blk_drew ?_ | refine blk_alloc ?_ _)); exact BK179.out) hb); have n1_ := Aside0.mk (below_step (by repeat (first | (with_reducible first | exact HB.out | apply below_alloc | apply pw_below_drewN | apply below_drew1 | refine below_set ?_ GE179.out) | exact HB.out)) hb); have n2_ := Aside0.mk (hbox); have n3_ := Aside0.mk ((by rw [hg]; exact (below_size (by repeat (first | (with_reducible first | exact HB.out | apply below_alloc | apply pw_below_drewN | apply below_drew1 | refine below_set ?_ GE179.out) | exact HB.out))) : w.heap.size ≤ gb180)); have n4_ := Aside0.mk ((by rw [hg]; exact (below_size (by repeat (first | (with_reducible first | exact HB.out | apply below_alloc | apply pw_below_drewN | apply below_drew1 | refine below_set ?_ GE179.out) | exact HB.out))) : w.heap.size ≤ gb180)); have n5_ := Aside0.mk ((by rw [hg]; exact Nat.ne_of_lt (blk_lt (g := gb179) (o := .cells #[.int .i64 a0_0, .int .i64 a0_1, .string a0_2, .int .i64 a0_3, .int .i64 a0_4, .slice A0_5 l0_5.length c0_5] 24 (0, 0)) (by (with_reducible repeat (first | refine blk_drewN ?_ _ | refine blk_drew ?_ | refine blk_alloc ?_ _)); exact BK179.out)) : gb179 ≠ gb180)); have n6_ := Aside0.mk ((by rw [hg]; exact Nat.ne_of_gt (blk_lt (g := gb179) (o := .cells #[.int .i64 a0_0, .int .i64 a0_1, .string a0_2, .int .i64 a0_3, .int .i64 a0_4, .slice A0_5 l0_5.length c0_5] 24 (0, 0)) (by (with_reducible repeat (first | refine blk_drewN ?_ _ | refine blk_drew ?_ | refine blk_alloc ?_ _)); exact BK179.out)) : gb180 ≠ gb179)); clear BK179; clear HB; have BK179 := n0_; have HB := n1_; have BK180 := n2_; have GW180 := n3_; have GE180 := n4_; have NB179_180 := n5_; have NB180_179 := n6_; clear n0_ n1_ n2_ n3_ n4_ n5_ n6_; clear hb hbox hg; have hnb10 := NB179_180.out; have hnc10 := NB180_179.out; have hcz11_0 : w9.cell? ⟨gb179, 0, none⟩ = some (.int .i64 a0_0) := (blk_cell BK179.out 0).trans rfl; have hcz11_1 : w9.cell? ⟨gb179, 1, none⟩ = some (.int .i64 a0_1) := (blk_cell BK179.out 1).trans rfl; have hcz11_2 : w9.cell? ⟨gb179, 2, none⟩ = some (.string a0_2) := (blk_cell BK179.out 2).trans rfl; have hcz11_3 : w9.cell? ⟨gb179, 3, none⟩ = some (.int .i64 a0_3) := (blk_cell BK179.out 3).trans rfl; have hcz11_4 : w9.cell? ⟨gb179, 4, none⟩ = some (.int .i64 a0_4) := (blk_cell BK179.out 4).trans rfl; have hcz11_5 : w9.cell? ⟨gb179, 5, none⟩ = some (.slice A0_5 l0_5.length c0_5) := (blk_cell BK179.out 5).trans rfl; have hfz11_0 := blk_frozen BK179.out 0; have hfz11_1 := blk_frozen BK179.out 1; have hfz11_2 := blk_frozen BK179.out 2; have hfz11_3 := blk_frozen BK179.out 3; have hfz11_4 := blk_frozen BK179.out 4; have hfz11_5 := blk_frozen BK179.out 5) | ((with_reducible refine gate_callee (f := 20) rfl ?_); refine goesL_ (some 9) rfl rfl Tryd.func20 (by kernel_rfl) rfl #[.agg #[.int .i64 a0_0, .int .i64 a0_1, .string a0_2, .int .i64 a0_3, .int .i64 a0_4, .slice A0_5 l0_5.length c0_5]] rfl (by (try simp only [List.map_toArray, List.map_cons, List.map_nil]); first | done | rfl | (simp only [List.length_drop, List.length_take]; rfl)) ?_; (with_reducible refine (rules_Check.calls a0_0 a0_1 a0_2 a0_3 a0_4 _ _ l0_5 t181 _ ?side1 ?side2 A3.out ?sideK).mono ?_); (case sideK => exact HKT.out.below (by repeat (first | (with_reducible first | exact HB.out | apply below_alloc | apply pw_below_drewN | apply below_drew1 | refine below_set ?_ GE179.out | refine below_set ?_ GE180.out) | exact HB.out))); (case side1 => repeat (first | exact (Kd.C_below HR0_5.out HB.out) | (with_reducible refine Kd.C_alloc ?_ _) | (with_reducible refine Kd.C_drewN ?_ _) | (with_reducible refine Kd.C_drew ?_))); (case side2 => exact HC0_5.out); rintro e w12 ⟨rfl, hb⟩; refine ⟨_, rfl, ?_⟩; have n0_ := Aside0.mk (blk_below (g := gb179) (o := .cells #[.int .i64 a0_0, .int .i64 a0_1, .string a0_2, .int .i64 a0_3, .int .i64 a0_4, .slice A0_5 l0_5.length c0_5] 24 (0, 0)) (by (with_reducible repeat (first | refine blk_drewN ?_ _ | refine blk_drew ?_ | refine blk_alloc ?_ _)); exact BK179.out) hb); have n1_ := Aside0.mk (blk_below (g := gb180) (o := .cells #[.slice A1_0 l1_0.length c1_0, .int .i64 a1_1, .int .i64 a1_2, .int .i64 a1_3] 29 (0, 0)) (by (with_reducible repeat (first | refine blk_drewN ?_ _ | refine blk_drew ?_ | refine blk_alloc ?_ _)); exact BK180.out) hb); have n2_ := Aside0.mk (below_step (by repeat (first | (with_reducible first | exact HB.out | apply below_alloc | apply pw_below_drewN | apply below_drew1 | refine below_set ?_ GE179.out | refine below_set ?_ GE180.out) | exact HB.out)) hb); clear BK179; clear BK180; clear HB; have BK179 := n0_; have BK180 := n1_; have HB := n2_; clear n0_ n1_ n2_; (try clear hb); (try clear hb2); (try clear hk); (try clear hi); have hcz13_0 : w12.cell? ⟨gb180, 0, none⟩ = some (.slice A1_0 l1_0.length c1_0) := (blk_cell BK180.out 0).trans rfl; have hcz13_1 : w12.cell? ⟨gb180, 1, none⟩ = some (.int .i64 a1_1) := (blk_cell BK180.out 1).trans rfl; have hcz13_2 : w12.cell? ⟨gb180, 2, none⟩ = some (.int .i64 a1_2) := (blk_cell BK180.out 2).trans rfl; have hcz13_3 : w12.cell? ⟨gb180, 3, none⟩ = some (.int .i64 a1_3) := (blk_cell BK180.out 3).trans rfl; have hfz13_0 := blk_frozen BK180.out 0; have hfz13_1 := blk_frozen BK180.out 1; have hfz13_2 := blk_frozen BK180.out 2; have hfz13_3 := blk_frozen BK180.out 3) | ((with_reducible refine gate_callee (f := 21) rfl ?_); refine goesL_ (some 14) rfl rfl Tryd.func21 (by kernel_rfl) rfl #[.agg #[.slice A1_0 l1_0.length c1_0, .int .i64 a1_1, .int .i64 a1_2, .int .i64 a1_3]] rfl (by (try simp only [List.map_toArray, List.map_cons, List.map_nil]); first | done | rfl | (simp only [List.length_drop, List.length_take]; rfl)) ?_; (with_reducible refine (rules_Fits.calls k _ _ l1_0 a1_1 a1_2 a1_3 t182 _ ?side1 ?side2 A5.out).mono ?_); (case side1 => repeat (first | exact (Kd.C_below HR1_0.out HB.out) | (with_reducible refine Kd.C_alloc ?_ _) | (with_reducible refine Kd.C_drewN ?_ _) | (with_reducible refine Kd.C_drew ?_))); (case side2 => exact HC1_0.out); rintro e w14 ⟨rfl, hb⟩; refine ⟨_, rfl, ?_⟩; have n0_ := Aside0.mk (blk_below (g := gb179) (o := .cells #[.int .i64 a0_0, .int .i64 a0_1, .string a0_2, .int .i64 a0_3, .int .i64 a0_4, .slice A0_5 l0_5.length c0_5] 24 (0, 0)) (by (with_reducible repeat (first | refine blk_drewN ?_ _ | refine blk_drew ?_ | refine blk_alloc ?_ _)); exact BK179.out) hb); have n1_ := Aside0.mk (blk_below (g := gb180) (o := .cells #[.slice A1_0 l1_0.length c1_0, .int .i64 a1_1, .int .i64 a1_2, .int .i64 a1_3] 29 (0, 0)) (by (with_reducible repeat (first | refine blk_drewN ?_ _ | refine blk_drew ?_ | refine blk_alloc ?_ _)); exact BK180.out) hb); have n2_ := Aside0.mk (below_step (by repeat (first | (with_reducible first | exact HB.out | apply below_alloc | apply pw_below_drewN | apply below_drew1 | refine below_set ?_ GE179.out | refine below_set ?_ GE180.out) | exact HB.out)) hb); clear BK179; clear BK180; clear HB; have BK179 := n0_; have BK180 := n1_; have HB := n2_; clear n0_ n1_ n2_; (try clear hb); (try clear hb2); (try clear hk); (try clear hi); have hcz15_0 : w14.cell? ⟨gb179, 0, none⟩ = some (.int .i64 a0_0) := (blk_cell BK179.out 0).trans rfl; have hcz15_1 : w14.cell? ⟨gb179, 1, none⟩ = some (.int .i64 a0_1) := (blk_cell BK179.out 1).trans rfl; have hcz15_2 : w14.cell? ⟨gb179, 2, none⟩ = some (.string a0_2) := (blk_cell BK179.out 2).trans rfl; have hcz15_3 : w14.cell? ⟨gb179, 3, none⟩ = some (.int .i64 a0_3) := (blk_cell BK179.out 3).trans rfl; have hcz15_4 : w14.cell? ⟨gb179, 4, none⟩ = some (.int .i64 a0_4) := (blk_cell BK179.out 4).trans rfl; have hcz15_5 : w14.cell? ⟨gb179, 5, none⟩ = some (.slice A0_5 l0_5.length c0_5) := (blk_cell BK179.out 5).trans rfl; have hfz15_0 := blk_frozen BK179.out 0; have hfz15_1 := blk_frozen BK179.out 1; have hfz15_2 := blk_frozen BK179.out 2; have hfz15_3 := blk_frozen BK179.out 3; have hfz15_4 := blk_frozen BK179.out 4; have hfz15_5 := blk_frozen BK179.out 5; have hcz16_0 : w14.cell? ⟨gb180, 0, none⟩ = some (.slice A1_0 l1_0.length c1_0) := (blk_cell BK180.out 0).trans rfl; have hcz16_1 : w14.cell? ⟨gb180, 1, none⟩ = some (.int .i64 a1_1) := (blk_cell BK180.out 1).trans rfl; have hcz16_2 : w14.cell? ⟨gb180, 2, none⟩ = some (.int .i64 a1_2) := (blk_cell BK180.out 2).trans rfl; have hcz16_3 : w14.cell? ⟨gb180, 3, none⟩ = some (.int .i64 a1_3) := (blk_cell BK180.out 3).trans rfl; have hfz16_0 := blk_frozen BK180.out 0; have hfz16_1 := blk_frozen BK180.out 1; have hfz16_2 := blk_frozen BK180.out 2; have hfz16_3 := blk_frozen BK180.out 3) | ((with_reducible refine gate_callee (f := 29) rfl ?_); refine goesL_ (some 20) rfl rfl Tryd.func29 (by kernel_rfl) rfl #[.agg #[.int .i64 a0_0, .int .i64 a0_1, .string a0_2, .int .i64 a0_3, .int .i64 a0_4, .slice A0_5 l0_5.length c0_5], .agg #[.slice A1_0 l1_0.length c1_0, .int .i64 a1_1, .int .i64 a1_2, .int .i64 a1_3]] rfl (by (try simp only [List.map_toArray, List.map_cons, List.map_nil]); first | done | rfl | (simp only [List.length_drop, List.length_take]; rfl)) ?_; (with_reducible refine (rules_value.calls a0_0 a0_1 a0_2 a0_3 a0_4 _ _ l0_5 _ _ l1_0 a1_1 a1_2 a1_3 t183 _ ?side1 ?side2 ?side3 ?side4 A7.out ?sideK).mono ?_); (case sideK => exact HKT.out.below (by repeat (first | (with_reducible first | exact HB.out | apply below_alloc | apply pw_below_drewN | apply below_drew1 | refine below_set ?_ GE179.out | refine below_set ?_ GE180.out) | exact HB.out))); (case side1 => repeat (first | exact (Kd.C_below HR0_5.out HB.out) | (with_reducible refine Kd.C_alloc ?_ _) | (with_reducible refine Kd.C_drewN ?_ _) | (with_reducible refine Kd.C_drew ?_))); (case side2 => exact HC0_5.out); (case side3 => repeat (first | exact (Kd.C_below HR1_0.out HB.out) | (with_reducible refine Kd.C_alloc ?_ _) | (with_reducible refine Kd.C_drewN ?_ _) | (with_reducible refine Kd.C_drew ?_))); (case side4 => exact HC1_0.out); rintro e w17 ⟨rfl, hb⟩; refine ⟨_, rfl, ?_⟩; have n0_ := Aside0.mk (blk_below (g := gb179) (o := .cells #[.int .i64 a0_0, .int .i64 a0_1, .string a0_2, .int .i64 a0_3, .int .i64 a0_4, .slice A0_5 l0_5.length c0_5] 24 (0, 0)) (by (with_reducible repeat (first | refine blk_drewN ?_ _ | refine blk_drew ?_ | refine blk_alloc ?_ _)); exact BK179.out) hb); have n1_ := Aside0.mk (blk_below (g := gb180) (o := .cells #[.slice A1_0 l1_0.length c1_0, .int .i64 a1_1, .int .i64 a1_2, .int .i64 a1_3] 29 (0, 0)) (by (with_reducible repeat (first | refine blk_drewN ?_ _ | refine blk_drew ?_ | refine blk_alloc ?_ _)); exact BK180.out) hb); have n2_ := Aside0.mk (below_step (by repeat (first | (with_reducible first | exact HB.out | apply below_alloc | apply pw_below_drewN | apply below_drew1 | refine below_set ?_ GE179.out | refine below_set ?_ GE180.out) | exact HB.out)) hb); clear BK179; clear BK180; clear HB; have BK179 := n0_; have BK180 := n1_; have HB := n2_; clear n0_ n1_ n2_; (try clear hb); (try clear hb2); (try clear hk); (try clear hi)))
   go_ret2
   exact ⟨by first | rfl | (simp [errW_none, errW_some] <;> rfl) | (simp [*, errW_none, errW_some] <;> rfl), by repeat (first | (with_reducible first | exact HB.out | apply below_alloc | apply pw_below_drewN | apply below_drew1 | refine below_set ?_ GE179.out | refine below_set ?_ GE180.out) | exact HB.out)⟩
  ·rw [if_neg c6] at H
   have c6b0 : (t182 == 0) = false := beq_eq_false_iff_ne.mpr c6
   have c6b1 : (t182 != 0) = true := bne_iff_ne.mpr c6
   simp only [Option.some.injEq, Prod.mk.injEq] at H
   obtain ⟨rfl, rfl⟩ := H
   go_enter Tryd.func12, Tryd.ntmps12
   go_wp2_with (first | ((with_reducible refine gate_dst (N := 2) rfl ?_); refine box_event ?hg (N := 2) ?hd (cs := #[.int .i64 a0_0, .int .i64 a0_1, .string a0_2, .int .i64 a0_3, .int .i64 a0_4, .slice A0_5 l0_5.length c0_5]) (t := 24) ?hr ?_; (case hd => rfl); (case hg => rfl); (case hr => first | (go_simp; done) | (go_simp; rfl)); intro gb179 hg w18 hbox hb; have n0_ := Aside0.mk (below_step (by repeat (first | (with_reducible first | exact HB.out | apply below_alloc | apply pw_below_drewN | apply below_drew1) | exact HB.out)) hb); have n1_ := Aside0.mk (hbox); have n2_ := Aside0.mk ((by rw [hg]; exact (below_size (by repeat (first | (with_reducible first | exact HB.out | apply below_alloc | apply pw_below_drewN | apply below_drew1) | exact HB.out))) : w.heap.size ≤ gb179)); have n3_ := Aside0.mk ((by rw [hg]; exact (below_size (by repeat (first | (with_reducible first | exact HB.out | apply below_alloc | apply pw_below_drewN | apply below_drew1) | exact HB.out))) : w.heap.size ≤ gb179)); clear HB; have HB := n0_; have BK179 := n1_; have GW179 := n2_; have GE179 := n3_; clear n0_ n1_ n2_ n3_; clear hb hbox hg) | ((with_reducible refine gate_dst (N := 3) rfl ?_); refine box_event ?hg (N := 3) ?hd (cs := #[.slice A1_0 l1_0.length c1_0, .int .i64 a1_1, .int .i64 a1_2, .int .i64 a1_3]) (t := 29) ?hr ?_; (case hd => rfl); (case hg => rfl); (case hr => first | (go_simp; done) | (go_simp; rfl)); intro gb180 hg w19 hbox hb; have n0_ := Aside0.mk (blk_below (g := gb179) (o := .cells #[.int .i64 a0_0, .int .i64 a0_1, .string a0_2, .int .i64 a0_3, .int .i64 a0_4, .slice A0_5 l0_5.length c0_5] 24 (0, 0)) (by (with_reducible repeat (first | refine blk_drewN ?_ _ | refine blk_drew ?_ | refine blk_alloc ?_ _)); exact BK179.out) hb); have n1_ := Aside0.mk (below_step (by repeat (first | (with_reducible first | exact HB.out | apply below_alloc | apply pw_below_drewN | apply below_drew1 | refine below_set ?_ GE179.out) | exact HB.out)) hb); have n2_ := Aside0.mk (hbox); have n3_ := Aside0.mk ((by rw [hg]; exact (below_size (by repeat (first | (with_reducible first | exact HB.out | apply below_alloc | apply pw_below_drewN | apply below_drew1 | refine below_set ?_ GE179.out) | exact HB.out))) : w.heap.size ≤ gb180)); have n4_ := Aside0.mk ((by rw [hg]; exact (below_size (by repeat (first | (with_reducible first | exact HB.out | apply below_alloc | apply pw_below_drewN | apply below_drew1 | refine below_set ?_ GE179.out) | exact HB.out))) : w.heap.size ≤ gb180)); have n5_ := Aside0.mk ((by rw [hg]; exact Nat.ne_of_lt (blk_lt (g := gb179) (o := .cells #[.int .i64 a0_0, .int .i64 a0_1, .string a0_2, .int .i64 a0_3, .int .i64 a0_4, .slice A0_5 l0_5.length c0_5] 24 (0, 0)) (by (with_reducible repeat (first | refine blk_drewN ?_ _ | refine blk_drew ?_ | refine blk_alloc ?_ _)); exact BK179.out)) : gb179 ≠ gb180)); have n6_ := Aside0.mk ((by rw [hg]; exact Nat.ne_of_gt (blk_lt (g := gb179) (o := .cells #[.int .i64 a0_0, .int .i64 a0_1, .string a0_2, .int .i64 a0_3, .int .i64 a0_4, .slice A0_5 l0_5.length c0_5] 24 (0, 0)) (by (with_reducible repeat (first | refine blk_drewN ?_ _ | refine blk_drew ?_ | refine blk_alloc ?_ _)); exact BK179.out)) : gb180 ≠ gb179)); clear BK179; clear HB; have BK179 := n0_; have HB := n1_; have BK180 := n2_; have GW180 := n3_; have GE180 := n4_; have NB179_180 := n5_; have NB180_179 := n6_; clear n0_ n1_ n2_ n3_ n4_ n5_ n6_; clear hb hbox hg; have hnb20 := NB179_180.out; have hnc20 := NB180_179.out; have hcz21_0 : w19.cell? ⟨gb179, 0, none⟩ = some (.int .i64 a0_0) := (blk_cell BK179.out 0).trans rfl; have hcz21_1 : w19.cell? ⟨gb179, 1, none⟩ = some (.int .i64 a0_1) := (blk_cell BK179.out 1).trans rfl; have hcz21_2 : w19.cell? ⟨gb179, 2, none⟩ = some (.string a0_2) := (blk_cell BK179.out 2).trans rfl; have hcz21_3 : w19.cell? ⟨gb179, 3, none⟩ = some (.int .i64 a0_3) := (blk_cell BK179.out 3).trans rfl; have hcz21_4 : w19.cell? ⟨gb179, 4, none⟩ = some (.int .i64 a0_4) := (blk_cell BK179.out 4).trans rfl; have hcz21_5 : w19.cell? ⟨gb179, 5, none⟩ = some (.slice A0_5 l0_5.length c0_5) := (blk_cell BK179.out 5).trans rfl; have hfz21_0 := blk_frozen BK179.out 0; have hfz21_1 := blk_frozen BK179.out 1; have hfz21_2 := blk_frozen BK179.out 2; have hfz21_3 := blk_frozen BK179.out 3; have hfz21_4 := blk_frozen BK179.out 4; have hfz21_5 := blk_frozen BK179.out 5) | ((with_reducible refine gate_callee (f := 20) rfl ?_); refine goesL_ (some 9) rfl rfl Tryd.func20 (by kernel_rfl) rfl #[.agg #[.int .i64 a0_0, .int .i64 a0_1, .string a0_2, .int .i64 a0_3, .int .i64 a0_4, .slice A0_5 l0_5.length c0_5]] rfl (by (try simp only [List.map_toArray, List.map_cons, List.map_nil]); first | done | rfl | (simp only [List.length_drop, List.length_take]; rfl)) ?_; (with_reducible refine (rules_Check.calls a0_0 a0_1 a0_2 a0_3 a0_4 _ _ l0_5 t181 _ ?side1 ?side2 A3.out ?sideK).mono ?_); (case sideK => exact HKT.out.below (by repeat (first | (with_reducible first | exact HB.out | apply below_alloc | apply pw_below_drewN | apply below_drew1 | refine below_set ?_ GE179.out | refine below_set ?_ GE180.out) | exact HB.out))); (case side1 => repeat (first | exact (Kd.C_below HR0_5.out HB.out) | (with_reducible refine Kd.C_alloc ?_ _) | (with_reducible refine Kd.C_drewN ?_ _) | (with_reducible refine Kd.C_drew ?_))); (case side2 => exact HC0_5.out); rintro e w22 ⟨rfl, hb⟩; refine ⟨_, rfl, ?_⟩; have n0_ := Aside0.mk (blk_below (g := gb179) (o := .cells #[.int .i64 a0_0, .int .i64 a0_1, .string a0_2, .int .i64 a0_3, .int .i64 a0_4, .slice A0_5 l0_5.length c0_5] 24 (0, 0)) (by (with_reducible repeat (first | refine blk_drewN ?_ _ | refine blk_drew ?_ | refine blk_alloc ?_ _)); exact BK179.out) hb); have n1_ := Aside0.mk (blk_below (g := gb180) (o := .cells #[.slice A1_0 l1_0.length c1_0, .int .i64 a1_1, .int .i64 a1_2, .int .i64 a1_3] 29 (0, 0)) (by (with_reducible repeat (first | refine blk_drewN ?_ _ | refine blk_drew ?_ | refine blk_alloc ?_ _)); exact BK180.out) hb); have n2_ := Aside0.mk (below_step (by repeat (first | (with_reducible first | exact HB.out | apply below_alloc | apply pw_below_drewN | apply below_drew1 | refine below_set ?_ GE179.out | refine below_set ?_ GE180.out) | exact HB.out)) hb); clear BK179; clear BK180; clear HB; have BK179 := n0_; have BK180 := n1_; have HB := n2_; clear n0_ n1_ n2_; (try clear hb); (try clear hb2); (try clear hk); (try clear hi); have hcz23_0 : w22.cell? ⟨gb180, 0, none⟩ = some (.slice A1_0 l1_0.length c1_0) := (blk_cell BK180.out 0).trans rfl; have hcz23_1 : w22.cell? ⟨gb180, 1, none⟩ = some (.int .i64 a1_1) := (blk_cell BK180.out 1).trans rfl; have hcz23_2 : w22.cell? ⟨gb180, 2, none⟩ = some (.int .i64 a1_2) := (blk_cell BK180.out 2).trans rfl; have hcz23_3 : w22.cell? ⟨gb180, 3, none⟩ = some (.int .i64 a1_3) := (blk_cell BK180.out 3).trans rfl; have hfz23_0 := blk_frozen BK180.out 0; have hfz23_1 := blk_frozen BK180.out 1; have hfz23_2 := blk_frozen BK180.out 2; have hfz23_3 := blk_frozen BK180.out 3) | ((with_reducible refine gate_callee (f := 21) rfl ?_); refine goesL_ (some 14) rfl rfl Tryd.func21 (by kernel_rfl) rfl #[.agg #[.slice A1_0 l1_0.length c1_0, .int .i64 a1_1, .int .i64 a1_2, .int .i64 a1_3]] rfl (by (try simp only [List.map_toArray, List.map_cons, List.map_nil]); first | done | rfl | (simp only [List.length_drop, List.length_take]; rfl)) ?_; (with_reducible refine (rules_Fits.calls k _ _ l1_0 a1_1 a1_2 a1_3 t182 _ ?side1 ?side2 A5.out).mono ?_); (case side1 => repeat (first | exact (Kd.C_below HR1_0.out HB.out) | (with_reducible refine Kd.C_alloc ?_ _) | (with_reducible refine Kd.C_drewN ?_ _) | (with_reducible refine Kd.C_drew ?_))); (case side2 => exact HC1_0.out); rintro e w24 ⟨rfl, hb⟩; refine ⟨_, rfl, ?_⟩; have n0_ := Aside0.mk (blk_below (g := gb179) (o := .cells #[.int .i64 a0_0, .int .i64 a0_1, .string a0_2, .int .i64 a0_3, .int .i64 a0_4, .slice A0_5 l0_5.length c0_5] 24 (0, 0)) (by (with_reducible repeat (first | refine blk_drewN ?_ _ | refine blk_drew ?_ | refine blk_alloc ?_ _)); exact BK179.out) hb); have n1_ := Aside0.mk (blk_below (g := gb180) (o := .cells #[.slice A1_0 l1_0.length c1_0, .int .i64 a1_1, .int .i64 a1_2, .int .i64 a1_3] 29 (0, 0)) (by (with_reducible repeat (first | refine blk_drewN ?_ _ | refine blk_drew ?_ | refine blk_alloc ?_ _)); exact BK180.out) hb); have n2_ := Aside0.mk (below_step (by repeat (first | (with_reducible first | exact HB.out | apply below_alloc | apply pw_below_drewN | apply below_drew1 | refine below_set ?_ GE179.out | refine below_set ?_ GE180.out) | exact HB.out)) hb); clear BK179; clear BK180; clear HB; have BK179 := n0_; have BK180 := n1_; have HB := n2_; clear n0_ n1_ n2_; (try clear hb); (try clear hb2); (try clear hk); (try clear hi)))
   go_ret2
   exact ⟨by first | rfl | (simp [errW_none, errW_some] <;> rfl) | (simp [*, errW_none, errW_some] <;> rfl), by repeat (first | (with_reducible first | exact HB.out | apply below_alloc | apply pw_below_drewN | apply below_drew1 | refine below_set ?_ GE179.out | refine below_set ?_ GE180.out) | exact HB.out)⟩
 ·rw [if_neg c4] at H
  have c4b0 : (t181 == 0) = false := beq_eq_false_iff_ne.mpr c4
  have c4b1 : (t181 != 0) = true := bne_iff_ne.mpr c4
  simp only [Option.some.injEq, Prod.mk.injEq] at H
  obtain ⟨rfl, rfl⟩ := H
  go_enter Tryd.func12, Tryd.ntmps12
  go_wp2_with (first | ((with_reducible refine gate_dst (N := 2) rfl ?_); refine box_event ?hg (N := 2) ?hd (cs := #[.int .i64 a0_0, .int .i64 a0_1, .string a0_2, .int .i64 a0_3, .int .i64 a0_4, .slice A0_5 l0_5.length c0_5]) (t := 24) ?hr ?_; (case hd => rfl); (case hg => rfl); (case hr => first | (go_simp; done) | (go_simp; rfl)); intro gb179 hg w25 hbox hb; have n0_ := Aside0.mk (below_step (by repeat (first | (with_reducible first | exact HB.out | apply below_alloc | apply pw_below_drewN | apply below_drew1) | exact HB.out)) hb); have n1_ := Aside0.mk (hbox); have n2_ := Aside0.mk ((by rw [hg]; exact (below_size (by repeat (first | (with_reducible first | exact HB.out | apply below_alloc | apply pw_below_drewN | apply below_drew1) | exact HB.out))) : w.heap.size ≤ gb179)); have n3_ := Aside0.mk ((by rw [hg]; exact (below_size (by repeat (first | (with_reducible first | exact HB.out | apply below_alloc | apply pw_below_drewN | apply below_drew1) | exact HB.out))) : w.heap.size ≤ gb179)); clear HB; have HB := n0_; have BK179 := n1_; have GW179 := n2_; have GE179 := n3_; clear n0_ n1_ n2_ n3_; clear hb hbox hg) | ((with_reducible refine gate_dst (N := 3) rfl ?_); refine box_event ?hg (N := 3) ?hd (cs := #[.slice A1_0 l1_0.length c1_0, .int .i64 a1_1, .int .i64 a1_2, .int .i64 a1_3]) (t := 29) ?hr ?_; (case hd => rfl); (case hg => rfl); (case hr => first | (go_simp; done) | (go_simp; rfl)); intro gb180 hg w26 hbox hb; have n0_ := Aside0.mk (blk_below (g := gb179) (o := .cells #[.int .i64 a0_0, .int .i64 a0_1, .string a0_2, .int .i64 a0_3, .int .i64 a0_4, .slice A0_5 l0_5.length c0_5] 24 (0, 0)) (by (with_reducible repeat (first | refine blk_drewN ?_ _ | refine blk_drew ?_ | refine blk_alloc ?_ _)); exact BK179.out) hb); have n1_ := Aside0.mk (below_step (by repeat (first | (with_reducible first | exact HB.out | apply below_alloc | apply pw_below_drewN | apply below_drew1 | refine below_set ?_ GE179.out) | exact HB.out)) hb); have n2_ := Aside0.mk (hbox); have n3_ := Aside0.mk ((by rw [hg]; exact (below_size (by repeat (first | (with_reducible first | exact HB.out | apply below_alloc | apply pw_below_drewN | apply below_drew1 | refine below_set ?_ GE179.out) | exact HB.out))) : w.heap.size ≤ gb180)); have n4_ := Aside0.mk ((by rw [hg]; exact (below_size (by repeat (first | (with_reducible first | exact HB.out | apply below_alloc | apply pw_below_drewN | apply below_drew1 | refine below_set ?_ GE179.out) | exact HB.out))) : w.heap.size ≤ gb180)); have n5_ := Aside0.mk ((by rw [hg]; exact Nat.ne_of_lt (blk_lt (g := gb179) (o := .cells #[.int .i64 a0_0, .int .i64 a0_1, .string a0_2, .int .i64 a0_3, .int .i64 a0_4, .slice A0_5 l0_5.length c0_5] 24 (0, 0)) (by (with_reducible repeat (first | refine blk_drewN ?_ _ | refine blk_drew ?_ | refine blk_alloc ?_ _)); exact BK179.out)) : gb179 ≠ gb180)); have n6_ := Aside0.mk ((by rw [hg]; exact Nat.ne_of_gt (blk_lt (g := gb179) (o := .cells #[.int .i64 a0_0, .int .i64 a0_1, .string a0_2, .int .i64 a0_3, .int .i64 a0_4, .slice A0_5 l0_5.length c0_5] 24 (0, 0)) (by (with_reducible repeat (first | refine blk_drewN ?_ _ | refine blk_drew ?_ | refine blk_alloc ?_ _)); exact BK179.out)) : gb180 ≠ gb179)); clear BK179; clear HB; have BK179 := n0_; have HB := n1_; have BK180 := n2_; have GW180 := n3_; have GE180 := n4_; have NB179_180 := n5_; have NB180_179 := n6_; clear n0_ n1_ n2_ n3_ n4_ n5_ n6_; clear hb hbox hg; have hnb27 := NB179_180.out; have hnc27 := NB180_179.out; have hcz28_0 : w26.cell? ⟨gb179, 0, none⟩ = some (.int .i64 a0_0) := (blk_cell BK179.out 0).trans rfl; have hcz28_1 : w26.cell? ⟨gb179, 1, none⟩ = some (.int .i64 a0_1) := (blk_cell BK179.out 1).trans rfl; have hcz28_2 : w26.cell? ⟨gb179, 2, none⟩ = some (.string a0_2) := (blk_cell BK179.out 2).trans rfl; have hcz28_3 : w26.cell? ⟨gb179, 3, none⟩ = some (.int .i64 a0_3) := (blk_cell BK179.out 3).trans rfl; have hcz28_4 : w26.cell? ⟨gb179, 4, none⟩ = some (.int .i64 a0_4) := (blk_cell BK179.out 4).trans rfl; have hcz28_5 : w26.cell? ⟨gb179, 5, none⟩ = some (.slice A0_5 l0_5.length c0_5) := (blk_cell BK179.out 5).trans rfl; have hfz28_0 := blk_frozen BK179.out 0; have hfz28_1 := blk_frozen BK179.out 1; have hfz28_2 := blk_frozen BK179.out 2; have hfz28_3 := blk_frozen BK179.out 3; have hfz28_4 := blk_frozen BK179.out 4; have hfz28_5 := blk_frozen BK179.out 5) | ((with_reducible refine gate_callee (f := 20) rfl ?_); refine goesL_ (some 9) rfl rfl Tryd.func20 (by kernel_rfl) rfl #[.agg #[.int .i64 a0_0, .int .i64 a0_1, .string a0_2, .int .i64 a0_3, .int .i64 a0_4, .slice A0_5 l0_5.length c0_5]] rfl (by (try simp only [List.map_toArray, List.map_cons, List.map_nil]); first | done | rfl | (simp only [List.length_drop, List.length_take]; rfl)) ?_; (with_reducible refine (rules_Check.calls a0_0 a0_1 a0_2 a0_3 a0_4 _ _ l0_5 t181 _ ?side1 ?side2 A3.out ?sideK).mono ?_); (case sideK => exact HKT.out.below (by repeat (first | (with_reducible first | exact HB.out | apply below_alloc | apply pw_below_drewN | apply below_drew1 | refine below_set ?_ GE179.out | refine below_set ?_ GE180.out) | exact HB.out))); (case side1 => repeat (first | exact (Kd.C_below HR0_5.out HB.out) | (with_reducible refine Kd.C_alloc ?_ _) | (with_reducible refine Kd.C_drewN ?_ _) | (with_reducible refine Kd.C_drew ?_))); (case side2 => exact HC0_5.out); rintro e w29 ⟨rfl, hb⟩; refine ⟨_, rfl, ?_⟩; have n0_ := Aside0.mk (blk_below (g := gb179) (o := .cells #[.int .i64 a0_0, .int .i64 a0_1, .string a0_2, .int .i64 a0_3, .int .i64 a0_4, .slice A0_5 l0_5.length c0_5] 24 (0, 0)) (by (with_reducible repeat (first | refine blk_drewN ?_ _ | refine blk_drew ?_ | refine blk_alloc ?_ _)); exact BK179.out) hb); have n1_ := Aside0.mk (blk_below (g := gb180) (o := .cells #[.slice A1_0 l1_0.length c1_0, .int .i64 a1_1, .int .i64 a1_2, .int .i64 a1_3] 29 (0, 0)) (by (with_reducible repeat (first | refine blk_drewN ?_ _ | refine blk_drew ?_ | refine blk_alloc ?_ _)); exact BK180.out) hb); have n2_ := Aside0.mk (below_step (by repeat (first | (with_reducible first | exact HB.out | apply below_alloc | apply pw_below_drewN | apply below_drew1 | refine below_set ?_ GE179.out | refine below_set ?_ GE180.out) | exact HB.out)) hb); clear BK179; clear BK180; clear HB; have BK179 := n0_; have BK180 := n1_; have HB := n2_; clear n0_ n1_ n2_; (try clear hb); (try clear hb2); (try clear hk); (try clear hi)))
  go_ret2
  exact ⟨by first | rfl | (simp [errW_none, errW_some] <;> rfl) | (simp [*, errW_none, errW_some] <;> rfl), by repeat (first | (with_reducible first | exact HB.out | apply below_alloc | apply pw_below_drewN | apply below_drew1 | refine below_set ?_ GE179.out | refine below_set ?_ GE180.out) | exact HB.out)⟩
def sizarref12_SameAtom.f (a0_0 : Int) (a0_1 : Int) (a0_2 : ByteArray) (a0_3 : Int) (a0_4 : Int) (l0_5 : List (S24)) (a1_0 : Int) (a1_1 : Int) (a1_2 : ByteArray) (a1_3 : Int) (a1_4 : Int) (l1_5 : List (S24)) : Option (Bool) := if a0_0 = a1_0 then (if a0_1 = a1_1 then (if a0_3 = a1_3 then (some (a0_4 == a1_4)) else (some false)) else (some false)) else (some false)
set_option maxHeartbeats 8000000 in
set_option maxRecDepth 100000 in
theorem sizarref12_SameAtom.calls (a0_0 : Int) (a0_1 : Int) (a0_2 : ByteArray) (a0_3 : Int) (a0_4 : Int) (A0_5 : Option Addr) (c0_5 : Nat) (l0_5 : List (S24)) (a1_0 : Int) (a1_1 : Int) (a1_2 : ByteArray) (a1_3 : Int) (a1_4 : Int) (A1_5 : Option Addr) (c1_5 : Nat) (l1_5 : List (S24)) (r : Bool) (w : World) (hr0_5 : Kd.C k24 w A0_5 l0_5.length l0_5) (hc0_5 : l0_5.length ≤ c0_5) (hr1_5 : Kd.C k24 w A1_5 l1_5.length l1_5) (hc1_5 : l1_5.length ≤ c1_5) (h : sizarref12_SameAtom.f a0_0 a0_1 a0_2 a0_3 a0_4 l0_5 a1_0 a1_1 a1_2 a1_3 a1_4 l1_5 = some r) :
  Calls Tryd.prog 33 #[.agg #[.int .i64 a0_0, .int .i64 a0_1, .string a0_2, .int .i64 a0_3, .int .i64 a0_4, .slice A0_5 l0_5.length c0_5], .agg #[.int .i64 a1_0, .int .i64 a1_1, .string a1_2, .int .i64 a1_3, .int .i64 a1_4, .slice A1_5 l1_5.length c1_5]] w fun e w' => e = .returned (.bool r) ∧ Below w.heap.size w w' := by
 have hu24 := Tryd.underlying24
 have HR0_5 := Aside0.mk hr0_5
 have HC0_5 := Aside0.mk hc0_5
 clear hr0_5 hc0_5
 have HR1_5 := Aside0.mk hr1_5
 have HC1_5 := Aside0.mk hc1_5
 clear hr1_5 hc1_5
 have HB := Aside0.mk (Below.refl w.heap.size w)
 have H : (if a0_0 = a1_0 then (if a0_1 = a1_1 then (if a0_3 = a1_3 then (some (a0_4 == a1_4)) else (some false)) else (some false)) else (some false)) = some r := h
 clear h
 by_cases c3 : a0_0 = a1_0
 ·rw [if_pos c3] at H
  have c3b0 : (a0_0 == a1_0) = true := beq_iff_eq.mpr c3
  have c3b1 : (a0_0 != a1_0) = false := bne_eq_false_iff_eq.mpr c3
  clear c3
  by_cases c4 : a0_1 = a1_1
  ·rw [if_pos c4] at H
   have c4b0 : (a0_1 == a1_1) = true := beq_iff_eq.mpr c4
   have c4b1 : (a0_1 != a1_1) = false := bne_eq_false_iff_eq.mpr c4
   clear c4
   by_cases c5 : a0_3 = a1_3
   ·rw [if_pos c5] at H
    have c5b0 : (a0_3 == a1_3) = true := beq_iff_eq.mpr c5
    have c5b1 : (a0_3 != a1_3) = false := bne_eq_false_iff_eq.mpr c5
    clear c5
    obtain rfl := Option.some.inj H
    go_enter Tryd.func33, Tryd.ntmps33
    go_wp2_with (first | ((with_reducible refine gate_dst (N := 2) rfl ?_); refine box_event ?hg (N := 2) ?hd (cs := #[.int .i64 a0_0, .int .i64 a0_1, .string a0_2, .int .i64 a0_3, .int .i64 a0_4, .slice A0_5 l0_5.length c0_5]) (t := 24) ?hr ?_; (case hd => rfl); (case hg => rfl); (case hr => first | (go_simp; done) | (go_simp; rfl)); intro gb184 hg w6 hbox hb; have n0_ := Aside0.mk (below_step (by repeat (first | (with_reducible first | exact HB.out | apply below_alloc | apply pw_below_drewN | apply below_drew1) | exact HB.out)) hb); have n1_ := Aside0.mk (hbox); have n2_ := Aside0.mk ((by rw [hg]; exact (below_size (by repeat (first | (with_reducible first | exact HB.out | apply below_alloc | apply pw_below_drewN | apply below_drew1) | exact HB.out))) : w.heap.size ≤ gb184)); have n3_ := Aside0.mk ((by rw [hg]; exact (below_size (by repeat (first | (with_reducible first | exact HB.out | apply below_alloc | apply pw_below_drewN | apply below_drew1) | exact HB.out))) : w.heap.size ≤ gb184)); clear HB; have HB := n0_; have BK184 := n1_; have GW184 := n2_; have GE184 := n3_; clear n0_ n1_ n2_ n3_; clear hb hbox hg) | ((with_reducible refine gate_dst (N := 3) rfl ?_); refine box_event ?hg (N := 3) ?hd (cs := #[.int .i64 a1_0, .int .i64 a1_1, .string a1_2, .int .i64 a1_3, .int .i64 a1_4, .slice A1_5 l1_5.length c1_5]) (t := 24) ?hr ?_; (case hd => rfl); (case hg => rfl); (case hr => first | (go_simp; done) | (go_simp; rfl)); intro gb185 hg w7 hbox hb; have n0_ := Aside0.mk (blk_below (g := gb184) (o := .cells #[.int .i64 a0_0, .int .i64 a0_1, .string a0_2, .int .i64 a0_3, .int .i64 a0_4, .slice A0_5 l0_5.length c0_5] 24 (0, 0)) (by (with_reducible repeat (first | refine blk_drewN ?_ _ | refine blk_drew ?_ | refine blk_alloc ?_ _)); exact BK184.out) hb); have n1_ := Aside0.mk (below_step (by repeat (first | (with_reducible first | exact HB.out | apply below_alloc | apply pw_below_drewN | apply below_drew1 | refine below_set ?_ GE184.out) | exact HB.out)) hb); have n2_ := Aside0.mk (hbox); have n3_ := Aside0.mk ((by rw [hg]; exact (below_size (by repeat (first | (with_reducible first | exact HB.out | apply below_alloc | apply pw_below_drewN | apply below_drew1 | refine below_set ?_ GE184.out) | exact HB.out))) : w.heap.size ≤ gb185)); have n4_ := Aside0.mk ((by rw [hg]; exact (below_size (by repeat (first | (with_reducible first | exact HB.out | apply below_alloc | apply pw_below_drewN | apply below_drew1 | refine below_set ?_ GE184.out) | exact HB.out))) : w.heap.size ≤ gb185)); have n5_ := Aside0.mk ((by rw [hg]; exact Nat.ne_of_lt (blk_lt (g := gb184) (o := .cells #[.int .i64 a0_0, .int .i64 a0_1, .string a0_2, .int .i64 a0_3, .int .i64 a0_4, .slice A0_5 l0_5.length c0_5] 24 (0, 0)) (by (with_reducible repeat (first | refine blk_drewN ?_ _ | refine blk_drew ?_ | refine blk_alloc ?_ _)); exact BK184.out)) : gb184 ≠ gb185)); have n6_ := Aside0.mk ((by rw [hg]; exact Nat.ne_of_gt (blk_lt (g := gb184) (o := .cells #[.int .i64 a0_0, .int .i64 a0_1, .string a0_2, .int .i64 a0_3, .int .i64 a0_4, .slice A0_5 l0_5.length c0_5] 24 (0, 0)) (by (with_reducible repeat (first | refine blk_drewN ?_ _ | refine blk_drew ?_ | refine blk_alloc ?_ _)); exact BK184.out)) : gb185 ≠ gb184)); clear BK184; clear HB; have BK184 := n0_; have HB := n1_; have BK185 := n2_; have GW185 := n3_; have GE185 := n4_; have NB184_185 := n5_; have NB185_184 := n6_; clear n0_ n1_ n2_ n3_ n4_ n5_ n6_; clear hb hbox hg; have hnb8 := NB184_185.out; have hnc8 := NB185_184.out; have hcz9_0 : w7.cell? ⟨gb184, 0, none⟩ = some (.int .i64 a0_0) := (blk_cell BK184.out 0).trans rfl; have hcz9_1 : w7.cell? ⟨gb184, 1, none⟩ = some (.int .i64 a0_1) := (blk_cell BK184.out 1).trans rfl; have hcz9_2 : w7.cell? ⟨gb184, 2, none⟩ = some (.string a0_2) := (blk_cell BK184.out 2).trans rfl; have hcz9_3 : w7.cell? ⟨gb184, 3, none⟩ = some (.int .i64 a0_3) := (blk_cell BK184.out 3).trans rfl; have hcz9_4 : w7.cell? ⟨gb184, 4, none⟩ = some (.int .i64 a0_4) := (blk_cell BK184.out 4).trans rfl; have hcz9_5 : w7.cell? ⟨gb184, 5, none⟩ = some (.slice A0_5 l0_5.length c0_5) := (blk_cell BK184.out 5).trans rfl; have hfz9_0 := blk_frozen BK184.out 0; have hfz9_1 := blk_frozen BK184.out 1; have hfz9_2 := blk_frozen BK184.out 2; have hfz9_3 := blk_frozen BK184.out 3; have hfz9_4 := blk_frozen BK184.out 4; have hfz9_5 := blk_frozen BK184.out 5; have hcz10_0 : w7.cell? ⟨gb185, 0, none⟩ = some (.int .i64 a1_0) := (blk_cell BK185.out 0).trans rfl; have hcz10_1 : w7.cell? ⟨gb185, 1, none⟩ = some (.int .i64 a1_1) := (blk_cell BK185.out 1).trans rfl; have hcz10_2 : w7.cell? ⟨gb185, 2, none⟩ = some (.string a1_2) := (blk_cell BK185.out 2).trans rfl; have hcz10_3 : w7.cell? ⟨gb185, 3, none⟩ = some (.int .i64 a1_3) := (blk_cell BK185.out 3).trans rfl; have hcz10_4 : w7.cell? ⟨gb185, 4, none⟩ = some (.int .i64 a1_4) := (blk_cell BK185.out 4).trans rfl; have hcz10_5 : w7.cell? ⟨gb185, 5, none⟩ = some (.slice A1_5 l1_5.length c1_5) := (blk_cell BK185.out 5).trans rfl; have hfz10_0 := blk_frozen BK185.out 0; have hfz10_1 := blk_frozen BK185.out 1; have hfz10_2 := blk_frozen BK185.out 2; have hfz10_3 := blk_frozen BK185.out 3; have hfz10_4 := blk_frozen BK185.out 4; have hfz10_5 := blk_frozen BK185.out 5))
    go_ret
    exact ⟨by first | rfl | (simp [errW_none, errW_some] <;> rfl) | (simp [*, errW_none, errW_some] <;> rfl), by repeat (first | (with_reducible first | exact HB.out | apply below_alloc | apply pw_below_drewN | apply below_drew1 | refine below_set ?_ GE184.out | refine below_set ?_ GE185.out) | exact HB.out)⟩
   ·rw [if_neg c5] at H
    have c5b0 : (a0_3 == a1_3) = false := beq_eq_false_iff_ne.mpr c5
    have c5b1 : (a0_3 != a1_3) = true := bne_iff_ne.mpr c5
    obtain rfl := Option.some.inj H
    go_enter Tryd.func33, Tryd.ntmps33
    go_wp2_with (first | ((with_reducible refine gate_dst (N := 2) rfl ?_); refine box_event ?hg (N := 2) ?hd (cs := #[.int .i64 a0_0, .int .i64 a0_1, .string a0_2, .int .i64 a0_3, .int .i64 a0_4, .slice A0_5 l0_5.length c0_5]) (t := 24) ?hr ?_; (case hd => rfl); (case hg => rfl); (case hr => first | (go_simp; done) | (go_simp; rfl)); intro gb184 hg w11 hbox hb; have n0_ := Aside0.mk (below_step (by repeat (first | (with_reducible first | exact HB.out | apply below_alloc | apply pw_below_drewN | apply below_drew1) | exact HB.out)) hb); have n1_ := Aside0.mk (hbox); have n2_ := Aside0.mk ((by rw [hg]; exact (below_size (by repeat (first | (with_reducible first | exact HB.out | apply below_alloc | apply pw_below_drewN | apply below_drew1) | exact HB.out))) : w.heap.size ≤ gb184)); have n3_ := Aside0.mk ((by rw [hg]; exact (below_size (by repeat (first | (with_reducible first | exact HB.out | apply below_alloc | apply pw_below_drewN | apply below_drew1) | exact HB.out))) : w.heap.size ≤ gb184)); clear HB; have HB := n0_; have BK184 := n1_; have GW184 := n2_; have GE184 := n3_; clear n0_ n1_ n2_ n3_; clear hb hbox hg) | ((with_reducible refine gate_dst (N := 3) rfl ?_); refine box_event ?hg (N := 3) ?hd (cs := #[.int .i64 a1_0, .int .i64 a1_1, .string a1_2, .int .i64 a1_3, .int .i64 a1_4, .slice A1_5 l1_5.length c1_5]) (t := 24) ?hr ?_; (case hd => rfl); (case hg => rfl); (case hr => first | (go_simp; done) | (go_simp; rfl)); intro gb185 hg w12 hbox hb; have n0_ := Aside0.mk (blk_below (g := gb184) (o := .cells #[.int .i64 a0_0, .int .i64 a0_1, .string a0_2, .int .i64 a0_3, .int .i64 a0_4, .slice A0_5 l0_5.length c0_5] 24 (0, 0)) (by (with_reducible repeat (first | refine blk_drewN ?_ _ | refine blk_drew ?_ | refine blk_alloc ?_ _)); exact BK184.out) hb); have n1_ := Aside0.mk (below_step (by repeat (first | (with_reducible first | exact HB.out | apply below_alloc | apply pw_below_drewN | apply below_drew1 | refine below_set ?_ GE184.out) | exact HB.out)) hb); have n2_ := Aside0.mk (hbox); have n3_ := Aside0.mk ((by rw [hg]; exact (below_size (by repeat (first | (with_reducible first | exact HB.out | apply below_alloc | apply pw_below_drewN | apply below_drew1 | refine below_set ?_ GE184.out) | exact HB.out))) : w.heap.size ≤ gb185)); have n4_ := Aside0.mk ((by rw [hg]; exact (below_size (by repeat (first | (with_reducible first | exact HB.out | apply below_alloc | apply pw_below_drewN | apply below_drew1 | refine below_set ?_ GE184.out) | exact HB.out))) : w.heap.size ≤ gb185)); have n5_ := Aside0.mk ((by rw [hg]; exact Nat.ne_of_lt (blk_lt (g := gb184) (o := .cells #[.int .i64 a0_0, .int .i64 a0_1, .string a0_2, .int .i64 a0_3, .int .i64 a0_4, .slice A0_5 l0_5.length c0_5] 24 (0, 0)) (by (with_reducible repeat (first | refine blk_drewN ?_ _ | refine blk_drew ?_ | refine blk_alloc ?_ _)); exact BK184.out)) : gb184 ≠ gb185)); have n6_ := Aside0.mk ((by rw [hg]; exact Nat.ne_of_gt (blk_lt (g := gb184) (o := .cells #[.int .i64 a0_0, .int .i64 a0_1, .string a0_2, .int .i64 a0_3, .int .i64 a0_4, .slice A0_5 l0_5.length c0_5] 24 (0, 0)) (by (with_reducible repeat (first | refine blk_drewN ?_ _ | refine blk_drew ?_ | refine blk_alloc ?_ _)); exact BK184.out)) : gb185 ≠ gb184)); clear BK184; clear HB; have BK184 := n0_; have HB := n1_; have BK185 := n2_; have GW185 := n3_; have GE185 := n4_; have NB184_185 := n5_; have NB185_184 := n6_; clear n0_ n1_ n2_ n3_ n4_ n5_ n6_; clear hb hbox hg; have hnb13 := NB184_185.out; have hnc13 := NB185_184.out; have hcz14_0 : w12.cell? ⟨gb184, 0, none⟩ = some (.int .i64 a0_0) := (blk_cell BK184.out 0).trans rfl; have hcz14_1 : w12.cell? ⟨gb184, 1, none⟩ = some (.int .i64 a0_1) := (blk_cell BK184.out 1).trans rfl; have hcz14_2 : w12.cell? ⟨gb184, 2, none⟩ = some (.string a0_2) := (blk_cell BK184.out 2).trans rfl; have hcz14_3 : w12.cell? ⟨gb184, 3, none⟩ = some (.int .i64 a0_3) := (blk_cell BK184.out 3).trans rfl; have hcz14_4 : w12.cell? ⟨gb184, 4, none⟩ = some (.int .i64 a0_4) := (blk_cell BK184.out 4).trans rfl; have hcz14_5 : w12.cell? ⟨gb184, 5, none⟩ = some (.slice A0_5 l0_5.length c0_5) := (blk_cell BK184.out 5).trans rfl; have hfz14_0 := blk_frozen BK184.out 0; have hfz14_1 := blk_frozen BK184.out 1; have hfz14_2 := blk_frozen BK184.out 2; have hfz14_3 := blk_frozen BK184.out 3; have hfz14_4 := blk_frozen BK184.out 4; have hfz14_5 := blk_frozen BK184.out 5; have hcz15_0 : w12.cell? ⟨gb185, 0, none⟩ = some (.int .i64 a1_0) := (blk_cell BK185.out 0).trans rfl; have hcz15_1 : w12.cell? ⟨gb185, 1, none⟩ = some (.int .i64 a1_1) := (blk_cell BK185.out 1).trans rfl; have hcz15_2 : w12.cell? ⟨gb185, 2, none⟩ = some (.string a1_2) := (blk_cell BK185.out 2).trans rfl; have hcz15_3 : w12.cell? ⟨gb185, 3, none⟩ = some (.int .i64 a1_3) := (blk_cell BK185.out 3).trans rfl; have hcz15_4 : w12.cell? ⟨gb185, 4, none⟩ = some (.int .i64 a1_4) := (blk_cell BK185.out 4).trans rfl; have hcz15_5 : w12.cell? ⟨gb185, 5, none⟩ = some (.slice A1_5 l1_5.length c1_5) := (blk_cell BK185.out 5).trans rfl; have hfz15_0 := blk_frozen BK185.out 0; have hfz15_1 := blk_frozen BK185.out 1; have hfz15_2 := blk_frozen BK185.out 2; have hfz15_3 := blk_frozen BK185.out 3; have hfz15_4 := blk_frozen BK185.out 4; have hfz15_5 := blk_frozen BK185.out 5))
    go_ret
    exact ⟨by first | rfl | (simp [errW_none, errW_some] <;> rfl) | (simp [*, errW_none, errW_some] <;> rfl), by repeat (first | (with_reducible first | exact HB.out | apply below_alloc | apply pw_below_drewN | apply below_drew1 | refine below_set ?_ GE184.out | refine below_set ?_ GE185.out) | exact HB.out)⟩
  ·rw [if_neg c4] at H
   have c4b0 : (a0_1 == a1_1) = false := beq_eq_false_iff_ne.mpr c4
   have c4b1 : (a0_1 != a1_1) = true := bne_iff_ne.mpr c4
   obtain rfl := Option.some.inj H
   go_enter Tryd.func33, Tryd.ntmps33
   go_wp2_with (first | ((with_reducible refine gate_dst (N := 2) rfl ?_); refine box_event ?hg (N := 2) ?hd (cs := #[.int .i64 a0_0, .int .i64 a0_1, .string a0_2, .int .i64 a0_3, .int .i64 a0_4, .slice A0_5 l0_5.length c0_5]) (t := 24) ?hr ?_; (case hd => rfl); (case hg => rfl); (case hr => first | (go_simp; done) | (go_simp; rfl)); intro gb184 hg w16 hbox hb; have n0_ := Aside0.mk (below_step (by repeat (first | (with_reducible first | exact HB.out | apply below_alloc | apply pw_below_drewN | apply below_drew1) | exact HB.out)) hb); have n1_ := Aside0.mk (hbox); have n2_ := Aside0.mk ((by rw [hg]; exact (below_size (by repeat (first | (with_reducible first | exact HB.out | apply below_alloc | apply pw_below_drewN | apply below_drew1) | exact HB.out))) : w.heap.size ≤ gb184)); have n3_ := Aside0.mk ((by rw [hg]; exact (below_size (by repeat (first | (with_reducible first | exact HB.out | apply below_alloc | apply pw_below_drewN | apply below_drew1) | exact HB.out))) : w.heap.size ≤ gb184)); clear HB; have HB := n0_; have BK184 := n1_; have GW184 := n2_; have GE184 := n3_; clear n0_ n1_ n2_ n3_; clear hb hbox hg) | ((with_reducible refine gate_dst (N := 3) rfl ?_); refine box_event ?hg (N := 3) ?hd (cs := #[.int .i64 a1_0, .int .i64 a1_1, .string a1_2, .int .i64 a1_3, .int .i64 a1_4, .slice A1_5 l1_5.length c1_5]) (t := 24) ?hr ?_; (case hd => rfl); (case hg => rfl); (case hr => first | (go_simp; done) | (go_simp; rfl)); intro gb185 hg w17 hbox hb; have n0_ := Aside0.mk (blk_below (g := gb184) (o := .cells #[.int .i64 a0_0, .int .i64 a0_1, .string a0_2, .int .i64 a0_3, .int .i64 a0_4, .slice A0_5 l0_5.length c0_5] 24 (0, 0)) (by (with_reducible repeat (first | refine blk_drewN ?_ _ | refine blk_drew ?_ | refine blk_alloc ?_ _)); exact BK184.out) hb); have n1_ := Aside0.mk (below_step (by repeat (first | (with_reducible first | exact HB.out | apply below_alloc | apply pw_below_drewN | apply below_drew1 | refine below_set ?_ GE184.out) | exact HB.out)) hb); have n2_ := Aside0.mk (hbox); have n3_ := Aside0.mk ((by rw [hg]; exact (below_size (by repeat (first | (with_reducible first | exact HB.out | apply below_alloc | apply pw_below_drewN | apply below_drew1 | refine below_set ?_ GE184.out) | exact HB.out))) : w.heap.size ≤ gb185)); have n4_ := Aside0.mk ((by rw [hg]; exact (below_size (by repeat (first | (with_reducible first | exact HB.out | apply below_alloc | apply pw_below_drewN | apply below_drew1 | refine below_set ?_ GE184.out) | exact HB.out))) : w.heap.size ≤ gb185)); have n5_ := Aside0.mk ((by rw [hg]; exact Nat.ne_of_lt (blk_lt (g := gb184) (o := .cells #[.int .i64 a0_0, .int .i64 a0_1, .string a0_2, .int .i64 a0_3, .int .i64 a0_4, .slice A0_5 l0_5.length c0_5] 24 (0, 0)) (by (with_reducible repeat (first | refine blk_drewN ?_ _ | refine blk_drew ?_ | refine blk_alloc ?_ _)); exact BK184.out)) : gb184 ≠ gb185)); have n6_ := Aside0.mk ((by rw [hg]; exact Nat.ne_of_gt (blk_lt (g := gb184) (o := .cells #[.int .i64 a0_0, .int .i64 a0_1, .string a0_2, .int .i64 a0_3, .int .i64 a0_4, .slice A0_5 l0_5.length c0_5] 24 (0, 0)) (by (with_reducible repeat (first | refine blk_drewN ?_ _ | refine blk_drew ?_ | refine blk_alloc ?_ _)); exact BK184.out)) : gb185 ≠ gb184)); clear BK184; clear HB; have BK184 := n0_; have HB := n1_; have BK185 := n2_; have GW185 := n3_; have GE185 := n4_; have NB184_185 := n5_; have NB185_184 := n6_; clear n0_ n1_ n2_ n3_ n4_ n5_ n6_; clear hb hbox hg; have hnb18 := NB184_185.out; have hnc18 := NB185_184.out; have hcz19_0 : w17.cell? ⟨gb184, 0, none⟩ = some (.int .i64 a0_0) := (blk_cell BK184.out 0).trans rfl; have hcz19_1 : w17.cell? ⟨gb184, 1, none⟩ = some (.int .i64 a0_1) := (blk_cell BK184.out 1).trans rfl; have hcz19_2 : w17.cell? ⟨gb184, 2, none⟩ = some (.string a0_2) := (blk_cell BK184.out 2).trans rfl; have hcz19_3 : w17.cell? ⟨gb184, 3, none⟩ = some (.int .i64 a0_3) := (blk_cell BK184.out 3).trans rfl; have hcz19_4 : w17.cell? ⟨gb184, 4, none⟩ = some (.int .i64 a0_4) := (blk_cell BK184.out 4).trans rfl; have hcz19_5 : w17.cell? ⟨gb184, 5, none⟩ = some (.slice A0_5 l0_5.length c0_5) := (blk_cell BK184.out 5).trans rfl; have hfz19_0 := blk_frozen BK184.out 0; have hfz19_1 := blk_frozen BK184.out 1; have hfz19_2 := blk_frozen BK184.out 2; have hfz19_3 := blk_frozen BK184.out 3; have hfz19_4 := blk_frozen BK184.out 4; have hfz19_5 := blk_frozen BK184.out 5; have hcz20_0 : w17.cell? ⟨gb185, 0, none⟩ = some (.int .i64 a1_0) := (blk_cell BK185.out 0).trans rfl; have hcz20_1 : w17.cell? ⟨gb185, 1, none⟩ = some (.int .i64 a1_1) := (blk_cell BK185.out 1).trans rfl; have hcz20_2 : w17.cell? ⟨gb185, 2, none⟩ = some (.string a1_2) := (blk_cell BK185.out 2).trans rfl; have hcz20_3 : w17.cell? ⟨gb185, 3, none⟩ = some (.int .i64 a1_3) := (blk_cell BK185.out 3).trans rfl; have hcz20_4 : w17.cell? ⟨gb185, 4, none⟩ = some (.int .i64 a1_4) := (blk_cell BK185.out 4).trans rfl; have hcz20_5 : w17.cell? ⟨gb185, 5, none⟩ = some (.slice A1_5 l1_5.length c1_5) := (blk_cell BK185.out 5).trans rfl; have hfz20_0 := blk_frozen BK185.out 0; have hfz20_1 := blk_frozen BK185.out 1; have hfz20_2 := blk_frozen BK185.out 2; have hfz20_3 := blk_frozen BK185.out 3; have hfz20_4 := blk_frozen BK185.out 4; have hfz20_5 := blk_frozen BK185.out 5))
   go_ret
   exact ⟨by first | rfl | (simp [errW_none, errW_some] <;> rfl) | (simp [*, errW_none, errW_some] <;> rfl), by repeat (first | (with_reducible first | exact HB.out | apply below_alloc | apply pw_below_drewN | apply below_drew1 | refine below_set ?_ GE184.out | refine below_set ?_ GE185.out) | exact HB.out)⟩
 ·rw [if_neg c3] at H
  have c3b0 : (a0_0 == a1_0) = false := beq_eq_false_iff_ne.mpr c3
  have c3b1 : (a0_0 != a1_0) = true := bne_iff_ne.mpr c3
  obtain rfl := Option.some.inj H
  go_enter Tryd.func33, Tryd.ntmps33
  go_wp2_with (first | ((with_reducible refine gate_dst (N := 2) rfl ?_); refine box_event ?hg (N := 2) ?hd (cs := #[.int .i64 a0_0, .int .i64 a0_1, .string a0_2, .int .i64 a0_3, .int .i64 a0_4, .slice A0_5 l0_5.length c0_5]) (t := 24) ?hr ?_; (case hd => rfl); (case hg => rfl); (case hr => first | (go_simp; done) | (go_simp; rfl)); intro gb184 hg w21 hbox hb; have n0_ := Aside0.mk (below_step (by repeat (first | (with_reducible first | exact HB.out | apply below_alloc | apply pw_below_drewN | apply below_drew1) | exact HB.out)) hb); have n1_ := Aside0.mk (hbox); have n2_ := Aside0.mk ((by rw [hg]; exact (below_size (by repeat (first | (with_reducible first | exact HB.out | apply below_alloc | apply pw_below_drewN | apply below_drew1) | exact HB.out))) : w.heap.size ≤ gb184)); have n3_ := Aside0.mk ((by rw [hg]; exact (below_size (by repeat (first | (with_reducible first | exact HB.out | apply below_alloc | apply pw_below_drewN | apply below_drew1) | exact HB.out))) : w.heap.size ≤ gb184)); clear HB; have HB := n0_; have BK184 := n1_; have GW184 := n2_; have GE184 := n3_; clear n0_ n1_ n2_ n3_; clear hb hbox hg) | ((with_reducible refine gate_dst (N := 3) rfl ?_); refine box_event ?hg (N := 3) ?hd (cs := #[.int .i64 a1_0, .int .i64 a1_1, .string a1_2, .int .i64 a1_3, .int .i64 a1_4, .slice A1_5 l1_5.length c1_5]) (t := 24) ?hr ?_; (case hd => rfl); (case hg => rfl); (case hr => first | (go_simp; done) | (go_simp; rfl)); intro gb185 hg w22 hbox hb; have n0_ := Aside0.mk (blk_below (g := gb184) (o := .cells #[.int .i64 a0_0, .int .i64 a0_1, .string a0_2, .int .i64 a0_3, .int .i64 a0_4, .slice A0_5 l0_5.length c0_5] 24 (0, 0)) (by (with_reducible repeat (first | refine blk_drewN ?_ _ | refine blk_drew ?_ | refine blk_alloc ?_ _)); exact BK184.out) hb); have n1_ := Aside0.mk (below_step (by repeat (first | (with_reducible first | exact HB.out | apply below_alloc | apply pw_below_drewN | apply below_drew1 | refine below_set ?_ GE184.out) | exact HB.out)) hb); have n2_ := Aside0.mk (hbox); have n3_ := Aside0.mk ((by rw [hg]; exact (below_size (by repeat (first | (with_reducible first | exact HB.out | apply below_alloc | apply pw_below_drewN | apply below_drew1 | refine below_set ?_ GE184.out) | exact HB.out))) : w.heap.size ≤ gb185)); have n4_ := Aside0.mk ((by rw [hg]; exact (below_size (by repeat (first | (with_reducible first | exact HB.out | apply below_alloc | apply pw_below_drewN | apply below_drew1 | refine below_set ?_ GE184.out) | exact HB.out))) : w.heap.size ≤ gb185)); have n5_ := Aside0.mk ((by rw [hg]; exact Nat.ne_of_lt (blk_lt (g := gb184) (o := .cells #[.int .i64 a0_0, .int .i64 a0_1, .string a0_2, .int .i64 a0_3, .int .i64 a0_4, .slice A0_5 l0_5.length c0_5] 24 (0, 0)) (by (with_reducible repeat (first | refine blk_drewN ?_ _ | refine blk_drew ?_ | refine blk_alloc ?_ _)); exact BK184.out)) : gb184 ≠ gb185)); have n6_ := Aside0.mk ((by rw [hg]; exact Nat.ne_of_gt (blk_lt (g := gb184) (o := .cells #[.int .i64 a0_0, .int .i64 a0_1, .string a0_2, .int .i64 a0_3, .int .i64 a0_4, .slice A0_5 l0_5.length c0_5] 24 (0, 0)) (by (with_reducible repeat (first | refine blk_drewN ?_ _ | refine blk_drew ?_ | refine blk_alloc ?_ _)); exact BK184.out)) : gb185 ≠ gb184)); clear BK184; clear HB; have BK184 := n0_; have HB := n1_; have BK185 := n2_; have GW185 := n3_; have GE185 := n4_; have NB184_185 := n5_; have NB185_184 := n6_; clear n0_ n1_ n2_ n3_ n4_ n5_ n6_; clear hb hbox hg; have hnb23 := NB184_185.out; have hnc23 := NB185_184.out; have hcz24_0 : w22.cell? ⟨gb184, 0, none⟩ = some (.int .i64 a0_0) := (blk_cell BK184.out 0).trans rfl; have hcz24_1 : w22.cell? ⟨gb184, 1, none⟩ = some (.int .i64 a0_1) := (blk_cell BK184.out 1).trans rfl; have hcz24_2 : w22.cell? ⟨gb184, 2, none⟩ = some (.string a0_2) := (blk_cell BK184.out 2).trans rfl; have hcz24_3 : w22.cell? ⟨gb184, 3, none⟩ = some (.int .i64 a0_3) := (blk_cell BK184.out 3).trans rfl; have hcz24_4 : w22.cell? ⟨gb184, 4, none⟩ = some (.int .i64 a0_4) := (blk_cell BK184.out 4).trans rfl; have hcz24_5 : w22.cell? ⟨gb184, 5, none⟩ = some (.slice A0_5 l0_5.length c0_5) := (blk_cell BK184.out 5).trans rfl; have hfz24_0 := blk_frozen BK184.out 0; have hfz24_1 := blk_frozen BK184.out 1; have hfz24_2 := blk_frozen BK184.out 2; have hfz24_3 := blk_frozen BK184.out 3; have hfz24_4 := blk_frozen BK184.out 4; have hfz24_5 := blk_frozen BK184.out 5; have hcz25_0 : w22.cell? ⟨gb185, 0, none⟩ = some (.int .i64 a1_0) := (blk_cell BK185.out 0).trans rfl; have hcz25_1 : w22.cell? ⟨gb185, 1, none⟩ = some (.int .i64 a1_1) := (blk_cell BK185.out 1).trans rfl; have hcz25_2 : w22.cell? ⟨gb185, 2, none⟩ = some (.string a1_2) := (blk_cell BK185.out 2).trans rfl; have hcz25_3 : w22.cell? ⟨gb185, 3, none⟩ = some (.int .i64 a1_3) := (blk_cell BK185.out 3).trans rfl; have hcz25_4 : w22.cell? ⟨gb185, 4, none⟩ = some (.int .i64 a1_4) := (blk_cell BK185.out 4).trans rfl; have hcz25_5 : w22.cell? ⟨gb185, 5, none⟩ = some (.slice A1_5 l1_5.length c1_5) := (blk_cell BK185.out 5).trans rfl; have hfz25_0 := blk_frozen BK185.out 0; have hfz25_1 := blk_frozen BK185.out 1; have hfz25_2 := blk_frozen BK185.out 2; have hfz25_3 := blk_frozen BK185.out 3; have hfz25_4 := blk_frozen BK185.out 4; have hfz25_5 := blk_frozen BK185.out 5))
  go_ret
  exact ⟨by first | rfl | (simp [errW_none, errW_some] <;> rfl) | (simp [*, errW_none, errW_some] <;> rfl), by repeat (first | (with_reducible first | exact HB.out | apply below_alloc | apply pw_below_drewN | apply below_drew1 | refine below_set ?_ GE184.out | refine below_set ?_ GE185.out) | exact HB.out)⟩
end Go.Proofs.YtabocfninjankaaDoor.P
namespace Go.Proofs.YtabocfninjankaaDoor.P
open Go.RowKit Go.Proofs.YtabocfninjankaaDoorW.PrintWords Go.Proofs.YtabocfninjankaaDoorW.PrintLast Go.Proofs.YtabocfninjankaaDoorW.PrintMore
attribute [local go_sem] max2_int min2_int max_two min_two max_three min_three max_four min_four   -- for this text's walks alone
set_option linter.unusedVariables false
set_option linter.unusedSimpArgs false
mutual
def sizarref12_Depth.l0 : Nat → Int → Int → Int → Int → ByteArray → Int → Int → List (S24) → Option (Int)
 | 0, _, _, _, _, _, _, _, _ => none
 | k + 1, x3, x4, x287000, x287001, x287002, x287003, x287004, x287005 => if x4 < (x287005.length : Int) then (if 0 ≤ x4 then ((sizarref12_Depth.f k ((rd_T24 x287005 x4).f0) ((rd_T24 x287005 x4).f1) ((rd_T24 x287005 x4).f2) ((rd_T24 x287005 x4).f3) ((rd_T24 x287005 x4).f4) ((rd_T24 x287005 x4).f5)).bind fun t288 => (sizarref12_Depth.l0 k (mx x3 t288) (wrap64 (x4 + 1)) x287000 x287001 x287002 x287003 x287004 x287005)) else (none)) else (some (wrap64 (x3 + 1)))
def sizarref12_Depth.f : Nat → Int → Int → ByteArray → Int → Int → List (S24) → Option (Int)
 | 0, _, _, _, _, _, _ => none
 | k + 1, a0_0, a0_1, a0_2, a0_3, a0_4, l0_5 => sizarref12_Depth.l0 k 0 0 a0_0 a0_1 a0_2 a0_3 a0_4 l0_5
end
set_option maxHeartbeats 8000000 in
set_option maxRecDepth 100000 in
theorem sizarref12_Depth.calls (k : Nat) : ∀ (a0_0 : Int) (a0_1 : Int) (a0_2 : ByteArray) (a0_3 : Int) (a0_4 : Int) (A0_5 : Option Addr) (c0_5 : Nat) (l0_5 : List (S24)) (r : Int) (w : World) (hr0_5 : Kd.C k24 w A0_5 l0_5.length l0_5) (hc0_5 : l0_5.length ≤ c0_5) (h : sizarref12_Depth.f k a0_0 a0_1 a0_2 a0_3 a0_4 l0_5 = some r),
  Calls Tryd.prog 27 #[.agg #[.int .i64 a0_0, .int .i64 a0_1, .string a0_2, .int .i64 a0_3, .int .i64 a0_4, .slice A0_5 l0_5.length c0_5]] w fun e w' => e = .returned (.int .i64 r) ∧ Below w.heap.size w w' := by
 induction k using Nat.strongRecOn with
 | _ k ih =>
 intro a0_0 a0_1 a0_2 a0_3 a0_4 A0_5 c0_5 l0_5 r w hr0_5 hc0_5 h
 cases k with
 | zero => exact absurd h (by simp [sizarref12_Depth.f])
 | succ k =>
 simp only [sizarref12_Depth.f] at h
 have hu24 := Tryd.underlying24
 have HR0_5 := Aside0.mk hr0_5
 have HC0_5 := Aside0.mk hc0_5
 clear hr0_5 hc0_5
 have HB := Aside0.mk (Below.refl w.heap.size w)
 have H : (sizarref12_Depth.l0 k 0 0 a0_0 a0_1 a0_2 a0_3 a0_4 l0_5) = some r := h
 clear h
 have H' := Aside0.mk H
 clear H
 go_enter Tryd.func27, Tryd.ntmps27
 go_wp2_with (first | ((with_reducible refine gate_dst (N := 1) rfl ?_); refine box_event ?hg (N := 1) ?hd (cs := #[.int .i64 a0_0, .int .i64 a0_1, .string a0_2, .int .i64 a0_3, .int .i64 a0_4, .slice A0_5 l0_5.length c0_5]) (t := 24) ?hr ?_; (case hd => rfl); (case hg => rfl); (case hr => first | (go_simp; done) | (go_simp; rfl)); intro gb286 hg w2 hbox hb; have n0_ := Aside0.mk (below_step (by repeat (first | (with_reducible first | exact HB.out | apply below_alloc | apply pw_below_drewN | apply below_drew1) | exact HB.out)) hb); have n1_ := Aside0.mk (hbox); have n2_ := Aside0.mk ((by rw [hg]; exact (below_size (by repeat (first | (with_reducible first | exact HB.out | apply below_alloc | apply pw_below_drewN | apply below_drew1) | exact HB.out))) : w.heap.size ≤ gb286)); have n3_ := Aside0.mk ((by rw [hg]; exact (below_size (by repeat (first | (with_reducible first | exact HB.out | apply below_alloc | apply pw_below_drewN | apply below_drew1) | exact HB.out))) : w.heap.size ≤ gb286)); clear HB; have HB := n0_; have BK286 := n1_; have GW286 := n2_; have GE286 := n3_; clear n0_ n1_ n2_ n3_; clear hb hbox hg))
 go_loopg [3, 4] k (fun kq v3 v4 w' => ∃ (x3_1 : Int) (x4_1 : Int), v3 = .int .i64 x3_1 ∧ v4 = .int .i64 x4_1 ∧ Aside0 (sizarref12_Depth.l0 kq x3_1 x4_1 a0_0 a0_1 a0_2 a0_3 a0_4 l0_5 = some r) ∧ Aside0 (kq ≤ k) ∧ Aside0 (w'.heap[gb286]? = some (.cells #[.int .i64 a0_0, .int .i64 a0_1, .string a0_2, .int .i64 a0_3, .int .i64 a0_4, (.slice A0_5 l0_5.length c0_5)] 24 (0, 0))) ∧ Aside0 (Below w.heap.size w w'))
 case atStart => exact ⟨(0), (0), (by first | rfl | (simp; done) | (simp [*]; done)), (by first | rfl | (simp; done) | (simp [*]; done)), H', ⟨Nat.le_refl _⟩, ⟨by (with_reducible repeat (first | refine blk_drewN ?_ _ | refine blk_drew ?_ | refine blk_alloc ?_ _)); exact BK286.out⟩, ⟨by repeat (first | (with_reducible first | exact HB.out | apply below_alloc | apply pw_below_drewN | apply below_drew1 | refine below_set ?_ GE286.out) | exact HB.out)⟩⟩
 case round =>
  clear H'
  try clear c2
  try clear p2
  obtain ⟨x3_1, x4_1, rfl, rfl, HA, HK1, BK286, HB⟩ := hrel
  cases gk with
  | zero => exact absurd HA.out (by simp [sizarref12_Depth.l0])
  | succ k1 =>
   have H := HA.out
   clear HA
   simp only [sizarref12_Depth.l0] at H
   by_cases c3 : x4_1 < (l0_5.length : Int)
   ·rw [if_pos c3] at H
    have c3b0 : decide (x4_1 < (l0_5.length : Int)) = true := decide_eq_true c3
    clear c3
    by_cases c4 : 0 ≤ x4_1
    ·rw [if_pos c4] at H
     have c4b0 : decide (0 ≤ x4_1) = true := decide_eq_true c4
     clear c4
     replace H := Option.bind_eq_some_iff.mp H
     obtain ⟨t288, A50, H⟩ := H
     replace H : (sizarref12_Depth.l0 k1 (mx x3_1 t288) (wrap64 (x4_1 + 1)) a0_0 a0_1 a0_2 a0_3 a0_4 l0_5) = some r := H
     have A5 := Aside0.mk A50
     clear A50
     obtain ⟨ji6, hji6⟩ : ∃ j_ : Int, (mx x3_1 t288) = j_ := ⟨_, rfl⟩
     replace H : (sizarref12_Depth.l0 k1 ji6 (wrap64 (x4_1 + 1)) a0_0 a0_1 a0_2 a0_3 a0_4 l0_5) = some r := by first | (rw [hji6] at H; exact H) | (simp only [hji6] at H ⊢; exact H)
     (try rw [hji6] at A5)
     have hji6_ : (if x3_1 < t288 then t288 else x3_1) = ji6 := hji6
     have H' := Aside0.mk H
     clear H
     have hcz7_0 : wr.cell? ⟨gb286, 0, none⟩ = some (.int .i64 a0_0) := (blk_cell BK286.out 0).trans rfl
     have hcz7_1 : wr.cell? ⟨gb286, 1, none⟩ = some (.int .i64 a0_1) := (blk_cell BK286.out 1).trans rfl
     have hcz7_2 : wr.cell? ⟨gb286, 2, none⟩ = some (.string a0_2) := (blk_cell BK286.out 2).trans rfl
     have hcz7_3 : wr.cell? ⟨gb286, 3, none⟩ = some (.int .i64 a0_3) := (blk_cell BK286.out 3).trans rfl
     have hcz7_4 : wr.cell? ⟨gb286, 4, none⟩ = some (.int .i64 a0_4) := (blk_cell BK286.out 4).trans rfl
     have hcz7_5 : wr.cell? ⟨gb286, 5, none⟩ = some (.slice A0_5 l0_5.length c0_5) := (blk_cell BK286.out 5).trans rfl
     have hfz7_0 := blk_frozen BK286.out 0
     have hfz7_1 := blk_frozen BK286.out 1
     have hfz7_2 := blk_frozen BK286.out 2
     have hfz7_3 := blk_frozen BK286.out 3
     have hfz7_4 := blk_frozen BK286.out 4
     have hfz7_5 := blk_frozen BK286.out 5
     have p287 : 0 ≤ (x4_1 : Int) := of_decide_eq_true (by first | (with_reducible assumption) | assumption)
     have q287 : x4_1 < (l0_5.length : Int) := of_decide_eq_true (by first | (with_reducible assumption) | assumption)
     obtain ⟨ad287, A287_5, c287_5, e287, hx287_0, hx287_1, hx287_2, hx287_3, hx287_4, hx287_5, hl287_5, hi287_5⟩ := at_T24 HR0_5.out x4_1 p287 q287
     cases e287
     replace hx287_0 := (HB.out.cell (World.block_lt_of_cell? w _ hx287_0)).trans hx287_0
     replace hx287_1 := (HB.out.cell (World.block_lt_of_cell? w _ hx287_1)).trans hx287_1
     replace hx287_2 := (HB.out.cell (World.block_lt_of_cell? w _ hx287_2)).trans hx287_2
     replace hx287_3 := (HB.out.cell (World.block_lt_of_cell? w _ hx287_3)).trans hx287_3
     replace hx287_4 := (HB.out.cell (World.block_lt_of_cell? w _ hx287_4)).trans hx287_4
     replace hx287_5 := (HB.out.cell (World.block_lt_of_cell? w _ hx287_5)).trans hx287_5
     have HR287_5 := Aside0.mk hi287_5
     have HC287_5 := Aside0.mk hl287_5
     clear hi287_5 hl287_5
     replace p287 := eq_true p287
     replace q287 := eq_true q287
     go_wp2_with (first | ((with_reducible refine gate_callee (f := 27) rfl ?_); refine goesL_ (some 18) rfl rfl Tryd.func27 (by kernel_rfl) rfl #[.agg #[.int .i64 ((rd_T24 l0_5 x4_1).f0), .int .i64 ((rd_T24 l0_5 x4_1).f1), .string ((rd_T24 l0_5 x4_1).f2), .int .i64 ((rd_T24 l0_5 x4_1).f3), .int .i64 ((rd_T24 l0_5 x4_1).f4), .slice A287_5 ((rd_T24 l0_5 x4_1).f5).length c287_5]] rfl (by (try simp only [List.map_toArray, List.map_cons, List.map_nil]); first | done | rfl | (simp only [List.length_drop, List.length_take]; rfl)) ?_; (with_reducible refine (ih k1 (by have := HK1.out; omega) ((rd_T24 l0_5 x4_1).f0) ((rd_T24 l0_5 x4_1).f1) ((rd_T24 l0_5 x4_1).f2) ((rd_T24 l0_5 x4_1).f3) ((rd_T24 l0_5 x4_1).f4) _ _ ((rd_T24 l0_5 x4_1).f5) t288 _ ?side1 ?side2 A5.out).mono ?_); (case side1 => repeat (first | exact (Kd.C_below HR287_5.out HB.out) | (with_reducible refine Kd.C_alloc ?_ _) | (with_reducible refine Kd.C_drewN ?_ _) | (with_reducible refine Kd.C_drew ?_))); (case side2 => exact HC287_5.out); rintro e w8 ⟨rfl, hb⟩; refine ⟨_, rfl, ?_⟩; have n0_ := Aside0.mk (blk_below (g := gb286) (o := .cells #[.int .i64 a0_0, .int .i64 a0_1, .string a0_2, .int .i64 a0_3, .int .i64 a0_4, .slice (some ad287) l0_5.length c0_5] 24 (0, 0)) (by (with_reducible repeat (first | refine blk_drewN ?_ _ | refine blk_drew ?_ | refine blk_alloc ?_ _)); exact BK286.out) hb); have n1_ := Aside0.mk (below_step (by repeat (first | (with_reducible first | exact HB.out | apply below_alloc | apply pw_below_drewN | apply below_drew1 | refine below_set ?_ GE286.out) | exact HB.out)) hb); clear BK286; clear HB; have BK286 := n0_; have HB := n1_; clear n0_ n1_; (try clear hb); (try clear hb2); (try clear hk); (try clear hi)))
     go_roundg k1
     case measure => have := HK1.out; omega
     case rel => exact ⟨(ji6), (wrap64 (x4_1 + 1)), (by first | rfl | (simp; done) | (simp only [← hji6] <;> (first | rfl | simp)) | (simp [*]; done)), (by first | rfl | (simp; done) | (simp [*]; done)), H', ⟨by have := HK1.out; omega⟩, ⟨by (with_reducible repeat (first | refine blk_drewN ?_ _ | refine blk_drew ?_ | refine blk_alloc ?_ _)); exact BK286.out⟩, ⟨by repeat (first | (with_reducible first | exact HB.out | apply below_alloc | apply pw_below_drewN | apply below_drew1 | refine below_set ?_ GE286.out) | exact HB.out)⟩⟩
    ·rw [if_neg c4] at H
     exact absurd H (by simp)
   ·rw [if_neg c3] at H
    have c3b0 : decide (x4_1 < (l0_5.length : Int)) = false := decide_eq_false c3
    clear c3
    obtain rfl := Option.some.inj H
    have hcz9_0 : wr.cell? ⟨gb286, 0, none⟩ = some (.int .i64 a0_0) := (blk_cell BK286.out 0).trans rfl
    have hcz9_1 : wr.cell? ⟨gb286, 1, none⟩ = some (.int .i64 a0_1) := (blk_cell BK286.out 1).trans rfl
    have hcz9_2 : wr.cell? ⟨gb286, 2, none⟩ = some (.string a0_2) := (blk_cell BK286.out 2).trans rfl
    have hcz9_3 : wr.cell? ⟨gb286, 3, none⟩ = some (.int .i64 a0_3) := (blk_cell BK286.out 3).trans rfl
    have hcz9_4 : wr.cell? ⟨gb286, 4, none⟩ = some (.int .i64 a0_4) := (blk_cell BK286.out 4).trans rfl
    have hcz9_5 : wr.cell? ⟨gb286, 5, none⟩ = some (.slice A0_5 l0_5.length c0_5) := (blk_cell BK286.out 5).trans rfl
    have hfz9_0 := blk_frozen BK286.out 0
    have hfz9_1 := blk_frozen BK286.out 1
    have hfz9_2 := blk_frozen BK286.out 2
    have hfz9_3 := blk_frozen BK286.out 3
    have hfz9_4 := blk_frozen BK286.out 4
    have hfz9_5 := blk_frozen BK286.out 5
    go_wp2
    go_ret
    exact ⟨by first | rfl | (simp [errW_none, errW_some] <;> rfl) | (simp [*, errW_none, errW_some] <;> rfl), by repeat (first | (with_reducible first | exact HB.out | apply below_alloc | apply pw_below_drewN | apply below_drew1 | refine below_set ?_ GE286.out) | exact HB.out)⟩
mutual
def sizarref12_Parts.l0 : Nat → Int → Int → Int → Int → ByteArray → Int → Int → List (S24) → Option (Int)
 | 0, _, _, _, _, _, _, _, _ => none
 | k + 1, x3, x4, x290000, x290001, x290002, x290003, x290004, x290005 => if x4 < (x290005.length : Int) then (if 0 ≤ x4 then ((sizarref12_Parts.f k ((rd_T24 x290005 x4).f0) ((rd_T24 x290005 x4).f1) ((rd_T24 x290005 x4).f2) ((rd_T24 x290005 x4).f3) ((rd_T24 x290005 x4).f4) ((rd_T24 x290005 x4).f5)).bind fun t291 => (sizarref12_Parts.l0 k (wrap64 (x3 + t291)) (wrap64 (x4 + 1)) x290000 x290001 x290002 x290003 x290004 x290005)) else (none)) else (some x3)
def sizarref12_Parts.f : Nat → Int → Int → ByteArray → Int → Int → List (S24) → Option (Int)
 | 0, _, _, _, _, _, _ => none
 | k + 1, a0_0, a0_1, a0_2, a0_3, a0_4, l0_5 => sizarref12_Parts.l0 k 1 0 a0_0 a0_1 a0_2 a0_3 a0_4 l0_5
end
set_option maxHeartbeats 8000000 in
set_option maxRecDepth 100000 in
theorem sizarref12_Parts.calls (k : Nat) : ∀ (a0_0 : Int) (a0_1 : Int) (a0_2 : ByteArray) (a0_3 : Int) (a0_4 : Int) (A0_5 : Option Addr) (c0_5 : Nat) (l0_5 : List (S24)) (r : Int) (w : World) (hr0_5 : Kd.C k24 w A0_5 l0_5.length l0_5) (hc0_5 : l0_5.length ≤ c0_5) (h : sizarref12_Parts.f k a0_0 a0_1 a0_2 a0_3 a0_4 l0_5 = some r),
  Calls Tryd.prog 28 #[.agg #[.int .i64 a0_0, .int .i64 a0_1, .string a0_2, .int .i64 a0_3, .int .i64 a0_4, .slice A0_5 l0_5.length c0_5]] w fun e w' => e = .returned (.int .i64 r) ∧ Below w.heap.size w w' := by
 induction k using Nat.strongRecOn with
 | _ k ih =>
 intro a0_0 a0_1 a0_2 a0_3 a0_4 A0_5 c0_5 l0_5 r w hr0_5 hc0_5 h
 cases k with
 | zero => exact absurd h (by simp [sizarref12_Parts.f])
 | succ k =>
 simp only [sizarref12_Parts.f] at h
 have hu24 := Tryd.underlying24
 have HR0_5 := Aside0.mk hr0_5
 have HC0_5 := Aside0.mk hc0_5
 clear hr0_5 hc0_5
 have HB := Aside0.mk (Below.refl w.heap.size w)
 have H : (sizarref12_Parts.l0 k 1 0 a0_0 a0_1 a0_2 a0_3 a0_4 l0_5) = some r := h
 clear h
 have H' := Aside0.mk H
 clear H
 go_enter Tryd.func28, Tryd.ntmps28
 go_wp2_with (first | ((with_reducible refine gate_dst (N := 1) rfl ?_); refine box_event ?hg (N := 1) ?hd (cs := #[.int .i64 a0_0, .int .i64 a0_1, .string a0_2, .int .i64 a0_3, .int .i64 a0_4, .slice A0_5 l0_5.length c0_5]) (t := 24) ?hr ?_; (case hd => rfl); (case hg => rfl); (case hr => first | (go_simp; done) | (go_simp; rfl)); intro gb289 hg w2 hbox hb; have n0_ := Aside0.mk (below_step (by repeat (first | (with_reducible first | exact HB.out | apply below_alloc | apply pw_below_drewN | apply below_drew1) | exact HB.out)) hb); have n1_ := Aside0.mk (hbox); have n2_ := Aside0.mk ((by rw [hg]; exact (below_size (by repeat (first | (with_reducible first | exact HB.out | apply below_alloc | apply pw_below_drewN | apply below_drew1) | exact HB.out))) : w.heap.size ≤ gb289)); have n3_ := Aside0.mk ((by rw [hg]; exact (below_size (by repeat (first | (with_reducible first | exact HB.out | apply below_alloc | apply pw_below_drewN | apply below_drew1) | exact HB.out))) : w.heap.size ≤ gb289)); clear HB; have HB := n0_; have BK289 := n1_; have GW289 := n2_; have GE289 := n3_; clear n0_ n1_ n2_ n3_; clear hb hbox hg))
 go_loopg [3, 4] k (fun kq v3 v4 w' => ∃ (x3_1 : Int) (x4_1 : Int), v3 = .int .i64 x3_1 ∧ v4 = .int .i64 x4_1 ∧ Aside0 (sizarref12_Parts.l0 kq x3_1 x4_1 a0_0 a0_1 a0_2 a0_3 a0_4 l0_5 = some r) ∧ Aside0 (kq ≤ k) ∧ Aside0 (w'.heap[gb289]? = some (.cells #[.int .i64 a0_0, .int .i64 a0_1, .string a0_2, .int .i64 a0_3, .int .i64 a0_4, (.slice A0_5 l0_5.length c0_5)] 24 (0, 0))) ∧ Aside0 (Below w.heap.size w w'))
 case atStart => exact ⟨(1), (0), (by first | rfl | (simp; done) | (simp [*]; done)), (by first | rfl | (simp; done) | (simp [*]; done)), H', ⟨Nat.le_refl _⟩, ⟨by (with_reducible repeat (first | refine blk_drewN ?_ _ | refine blk_drew ?_ | refine blk_alloc ?_ _)); exact BK289.out⟩, ⟨by repeat (first | (with_reducible first | exact HB.out | apply below_alloc | apply pw_below_drewN | apply below_drew1 | refine below_set ?_ GE289.out) | exact HB.out)⟩⟩
 case round =>
  clear H'
  try clear c2
  try clear p2
  obtain ⟨x3_1, x4_1, rfl, rfl, HA, HK1, BK289, HB⟩ := hrel
  cases gk with
  | zero => exact absurd HA.out (by simp [sizarref12_Parts.l0])
  | succ k1 =>
   have H := HA.out
   clear HA
   simp only [sizarref12_Parts.l0] at H
   by_cases c3 : x4_1 < (l0_5.length : Int)
   ·rw [if_pos c3] at H
    have c3b0 : decide (x4_1 < (l0_5.length : Int)) = true := decide_eq_true c3
    clear c3
    by_cases c4 : 0 ≤ x4_1
    ·rw [if_pos c4] at H
     have c4b0 : decide (0 ≤ x4_1) = true := decide_eq_true c4
     clear c4
     replace H := Option.bind_eq_some_iff.mp H
     obtain ⟨t291, A50, H⟩ := H
     replace H : (sizarref12_Parts.l0 k1 (wrap64 (x3_1 + t291)) (wrap64 (x4_1 + 1)) a0_0 a0_1 a0_2 a0_3 a0_4 l0_5) = some r := H
     have A5 := Aside0.mk A50
     clear A50
     have H' := Aside0.mk H
     clear H
     have hcz6_0 : wr.cell? ⟨gb289, 0, none⟩ = some (.int .i64 a0_0) := (blk_cell BK289.out 0).trans rfl
     have hcz6_1 : wr.cell? ⟨gb289, 1, none⟩ = some (.int .i64 a0_1) := (blk_cell BK289.out 1).trans rfl
     have hcz6_2 : wr.cell? ⟨gb289, 2, none⟩ = some (.string a0_2) := (blk_cell BK289.out 2).trans rfl
     have hcz6_3 : wr.cell? ⟨gb289, 3, none⟩ = some (.int .i64 a0_3) := (blk_cell BK289.out 3).trans rfl
     have hcz6_4 : wr.cell? ⟨gb289, 4, none⟩ = some (.int .i64 a0_4) := (blk_cell BK289.out 4).trans rfl
     have hcz6_5 : wr.cell? ⟨gb289, 5, none⟩ = some (.slice A0_5 l0_5.length c0_5) := (blk_cell BK289.out 5).trans rfl
     have hfz6_0 := blk_frozen BK289.out 0
     have hfz6_1 := blk_frozen BK289.out 1
     have hfz6_2 := blk_frozen BK289.out 2
     have hfz6_3 := blk_frozen BK289.out 3
     have hfz6_4 := blk_frozen BK289.out 4
     have hfz6_5 := blk_frozen BK289.out 5
     have p290 : 0 ≤ (x4_1 : Int) := of_decide_eq_true (by first | (with_reducible assumption) | assumption)
     have q290 : x4_1 < (l0_5.length : Int) := of_decide_eq_true (by first | (with_reducible assumption) | assumption)
     obtain ⟨ad290, A290_5, c290_5, e290, hx290_0, hx290_1, hx290_2, hx290_3, hx290_4, hx290_5, hl290_5, hi290_5⟩ := at_T24 HR0_5.out x4_1 p290 q290
     cases e290
     replace hx290_0 := (HB.out.cell (World.block_lt_of_cell? w _ hx290_0)).trans hx290_0
     replace hx290_1 := (HB.out.cell (World.block_lt_of_cell? w _ hx290_1)).trans hx290_1
     replace hx290_2 := (HB.out.cell (World.block_lt_of_cell? w _ hx290_2)).trans hx290_2
     replace hx290_3 := (HB.out.cell (World.block_lt_of_cell? w _ hx290_3)).trans hx290_3
     replace hx290_4 := (HB.out.cell (World.block_lt_of_cell? w _ hx290_4)).trans hx290_4
     replace hx290_5 := (HB.out.cell (World.block_lt_of_cell? w _ hx290_5)).trans hx290_5
     have HR290_5 := Aside0.mk hi290_5
     have HC290_5 := Aside0.mk hl290_5
     clear hi290_5 hl290_5
     replace p290 := eq_true p290
     replace q290 := eq_true q290
     go_wp2_with (first | ((with_reducible refine gate_callee (f := 28) rfl ?_); refine goesL_ (some 18) rfl rfl Tryd.func28 (by kernel_rfl) rfl #[.agg #[.int .i64 ((rd_T24 l0_5 x4_1).f0), .int .i64 ((rd_T24 l0_5 x4_1).f1), .string ((rd_T24 l0_5 x4_1).f2), .int .i64 ((rd_T24 l0_5 x4_1).f3), .int .i64 ((rd_T24 l0_5 x4_1).f4), .slice A290_5 ((rd_T24 l0_5 x4_1).f5).length c290_5]] rfl (by (try simp only [List.map_toArray, List.map_cons, List.map_nil]); first | done | rfl | (simp only [List.length_drop, List.length_take]; rfl)) ?_; (with_reducible refine (ih k1 (by have := HK1.out; omega) ((rd_T24 l0_5 x4_1).f0) ((rd_T24 l0_5 x4_1).f1) ((rd_T24 l0_5 x4_1).f2) ((rd_T24 l0_5 x4_1).f3) ((rd_T24 l0_5 x4_1).f4) _ _ ((rd_T24 l0_5 x4_1).f5) t291 _ ?side1 ?side2 A5.out).mono ?_); (case side1 => repeat (first | exact (Kd.C_below HR290_5.out HB.out) | (with_reducible refine Kd.C_alloc ?_ _) | (with_reducible refine Kd.C_drewN ?_ _) | (with_reducible refine Kd.C_drew ?_))); (case side2 => exact HC290_5.out); rintro e w7 ⟨rfl, hb⟩; refine ⟨_, rfl, ?_⟩; have n0_ := Aside0.mk (blk_below (g := gb289) (o := .cells #[.int .i64 a0_0, .int .i64 a0_1, .string a0_2, .int .i64 a0_3, .int .i64 a0_4, .slice (some ad290) l0_5.length c0_5] 24 (0, 0)) (by (with_reducible repeat (first | refine blk_drewN ?_ _ | refine blk_drew ?_ | refine blk_alloc ?_ _)); exact BK289.out) hb); have n1_ := Aside0.mk (below_step (by repeat (first | (with_reducible first | exact HB.out | apply below_alloc | apply pw_below_drewN | apply below_drew1 | refine below_set ?_ GE289.out) | exact HB.out)) hb); clear BK289; clear HB; have BK289 := n0_; have HB := n1_; clear n0_ n1_; (try clear hb); (try clear hb2); (try clear hk); (try clear hi)))
     go_roundg k1
     case measure => have := HK1.out; omega
     case rel => exact ⟨(wrap64 (x3_1 + t291)), (wrap64 (x4_1 + 1)), (by first | rfl | (simp; done) | (simp [*]; done)), (by first | rfl | (simp; done) | (simp [*]; done)), H', ⟨by have := HK1.out; omega⟩, ⟨by (with_reducible repeat (first | refine blk_drewN ?_ _ | refine blk_drew ?_ | refine blk_alloc ?_ _)); exact BK289.out⟩, ⟨by repeat (first | (with_reducible first | exact HB.out | apply below_alloc | apply pw_below_drewN | apply below_drew1 | refine below_set ?_ GE289.out) | exact HB.out)⟩⟩
    ·rw [if_neg c4] at H
     exact absurd H (by simp)
   ·rw [if_neg c3] at H
    have c3b0 : decide (x4_1 < (l0_5.length : Int)) = false := decide_eq_false c3
    clear c3
    obtain rfl := Option.some.inj H
    have hcz8_0 : wr.cell? ⟨gb289, 0, none⟩ = some (.int .i64 a0_0) := (blk_cell BK289.out 0).trans rfl
    have hcz8_1 : wr.cell? ⟨gb289, 1, none⟩ = some (.int .i64 a0_1) := (blk_cell BK289.out 1).trans rfl
    have hcz8_2 : wr.cell? ⟨gb289, 2, none⟩ = some (.string a0_2) := (blk_cell BK289.out 2).trans rfl
    have hcz8_3 : wr.cell? ⟨gb289, 3, none⟩ = some (.int .i64 a0_3) := (blk_cell BK289.out 3).trans rfl
    have hcz8_4 : wr.cell? ⟨gb289, 4, none⟩ = some (.int .i64 a0_4) := (blk_cell BK289.out 4).trans rfl
    have hcz8_5 : wr.cell? ⟨gb289, 5, none⟩ = some (.slice A0_5 l0_5.length c0_5) := (blk_cell BK289.out 5).trans rfl
    have hfz8_0 := blk_frozen BK289.out 0
    have hfz8_1 := blk_frozen BK289.out 1
    have hfz8_2 := blk_frozen BK289.out 2
    have hfz8_3 := blk_frozen BK289.out 3
    have hfz8_4 := blk_frozen BK289.out 4
    have hfz8_5 := blk_frozen BK289.out 5
    go_wp2
    go_ret
    exact ⟨by first | rfl | (simp [errW_none, errW_some] <;> rfl) | (simp [*, errW_none, errW_some] <;> rfl), by repeat (first | (with_reducible first | exact HB.out | apply below_alloc | apply pw_below_drewN | apply below_drew1 | refine below_set ?_ GE289.out) | exact HB.out)⟩
end Go.Proofs.YtabocfninjankaaDoor.P
namespace Go.Proofs.YtabocfninjankaaDoor.P
open Go.RowKit Go.Proofs.YtabocfninjankaaDoorW.PrintWords Go.Proofs.YtabocfninjankaaDoorW.PrintLast Go.Proofs.YtabocfninjankaaDoorW.PrintMore
attribute [local go_sem] max2_int min2_int max_two min_two max_three min_three max_four min_four   -- for this text's walks alone
set_option linter.unusedVariables false
set_option linter.unusedSimpArgs false
def sizarref12_Few.f (k : Nat) (a0_0 : Int) (a0_1 : Int) (a0_2 : ByteArray) (a0_3 : Int) (a0_4 : Int) (l0_5 : List (S24)) : Option (Bool) := (sizarref12_Depth.f k a0_0 a0_1 a0_2 a0_3 a0_4 l0_5).bind fun t329 => (if t329 ≤ 40 then ((sizarref12_Parts.f k a0_0 a0_1 a0_2 a0_3 a0_4 l0_5).bind fun t330 => (some (decide (t330 ≤ 300)))) else (some false))
set_option maxHeartbeats 8000000 in
set_option maxRecDepth 100000 in
theorem sizarref12_Few.calls (k : Nat) (a0_0 : Int) (a0_1 : Int) (a0_2 : ByteArray) (a0_3 : Int) (a0_4 : Int) (A0_5 : Option Addr) (c0_5 : Nat) (l0_5 : List (S24)) (r : Bool) (w : World) (hr0_5 : Kd.C k24 w A0_5 l0_5.length l0_5) (hc0_5 : l0_5.length ≤ c0_5) (h : sizarref12_Few.f k a0_0 a0_1 a0_2 a0_3 a0_4 l0_5 = some r) :
  Calls Tryd.prog 11 #[.agg #[.int .i64 a0_0, .int .i64 a0_1, .string a0_2, .int .i64 a0_3, .int .i64 a0_4, .slice A0_5 l0_5.length c0_5]] w fun e w' => e = .returned (.bool r) ∧ Below w.heap.size w w' := by
 have hu24 := Tryd.underlying24
 have HR0_5 := Aside0.mk hr0_5
 have HC0_5 := Aside0.mk hc0_5
 clear hr0_5 hc0_5
 have HB := Aside0.mk (Below.refl w.heap.size w)
 have H : ((sizarref12_Depth.f k a0_0 a0_1 a0_2 a0_3 a0_4 l0_5).bind fun t329 => (if t329 ≤ 40 then ((sizarref12_Parts.f k a0_0 a0_1 a0_2 a0_3 a0_4 l0_5).bind fun t330 => (some (decide (t330 ≤ 300)))) else (some false))) = some r := h
 clear h
 replace H := Option.bind_eq_some_iff.mp H
 obtain ⟨t329, A20, H⟩ := H
 replace H : (if t329 ≤ 40 then ((sizarref12_Parts.f k a0_0 a0_1 a0_2 a0_3 a0_4 l0_5).bind fun t330 => (some (decide (t330 ≤ 300)))) else (some false)) = some r := H
 have A2 := Aside0.mk A20
 clear A20
 by_cases c3 : t329 ≤ 40
 ·rw [if_pos c3] at H
  have c3b0 : decide (t329 ≤ 40) = true := decide_eq_true c3
  clear c3
  replace H := Option.bind_eq_some_iff.mp H
  obtain ⟨t330, A40, H⟩ := H
  replace H : (some (decide (t330 ≤ 300))) = some r := H
  have A4 := Aside0.mk A40
  clear A40
  obtain rfl := Option.some.inj H
  go_enter Tryd.func11, Tryd.ntmps11
  go_wp2_with (first | ((with_reducible refine gate_dst (N := 1) rfl ?_); refine box_event ?hg (N := 1) ?hd (cs := #[.int .i64 a0_0, .int .i64 a0_1, .string a0_2, .int .i64 a0_3, .int .i64 a0_4, .slice A0_5 l0_5.length c0_5]) (t := 24) ?hr ?_; (case hd => rfl); (case hg => rfl); (case hr => first | (go_simp; done) | (go_simp; rfl)); intro gb328 hg w5 hbox hb; have n0_ := Aside0.mk (below_step (by repeat (first | (with_reducible first | exact HB.out | apply below_alloc | apply pw_below_drewN | apply below_drew1) | exact HB.out)) hb); have n1_ := Aside0.mk (hbox); have n2_ := Aside0.mk ((by rw [hg]; exact (below_size (by repeat (first | (with_reducible first | exact HB.out | apply below_alloc | apply pw_below_drewN | apply below_drew1) | exact HB.out))) : w.heap.size ≤ gb328)); have n3_ := Aside0.mk ((by rw [hg]; exact (below_size (by repeat (first | (with_reducible first | exact HB.out | apply below_alloc | apply pw_below_drewN | apply below_drew1) | exact HB.out))) : w.heap.size ≤ gb328)); clear HB; have HB := n0_; have BK328 := n1_; have GW328 := n2_; have GE328 := n3_; clear n0_ n1_ n2_ n3_; clear hb hbox hg; have hcz6_0 : w5.cell? ⟨gb328, 0, none⟩ = some (.int .i64 a0_0) := (blk_cell BK328.out 0).trans rfl; have hcz6_1 : w5.cell? ⟨gb328, 1, none⟩ = some (.int .i64 a0_1) := (blk_cell BK328.out 1).trans rfl; have hcz6_2 : w5.cell? ⟨gb328, 2, none⟩ = some (.string a0_2) := (blk_cell BK328.out 2).trans rfl; have hcz6_3 : w5.cell? ⟨gb328, 3, none⟩ = some (.int .i64 a0_3) := (blk_cell BK328.out 3).trans rfl; have hcz6_4 : w5.cell? ⟨gb328, 4, none⟩ = some (.int .i64 a0_4) := (blk_cell BK328.out 4).trans rfl; have hcz6_5 : w5.cell? ⟨gb328, 5, none⟩ = some (.slice A0_5 l0_5.length c0_5) := (blk_cell BK328.out 5).trans rfl; have hfz6_0 := blk_frozen BK328.out 0; have hfz6_1 := blk_frozen BK328.out 1; have hfz6_2 := blk_frozen BK328.out 2; have hfz6_3 := blk_frozen BK328.out 3; have hfz6_4 := blk_frozen BK328.out 4; have hfz6_5 := blk_frozen BK328.out 5) | ((with_reducible refine gate_callee (f := 27) rfl ?_); refine goesL_ (some 4) rfl rfl Tryd.func27 (by kernel_rfl) rfl #[.agg #[.int .i64 a0_0, .int .i64 a0_1, .string a0_2, .int .i64 a0_3, .int .i64 a0_4, .slice A0_5 l0_5.length c0_5]] rfl (by (try simp only [List.map_toArray, List.map_cons, List.map_nil]); first | done | rfl | (simp only [List.length_drop, List.length_take]; rfl)) ?_; (with_reducible refine (sizarref12_Depth.calls k a0_0 a0_1 a0_2 a0_3 a0_4 _ _ l0_5 t329 _ ?side1 ?side2 A2.out).mono ?_); (case side1 => repeat (first | exact (Kd.C_below HR0_5.out HB.out) | (with_reducible refine Kd.C_alloc ?_ _) | (with_reducible refine Kd.C_drewN ?_ _) | (with_reducible refine Kd.C_drew ?_))); (case side2 => exact HC0_5.out); rintro e w7 ⟨rfl, hb⟩; refine ⟨_, rfl, ?_⟩; have n0_ := Aside0.mk (blk_below (g := gb328) (o := .cells #[.int .i64 a0_0, .int .i64 a0_1, .string a0_2, .int .i64 a0_3, .int .i64 a0_4, .slice A0_5 l0_5.length c0_5] 24 (0, 0)) (by (with_reducible repeat (first | refine blk_drewN ?_ _ | refine blk_drew ?_ | refine blk_alloc ?_ _)); exact BK328.out) hb); have n1_ := Aside0.mk (below_step (by repeat (first | (with_reducible first | exact HB.out | apply below_alloc | apply pw_below_drewN | apply below_drew1 | refine below_set ?_ GE328.out) | exact HB.out)) hb); clear BK328; clear HB; have BK328 := n0_; have HB := n1_; clear n0_ n1_; (try clear hb); (try clear hb2); (try clear hk); (try clear hi); have hcz8_0 : w7.cell? ⟨gb328, 0, none⟩ = some (.int .i64 a0_0) := (blk_cell BK328.out 0).trans rfl; have hcz8_1 : w7.cell? ⟨gb328, 1, none⟩ = some (.int .i64 a0_1) := (blk_cell BK328.out 1).trans rfl; have hcz8_2 : w7.cell? ⟨gb328, 2, none⟩ = some (.string a0_2) := (blk_cell BK328.out 2).trans rfl; have hcz8_3 : w7.cell? ⟨gb328, 3, none⟩ = some (.int .i64 a0_3) := (blk_cell BK328.out 3).trans rfl; have hcz8_4 : w7.cell? ⟨gb328, 4, none⟩ = some (.int .i64 a0_4) := (blk_cell BK328.out 4).trans rfl; have hcz8_5 : w7.cell? ⟨gb328, 5, none⟩ = some (.slice A0_5 l0_5.length c0_5) := (blk_cell BK328.out 5).trans rfl; have hfz8_0 := blk_frozen BK328.out 0; have hfz8_1 := blk_frozen BK328.out 1; have hfz8_2 := blk_frozen BK328.out 2; have hfz8_3 := blk_frozen BK328.out 3; have hfz8_4 := blk_frozen BK328.out 4; have hfz8_5 := blk_frozen BK328.out 5) | (go_at_call 28; (with_reducible refine (sizarref12_Parts.calls k a0_0 a0_1 a0_2 a0_3 a0_4 _ _ l0_5 t330 _ ?side1 ?side2 A4.out).mono ?_); (case side1 => repeat (first | exact (Kd.C_below HR0_5.out HB.out) | (with_reducible refine Kd.C_alloc ?_ _) | (with_reducible refine Kd.C_drewN ?_ _) | (with_reducible refine Kd.C_drew ?_))); (case side2 => exact HC0_5.out); rintro e w9 ⟨rfl, hb⟩; have n0_ := Aside0.mk (blk_below (g := gb328) (o := .cells #[.int .i64 a0_0, .int .i64 a0_1, .string a0_2, .int .i64 a0_3, .int .i64 a0_4, .slice A0_5 l0_5.length c0_5] 24 (0, 0)) (by (with_reducible repeat (first | refine blk_drewN ?_ _ | refine blk_drew ?_ | refine blk_alloc ?_ _)); exact BK328.out) hb); have n1_ := Aside0.mk (below_step (by repeat (first | (with_reducible first | exact HB.out | apply below_alloc | apply pw_below_drewN | apply below_drew1 | refine below_set ?_ GE328.out) | exact HB.out)) hb); clear BK328; clear HB; have BK328 := n0_; have HB := n1_; clear n0_ n1_; (try clear hb); (try clear hb2); (try clear hk); (try clear hi)))
  go_ret
  exact ⟨by first | rfl | (simp [errW_none, errW_some] <;> rfl) | (simp [*, errW_none, errW_some] <;> rfl), by repeat (first | (with_reducible first | exact HB.out | apply below_alloc | apply pw_below_drewN | apply below_drew1 | refine below_set ?_ GE328.out) | exact HB.out)⟩
 ·rw [if_neg c3] at H
  have c3b0 : decide (t329 ≤ 40) = false := decide_eq_false c3
  clear c3
  obtain rfl := Option.some.inj H
  go_enter Tryd.func11, Tryd.ntmps11
  go_wp2_with (first | ((with_reducible refine gate_dst (N := 1) rfl ?_); refine box_event ?hg (N := 1) ?hd (cs := #[.int .i64 a0_0, .int .i64 a0_1, .string a0_2, .int .i64 a0_3, .int .i64 a0_4, .slice A0_5 l0_5.length c0_5]) (t := 24) ?hr ?_; (case hd => rfl); (case hg => rfl); (case hr => first | (go_simp; done) | (go_simp; rfl)); intro gb328 hg w10 hbox hb; have n0_ := Aside0.mk (below_step (by repeat (first | (with_reducible first | exact HB.out | apply below_alloc | apply pw_below_drewN | apply below_drew1) | exact HB.out)) hb); have n1_ := Aside0.mk (hbox); have n2_ := Aside0.mk ((by rw [hg]; exact (below_size (by repeat (first | (with_reducible first | exact HB.out | apply below_alloc | apply pw_below_drewN | apply below_drew1) | exact HB.out))) : w.heap.size ≤ gb328)); have n3_ := Aside0.mk ((by rw [hg]; exact (below_size (by repeat (first | (with_reducible first | exact HB.out | apply below_alloc | apply pw_below_drewN | apply below_drew1) | exact HB.out))) : w.heap.size ≤ gb328)); clear HB; have HB := n0_; have BK328 := n1_; have GW328 := n2_; have GE328 := n3_; clear n0_ n1_ n2_ n3_; clear hb hbox hg; have hcz11_0 : w10.cell? ⟨gb328, 0, none⟩ = some (.int .i64 a0_0) := (blk_cell BK328.out 0).trans rfl; have hcz11_1 : w10.cell? ⟨gb328, 1, none⟩ = some (.int .i64 a0_1) := (blk_cell BK328.out 1).trans rfl; have hcz11_2 : w10.cell? ⟨gb328, 2, none⟩ = some (.string a0_2) := (blk_cell BK328.out 2).trans rfl; have hcz11_3 : w10.cell? ⟨gb328, 3, none⟩ = some (.int .i64 a0_3) := (blk_cell BK328.out 3).trans rfl; have hcz11_4 : w10.cell? ⟨gb328, 4, none⟩ = some (.int .i64 a0_4) := (blk_cell BK328.out 4).trans rfl; have hcz11_5 : w10.cell? ⟨gb328, 5, none⟩ = some (.slice A0_5 l0_5.length c0_5) := (blk_cell BK328.out 5).trans rfl; have hfz11_0 := blk_frozen BK328.out 0; have hfz11_1 := blk_frozen BK328.out 1; have hfz11_2 := blk_frozen BK328.out 2; have hfz11_3 := blk_frozen BK328.out 3; have hfz11_4 := blk_frozen BK328.out 4; have hfz11_5 := blk_frozen BK328.out 5) | ((with_reducible refine gate_callee (f := 27) rfl ?_); refine goesL_ (some 4) rfl rfl Tryd.func27 (by kernel_rfl) rfl #[.agg #[.int .i64 a0_0, .int .i64 a0_1, .string a0_2, .int .i64 a0_3, .int .i64 a0_4, .slice A0_5 l0_5.length c0_5]] rfl (by (try simp only [List.map_toArray, List.map_cons, List.map_nil]); first | done | rfl | (simp only [List.length_drop, List.length_take]; rfl)) ?_; (with_reducible refine (sizarref12_Depth.calls k a0_0 a0_1 a0_2 a0_3 a0_4 _ _ l0_5 t329 _ ?side1 ?side2 A2.out).mono ?_); (case side1 => repeat (first | exact (Kd.C_below HR0_5.out HB.out) | (with_reducible refine Kd.C_alloc ?_ _) | (with_reducible refine Kd.C_drewN ?_ _) | (with_reducible refine Kd.C_drew ?_))); (case side2 => exact HC0_5.out); rintro e w12 ⟨rfl, hb⟩; refine ⟨_, rfl, ?_⟩; have n0_ := Aside0.mk (blk_below (g := gb328) (o := .cells #[.int .i64 a0_0, .int .i64 a0_1, .string a0_2, .int .i64 a0_3, .int .i64 a0_4, .slice A0_5 l0_5.length c0_5] 24 (0, 0)) (by (with_reducible repeat (first | refine blk_drewN ?_ _ | refine blk_drew ?_ | refine blk_alloc ?_ _)); exact BK328.out) hb); have n1_ := Aside0.mk (below_step (by repeat (first | (with_reducible first | exact HB.out | apply below_alloc | apply pw_below_drewN | apply below_drew1 | refine below_set ?_ GE328.out) | exact HB.out)) hb); clear BK328; clear HB; have BK328 := n0_; have HB := n1_; clear n0_ n1_; (try clear hb); (try clear hb2); (try clear hk); (try clear hi)))
  go_ret
  exact ⟨by first | rfl | (simp [errW_none, errW_some] <;> rfl) | (simp [*, errW_none, errW_some] <;> rfl), by repeat (first | (with_reducible first | exact HB.out | apply below_alloc | apply pw_below_drewN | apply below_drew1 | refine below_set ?_ GE328.out) | exact HB.out)⟩
end Go.Proofs.YtabocfninjankaaDoor.P
namespace Go.Proofs.YtabocfninjankaaDoor.P
open Go.RowKit Go.Proofs.YtabocfninjankaaDoorW.PrintWords Go.Proofs.YtabocfninjankaaDoorW.PrintLast Go.Proofs.YtabocfninjankaaDoorW.PrintMore
attribute [local go_sem] max2_int min2_int max_two min_two max_three min_three max_four min_four   -- for this text's walks alone
set_option linter.unusedVariables false
set_option linter.unusedSimpArgs false
def sizarref12_Atom.f (a0 : Int) : Option (Bool) := if a0 ≥ 5 then (some (decide (a0 ≤ 9))) else (some false)
set_option maxHeartbeats 8000000 in
set_option maxRecDepth 100000 in
theorem sizarref12_Atom.calls (a0 : Int) (r : Bool) (w : World) (h : sizarref12_Atom.f a0 = some r) :
  Calls Tryd.prog 41 #[.int .i64 a0] w fun e w' => e = .returned (.bool r) ∧ Drawn0 w w' := by
 have H : (if a0 ≥ 5 then (some (decide (a0 ≤ 9))) else (some false)) = some r := h
 clear h
 by_cases c2 : a0 ≥ 5
 ·rw [if_pos c2] at H
  have c2b0 : decide (5 ≤ a0) = true := decide_eq_true c2
  clear c2
  obtain rfl := Option.some.inj H
  go_enter Tryd.func41, Tryd.ntmps41
  go_wp2
  go_ret
  exact ⟨by first | rfl | (simp; done) | (simp [*]; done), by repeat (first | exact Drawn0.refl _ | apply Drawn0.step)⟩
 ·rw [if_neg c2] at H
  have c2b0 : decide (5 ≤ a0) = false := decide_eq_false c2
  clear c2
  obtain rfl := Option.some.inj H
  go_enter Tryd.func41, Tryd.ntmps41
  go_wp2
  go_ret
  exact ⟨by first | rfl | (simp; done) | (simp [*]; done), by repeat (first | exact Drawn0.refl _ | apply Drawn0.step)⟩
end Go.Proofs.YtabocfninjankaaDoor.P
namespace Go.Proofs.YtabocfninjankaaDoor.P
open Go.RowKit Go.Proofs.YtabocfninjankaaDoorW.PrintWords Go.Proofs.YtabocfninjankaaDoorW.PrintLast Go.Proofs.YtabocfninjankaaDoorW.PrintMore
set_option linter.unusedVariables false
set_option linter.unusedSimpArgs false
/-- From some number of rounds on: r. -/
def Ev {α : Type} (f : Nat → Option α) (r : α) : Prop := ∃ K, ∀ k, K ≤ k → f k = some r
section
variable {α β : Type} {f g : Nat → Option α} {r : α}
theorem Ev.now (h : ∀ k, f k = some r) : Ev f r := ⟨0, fun k _ => h k⟩
theorem Ev.next (h : Ev g r) (hf : ∀ k, f (k + 1) = g k) : Ev f r := by
 obtain ⟨K, hK⟩ := h
 refine ⟨K + 1, fun k hk => ?_⟩
 obtain ⟨m, rfl⟩ : ∃ m, k = m + 1 := ⟨k - 1, by omega⟩
 rw [hf, hK m (by omega)]
theorem Ev.first (h : ∀ k, f (k + 1) = some r) : Ev f r := Ev.next (g := fun _ => some r) (Ev.now fun _ => rfl) h
theorem Ev.congr (h : Ev g r) (hf : ∀ k, f k = g k) : Ev f r := by
 obtain ⟨K, hK⟩ := h
 exact ⟨K, fun k hk => (hf k).trans (hK k hk)⟩
theorem Ev.bind {c : Nat → α → Option β} {b : β} (h : Ev f r) (hc : Ev (fun k => c k r) b) : Ev (fun k => (f k).bind (c k)) b := by
 obtain ⟨K, hK⟩ := h
 obtain ⟨L, hL⟩ := hc
 exact ⟨max K L, fun k hk => by show (f k).bind (c k) = some b; rw [hK k (by omega), Option.bind_some]; exact hL k (by omega)⟩
theorem Ev.get (h : Ev f r) : ∃ k, f k = some r := by
 obtain ⟨K, hK⟩ := h
 exact ⟨K, hK K (Nat.le_refl _)⟩
end
theorem w64 (i : Nat) (h : i < 9223372036854775807) : wrap64 ((i : Int) + 1) = ((i + 1 : Nat) : Int) := by unfold wrap64; omega
theorem rd24 (l : List S24) (i : Nat) (h : i < l.length) : rd_T24 l (i : Int) = l[i] := by simp [rd_T24, List.getD_eq_getElem?_getD, h]
theorem rd49 (l : List S49) (i : Nat) (h : i < l.length) : rd_T49 l (i : Int) = l[i] := by simp [rd_T49, List.getD_eq_getElem?_getD, h]
mutual
/-- Whole numbers within their range, slices no longer than memory. -/
def okR : S24 → Prop
 | ⟨a, b, c, n, d, ks⟩ => ((Lit.int .i64 a).wf = true ∧ (Lit.int .i64 b).wf = true ∧ (Lit.int .i64 n).wf = true ∧ (Lit.int .i64 d).wf = true) ∧ ks.length ≤ 9223372036854775807 ∧ okL ks
def okL : List S24 → Prop
 | [] => True
 | k :: ks => okR k ∧ okL ks
end
theorem okL_iff : ∀ {ks : List S24}, okL ks ↔ ∀ k ∈ ks, okR k
 | [] => by simp [okL]
 | x :: xs => by simp [okL, okL_iff (ks := xs)]
theorem okR_iff (r : S24) : okR r ↔ ((Lit.int .i64 r.f0).wf = true ∧ (Lit.int .i64 r.f1).wf = true ∧ (Lit.int .i64 r.f3).wf = true ∧ (Lit.int .i64 r.f4).wf = true) ∧ r.f5.length ≤ 9223372036854775807 ∧ ∀ k ∈ r.f5, okR k := by
 cases r
 simp only [okR, okL_iff]
theorem chk_true : ∀ (i : Nat) (ps : List (Int × S24)), chk i ps = true → (ps = [] ∨ i + ps.length ≤ 200) ∧ ∀ p ∈ ps, p.1 ≤ 16 ∧ formedB p.2 = true
 | i, [], _ => ⟨.inl rfl, fun p hp => by simp at hp⟩
 | i, (d, p) :: ps, h => by
  simp only [chk] at h
  split at h
  ·cases h
  ·split at h
   ·cases h
   ·split at h
    ·rename_i h1 h2 h3
     obtain ⟨h4, h5⟩ := chk_true (i + 1) ps h
     refine ⟨.inr ?_, fun q hq => ?_⟩
     ·rcases h4 with rfl | h4
      ·simp; omega
      ·simp only [List.length_cons]; omega
     ·rcases List.mem_cons.1 hq with rfl | hq
      ·exact ⟨by omega, h3⟩
      ·exact h5 q hq
    ·cases h
theorem check_f (r : S24) : rules_Check.f r.f0 r.f1 r.f2 r.f3 r.f4 r.f5 = some (if chkR r = true then 0 else 120) := by cases r; rfl
theorem value_f (r : S24) (h : opsR r = true) (l : List S49) (e m1 m2 : Int) : rules_value.f r.f0 r.f1 r.f2 r.f3 r.f4 r.f5 l e m1 m2 = some (valR l e m1 m2 r) := by
 cases r
 unfold rules_value.f
 rw [if_pos h]
theorem within_f (a b c : Int) : rules_within.f a b c = some (decide (b ≤ a) && decide (a ≤ c)) := by
 unfold rules_within.f
 by_cases h : a ≥ b
 ·rw [if_pos h]; simp [show b ≤ a from h]
 ·rw [if_neg h]; simp [show ¬ b ≤ a from h]
theorem course_f (a b : Int) (c : ByteArray) (n d : Int) (l : List S24) : rules_course.f a b c n d l = some (decide (0 ≤ b) && decide (b ≤ 4095)) := by
 unfold rules_course.f
 rw [within_f]
 rfl
def meanB (n d : Int) : Bool := (rules_mean.f n d).getD false
theorem mean_f (n d : Int) : rules_mean.f n d = some (meanB n d) := by
 obtain ⟨b, hb⟩ := mean_some n d
 unfold meanB
 rw [hb]
 rfl
/-- What is asked of a part's own fields. -/
def fits (o c n d : Int) (len : Nat) : Bool :=
 if o = 1 then c == 0 && n == 0 && d == 0 else if o = 2 then c == 0 && n == 0 && d == 0 else if o = 3 then c == 0 && d == 0 && decide (0 ≤ n) && decide (n ≤ 200)
 else if o = 4 then c == 0 && n == 0 && d == 0 && len == 1 else if o = 5 then d == 0 && len == 0 && decide (0 ≤ c) && decide (c ≤ 4095) && decide (0 ≤ n) && decide (n ≤ 12)
 else if o = 6 then d == 0 && len == 0 && decide (0 ≤ c) && decide (c ≤ 4095) && decide (1 ≤ n) && decide (n ≤ 100) else if o = 7 then c == 0 && d == 0 && len == 0 && decide (0 ≤ n) && decide (n ≤ 10000)
 else if o = 8 then c == 0 && len == 0 && meanB n d else if o = 9 then n == 0 && d == 0 && len == 0 && decide (0 ≤ c) && decide (c ≤ 4095) else false
theorem formed_fits (r : S24) : formedB r = fits r.f0 r.f1 r.f3 r.f4 r.f5.length := by
 obtain ⟨a, b, c, n, d, l⟩ := r
 unfold formedB rules_formed.f fits
 simp only
 by_cases h1 : a = 1
 ·subst h1
  by_cases qb : b = 0 <;> by_cases qn : n = 0 <;> by_cases qd : d = 0 <;> simp [formed_1, rules_kinds_1.f, within_f, course_f, mean_f, qb, qn, qd, Bool.and_assoc]
 by_cases h2 : a = 2
 ·subst h2
  by_cases qb : b = 0 <;> by_cases qn : n = 0 <;> by_cases qd : d = 0 <;> simp [formed_2, rules_kinds_3.f, within_f, course_f, mean_f, qb, qn, qd, Bool.and_assoc]
 by_cases h3 : a = 3
 ·subst h3
  by_cases qb : b = 0 <;> by_cases qd : d = 0 <;> simp [formed_3, rules_kinds_5.f, within_f, course_f, mean_f, qb, qd, Bool.and_assoc]
 by_cases h4 : a = 4
 ·subst h4
  by_cases qb : b = 0 <;> by_cases qn : n = 0 <;> by_cases qd : d = 0 <;> simp [formed_4, rules_kinds_7.f, within_f, course_f, mean_f, qb, qn, qd, Bool.and_assoc]
  rw [Bool.eq_iff_iff]
  simp only [beq_iff_eq]
  omega
 by_cases h5 : a = 5
 ·subst h5
  by_cases qb1 : 0 ≤ b <;> by_cases qb2 : b ≤ 4095 <;> by_cases qd : d = 0 <;> by_cases ql : l = [] <;> simp [qb1, qb2, formed_5, rules_kinds_9.f, within_f, course_f, mean_f, qd, ql, Bool.and_assoc]
 by_cases h6 : a = 6
 ·subst h6
  by_cases qb1 : 0 ≤ b <;> by_cases qb2 : b ≤ 4095 <;> by_cases qd : d = 0 <;> by_cases ql : l = [] <;> simp [qb1, qb2, formed_6, rules_kinds_11.f, within_f, course_f, mean_f, qd, ql, Bool.and_assoc]
 by_cases h7 : a = 7
 ·subst h7
  by_cases qb : b = 0 <;> by_cases qd : d = 0 <;> by_cases ql : l = [] <;> simp [formed_7, rules_kinds_13.f, within_f, course_f, mean_f, qb, qd, ql, Bool.and_assoc]
 by_cases h8 : a = 8
 ·subst h8
  by_cases qb : b = 0 <;> by_cases ql : l = [] <;> simp [formed_8, rules_kinds_15.f, within_f, course_f, mean_f, qb, ql, Bool.and_assoc]
 by_cases h9 : a = 9
 ·subst h9
  by_cases qn : n = 0 <;> by_cases qd : d = 0 <;> by_cases ql : l = [] <;> simp [formed_9, within_f, course_f, mean_f, qn, qd, ql, Bool.and_assoc]
 simp [h1, h2, h3, h4, h5, h6, h7, h8, h9]
/-- A rule whose parts are all valid. -/
def Valid (r : S24) : Prop := ∀ p ∈ preR 1 r, formedB p.2 = true
theorem chkR_valid {r : S24} (h : chkR r = true) : Valid r ∧ (preR 1 r).length ≤ 200 := by
 obtain ⟨h1, h2⟩ := chk_true 0 (preR 1 r) h
 refine ⟨fun p hp => (h2 p hp).2, ?_⟩
 rcases h1 with h1 | h1
 ·rw [h1]; simp
 ·omega
mutual
theorem pre_shift (d e : Int) : ∀ r, (preR d r).map (·.2) = (preR e r).map (·.2)
 | ⟨a, b, c, n, f, ks⟩ => by simp only [preR, List.map_cons]; rw [preL_shift _ _ ks]
theorem preL_shift (d e : Int) : ∀ ks, (preL d ks).map (·.2) = (preL e ks).map (·.2)
 | [] => rfl
 | k :: ks => by simp only [preL, List.map_append]; rw [pre_shift d e k, preL_shift d e ks]
end
/-- The parts of a rule. -/
def partsOf (r : S24) : List S24 := (preR 1 r).map (·.2)
theorem partsL (d : Int) : ∀ ks, (preL d ks).map (·.2) = (ks.map partsOf).flatten
 | [] => rfl
 | k :: ks => by
  simp only [preL, List.map_append, List.map_cons, List.flatten_cons, partsL d ks]
  rw [pre_shift d 1 k]
  rfl
theorem partsOf_eq (r : S24) : partsOf r = r :: (r.f5.map partsOf).flatten := by
 unfold partsOf
 rw [preR_eq, List.map_cons, partsL]
 rfl
theorem valid_iff (r : S24) : Valid r ↔ ∀ p ∈ partsOf r, formedB p = true := by
 unfold Valid partsOf
 simp only [List.mem_map]
 exact ⟨fun h p ⟨q, hq, e⟩ => e ▸ h q hq, fun h p hp => h p.2 ⟨p, hp, rfl⟩⟩
theorem valid_eq (r : S24) : Valid r ↔ formedB r = true ∧ ∀ k ∈ r.f5, Valid k := by
 rw [valid_iff, partsOf_eq]
 simp only [List.mem_cons, List.mem_flatten, List.mem_map]
 constructor
 ·intro h
  exact ⟨h r (.inl rfl), fun k hk => (valid_iff k).2 fun p hp => h p (.inr ⟨_, ⟨k, hk, rfl⟩, hp⟩)⟩
 ·rintro ⟨h1, h2⟩ p (rfl | ⟨_, ⟨k, hk, rfl⟩, hp⟩)
  ·exact h1
  ·exact (valid_iff k).1 (h2 k hk) p hp
theorem fits_lo {o c n d : Int} {len : Nat} (h : fits o c n d len = true) : 1 ≤ o ∧ o ≤ 9 := by
 by_cases h0 : 1 ≤ o ∧ o ≤ 9
 ·exact h0
 ·exfalso
  unfold fits at h
  rw [if_neg (by omega), if_neg (by omega), if_neg (by omega), if_neg (by omega), if_neg (by omega), if_neg (by omega), if_neg (by omega), if_neg (by omega), if_neg (by omega)] at h
  cases h
theorem valid_ops : ∀ (sz : Nat) (r : S24), SizeOf.sizeOf r < sz → Valid r → opsR r = true
 | 0, r, h, _ => absurd h (by omega)
 | sz + 1, r, h, hv => by
  obtain ⟨h1, h2⟩ := (valid_eq r).1 hv
  rw [formed_fits] at h1
  obtain ⟨h3, h4⟩ := fits_lo h1
  refine (opsR_eq r).2 ⟨h3, h4, fun k hk => ?_⟩
  obtain ⟨i, hi, rfl⟩ := List.getElem_of_mem hk
  exact valid_ops sz _ (by have := size_kid r i hi; omega) (h2 _ hk)
def fitL : Int → List S49 → Bool
 | _, [] => true
 | p, x :: xs => if p + 1 ≤ x.f0 ∧ x.f0 ≤ 4095 then if 0 ≤ x.f1 ∧ x.f1 ≤ 100 then if -1 ≤ x.f2 ∧ x.f2 ≤ 12 then if (decide (x.f2 ≥ 0) != decide (x.f1 ≥ 1)) = true then false else fitL x.f0 xs else false else false else false
def fitS (l : List S49) (e m1 m2 : Int) : Bool := if fitL (-1) l = true then if 0 ≤ e ∧ e ≤ 10000 then meanB m1 m2 else false else false
theorem fits_l0 (e m1 m2 : Int) (l : List S49) (hl : l.length ≤ 9223372036854775807) : ∀ (m i : Nat) (p : Int), i + m = l.length → -1 ≤ p → p ≤ 4095 →
  Ev (fun k => rules_Fits.l0 k p l (l.length : Int) (i : Int) l e m1 m2) (if fitL p (l.drop i) = true then if 0 ≤ e ∧ e ≤ 10000 then if meanB m1 m2 = true then 0 else 120 else 120 else 120)
 | 0, i, p, hm, h1, h2 => by
  refine Ev.first fun k => ?_
  simp only [rules_Fits.l0]
  rw [if_neg (by omega), List.drop_eq_nil_of_le (by omega), within_f, Option.bind_some, mean_f, Option.bind_some, if_pos (show fitL p [] = true from rfl)]
  by_cases he : 0 ≤ e ∧ e ≤ 10000
  ·rw [if_pos (by simp [he]), if_pos he]
   split <;> rfl
  ·rw [if_neg (by simp; omega), if_neg he]
 | m + 1, i, p, hm, h1, h2 => by
  have hi : i < l.length := by omega
  have hp : wrap64 (p + 1) = p + 1 := by unfold wrap64; omega
  have head : ∀ k, rules_Fits.l0 (k + 1) p l (l.length : Int) (i : Int) l e m1 m2 = if p + 1 ≤ l[i].f0 ∧ l[i].f0 ≤ 4095 then if 0 ≤ l[i].f1 ∧ l[i].f1 ≤ 100 then if -1 ≤ l[i].f2 ∧ l[i].f2 ≤ 12 then if (decide (l[i].f2 ≥ 0) != decide (l[i].f1 ≥ 1)) = true then some 120 else rules_Fits.l0 k l[i].f0 l (l.length : Int) ((i + 1 : Nat) : Int) l e m1 m2 else some 120 else some 120 else some 120 := fun k => by
   simp only [rules_Fits.l0]
   rw [if_pos (by omega), if_pos (by omega), if_pos (by omega), rd49 l i hi, hp, within_f, within_f, within_f, Option.bind_some, Option.bind_some, Option.bind_some, w64 i (by omega)]
   simp only [Bool.and_eq_true, decide_eq_true_eq]
  rw [List.drop_eq_getElem_cons hi]
  by_cases q1 : p + 1 ≤ l[i].f0 ∧ l[i].f0 ≤ 4095
  ·by_cases q2 : 0 ≤ l[i].f1 ∧ l[i].f1 ≤ 100
   ·by_cases q3 : -1 ≤ l[i].f2 ∧ l[i].f2 ≤ 12
    ·by_cases q4 : (decide (l[i].f2 ≥ 0) != decide (l[i].f1 ≥ 1)) = true
     ·refine Ev.first fun k => ?_
      rw [head, if_pos q1, if_pos q2, if_pos q3, if_pos q4, if_neg (by simp only [fitL]; rw [if_pos q1, if_pos q2, if_pos q3, if_pos q4]; simp)]
     ·have ef : fitL p (l[i] :: l.drop (i + 1)) = fitL l[i].f0 (l.drop (i + 1)) := by
       simp only [fitL]
       rw [if_pos q1, if_pos q2, if_pos q3, if_neg q4]
      rw [ef]
      exact Ev.next (fits_l0 e m1 m2 l hl m (i + 1) l[i].f0 (by omega) (by omega) (by omega)) fun k => by rw [head, if_pos q1, if_pos q2, if_pos q3, if_neg q4]
    ·refine Ev.first fun k => ?_
     rw [head, if_pos q1, if_pos q2, if_neg q3, if_neg (by simp only [fitL]; rw [if_pos q1, if_pos q2, if_neg q3]; simp)]
   ·refine Ev.first fun k => ?_
    rw [head, if_pos q1, if_neg q2, if_neg (by simp only [fitL]; rw [if_pos q1, if_neg q2]; simp)]
  ·refine Ev.first fun k => ?_
   rw [head, if_neg q1, if_neg (by simp only [fitL]; rw [if_neg q1]; simp)]
theorem fits_ev (l : List S49) (hl : l.length ≤ 9223372036854775807) (e m1 m2 : Int) : Ev (fun k => rules_Fits.f k l e m1 m2) (if fitS l e m1 m2 = true then 0 else 120) := by
 have h := fits_l0 e m1 m2 l hl l.length 0 (-1) (by omega) (by omega) (by omega)
 rw [List.drop_zero] at h
 have e1 : (if fitL (-1) l = true then if 0 ≤ e ∧ e ≤ 10000 then if meanB m1 m2 = true then (0 : Int) else 120 else 120 else 120) = if fitS l e m1 m2 = true then 0 else 120 := by
  unfold fitS
  repeat' split
  all_goals simp_all
 rw [← e1]
 exact h
theorem holds_ev (r : S24) (l : List S49) (hl : l.length ≤ 9223372036854775807) (e m1 m2 : Int) :
  Ev (fun k => rules_Holds.f k r.f0 r.f1 r.f2 r.f3 r.f4 r.f5 l e m1 m2) (if chkR r = true then if fitS l e m1 m2 = true then (valR l e m1 m2 r, 0) else (false, 120) else (false, 120)) := by
 by_cases h : chkR r = true
 ·rw [if_pos h]
  obtain ⟨K, hK⟩ := fits_ev l hl e m1 m2
  refine ⟨K, fun k hk => ?_⟩
  show rules_Holds.f k r.f0 r.f1 r.f2 r.f3 r.f4 r.f5 l e m1 m2 = _
  unfold rules_Holds.f
  rw [check_f, if_pos h, Option.bind_some, if_pos rfl]
  have hK2 : rules_Fits.f k l e m1 m2 = _ := hK k hk
  rw [hK2, Option.bind_some]
  by_cases h2 : fitS l e m1 m2 = true
  ·rw [if_pos h2, if_pos rfl, value_f _ (valid_ops _ r (Nat.lt_succ_self _) (chkR_valid h).1), Option.bind_some, if_pos h2]
  ·rw [if_neg h2, if_neg (by decide), if_neg h2]
 ·refine Ev.now fun k => ?_
  unfold rules_Holds.f
  rw [check_f, if_neg h, Option.bind_some, if_neg (by decide), if_neg h]
end Go.Proofs.YtabocfninjankaaDoor.P
namespace Go.Proofs.YtabocfninjankaaDoor.P
open Go.RowKit Go.ChangeShapes Go.WideShapes Go.Deep Go.Proofs.YtabocfninjankaaDoorW.PrintWords Go.Proofs.YtabocfninjankaaDoorW.PrintLast Go.Proofs.YtabocfninjankaaDoorW.PrintMore
set_option linter.unusedVariables false
set_option linter.unusedSimpArgs false
section
variable {H : Type} {P : Program}
def light (P : Program) (t : TypeId) (d : DataW H) : Prop := (DataW.weights P t d).all (· ≤ reachBytes) = true
theorem light_each : ∀ (ts : List TypeId) (ds : List (DataW H)), (DataW.weightsEach P ts ds).all (· ≤ reachBytes) = true → ∀ (i : Nat) t d, ts[i]? = some t → ds[i]? = some d → light P t d
 | [], _, _, i, t, d, ht, _ => by simp at ht
 | _ :: _, [], _, i, t, d, _, hd => by simp at hd
 | t0 :: ts, d0 :: ds, h, i, t, d, ht, hd => by
  unfold DataW.weightsEach at h
  rw [List.all_append, Bool.and_eq_true] at h
  cases i with
  | zero =>
   have e1 : t0 = t := by simpa using ht
   have e2 : d0 = d := by simpa using hd
   subst e1 e2
   exact h.1
  | succ i => exact light_each ts ds h.2 i t d (by simpa using ht) (by simpa using hd)
theorem light_all {e : TypeId} : ∀ (ds : List (DataW H)), (DataW.weightsAll P e ds).all (· ≤ reachBytes) = true → ∀ d ∈ ds, light P e d
 | [], _, d, hd => by simp at hd
 | d0 :: ds, h, d, hd => by
  unfold DataW.weightsAll at h
  rw [List.all_append, Bool.and_eq_true] at h
  rcases List.mem_cons.1 hd with rfl | hd
  ·exact h.1
  ·exact light_all ds h.2 d hd
/-- Whatever reads as a datum of type t is an element of kind d; G holds of it. -/
def Opn {α : Type} (P : Program) (d : Kd α) (t : TypeId) (G : α → Prop) : Prop :=
 ∀ (H : Type) (enc : TypeId × Value → H) (W : World) (base : Nat) (spare : Nat → Bool) (held : Bool) (fuel : Nat) (cs : List Value) (x : DataW H × List MemPlace), DataW.trod enc P W base spare held fuel t cs = some x → light P t x.1 → ∃ y, d.K W y cs ∧ G y
theorem list_of {α : Type} {p : Nat → α → Prop} : ∀ (n : Nat), (∀ i, i < n → ∃ y, p i y) → ∃ ys : List α, ys.length = n ∧ ∀ i y, ys[i]? = some y → p i y
 | 0, _ => ⟨[], rfl, fun i y h => by simp at h⟩
 | n + 1, h => by
  obtain ⟨ys, hl, hy⟩ := list_of n (fun i hi => h i (by omega))
  obtain ⟨y, hp⟩ := h n (by omega)
  refine ⟨ys ++ [y], by simp [hl], fun i z hz => ?_⟩
  rcases Nat.lt_or_ge i n with hi | hi
  ·rw [List.getElem?_append_left (by omega)] at hz
   exact hy i z hz
  ·have : i = n := by
    have := (List.getElem?_eq_some_iff.1 hz).1
    simp at this; omega
   subst this
   rw [List.getElem?_append_right (by omega)] at hz
   have : y = z := by simpa [hl] using hz
   subst this
   exact hp
end
def wfI (n : Int) : Prop := (Lit.int .i64 n).wf = true
theorem opn_int : Opn Tryd.prog (Kd.int .i64) 3 wfI := by
 intro H enc W base spare held fuel cs x h hw
 obtain ⟨n, rfl, _, hwf⟩ := DataW.trod_int Tryd.underlying3 h
 exact ⟨n, rfl, hwf⟩
section
variable {H : Type} {P : Program}
end
theorem len_6 (cs : List Value) (h : cs.length = 6) : ∃ c0 c1 c2 c3 c4 c5, cs = [c0, c1, c2, c3, c4, c5] := by match cs, h with | [c0, c1, c2, c3, c4, c5], _ => exact ⟨c0, c1, c2, c3, c4, c5, rfl⟩
theorem cel3 : Tryd.prog.cellsOf 3 = 1 := by kernel_rfl
theorem cel9 : Tryd.prog.cellsOf 9 = 1 := by kernel_rfl
theorem cel22 : Tryd.prog.cellsOf 22 = 1 := by kernel_rfl
theorem cel24 : Tryd.prog.cellsOf 24 = 6 := by kernel_rfl
end Go.Proofs.YtabocfninjankaaDoor.P
namespace Go.Proofs
open Go.Shelf Go.RowKit Go.Lib Go.Sort
def Tryd.keysInt_ren : Go.Shelf.Ren := ⟨fun | 7 => 44 | 10 => 60 | n => n, fun | 23 => 71 | 26 => 3 | 3 => 4 | 28 => 74 | 0 => 0 | 27 => 73 | 33 => 69 | 4 => 4 | n => n, fun | n => n⟩
theorem Tryd.keysInt : Go.Proofs.SlLaysZI.n7 Tryd.prog Tryd.keysInt_ren := {
  mixed := by kernel_rfl,
  f7 := ⟨Tryd.f44.name, by decide, Tryd.func44.trans (congrArg some (by kernel_rfl))⟩,
  f10 := ⟨Tryd.f60.name, by decide, Tryd.func60.trans (congrArg some (by kernel_rfl))⟩,
  t0 := Tryd.underlying0,
  a0 := Tryd.isAgg0,
  z0 := Tryd.sizeOf0,
  v0 := Tryd.zeroValue0,
  t4 := Tryd.underlying4,
  a4 := Tryd.isAgg4,
  z4 := Tryd.sizeOf4,
  v4 := Tryd.zeroValue4,
  t23 := Tryd.underlying71,
  a23 := Tryd.isAgg71,
  z23 := Tryd.sizeOf71,
  v23 := Tryd.zeroValue71,
  t26 := Tryd.underlying3,
  a26 := Tryd.isAgg3,
  z26 := Tryd.sizeOf3,
  v26 := Tryd.zeroValue3,
  t27 := Tryd.underlying73,
  a27 := Tryd.isAgg73,
  z27 := Tryd.sizeOf73,
  v27 := Tryd.zeroValue73,
  t28 := Tryd.underlying74,
  a28 := Tryd.isAgg74,
  z28 := Tryd.sizeOf74,
  v28 := Tryd.zeroValue74,
  t33 := Tryd.underlying69,
  a33 := Tryd.isAgg69,
  z33 := Tryd.sizeOf69,
  v33 := Tryd.zeroValue69 }
def Tryd.sortedInt_ren : Go.Shelf.Ren := ⟨fun | 6 => 43 | 8 => 58 | 9 => 59 | 11 => 67 | 13 => 66 | 12 => 68 | 23 => 80 | 24 => 81 | 14 => 82 | 15 => 83 | 16 => 84 | 17 => 85 | 18 => 86 | 19 => 87 | 20 => 88 | 21 => 89 | 22 => 90 | 25 => 98 | 26 => 94 | 27 => 95 | 28 => 99 | 29 => 100 | 30 => 53 | 31 => 102 | n => n, fun | 26 => 3 | 28 => 74 | 24 => 39 | 0 => 0 | 3 => 3 | 37 => 92 | 48 => 108 | 50 => 95 | 4 => 4 | 40 => 101 | 39 => 100 | 45 => 105 | 5 => 5 | 9 => 9 | 51 => 116 | 55 => 120 | 57 => 124 | 58 => 125 | 33 => 69 | n => n, fun | n => n⟩
theorem Tryd.sortedInt : Go.Proofs.SlLaysZI.n6 Tryd.prog Tryd.sortedInt_ren := {
  mixed := by kernel_rfl,
  f6 := ⟨Tryd.f43.name, by decide, Tryd.func43.trans (congrArg some (by kernel_rfl))⟩,
  f8 := ⟨Tryd.f58.name, by decide, Tryd.func58.trans (congrArg some (by kernel_rfl))⟩,
  f11 := ⟨Tryd.f67.name, by decide, Tryd.func67.trans (congrArg some (by kernel_rfl))⟩,
  t0 := Tryd.underlying0,
  a0 := Tryd.isAgg0,
  z0 := Tryd.sizeOf0,
  v0 := Tryd.zeroValue0,
  t24 := Tryd.underlying39,
  a24 := Tryd.isAgg39,
  z24 := Tryd.sizeOf39,
  v24 := Tryd.zeroValue39,
  t26 := Tryd.underlying3,
  a26 := Tryd.isAgg3,
  z26 := Tryd.sizeOf3,
  v26 := Tryd.zeroValue3,
  t28 := Tryd.underlying74,
  a28 := Tryd.isAgg74,
  z28 := Tryd.sizeOf74,
  v28 := Tryd.zeroValue74,
  i26 := by kernel_rfl }
def Tryd.sortInt_ren : Go.Shelf.Ren := ⟨fun | 5 => 59 | 8 => 66 | 7 => 68 | 19 => 80 | 20 => 81 | 10 => 82 | 11 => 83 | 12 => 84 | 13 => 85 | 14 => 86 | 15 => 87 | 16 => 88 | 17 => 89 | 18 => 90 | 30 => 98 | 31 => 94 | 32 => 95 | 33 => 99 | 34 => 100 | 35 => 53 | 40 => 102 | n => n, fun | 23 => 39 | 25 => 3 | 3 => 3 | 32 => 92 | 22 => 39 | 0 => 0 | 44 => 108 | 46 => 95 | 4 => 4 | 36 => 101 | 35 => 100 | 41 => 105 | 5 => 5 | 9 => 9 | 53 => 116 | 57 => 120 | 63 => 124 | 64 => 125 | n => n, fun | n => n⟩
theorem Tryd.sortInt : Go.Proofs.SlLaysM.n5 Tryd.prog Tryd.sortInt_ren := {
  mixed := by kernel_rfl,
  f5 := ⟨Tryd.f59.name, by decide, Tryd.func59.trans (congrArg some (by kernel_rfl))⟩,
  f7 := ⟨Tryd.f68.name, by decide, Tryd.func68.trans (congrArg some (by kernel_rfl))⟩,
  f8 := Tryd.func66.trans (congrArg some (by kernel_rfl)),
  f10 := ⟨Tryd.f82.name, by decide, Tryd.func82.trans (congrArg some (by kernel_rfl))⟩,
  f11 := ⟨Tryd.f83.name, by decide, Tryd.func83.trans (congrArg some (by kernel_rfl))⟩,
  f12 := ⟨Tryd.f84.name, by decide, Tryd.func84.trans (congrArg some (by kernel_rfl))⟩,
  f13 := ⟨Tryd.f85.name, by decide, Tryd.func85.trans (congrArg some (by kernel_rfl))⟩,
  f14 := ⟨Tryd.f86.name, by decide, Tryd.func86.trans (congrArg some (by kernel_rfl))⟩,
  f15 := ⟨Tryd.f87.name, by decide, Tryd.func87.trans (congrArg some (by kernel_rfl))⟩,
  f16 := ⟨Tryd.f88.name, by decide, Tryd.func88.trans (congrArg some (by kernel_rfl))⟩,
  f17 := ⟨Tryd.f89.name, by decide, Tryd.func89.trans (congrArg some (by kernel_rfl))⟩,
  f18 := ⟨Tryd.f90.name, by decide, Tryd.func90.trans (congrArg some (by kernel_rfl))⟩,
  f19 := Tryd.func80.trans (congrArg some (by kernel_rfl)),
  f20 := Tryd.func81.trans (congrArg some (by kernel_rfl)),
  f30 := ⟨Tryd.f98.name, by decide, Tryd.func98.trans (congrArg some (by kernel_rfl))⟩,
  f31 := Tryd.func94.trans (congrArg some (by kernel_rfl)),
  f32 := Tryd.func95.trans (congrArg some (by kernel_rfl)),
  f33 := ⟨Tryd.f99.name, by decide, Tryd.func99.trans (congrArg some (by kernel_rfl))⟩,
  f34 := ⟨Tryd.f100.name, by decide, Tryd.func100.trans (congrArg some (by kernel_rfl))⟩,
  f35 := ⟨Tryd.f53.name, by decide, Tryd.func53.trans (congrArg some (by kernel_rfl))⟩,
  f40 := ⟨Tryd.f102.name, by decide, Tryd.func102.trans (congrArg some (by kernel_rfl))⟩,
  t0 := Tryd.underlying0,
  a0 := Tryd.isAgg0,
  z0 := Tryd.sizeOf0,
  v0 := Tryd.zeroValue0,
  t3 := Tryd.underlying3,
  a3 := Tryd.isAgg3,
  z3 := Tryd.sizeOf3,
  v3 := Tryd.zeroValue3,
  t4 := Tryd.underlying4,
  a4 := Tryd.isAgg4,
  z4 := Tryd.sizeOf4,
  v4 := Tryd.zeroValue4,
  t5 := Tryd.underlying5,
  a5 := Tryd.isAgg5,
  z5 := Tryd.sizeOf5,
  v5 := Tryd.zeroValue5,
  t9 := Tryd.underlying9,
  a9 := Tryd.isAgg9,
  z9 := Tryd.sizeOf9,
  v9 := Tryd.zeroValue9,
  t22 := Tryd.underlying39,
  a22 := Tryd.isAgg39,
  z22 := Tryd.sizeOf39,
  v22 := Tryd.zeroValue39,
  t23 := Tryd.underlying39,
  a23 := Tryd.isAgg39,
  z23 := Tryd.sizeOf39,
  v23 := Tryd.zeroValue39,
  t25 := Tryd.underlying3,
  a25 := Tryd.isAgg3,
  z25 := Tryd.sizeOf3,
  v25 := Tryd.zeroValue3,
  t32 := Tryd.underlying92,
  a32 := Tryd.isAgg92,
  z32 := Tryd.sizeOf92,
  v32 := Tryd.zeroValue92,
  t35 := Tryd.underlying100,
  a35 := Tryd.isAgg100,
  z35 := Tryd.sizeOf100,
  v35 := Tryd.zeroValue100,
  t36 := Tryd.underlying101,
  a36 := Tryd.isAgg101,
  z36 := Tryd.sizeOf101,
  v36 := Tryd.zeroValue101,
  t41 := Tryd.underlying105,
  a41 := Tryd.isAgg105,
  z41 := Tryd.sizeOf105,
  v41 := Tryd.zeroValue105,
  t44 := Tryd.underlying108,
  a44 := Tryd.isAgg108,
  z44 := Tryd.sizeOf108,
  v44 := Tryd.zeroValue108,
  t46 := Tryd.underlying95,
  a46 := Tryd.isAgg95,
  z46 := Tryd.sizeOf95,
  v46 := Tryd.zeroValue95,
  t53 := Tryd.underlying116,
  a53 := Tryd.isAgg116,
  z53 := Tryd.sizeOf116,
  v53 := Tryd.zeroValue116,
  t57 := Tryd.underlying120,
  a57 := Tryd.isAgg120,
  z57 := Tryd.sizeOf120,
  v57 := Tryd.zeroValue120,
  t63 := Tryd.underlying124,
  a63 := Tryd.isAgg124,
  z63 := Tryd.sizeOf124,
  v63 := Tryd.zeroValue124,
  t64 := Tryd.underlying125,
  a64 := Tryd.isAgg125,
  z64 := Tryd.sizeOf125,
  v64 := Tryd.zeroValue125 }
end Go.Proofs
namespace Go.Proofs.YtabocfninjankaaDoor.Flat
open Go.RowKit Go.Proofs.YtabocfninjankaaDoorW.PrintWords Go.Sort
/-- Elements of this kind are the cells 'enc', and nothing else. -/
structure IsFlat {α : Type} (d : Kd α) (enc : α → List Value) : Prop where
 M : ∀ {w base ok x cs}, d.M w base ok x cs ↔ cs = enc x
 K : ∀ {w x cs}, d.K w x cs → cs = enc x
 len : ∀ x, (enc x).length = d.sz
 one : ∀ x, ∀ v ∈ enc x, v.oneCell' = true
section
variable {α : Type} {d : Kd α} {enc : α → List Value} {e : TypeId}
theorem reps_flat (hd : IsFlat d enc) {w : World} {base : Nat} {ok : Nat → Prop} {xs : List α} {inner : List Value} (h : Reps (d.M w base ok) d.sz xs inner) : inner = xs.flatMap enc := by
 induction xs generalizing inner with
 | nil => have := h.1; simp at this; simp [this]
 | cons x xs ih =>
  have h0 : inner.take d.sz = enc x := by have := hd.M.1 (h.2 0 x rfl); simpa using this
  have hr : Reps (d.M w base ok) d.sz xs (inner.drop d.sz) := by
   refine ⟨by rw [List.length_drop, h.1, List.length_cons, Nat.add_mul]; omega, fun j p hj => ?_⟩
   have := h.2 (j + 1) p (by simpa using hj)
   rw [List.drop_drop]
   rwa [show d.sz + j * d.sz = (j + 1) * d.sz by rw [Nat.add_mul]; omega]
  rw [List.flatMap_cons, ← ih hr, ← h0, List.take_append_drop]
theorem flat_len (hd : IsFlat d enc) (xs : List α) : (xs.flatMap enc).length = xs.length * d.sz := by
 induction xs with
 | nil => simp
 | cons x xs ih => rw [List.flatMap_cons, List.length_append, ih, hd.len, List.length_cons, Nat.add_mul]; omega
theorem flat_reps (hd : IsFlat d enc) (w : World) (base : Nat) (ok : Nat → Prop) (xs : List α) : Reps (d.M w base ok) d.sz xs (xs.flatMap enc) := by
 induction xs with
 | nil => exact Reps.none _ _
 | cons x xs ih =>
  refine ⟨flat_len hd _, fun j p hj => ?_⟩
  rw [List.flatMap_cons]
  cases j with
  | zero =>
   have : x = p := by simpa using hj
   subst this
   refine hd.M.2 ?_
   simp [← hd.len x]
  | succ j =>
   have h2 := ih.2 j p (by simpa using hj)
   rwa [show (j + 1) * d.sz = (enc x).length + j * d.sz by rw [hd.len, Nat.add_mul]; omega, ← List.drop_drop, List.drop_left]
/-- The block g holds the row xs, of the capacity cap. -/
def RowAt (e : TypeId) (enc : α → List Value) (sz : Nat) (w : World) (g cap : Nat) (xs : List α) : Prop :=
 xs.length ≤ cap ∧ cap ≤ maxLen ∧ ∃ cur, w.heap[g]? = some (.cells cur e (0, 0)) ∧ cur.size = cap * sz ∧ cur.toList.take (xs.length * sz) = xs.flatMap enc
theorem rowAt_of_R (hd : IsFlat d enc) {w : World} {base : Nat} {ok : Nat → Prop} {v : Value} {xs : List α} (h : d.R e w base ok v xs) :
  (v = .slice none 0 0 ∧ xs = []) ∨ ∃ g cap, v = .slice (some ⟨g, 0, none⟩) xs.length cap ∧ base ≤ g ∧ ok g ∧ RowAt e enc d.sz w g cap xs := by
 obtain ⟨h0, inner, ho, hr⟩ := h
 have hi := reps_flat hd hr
 subst hi
 rcases ho.2 with ⟨rfl, hn⟩ | ⟨g, cap, cur, rfl, hb, hh, hnc, hcm, hcs, ht⟩
 ·exact .inl ⟨rfl, List.eq_nil_of_length_eq_zero hn⟩
 ·exact .inr ⟨g, cap, rfl, hb, h0 g (by simp [Value.ownBlock]), hnc, hcm, cur, hh, hcs, ht⟩
theorem R_of_rowAt (hd : IsFlat d enc) {w : World} {base : Nat} {ok : Nat → Prop} {g cap : Nat} {xs : List α} (hb : base ≤ g) (hok : ok g) (h : RowAt e enc d.sz w g cap xs) : d.R e w base ok (.slice (some ⟨g, 0, none⟩) xs.length cap) xs := by
 obtain ⟨hnc, hcm, cur, hh, hcs, ht⟩ := h
 refine ⟨fun k hk => ?_, xs.flatMap enc, ⟨flat_len hd xs, .inr ⟨g, cap, cur, rfl, hb, hh, hnc, hcm, hcs, ht⟩⟩, flat_reps hd _ _ _ _⟩
 have : g = k := by simpa [Value.ownBlock] using hk
 subst this
 exact hok
theorem RowAt.lt {sz : Nat} {w : World} {g cap : Nat} {xs : List α} (h : RowAt e enc sz w g cap xs) : g < w.heap.size := by
 obtain ⟨_, _, cur, hh, _⟩ := h
 exact (Array.getElem?_eq_some_iff.1 hh).1
theorem RowAt.of_heap {sz : Nat} {w w' : World} {g cap : Nat} {xs : List α} (h : RowAt e enc sz w g cap xs) (hg : w'.heap[g]? = w.heap[g]?) : RowAt e enc sz w' g cap xs := by
 obtain ⟨hnc, hcm, cur, hh, r⟩ := h
 exact ⟨hnc, hcm, cur, hg.trans hh, r⟩
theorem flatK_flat (hd : IsFlat d enc) [Inhabited α] (xs : List α) : (flatK enc d.sz xs.toArray).toList = xs.flatMap enc := by
 apply List.ext_getElem?
 intro t
 have hl := flat_len hd xs
 by_cases ht : t < xs.length * d.sz
 ·have hsz : 0 < d.sz := by
   rcases Nat.eq_zero_or_pos d.sz with h | h
   ·simp [h] at ht
   ·exact h
  have h1 : (flatK enc d.sz xs.toArray).toList[t]? = some ((enc xs.toArray[t / d.sz]!)[t % d.sz]!) := by
   rw [Array.getElem?_toList, ← get_flatK enc d.sz xs.toArray t (by simpa using ht), getElem?_pos (flatK enc d.sz xs.toArray) t (by simpa using ht), getElem!_pos (flatK enc d.sz xs.toArray) t (by simpa using ht)]
  have hq : t / d.sz < xs.length := Nat.div_lt_of_lt_mul (by rwa [Nat.mul_comm])
  have hr := (flat_reps hd default 0 (fun _ => True) xs).2 (t / d.sz) xs[t / d.sz] (by simp [hq])
  have hr := hd.M.1 hr
  have h2 : (xs.flatMap enc)[t]? = (enc xs[t / d.sz])[t % d.sz]? := by
   rw [← hr, List.getElem?_take, if_pos (Nat.mod_lt _ hsz), List.getElem?_drop]
   congr 1
   rw [Nat.mul_comm]; exact (Nat.div_add_mod t d.sz).symm
  rw [h1, h2]
  have hm : t % d.sz < (enc xs[t / d.sz]).length := by rw [hd.len]; exact Nat.mod_lt _ hsz
  rw [getElem?_pos (enc xs[t / d.sz]) (t % d.sz) hm]
  simp [getElem!_pos, hq, hm]
 ·rw [List.getElem?_eq_none (by simp; omega), List.getElem?_eq_none (by omega)]
theorem RowAt.holds (hd : IsFlat d enc) [Inhabited α] {w : World} {g cap : Nat} {xs : List α} (h : RowAt e enc d.sz w g cap xs) : HoldsK enc d.sz w g 0 xs.toArray := by
 obtain ⟨hnc, hcm, cur, hh, hcs, ht⟩ := h
 intro j hj
 have hj' : j < xs.length * d.sz := by simpa using hj
 have hc : cur.toList[j]? = (xs.flatMap enc)[j]? := by rw [← ht, List.getElem?_take, if_pos hj']
 rw [Nat.zero_add]
 constructor
 ·rw [cell_of_row w g j cur e (0, 0) hh, ← Array.getElem?_toList, hc, ← flatK_flat hd xs, Array.getElem?_toList, getElem?_pos (flatK enc d.sz xs.toArray) j hj, getElem!_pos (flatK enc d.sz xs.toArray) j hj]
  rfl
 ·have := blk_frozen hh j
  exact this
/-- The world behind a sort holds what the sort says. -/
theorem RowAt.sorted (hd : IsFlat d enc) [Inhabited α] {w : World} {g cap n : Nat} {xs : List α} {ys : Array α} {os : Array Obj} (h : RowAt e enc d.sz w g cap xs) (hy : ys.size = xs.length) :
  RowAt e enc d.sz (sortWorldK enc d.sz w g 0 n ys os) g cap ys.toList ∧ w.grownBy (sortWorldK enc d.sz w g 0 n ys os) (some g) := by
 have hlt := h.lt
 obtain ⟨hnc, hcm, cur, hh, hcs, ht⟩ := h
 have hsz : (flatK enc d.sz ys).size = ys.size * d.sz := size_flatK _ _ _
 have hheap : ∀ k, k < w.heap.size → (sortWorldK enc d.sz w g 0 n ys os).heap[k]? = if k = g then some (.cells (putCells id 0 (flatK enc d.sz ys) cur) e (0, 0)) else w.heap[k]? := by
  intro k hk
  unfold sortWorldK
  rw [heap_grow_old _ _ (by simpa [putRowK] using hk)]
  unfold putRowK putRow mapBlock
  simp only [heap_ahead, Array.getElem?_modify]
  by_cases hkg : k = g
  ·subst hkg
   rw [if_pos rfl, if_pos rfl, hh]
   rfl
  ·rw [if_neg (fun h => hkg h.symm), if_neg hkg]
 refine ⟨⟨by rw [Array.length_toList, hy]; exact hnc, hcm, putCells id 0 (flatK enc d.sz ys) cur, by rw [hheap g hlt, if_pos rfl], by simpa [putCells] using hcs, ?_⟩, ⟨rfl, rfl, rfl, ?_, fun k hk hne => ?_⟩⟩
 ·rw [← flatK_flat hd]
  apply List.ext_getElem?
  intro t
  rw [List.getElem?_take, Array.length_toList]
  by_cases htl : t < ys.size * d.sz
  ·rw [if_pos htl, Array.getElem?_toList, Array.getElem?_toList, Array.toArray_toList]
   unfold putCells
   have htc : t < cur.size := by rw [hcs]; exact Nat.lt_of_lt_of_le htl (Nat.mul_le_mul_right _ (by omega))
   rw [Array.getElem?_mapIdx, getElem?_pos cur t htc, Option.map_some, if_pos ⟨Nat.zero_le _, by rw [hsz]; omega⟩, Nat.sub_zero, getElem?_pos (flatK enc d.sz ys) t (by rw [hsz]; exact htl), getElem!_pos (flatK enc d.sz ys) t (by rw [hsz]; exact htl)]
   rfl
  ·rw [if_neg htl, Array.getElem?_toList, Array.toArray_toList, Array.getElem?_eq_none (by rw [hsz]; omega)]
 ·show w.heap.size ≤ _
  unfold sortWorldK
  simp [putRowK]
 ·rw [hheap k hk, if_neg (fun h => hne (by rw [h]))]
/-- What is cut off may be written over. -/
theorem RowAt.cut (hd : IsFlat d enc) {w : World} {g cap m : Nat} {xs : List α} (h : RowAt e enc d.sz w g cap xs) (hm : m ≤ xs.length) : RowAt e enc d.sz w g cap (xs.take m) := by
 obtain ⟨hnc, hcm, cur, hh, hcs, ht⟩ := h
 refine ⟨by rw [List.length_take]; omega, hcm, cur, hh, hcs, ?_⟩
 rw [List.length_take, Nat.min_eq_left hm]
 have h2 : xs.flatMap enc = (xs.take m).flatMap enc ++ (xs.drop m).flatMap enc := by rw [← List.flatMap_append, List.take_append_drop]
 have h3 : ((xs.take m).flatMap enc).length = m * d.sz := by rw [flat_len hd, List.length_take, Nat.min_eq_left hm]
 have h4 : (cur.toList.take (xs.length * d.sz)).take (m * d.sz) = (xs.take m).flatMap enc := by rw [ht, h2, ← h3, List.take_left]
 rwa [List.take_take, Nat.min_eq_left (Nat.mul_le_mul_right _ hm)] at h4
theorem RowAt.over {sz : Nat} {w : World} {g cap o : Nat} {xs : List α} {seg : List Value} (h : RowAt e enc sz w g cap xs) (ho : xs.length * sz ≤ o) :
  RowAt e enc sz (w.setCells g o seg) g cap xs := by
 induction seg generalizing w o with
 | nil => exact h
 | cons v seg ih =>
  refine ih (o := o + 1) ?_ (by omega)
  obtain ⟨hnc, hcm, cur, hh, hcs, ht⟩ := h
  refine ⟨hnc, hcm, cur.setIfInBounds o v, ?_, by simpa using hcs, ?_⟩
  ·simp [World.setCell, Array.getElem?_modify, hh]
  ·rw [← ht]
   apply List.ext_getElem?
   intro t
   rw [List.getElem?_take, List.getElem?_take]
   by_cases h1 : t < xs.length * sz
   ·rw [if_pos h1, if_pos h1, Array.getElem?_toList, Array.getElem?_toList, Array.getElem?_setIfInBounds, if_neg (by omega)]
   ·rw [if_neg h1, if_neg h1]
theorem grown_trans {a b c : World} {row : Option Nat} (h : a.grownBy b row) (k : b.grownBy c row) : a.grownBy c row :=
 ⟨k.os.trans h.os, k.tape.trans h.tape, k.output.trans h.output, Nat.le_trans h.size k.size, fun i hi hne => (k.block i (Nat.lt_of_lt_of_le hi h.size) hne).trans (h.block i hi hne)⟩
section
variable {P : Program} {ops : Array Oper} {rest : List Oper} {o : Oper} {a : Act} {Q : Exit → Act → World → Prop}
end
end
end Go.Proofs.YtabocfninjankaaDoor.Flat
namespace Go.Proofs.YtabocfninjankaaDoor.P
open Go.RowKit Go.Shelf Go.Maps Go.Proofs.YtabocfninjankaaDoorW.PrintWords Go.Proofs.YtabocfninjankaaDoorW.PrintLast Go.Proofs.YtabocfninjankaaDoorW.PrintMore
attribute [local go_sem] Oper.semAt_some
set_option linter.unusedVariables false
set_option linter.unusedSimpArgs false
theorem flatI : Flat.IsFlat (Kd.int .i64) (fun x => [.int .i64 x]) :=
  ⟨Iff.rfl, fun h => h, fun _ => rfl, fun _ v hv => by rw [List.mem_singleton.1 hv]; rfl⟩
/-- The marks of the loops that are over. -/
def marks (Ds : List Nat) : List Deferred := Ds.map fun D => { target := .collected D, args := #[] }
/-- Every mark's block is turned, no other. -/
structure Turned (Ds : List Nat) (w w' : World) : Prop where
  os : w'.os = w.os
  tape : w'.tape = w.tape
  output : w'.output = w.output
  size : w'.heap.size = w.heap.size
  block : ∀ k, k ∉ Ds → w'.heap[k]? = w.heap[k]?
theorem leaves_marks {F : Fence} {n : Nat} {P : Program} {fn : Func} {tmps : Array Value} {R : Ending → World → Prop} (Ds : List Nat) : ∀ (w : World), Ds.Nodup → (∀ D ∈ Ds, w.heap[D]? = some (.deferred (some []))) →
    (∀ w', Turned Ds w w' → LeavesIn F n P fn tmps R [] .returning w') → LeavesInM F n P fn tmps R (marks Ds) .returning w := by
  induction Ds with
  | nil => intro w _ _ h; exact h w ⟨rfl, rfl, rfl, rfl, fun _ _ => rfl⟩
  | cons D Ds ih =>
    intro w hn hD h
    obtain ⟨hn1, hn2⟩ := List.nodup_cons.1 hn
    refine ⟨by simp, .inl ⟨D, _, rfl, run_takeDeferred (hD D (by simp)), ?_⟩⟩
    refine ih _ hn2 (fun D' h' => (World.putObj_heap_other (by rintro rfl; exact hn1 h')).trans (hD D' (by simp [h']))) (fun w' hw => h w' ⟨hw.os, hw.tape, hw.output, hw.size.trans (by simp [World.putObj]), fun k hk => ?_⟩)
    simp only [List.mem_cons, not_or] at hk
    exact (hw.block k hk.2).trans (World.putObj_heap_other hk.1)
theorem insert_length {H : Type} (x : Lit × DataW H) (l : List (Lit × DataW H)) : (DataW.insert x l).length = l.length + 1 := by
  induction l with
  | nil => rfl
  | cons y l ih => unfold DataW.insert; split <;> simp [ih]
theorem size_le {w : World} {P : Program} {k : TypeId} {R : Value → Option (DataW Unit × List MemPlace)} {b n : Nat} {D : DataW Unit} (h : w.ownsMap P k R b n D) : Maps.size D ≤ n := by
  obtain ⟨es, clock, _, _, hs, rfl⟩ := h
  refine Nat.le_trans (Nat.le_of_eq ?_) hs
  rw [Maps.size_eq]
  have : ∀ l : List (Lit × DataW Unit), (l.foldr DataW.insert []).length = l.length := by
    intro l
    induction l with
    | nil => rfl
    | cons y l ih => rw [List.foldr_cons, insert_length, ih]; rfl
  rw [this]
  simp
theorem Turned.R_int {Ds : List Nat} {w w' : World} (h : Turned Ds w w') (hD : ∀ D ∈ Ds, w.heap[D]? = some (.deferred (some []))) {base : Nat} {v : Value} {xs : List Int} (hr : Kd.R (Kd.int .i64) 3 w base (fun _ => True) v xs) : Kd.R (Kd.int .i64) 3 w' base (fun _ => True) v xs := by
  rcases Flat.rowAt_of_R flatI hr with ⟨rfl, rfl⟩ | ⟨g, cap, rfl, hb, hok, hra⟩
  · exact Kd.R_nil _ _ _ _ _
  · refine Flat.R_of_rowAt flatI hb hok (hra.of_heap (h.block g (fun hg => ?_)))
    obtain ⟨_, _, cur, hh, _⟩ := hra
    rw [hD g hg] at hh
    cases hh
theorem R_int_of_own {w : World} {base : Nat} {v : Value} {xs : List Int} (h : w.ownsRow base 3 1 v xs.length (xs.map encZ)) : Kd.R (Kd.int .i64) 3 w base (fun _ => True) v xs := by
  have e : ∀ xs : List Int, xs.map encZ = xs.flatMap (fun x => [.int .i64 x]) := fun xs => by
    induction xs with
    | nil => rfl
    | cons x xs ih => rw [List.map_cons, List.flatMap_cons, ih]; rfl
  rw [e] at h
  exact ⟨fun _ _ => trivial, _, h, Flat.flat_reps flatI _ _ _ _⟩
theorem Tryd.sortsInt (m : Nat) : AnyZI.SortsIn Tryd.prog Tryd.sortedInt_ren Fence.wide m :=
  ⟨fun blk off cap ss W hH hblk hsz => callsIn_wide.2 (AnyM.slices_Sort_int Tryd.sortInt blk off cap ss W hH hblk hsz),
   fun p cap W => callsIn_wide.2 (AnyM.slices_Sort_int_none Tryd.sortInt p cap W)⟩
/-- Does a part name a course? -/
def isC (r : S24) : Bool := r.f0 == 5 || r.f0 == 6 || r.f0 == 9
mutual
/-- The course of each part that names one can be a key. -/
def wfR : S24 → Prop
  | ⟨a, b, c, n, d, ks⟩ => (isC ⟨a, b, c, n, d, ks⟩ = true → (Lit.int .i64 b).wf = true) ∧ wfL ks
def wfL : List S24 → Prop
  | [] => True
  | k :: ks => wfR k ∧ wfL ks
end
mutual
def wfB : S24 → Bool
  | ⟨a, b, c, n, d, ks⟩ => (!isC ⟨a, b, c, n, d, ks⟩ || (Lit.int .i64 b).wf) && wfLB ks
def wfLB : List S24 → Bool
  | [] => true
  | k :: ks => wfB k && wfLB ks
end
mutual
theorem wfB_iff : ∀ r, wfB r = true ↔ wfR r
  | ⟨a, b, c, n, d, ks⟩ => by
    simp only [wfB, wfR, Bool.and_eq_true, wfLB_iff ks]
    cases isC ⟨a, b, c, n, d, ks⟩ <;> simp
theorem wfLB_iff : ∀ ks, wfLB ks = true ↔ wfL ks
  | [] => by simp [wfLB, wfL]
  | k :: ks => by simp only [wfLB, wfL, Bool.and_eq_true, wfB_iff k, wfLB_iff ks]
end
theorem wfL_mem : ∀ {ks : List S24}, wfL ks → ∀ k, k ∈ ks → wfR k
  | [], _, k, hk => by cases hk
  | x :: xs, h, k, hk => by
    simp only [wfL] at h
    rcases List.mem_cons.1 hk with rfl | hk
    · exact h.1
    · exact wfL_mem h.2 k hk
theorem wfR_kid (r : S24) (h : wfR r) : ∀ k, k ∈ r.f5 → wfR k := by
  cases r
  simp only [wfR] at h
  exact wfL_mem h.2
theorem wfR_key (r : S24) (h : wfR r) : isC r = true → (Lit.int .i64 r.f1).wf = true := by
  cases r
  simp only [wfR] at h
  exact h.1
def corPut (D : DataW Unit) (p : Int × S24) : DataW Unit := if isC p.2 = true then D.put (.int .i64 p.2.f1) (.lit (.bool true)) else D
def corAll (ps : List (Int × S24)) : DataW Unit := ps.foldl corPut (.map [])
theorem corAll_snoc (ps : List (Int × S24)) (p : Int × S24) : corAll (ps ++ [p]) = corPut (corAll ps) p := by simp [corAll]
/-- Where the walk of rules.Courses stands. -/
structure CorW (w : World) (b : Nat) (n : Nat) (D : DataW Unit) (W : World) : Prop where
  below : Below w.heap.size w W
  box : W.heap[b + 1]? = some (.cells #[.map (some b)] 71 (0, 0))
  own : W.ownsMap Tryd.prog 3 (plainElem Tryd.prog 4) b n D
theorem CorW.grown {w W W' : World} {b n : Nat} {D : DataW Unit} {row : Option Nat} (h : CorW w b n D W) (hg : W.grownBy W' row) (hr : ∀ k, row = some k → b + 2 ≤ k ∧ w.heap.size ≤ k) : CorW w b n D W' := by
  have hlt := h.own.lt
  refine ⟨h.below.grown hg h.below.size (fun k e => (hr k e).2), blk_grown h.box hg (fun e => by have := (hr _ e.symm).1; omega), h.own.kept hg (fun e => by have := (hr _ e.symm).1; omega)⟩
theorem CorW.put {w W W' : World} {b n n' : Nat} {D D' : DataW Unit} (h : CorW w b n D W) (hwb : w.heap.size ≤ b) (hg : W.grownBy W' (some b)) (ho : W'.ownsMap Tryd.prog 3 (plainElem Tryd.prog 4) b n' D') : CorW w b n' D' W' := by
  have hlt := h.own.lt
  exact ⟨h.below.grown hg h.below.size (fun k e => by injection e; omega), blk_grown h.box hg (fun e => by injection e; omega), ho⟩
theorem CorW.mono {w W : World} {b n n' : Nat} {D : DataW Unit} (h : CorW w b n D W) (hn : n ≤ n') : CorW w b n' D W := ⟨h.below, h.box, h.own.mono hn⟩
set_option maxHeartbeats 4000000 in
set_option maxRecDepth 100000 in
theorem courses_in (r : S24) (A : Option Addr) (c : Nat) (w : World) (hC : Kd.C k24 w A r.f5.length r.f5) (hc : r.f5.length ≤ c) (hq : wfR r) (hn : (preR 1 r).length ≤ 100000) :
    CallsIn Fence.wide 6 Tryd.prog 18 #[.agg #[.int .i64 r.f0, .int .i64 r.f1, .string r.f2, .int .i64 r.f3, .int .i64 r.f4, .slice A r.f5.length c]] w
      fun e w' => ∃ v0_ : Value, e = .returned v0_ ∧ Kd.R (Kd.int .i64) 3 w' w.heap.size (fun _ => True) v0_ ((intKeys (corAll (preR 1 r))).mergeSort leI) ∧ Below w.heap.size w w' := by
  have hu24 := Tryd.underlying24
  have hmm := @run_makeMap Tryd.prog
  have HC := Aside0.mk hC
  clear hC
  refine callsIn_of_wp_marks Tryd.func18 rfl trivial ?_ rfl
  simp only [Tryd.ntmps18, List.size_toArray, List.length_cons, List.length_nil, Nat.reduceAdd, Nat.reduceSub, Array.replicate_succ, Array.replicate_zero, List.push_toArray, List.append_toArray, List.nil_append, List.cons_append]
  have cP : ∀ W, CallsIn Fence.wide 5 Tryd.prog 34 #[.agg #[.int .i64 r.f0, .int .i64 r.f1, .string r.f2, .int .i64 r.f3, .int .i64 r.f4, .slice A r.f5.length c]] W fun e w' =>
      e = .returned (.func (.func 52) #[] #[.pointer (some ⟨W.heap.size + 1, 0, none⟩), .pointer (some ⟨W.heap.size, 0, none⟩)]) ∧
      w' = (W.alloc (.cells #[.int .i64 r.f0, .int .i64 r.f1, .string r.f2, .int .i64 r.f3, .int .i64 r.f4, .slice A r.f5.length c] 24)).alloc (.cells #[.func (.func 51) #[] #[.pointer (some ⟨W.heap.size + 1, 0, none⟩)]] 82) := fun W => callsIn_wide.2 (parts_calls r A c W)
  have CP := Aside0.mk cP
  clear cP
  have hfP : Fence.wide.fn 34 := trivial
  gi_wp2_with (gi_at_call 34; refine (CP.out _).mono ?_; rintro e w' ⟨rfl, rfl⟩)
  generalize hWn : World.alloc (World.alloc _ _) (Obj.cells #[.func (.func 51) #[] #[.pointer (some ⟨_, 0, none⟩)]] 82) = Wn
  have hz : Wn.heap.size = w.heap.size + 5 := by rw [← hWn]; simp
  have hBW : Below w.heap.size w Wn := by rw [← hWn]; exact ((((((Below.refl _ w).alloc (Nat.le_refl _) _).alloc (by simp) _).alloc (by simp; omega) _).alloc (by simp; omega) _).alloc (by simp; omega) _)
  have HW0 : CorW w (w.heap.size + 1) 0 (.map []) Wn := by
    rw [← hWn]
    refine CorW.grown (row := none) (CorW.grown (row := none) ⟨?_, ?_, ?_⟩ (World.grownBy_alloc _ _ none) (fun k e => by cases e)) (World.grownBy_alloc _ _ none) (fun k e => by cases e)
    · exact (((Below.refl _ w).alloc (Nat.le_refl _) _).alloc (by simp) _).alloc (by simp; omega) _
    · exact new_blk _ _ (by simp)
    · have h := World.ownsMap_made (w.alloc (.cells #[.int .i64 r.f0, .int .i64 r.f1, .string r.f2, .int .i64 r.f3, .int .i64 r.f4, .slice A r.f5.length c] 24)) Tryd.prog 3 (plainElem (H := Unit) Tryd.prog 4)
      rw [World.size_alloc] at h
      exact h.alloc _
  have bR : Wn.heap[w.heap.size + 1 + 1 + 1]? = some (.cells #[.int .i64 r.f0, .int .i64 r.f1, .string r.f2, .int .i64 r.f3, .int .i64 r.f4, .slice A r.f5.length c] 24 (0, 0)) := by
    rw [← hWn]
    refine (Below.heap_alloc _ _ _ (by simp)).trans (new_blk _ _ (by simp))
  have bK : Wn.heap[w.heap.size + 1 + 1 + 1 + 1]? = some (.cells #[.func (.func 51) #[] #[.pointer (some ⟨w.heap.size + 1 + 1 + 1 + 1, 0, none⟩)]] 82 (0, 0)) := by
    rw [← hWn]
    exact new_blk _ _ (by simp)
  clear hWn
  refine wpIn_rangeFunc_ownH (α := PartQ w wfR) (F := Fence.wide) (n := 6) rfl (by omega) (gf := 52) (lb := #[.pointer (some ⟨w.heap.size + 1 + 1 + 1 + 1, 0, none⟩), .pointer (some ⟨w.heap.size + 1 + 1 + 1, 0, none⟩)]) rfl trivial (enters_of Tryd.func52 (by kernel_rfl) rfl)
    (parts_stopsQ w wfR wfR_kid (fun k => k = w.heap.size + 1) Fence.wide rfl trivial trivial rfl 5 _ _ r A c Wn hq hc HC.out hBW (fun k hk => by omega) (by omega) bK bR)
    (fun h k => KeptC.trans h k) (fun W l o o' hl hlo ho _ => KeptC.putObj o' (by omega) hlo ho) (Below.refl _ _) (fun _ => rfl)
    (fun pre W => CorW w (w.heap.size + 1) pre.length (corAll (pre.map PartQ.key)) W ∧ Wn.heap.size ≤ W.heap.size)
    (fun _ _ _ => False)
    ?hI (fun _ _ _ _ _ hs _ _ => hs) ⟨HW0, Nat.le_refl _⟩
    (fun x a' W => ∃ Bx, Wn.heap.size ≤ Bx ∧ W.heap[Bx]? = some (.cells #[.int .i64 x.r.f0, .int .i64 x.r.f1, .string x.r.f2, .int .i64 x.r.f3, .int .i64 x.r.f4, .slice x.A x.r.f5.length x.c] 24 (0, 0)) ∧ a' = { tmps := #[.agg #[.int .i64 r.f0, .int .i64 r.f1, .string r.f2, .int .i64 r.f3, .int .i64 r.f4, .slice A r.f5.length c], .pointer (some ⟨w.heap.size, 0, none⟩), .slice none 0 0, .pointer (some ⟨w.heap.size + 1 + 1, 0, none⟩), undef, .pointer (some ⟨Bx, 0, none⟩), .map (some (w.heap.size + 1)), .agg #[.int .i64 r.f0, .int .i64 r.f1, .string r.f2, .int .i64 r.f3, .int .i64 r.f4, .slice A r.f5.length c], .func (.func 52) #[] #[.pointer (some ⟨w.heap.size + 1 + 1 + 1 + 1, 0, none⟩), .pointer (some ⟨w.heap.size + 1 + 1 + 1, 0, none⟩)], .int .i64 x.d, x.cells, undef, undef, undef, undef, undef, undef, undef, undef, undef, undef, undef, undef, undef, undef, undef, undef, undef, undef, undef], defers := [] })
    ?hAx ?assign ?body ?done ?stop
  case hI =>
    rintro pre X Y row ⟨h3, h4⟩ hg hr
    exact ⟨h3.grown hg (fun k e => by have := (hr k e).1; omega), Nat.le_trans h4 hg.size⟩
  case hAx =>
    rintro x a' _ X Y row ⟨Bx, hb, hx, rfl⟩ hg hr
    refine ⟨Bx, hb, (hg.block Bx (Array.getElem?_eq_some_iff.1 hx).1 (fun e => ?_)).trans hx, rfl⟩
    obtain ⟨_, o, ho, hc⟩ := hr Bx e.symm
    rw [hx] at ho
    cases ho
    cases hc
  case assign =>
    rintro l pre x W K ⟨h3, h4⟩ hK
    simp only [PartQ.cells]
    gi_wp2
    refine hK _ _ ((KeepsOthers.alloc _ _).from _) (KeptC.alloc (KeptC.refl _ _ _) (by omega) _) ⟨h3.grown (World.grownBy_alloc W _ none) (fun k e => by cases e), by simp; omega⟩ ⟨W.heap.size, h4, blk_new _ _, rfl⟩
  case stop =>
    rintro D c pre W hD _ h hK
    exact h.elim
  case done =>
    rintro D ys W hD hys ⟨h3, h4⟩ hK
    rw [hys] at h3
    have hyl : ys.length = (preR 1 r).length := by rw [← hys, List.length_map]
    rw [hyl] at h3
    have hown := h3.own
    have HB := Aside0.mk h3.below
    have HK := Aside0.mk hK
    have hbx : W.cell? ⟨w.heap.size + 1 + 1, 0, none⟩ = some (.map (some (w.heap.size + 1))) := (blk_cell h3.box 0).trans rfl
    have hsz : Maps.size (corAll (preR 1 r)) ≤ 100000 := Nat.le_trans (size_le hown) hn
    have hbl := hown.lt
    have hseq : SeqGives Fence.wide 2 Tryd.prog 60 #[.pointer (some ⟨W.heap.size, 0, none⟩)] encZ (fun ss => ss.Perm (intKeys (corAll (preR 1 r)))) (Maps.size (corAll (preR 1 r))) (W.alloc (.cells #[.map (some (w.heap.size + 1))] 71)) :=
      AnyZI.keys_gives (ρ := Tryd.keysInt_ren) { Tryd.keysInt with } Fence.wide _ trivial rfl (by omega) W.heap.size (w.heap.size + 1) _ _ _ (by simp) (by simp) (by
        obtain ⟨es, clock, hb, Ft, hs, hD⟩ := hown
        exact ⟨es, clock, (Below.heap_alloc _ _ _ hbl).trans hb, Ft, hs, hD⟩)
    have cK : ∀ mb W, CallsIn Fence.wide 5 Tryd.prog 44 #[.map mb] W fun e w' => e = .returned (.func (.func 60) #[] #[.pointer (some ⟨W.heap.size, 0, none⟩)]) ∧ w' = W.alloc (.cells #[.map mb] 71) := fun mb W => AnyZI.keys_in Tryd.keysInt Fence.wide 5 trivial rfl mb W
    have cS := AnyZI.sorted_in Tryd.sortedInt Fence.wide 5 trivial trivial trivial trivial rfl (by omega) (Tryd.sortsInt _) (enters_of Tryd.func59 (by kernel_rfl) rfl) 60 #[.pointer (some ⟨W.heap.size, 0, none⟩)] trivial (enters_of Tryd.func60 (by kernel_rfl) rfl) _ _ (by simp only [maxLen]; omega) (by omega) _ hseq
    change CallsIn _ _ Tryd.prog 43 _ _ _ at cS
    have hfK : Fence.wide.fn 44 := trivial
    have hfS : Fence.wide.fn 43 := trivial
    have CS := Aside0.mk cS
    have h4' := h4
    clear cS hseq h3 hown hK h4
    gi_wp2_with (first
      | (gi_at_call 44; refine (cK _ _).mono ?_; rintro e w' ⟨rfl, rfl⟩)
      | (gi_at_call 43; refine CS.out.mono ?_; rintro e w' ⟨v, ss, rfl, hS, hrow, hnil, hb⟩))
    have hDl := (Array.getElem?_eq_some_iff.1 HK.out).1
    have hHD : ∀ D' ∈ [D], w'.heap[D']? = some (.deferred (some [])) := fun D' hD' => by
      rw [List.mem_singleton.1 hD']
      exact (hb.block D (by simp; omega)).trans ((Below.heap_alloc _ _ _ hDl).trans HK.out)
    refine leaves_marks [D] _ (by simp) hHD (fun w2 hw => ?_)
    refine ⟨_, results_tmp rfl _ _ _, v, rfl, ?_, ?_⟩
    · refine hw.R_int hHD ?_
      rw [← mergeSort_of_perm_i hS]
      refine R_int_of_own ?_
      have hl : (ss.mergeSort leI).length = ss.length := (List.mergeSort_perm ss leI).length_eq
      rw [hl]
      exact ownsRow_base_a hrow (by simp; omega)
    · have hb1 : Below w.heap.size w w' := (HB.out.alloc (by omega) _).trans (hb.mono (by simp; omega))
      exact ⟨hw.os.trans hb1.os, hw.tape.trans hb1.tape, hw.output.trans hb1.output, by rw [hw.size]; exact hb1.size, fun j hj => (hw.block j (fun h => by have := List.mem_singleton.1 h; omega)).trans (hb1.block j hj)⟩
  case body =>
    rintro l pre x a' W hl ⟨rr, hlr⟩ ⟨h3, h4⟩ ⟨Bx, hBx, hx, rfl⟩ hlen
    have y0 := (blk_cell hx 0).trans rfl
    have y1 := (blk_cell hx 1).trans rfl
    have hbx : W.cell? ⟨w.heap.size + 1 + 1, 0, none⟩ = some (.map (some (w.heap.size + 1))) := (blk_cell h3.box 0).trans rfl
    have H3 := Aside0.mk h3
    have H4 := Aside0.mk h4
    have hex : corAll ((pre ++ [x]).map PartQ.key) = corPut (corAll (pre.map PartQ.key)) x.key := by rw [List.map_append]; exact corAll_snoc _ _
    unfold corPut at hex
    have HEX := Aside0.mk hex
    clear hex h3 h4 hlr
    simp only [PartQ.cells]
    have hnm : pre.length < maxLen := by simp only [maxLen]; omega
    cases ht : isC x.r with
    | true =>
      rw [show (x.key.2) = x.r from rfl, ht, if_pos rfl] at HEX
      have hwf := wfR_key x.r x.ok ht
      have fin : ∀ w1, w1.ownsMap Tryd.prog 3 (plainElem Tryd.prog 4) (w.heap.size + 1) (pre.length + 1) ((corAll (pre.map PartQ.key)).put (.int .i64 x.r.f1) (.lit (.bool true))) → W.grownBy w1 (some (w.heap.size + 1)) →
          KeepsFrom Wn.heap.size W w1 ∧ KeptC w.heap.size (fun k => k = w.heap.size + 1) W w1 ∧ CorW w (w.heap.size + 1) (pre ++ [x]).length (corAll ((pre ++ [x]).map PartQ.key)) w1 ∧ Wn.heap.size ≤ w1.heap.size := fun w1 ho hg => by
        have hs4 := H4.out
        refine ⟨KeepsFrom.of_grownBy hg (fun j e => by cases e; omega), ⟨hg.size, fun k hk => hg.block k (by omega) (fun e => by injection e; omega), fun k cs t m hX hc => (hg.block k (Array.getElem?_eq_some_iff.1 hc).1 (fun e => hX (by injection e))).trans hc⟩, ?_, Nat.le_trans hs4 hg.size⟩
        rw [HEX.out, List.length_append]
        exact H3.out.put (by omega) hg ho
      have FIN := Aside0.mk fin
      clear fin hlen
      simp only [isC, Bool.or_eq_true, beq_iff_eq] at ht
      by_cases q5 : x.r.f0 = 5
      · gi_wp2_with (gi_at_mapUpdate; refine wpListIn_mapUpdate_own _ rfl _ _ _ 71 rfl 3 4 (Maps.int_keyed Tryd.underlying3) Tryd.underlying71 _ (w.heap.size + 1) pre.length _ rfl H3.out.own hnm _ _ _ rfl rfl (Maps.keyOf_int_mk Tryd.underlying3 hwf) _ [] (plainElem_bool Tryd.underlying4 true) ?_; intro w1 hown1 hgrow1)
        exact FIN.out _ hown1 hgrow1
      · by_cases q6 : x.r.f0 = 6
        · gi_wp2_with (gi_at_mapUpdate; refine wpListIn_mapUpdate_own _ rfl _ _ _ 71 rfl 3 4 (Maps.int_keyed Tryd.underlying3) Tryd.underlying71 _ (w.heap.size + 1) pre.length _ rfl H3.out.own hnm _ _ _ rfl rfl (Maps.keyOf_int_mk Tryd.underlying3 hwf) _ [] (plainElem_bool Tryd.underlying4 true) ?_; intro w1 hown1 hgrow1)
          exact FIN.out _ hown1 hgrow1
        · have q9 : x.r.f0 = 9 := by omega
          gi_wp2_with (gi_at_mapUpdate; refine wpListIn_mapUpdate_own _ rfl _ _ _ 71 rfl 3 4 (Maps.int_keyed Tryd.underlying3) Tryd.underlying71 _ (w.heap.size + 1) pre.length _ rfl H3.out.own hnm _ _ _ rfl rfl (Maps.keyOf_int_mk Tryd.underlying3 hwf) _ [] (plainElem_bool Tryd.underlying4 true) ?_; intro w1 hown1 hgrow1)
          exact FIN.out _ hown1 hgrow1
    | false =>
      rw [show (x.key.2) = x.r from rfl, ht, if_neg (by simp)] at HEX
      have fin : KeepsFrom Wn.heap.size W W ∧ KeptC w.heap.size (fun k => k = w.heap.size + 1) W W ∧ CorW w (w.heap.size + 1) (pre ++ [x]).length (corAll ((pre ++ [x]).map PartQ.key)) W ∧ Wn.heap.size ≤ W.heap.size := by
        refine ⟨KeepsFrom.refl _ _, KeptC.refl _ _ _, ?_, H4.out⟩
        rw [HEX.out, List.length_append]
        exact H3.out.mono (by omega)
      have FIN := Aside0.mk fin
      clear fin hlen
      simp only [isC, Bool.or_eq_false_iff, beq_eq_false_iff_ne] at ht
      have q5 : (x.r.f0 == 5) = false := by simpa using ht.1.1
      have q6 : (x.r.f0 == 6) = false := by simpa using ht.1.2
      have q9 : (x.r.f0 == 9) = false := by simpa using ht.2
      clear ht
      gi_wp2
      exact FIN.out
def rules_Courses.f (a0 a1 : Int) (a2 : ByteArray) (a3 a4 : Int) (l : List S24) : Option (List Int) :=
  if wfB ⟨a0, a1, a2, a3, a4, l⟩ = true ∧ (preR 1 ⟨a0, a1, a2, a3, a4, l⟩).length ≤ 100000 then some ((intKeys (corAll (preR 1 ⟨a0, a1, a2, a3, a4, l⟩))).mergeSort leI) else none
theorem rules_Courses.calls (a0_0 : Int) (a0_1 : Int) (a0_2 : ByteArray) (a0_3 : Int) (a0_4 : Int) (A0_5 : Option Addr) (c0_5 : Nat) (l0_5 : List (S24)) (r : List Int) (w : World) (hr0_5 : Kd.C k24 w A0_5 l0_5.length l0_5) (hc0_5 : l0_5.length ≤ c0_5) (h : rules_Courses.f a0_0 a0_1 a0_2 a0_3 a0_4 l0_5 = some r) :
    Calls Tryd.prog 18 #[.agg #[.int .i64 a0_0, .int .i64 a0_1, .string a0_2, .int .i64 a0_3, .int .i64 a0_4, .slice A0_5 l0_5.length c0_5]] w fun e w' => ∃ v0_ : Value, e = .returned v0_ ∧ Kd.R (Kd.int .i64) 3 w' w.heap.size (fun _ => True) v0_ r ∧ Below w.heap.size w w' := by
  unfold rules_Courses.f at h
  split at h
  · rename_i hh
    obtain rfl := Option.some.inj h
    exact (callsIn_wide (n := 6)).1 (courses_in ⟨a0_0, a0_1, a0_2, a0_3, a0_4, l0_5⟩ A0_5 c0_5 w hr0_5 hc0_5 ((wfB_iff _).1 hh.1) hh.2)
  · cases h
end Go.Proofs.YtabocfninjankaaDoor.P
namespace Go.Proofs.YtabocfninjankaaDoor.P.Grow
open Go.RowKit Go.Proofs.YtabocfninjankaaDoorW.PrintWords Go.Proofs.YtabocfninjankaaDoorW.PrintLast Go.Proofs.YtabocfninjankaaDoorW.PrintMore
theorem drawn_drewN (w : World) (n : Nat) : (w.drewN n).drawn = w.drawn + n := rfl
theorem drawn_alloc (w : World) (o : Obj) : (w.alloc o).drawn = w.drawn := rfl
section
variable {P : Program} {ops : Array Oper} {rest : List Oper} {o : Oper} {a : Act} {Q : Exit → Act → World → Prop}
theorem box_event {W : World} (hgd : o.guard = none) {N : Tmp} (_hd : o.dst = some N) {cs : Array Value} {t : TypeId}
    (hrun : (execOp a.eval o).run P W = .ok (.value (.pointer (some ⟨W.heap.size, 0, none⟩))) (W.alloc (.cells cs t (0, 0))))
    (h : ∀ g, g = W.heap.size → ∀ w1, w1.heap[g]? = some (.cells cs t (0, 0)) → Below W.heap.size W w1 → W.drawn ≤ w1.drawn → wpList P ops Q rest (a.put o.dst (.pointer (some ⟨g, 0, none⟩))) w1) : wpList P ops Q (o :: rest) a W :=
  Kd.event_run hgd hrun (h _ rfl _ (blk_new W _) (below_alloc (Below.refl _ _) _) (Nat.le_refl _))
end
section
variable {P : Program} {ops : Array Oper} {o : Oper} {a : Act} {Q : Exit → Act → World → Prop} {Kc : Act → World → Prop} {α : Type}
theorem R_lit_step (d : Kd α) {w0 W : World} (base e : Nat) (hw : Region.wanted o (yielded ops a.tmps) = true) {N : Tmp} (hd : o.dst = some N) {xs : List α} {inner : List Value} {ok okp : Nat → Prop}
    (hrun : (execOp a.eval o).run P W = .ok (.value (.slice (some ⟨W.heap.size, 0, none⟩) xs.length xs.length)) (W.alloc (.cells inner.toArray e)))
    (hrep : Reps (d.M W base okp) d.sz xs inner) (hok : ∀ k, okp k → ok k) (hfresh : ok W.heap.size) (HB : Below base w0 W) (hbase : base ≤ W.heap.size) (hm : xs.length ≤ 9223372036854775807)
    (h : ∀ v1 w1, d.R e w1 base ok v1 xs → Below base w0 w1 → W.grownBy w1 none → (∃ b, v1.ownBlock = some b ∧ W.heap.size ≤ b) → W.drawn ≤ w1.drawn → Kc (a.put o.dst v1) w1) : if Region.wanted o (yielded ops a.tmps) = true then Oper.wp P o a W Kc Q else Kc (a.put o.dst undef) W := by
  have hr := hrun
  have key : ∀ (K' : Act → World → Prop), (∀ v1 w1, w1 = W.alloc (.cells inner.toArray e) → d.R e w1 base ok v1 xs → Below base w0 w1 → W.grownBy w1 none → (∃ b, v1.ownBlock = some b ∧ W.heap.size ≤ b) → K' (a.put o.dst v1) w1) → if Region.wanted o (yielded ops a.tmps) = true then Oper.wp P o a W K' Q else K' (a.put o.dst undef) W := by
    intro K' hK'
    have h2 := Kd.R_lit_step (Q := Q) (Kc := fun a1 w1 => w1 = W.alloc (.cells inner.toArray e) → K' a1 w1) d base e hw hd hrun hrep hok hfresh HB hbase hm (fun v1 w1 a1 a2 a3 a4 e1 => hK' v1 w1 e1 a1 a2 a3 a4)
    rw [if_pos hw] at h2 ⊢
    unfold Oper.wp at h2 ⊢
    rw [hrun] at h2 ⊢
    exact h2 rfl
  exact key Kc (fun v1 w1 e1 a1 a2 a3 a4 => h v1 w1 a1 a2 a3 a4 (by rw [e1]; exact Nat.le_refl _))
end
/-- The world behind in the sort's own form: some draws on, some blocks behind. -/
theorem grow_of {w w' : World} (h : Below w.heap.size w w') (hd : w.drawn ≤ w'.drawn) : ∃ q os', w' = Sort.grow (w.drewN q) os' := by
  refine ⟨w'.drawn - w.drawn, w'.heap.extract w.heap.size w'.heap.size, ?_⟩
  obtain ⟨hp, ht, dr, os, ot⟩ := w'
  have e1 : os = w.os := h.os
  have e2 : ht = w.tape := h.tape
  have e3 : ot = w.output := h.output
  subst e1 e2 e3
  have hs : w.heap.size ≤ hp.size := h.size
  have hb : ∀ k, k < w.heap.size → hp[k]? = w.heap[k]? := h.block
  have e4 : hp = w.heap ++ hp.extract w.heap.size hp.size := by
    apply Array.ext_getElem?
    intro i
    by_cases hi : i < w.heap.size
    · rw [Array.getElem?_append_left hi, hb i hi]
    · rw [Array.getElem?_append_right (by omega), Array.getElem?_extract]
      by_cases hj : i < hp.size
      · rw [if_pos (by omega)]; congr 1; omega
      · rw [if_neg (by omega)]; exact Array.getElem?_eq_none (by omega)
  have e5 : dr = w.drawn + (dr - w.drawn) := by have : w.drawn ≤ dr := hd; omega
  show (⟨hp, w.tape, dr, w.os, w.output⟩ : World) = _
  unfold Sort.grow World.drewN
  simp only [World.mk.injEq, true_and, and_true]
  exact ⟨e4, e5⟩
end Go.Proofs.YtabocfninjankaaDoor.P.Grow
namespace Go.Proofs.YtabocfninjankaaDoor.P
open Go.RowKit Go.Proofs.YtabocfninjankaaDoorW.PrintWords Go.Proofs.YtabocfninjankaaDoorW.PrintLast Go.Proofs.YtabocfninjankaaDoorW.PrintMore
/-- An atom without its name. -/
structure A4 where
  o : Int
  c : Int
  n : Int
  d : Int
deriving DecidableEq
instance : Inhabited A4 := ⟨⟨0, 0, 0, 0⟩⟩
theorem A4.eq_iff (x y : A4) : x = y ↔ (x.o = y.o ∧ x.c = y.c ∧ x.n = y.n ∧ x.d = y.d) := by
  cases x; cases y; simp
def k60 : Kd A4 := Kd.iso (Kd.pair (Kd.int .i64) (Kd.pair (Kd.int .i64) (Kd.pair (Kd.int .i64) (Kd.int .i64)))) (fun x : A4 => (x.o, x.c, x.n, x.d))
/-- An atom's four cells. -/
def encA (x : A4) : List Value := [.int .i64 x.o, .int .i64 x.c, .int .i64 x.n, .int .i64 x.d]
theorem encA_len (x : A4) : (encA x).length = 4 := rfl
theorem encA_one (x : A4) : ∀ v ∈ encA x, v.oneCell' = true := by
  intro v hv
  simp only [encA, List.mem_cons, List.not_mem_nil, or_false] at hv
  rcases hv with rfl | rfl | rfl | rfl <;> rfl
theorem k60_M_iff {w : World} {base : Nat} {ok : Nat → Prop} {x : A4} {cs : List Value} : k60.M w base ok x cs ↔ cs = encA x := by
  constructor
  · rintro ⟨_, _, rfl, rfl, ⟨_, _, rfl, rfl, ⟨_, _, rfl, rfl, rfl⟩⟩⟩
    rfl
  · rintro rfl
    exact ⟨[.int .i64 x.o], [.int .i64 x.c, .int .i64 x.n, .int .i64 x.d], rfl, rfl, ⟨[.int .i64 x.c], [.int .i64 x.n, .int .i64 x.d], rfl, rfl, ⟨[.int .i64 x.n], [.int .i64 x.d], rfl, rfl, rfl⟩⟩⟩
theorem k60_open {w : World} {x : A4} {cs : List Value} (h : k60.K w x cs) : cs = encA x := by
  obtain ⟨_, _, rfl, rfl, ⟨_, _, rfl, rfl, ⟨_, _, rfl, rfl, rfl⟩⟩⟩ := h
  rfl
theorem flatA : Flat.IsFlat k60 encA := ⟨k60_M_iff, fun h => k60_open h, encA_len, encA_one⟩
theorem info60 : (Tryd.prog.info? 60).map (fun i => (i.zero, i.size, i.bytes)) = some (some (.agg #[.int .i64 0, .int .i64 0, .int .i64 0, .int .i64 0]), 4, 32) := by kernel_rfl
def cmpI (a b : Int) : Int := if a < b then -1 else if a > b then 1 else 0
def orL : List Int → Int
  | [] => 0
  | x :: r => if x = 0 then orL r else x
theorem compare_f (a b : Int) : cmp_Compare_int.f a b = some (cmpI a b) := by
  unfold cmp_Compare_int.f cmp_isNaN_int.f cmpI
  simp only [bne_self_eq_false, Option.bind_some, Bool.false_eq_true, if_false]
  split
  · rfl
  · split <;> rfl
theorem or_l0 (l : List Int) (hl : l.length ≤ 1000) : ∀ (d k i : Nat), i + d = l.length → d < k → cmp_Or_int.l0 k 0 l (l.length : Int) (i : Int) = some (orL (l.drop i)) := by
  intro d
  induction d with
  | zero =>
    intro k i hi hk
    obtain ⟨k, rfl⟩ : ∃ m, k = m + 1 := ⟨k - 1, by omega⟩
    simp only [cmp_Or_int.l0]
    rw [if_neg (by omega), List.drop_eq_nil_of_le (by omega)]
    rfl
  | succ d ih =>
    intro k i hi hk
    obtain ⟨k, rfl⟩ : ∃ m, k = m + 1 := ⟨k - 1, by omega⟩
    have hlt : i < l.length := by omega
    have hr : rd l (i : Int) = l[i] := by simp [rd, hlt]
    have hw : wrap64 ((i : Int) + 1) = ((i + 1 : Nat) : Int) := by unfold wrap64; omega
    simp only [cmp_Or_int.l0]
    rw [if_pos (by omega), if_pos (by omega), if_pos (by omega), hr, hw, ih k (i + 1) (by omega) (by omega), List.drop_eq_getElem_cons hlt]
    simp only [orL]
    split <;> rfl
theorem or_f (l : List Int) (hl : l.length ≤ 8) : cmp_Or_int.f 10 l = some (orL l) := by
  have := or_l0 l (by omega) l.length 10 0 (by omega) (by omega)
  simpa [cmp_Or_int.f] using this
/-- What the order's function answers. -/
def cfA (x y : A4) : Int := orL [cmpI x.o y.o, cmpI x.c y.c, cmpI x.n y.n, cmpI x.d y.d]
theorem rules_Atoms_1_f (x y : A4) : rules_Atoms_1.f 10 x.o x.c x.n x.d y.o y.c y.n y.d = some (cfA x y) := by
  unfold rules_Atoms_1.f
  simp only [compare_f, Option.bind_some]
  rw [or_f _ (by simp)]
  rfl
def LtA (x y : A4) : Prop := x.o < y.o ∨ (x.o = y.o ∧ (x.c < y.c ∨ (x.c = y.c ∧ (x.n < y.n ∨ (x.n = y.n ∧ x.d < y.d)))))
theorem cmpI_lt (a b : Int) : cmpI a b < 0 ↔ a < b := by unfold cmpI; split <;> (try split) <;> omega
theorem cmpI_eq (a b : Int) : cmpI a b = 0 ↔ a = b := by unfold cmpI; split <;> (try split) <;> omega
theorem cfA_lt (x y : A4) : cfA x y < 0 ↔ LtA x y := by
  unfold cfA LtA
  simp only [orL]
  rw [← cmpI_eq x.o y.o, ← cmpI_eq x.c y.c, ← cmpI_eq x.n y.n, ← cmpI_lt x.o y.o, ← cmpI_lt x.c y.c, ← cmpI_lt x.n y.n, ← cmpI_lt x.d y.d]
  split
  · split
    · split
      · split <;> omega
      · omega
    · omega
  · omega
theorem LtA.irrefl (x : A4) : ¬ LtA x x := by unfold LtA; omega
theorem LtA.trans {x y z : A4} (h : LtA x y) (k : LtA y z) : LtA x z := by unfold LtA at *; omega
theorem LtA.total (x y : A4) (h : ¬ LtA x y) (k : ¬ LtA y x) : x = y := by
  rw [A4.eq_iff]
  unfold LtA at *
  omega
instance (x y : A4) : Decidable (LtA x y) := decidable_of_iff _ (cfA_lt x y)
theorem ltOf_cfA (x y : A4) : ltOf cfA x y = decide (LtA x y) := by
  unfold ltOf
  exact decide_eq_decide.2 (cfA_lt x y)
theorem swoA : Sort.SWO (ltOf cfA) where
  irrefl x := by rw [ltOf_cfA]; simpa using LtA.irrefl x
  trans x y z h k := by rw [ltOf_cfA] at *; simp only [decide_eq_true_eq] at *; exact h.trans k
  ntrans x y z h k := by
    rw [ltOf_cfA] at *
    simp only [decide_eq_false_iff_not] at *
    intro hxz
    by_cases hyx : LtA y x
    · exact k (hyx.trans hxz)
    · have := LtA.total x y h hyx
      subst this
      exact k hxz
theorem cfA_sep (x y : A4) (h : ltOf cfA x y = false) (k : ltOf cfA y x = false) : x = y := by
  rw [ltOf_cfA] at *
  simp only [decide_eq_false_iff_not] at *
  exact LtA.total x y h k
/-- In order. -/
def sortA (xs : List A4) : List A4 := xs.mergeSort fun x y => !ltOf cfA y x
end Go.Proofs.YtabocfninjankaaDoor.P
namespace Go.Proofs.YtabocfninjankaaDoor.P
open Go.RowKit Go.Shelf Go.Maps Go.WideMaps Go.Proofs.YtabocfninjankaaDoorW.PrintWords Go.Proofs.YtabocfninjankaaDoorW.PrintLast Go.Proofs.YtabocfninjankaaDoorW.PrintMore
attribute [local go_sem] Oper.semAt_some
set_option linter.unusedVariables false
set_option linter.unusedSimpArgs false
set_option maxRecDepth 100000
/-- An atom as a value. -/
abbrev encV (x : A4) : Value := .agg #[.int .i64 x.o, .int .i64 x.c, .int .i64 x.n, .int .i64 x.d]
theorem encV_inj {x y : A4} (h : encV x = encV y) : x = y := by
 rw [A4.eq_iff]
 simpa [encV] using h
/-- An atom as a key. -/
def kA (x : A4) : Lit := .string (keyBytes [.int .i64 x.o, .int .i64 x.c, .int .i64 x.n, .int .i64 x.d])
/-- Each number of an atom is one. -/
def wfA (x : A4) : Prop := (Lit.int .i64 x.o).wf = true ∧ (Lit.int .i64 x.c).wf = true ∧ (Lit.int .i64 x.n).wf = true ∧ (Lit.int .i64 x.d).wf = true
set_option maxRecDepth 100000 in
theorem laidOut : laidOutB Tryd.prog = true := by kernel_rfl
set_option maxRecDepth 100000 in
theorem row60 : (60 : TypeId) < Tryd.prog.types.size := of_decide_eq_true (by kernel_rfl)
set_option maxRecDepth 100000 in
theorem wide60 : (match Tryd.prog.underlying 60 with | some (.array _ _) | some (.struct _) => true | _ => false) = true := by rw [Tryd.underlying60]
set_option maxRecDepth 100000 in
theorem keyed60 : Keyed Tryd.prog 60 := Keyed.of_law (deep_law_laid laidOut (m := 2) (by omega) row60 (by kernel_rfl) wide60)
theorem cells60 : Tryd.prog.cellsOf 60 = 4 := by kernel_rfl
theorem cells3 : Tryd.prog.cellsOf 3 = 1 := by kernel_rfl
set_option maxRecDepth 100000 in
theorem key60 : Tryd.prog.keyType 60 = true := by kernel_rfl
theorem lits3 (d : Nat) (n : Int) : Tryd.prog.keyLits (d + 1) 3 [.int .i64 n] = if (Lit.int .i64 n).wf = true then some [.int .i64 n] else none := by
 unfold Program.keyLits
 rw [Tryd.underlying3]
 simp
theorem lits3_inv {d : Nat} {v : Value} {ls : List Lit} (h : Tryd.prog.keyLits (d + 1) 3 [v] = some ls) : ∃ n, v = .int .i64 n ∧ ls = [.int .i64 n] ∧ (Lit.int .i64 n).wf = true := by
 unfold Program.keyLits at h
 rw [Tryd.underlying3] at h
 cases v <;> simp at h
 obtain ⟨⟨rfl, h1⟩, rfl⟩ := h
 exact ⟨_, rfl, rfl, h1⟩
theorem lits60 (d : Nat) (a b c e : Value) : Tryd.prog.keyLits (d + 2) 60 [a, b, c, e] =
  (Tryd.prog.keyLits (d + 1) 3 [a]).bind fun l0 => (Tryd.prog.keyLits (d + 1) 3 [b]).bind fun l1 => (Tryd.prog.keyLits (d + 1) 3 [c]).bind fun l2 => (Tryd.prog.keyLits (d + 1) 3 [e]).bind fun l3 => some (l0 ++ l1 ++ l2 ++ l3) := by
 generalize ha : Tryd.prog.keyLits (d + 1) 3 [a] = qa
 generalize hb : Tryd.prog.keyLits (d + 1) 3 [b] = qb
 generalize hc : Tryd.prog.keyLits (d + 1) 3 [c] = qc
 generalize he : Tryd.prog.keyLits (d + 1) 3 [e] = qe
 unfold Program.keyLits
 rw [Tryd.underlying60]
 simp only [cells60, cells3, List.length_cons, List.length_nil, List.mapM_cons, List.mapM_nil, List.drop_zero, List.drop_succ_cons, List.take_succ_cons, List.take_zero, ha, hb, hc, he]
 rw [if_pos (by simp)]
 cases qa <;> cases qb <;> cases qc <;> cases qe <;> simp
theorem size_succ : ∃ d, Tryd.prog.types.size = d + 1 := by
 have h := row60
 generalize Tryd.prog.types.size = n at h
 cases n with
 | zero => exact absurd h (Nat.not_lt_zero _)
 | succ d => exact ⟨d, rfl⟩
theorem keyOf_mk {x : A4} (h : wfA x) : keyOf Tryd.prog 60 (encV x) = some (kA x) := by
 obtain ⟨h1, h2, h3, h4⟩ := h
 obtain ⟨d, hd⟩ := size_succ
 unfold keyOf
 rw [hd, Tryd.underlying60]
 simp only [key60, Value.formed, Tryd.underlying60, cells60]
 rw [if_pos (by simp), show (encV x).cells.toList = [.int .i64 x.o, .int .i64 x.c, .int .i64 x.n, .int .i64 x.d] from rfl, lits60]
 simp [lits3, h1, h2, h3, h4, kA]
theorem keyOf_inv {key : Value} {kl : Lit} (h : keyOf Tryd.prog 60 key = some kl) : ∃ x : A4, key = encV x ∧ kl = kA x ∧ wfA x := by
 obtain ⟨d, hd⟩ := size_succ
 unfold keyOf at h
 rw [hd, Tryd.underlying60] at h
 simp only [key60] at h
 split at h
 ·rename_i hf
  simp only [Bool.true_and] at hf
  cases key <;> simp [Value.formed, Tryd.underlying60, cells60] at hf
  rename_i cs
  obtain ⟨ls, hls, rfl⟩ := Option.map_eq_some_iff.1 h
  obtain ⟨l⟩ := cs
  rcases l with _ | ⟨v0, _ | ⟨v1, _ | ⟨v2, _ | ⟨v3, _ | ⟨v4, l⟩⟩⟩⟩⟩ <;> simp at hf
  rw [show (Value.agg #[v0, v1, v2, v3]).cells.toList = [v0, v1, v2, v3] from rfl, lits60] at hls
  simp only [Option.bind_eq_some_iff] at hls
  obtain ⟨l0, h0, l1, h1, l2, h2, l3, h3, hls⟩ := hls
  obtain ⟨n0, rfl, rfl, w0⟩ := lits3_inv h0
  obtain ⟨n1, rfl, rfl, w1⟩ := lits3_inv h1
  obtain ⟨n2, rfl, rfl, w2⟩ := lits3_inv h2
  obtain ⟨n3, rfl, rfl, w3⟩ := lits3_inv h3
  obtain rfl := Option.some.inj hls
  exact ⟨⟨n0, n1, n2, n3⟩, rfl, rfl, w0, w1, w2, w3⟩
 ·cases h
theorem kA_inj {x y : A4} (hx : wfA x) (hy : wfA y) (h : kA x = kA y) : x = y :=
 encV_inj (keyed60.inj (keyOf_mk hx) (by rw [h]; exact keyOf_mk hy))
theorem same_kA {x y : A4} (hx : wfA x) (hy : wfA y) : (kA y).sameKey (kA x) = decide (y = x) := by
 by_cases h : y = x
 ·subst h; simp [kA, Lit.sameKey]
 ·have : kA y ≠ kA x := fun e => h (kA_inj hy hx e)
  unfold kA at this
  have h2 : keyBytes [.int .i64 y.o, .int .i64 y.c, .int .i64 y.n, .int .i64 y.d] ≠ keyBytes [.int .i64 x.o, .int .i64 x.c, .int .i64 x.n, .int .i64 x.d] := fun e => this (by rw [e])
  simp [kA, Lit.sameKey, h, h2]
/-- No key twice; a key is on the list just where the map has it and it is no longer to come. -/
def ColA {H : Type} (D0 : DataW H) (left : Lit → Bool) (ss : List A4) : Prop := ss.Nodup ∧ (∀ x ∈ ss, wfA x) ∧ ∀ x, wfA x → (x ∈ ss ↔ (has D0 (kA x) = true ∧ left (kA x) = false))
theorem ColA.start {H : Type} (D0 : DataW H) : ColA D0 (has D0) [] := ⟨List.nodup_nil, fun x hx => (by cases hx), fun x _ => (by cases has D0 (kA x) <;> simp)⟩
theorem ColA.step {H : Type} {D0 : DataW H} {left : Lit → Bool} {ss : List A4} (h : ColA D0 left ss) {x : A4} {y : DataW H} (hx : wfA x) (hlk : left (kA x) = true) (hat : ∀ zd, D0.atKey (kA x) zd = y) : ColA D0 (fun z => left z && !z.sameKey (kA x)) (ss ++ [x]) := by
 have hhas : has D0 (kA x) = true := has_true_of_atKey hat
 have hnew : x ∉ ss := fun hm => by have := ((h.2.2 x hx).1 hm).2; rw [hlk] at this; cases this
 refine ⟨List.nodup_append.2 ⟨h.1, by simp, fun a ha b hb => by simp at hb; subst hb; exact fun e => hnew (e ▸ ha)⟩, fun y hy => ?_, fun y hy => ?_⟩
 ·rcases List.mem_append.1 hy with hy | hy
  ·exact h.2.1 y hy
  ·rw [List.mem_singleton.1 hy]; exact hx
 ·by_cases e : y = x
  ·subst e; simp [hhas, same_kA hx hx]
  ·simp [h.2.2 y hy, e, same_kA hx hy]
/-- The map's keys, each once. -/
def AllA {H : Type} (D0 : DataW H) (ss : List A4) : Prop := ss.Nodup ∧ (∀ x ∈ ss, wfA x) ∧ ∀ x, wfA x → (x ∈ ss ↔ has D0 (kA x) = true)
set_option maxHeartbeats 1000000 in
theorem keys1_in {H : Type} (F : Fence) (n : Nat) (h10 : F.fn 56) (hro : F.round = none) (hn : 1 ≤ n) (l Bm b nn : Nat) (D0 : DataW H) {R : Value → Option (DataW H × List MemPlace)} (J Jx : List A4 → World → Prop)
  (hY : ∀ pre x W, J pre W → pre.length < Maps.size D0 → YieldAt F (n - 1) Tryd.prog l #[encV x] W fun e W' =>
   (e = .returned (.bool true) ∧ J (pre ++ [x]) W' ∧ KeepsWalks W W') ∨ (e = .returned (.bool false) ∧ Jx (pre ++ [x]) W'))
  (W : World) (hJ : AbidesFrom W.heap.size J) (hm : W.cell? ⟨Bm, 0, none⟩ = some (.map (some b))) (hown : W.ownsMap Tryd.prog 60 R b nn D0) (h0 : J [] W) :
  CallsIn F n Tryd.prog 56 #[.func (.yield l) #[] #[], .pointer (some ⟨Bm, 0, none⟩)] W fun e W' => (∃ v, e = .returned v) ∧
   ((∃ ss : List A4, (AllA D0 ss ∧ ss.length ≤ Maps.size D0) ∧ J ss W') ∨ (∃ pre : List A4, True ∧ Jx pre W')) := by
 refine callsIn_of_wp Tryd.func56 rfl h10 ?_ hro
 simp only [Tryd.ntmps56, List.size_toArray, List.length_cons, List.length_nil, Nat.reduceAdd, Nat.reduceSub, Array.replicate_succ, Array.replicate_zero, List.push_toArray, List.append_toArray, List.nil_append, List.cons_append]
 gi_wp2_with (first
  | (gi_at_range; refine wpListIn_range_own _ rfl _ 54 rfl 60 4 keyed60 Tryd.underlying54 _ b nn _ rfl hown ?_; intro w0 hrg0 hg0 hs0)
  | gi_in)
 go_frame
 gi_loopw [3] (fun _ wr => ∃ (left : Lit → Bool) (cnt : Nat) (ss : List A4), wr.ranges Tryd.prog 60 R b W.heap.size nn D0 left cnt ∧ ss.length + cnt ≤ Maps.size D0 ∧ ColA D0 left ss ∧ J ss wr)
  (fun _ wr => wr.rangeLeft b W.heap.size)
 case atStart =>
  exact ⟨_, _, [], hrg0, by simp, ColA.start D0, hJ [] W w0 none h0 hg0 (fun r e => by cases e)⟩
 case round =>
  obtain ⟨left, cnt, ss, hrg, hcs, hC, hJs⟩ := hrel
  gi_wp2_with (first
   | (gi_at_next; refine wpListIn_next_ranges _ rfl _ rfl 60 keyed60 R encV id (fun key kl hk => by obtain ⟨x, hx, _⟩ := keyOf_inv hk; exact ⟨x, hx⟩) (fun v _ _ => ⟨v, rfl⟩) b W.heap.size nn _ _ _ rfl hrg ?_ ?_)
   | gi_in)
  ·intro hc0 hl0
   gi_wp2
   go_end0
   exact ⟨⟨_, rfl⟩, .inl ⟨ss, ⟨⟨hC.1, hC.2.1, fun x hx => by rw [hC.2.2 x hx, hl0]; simp⟩, by omega⟩, hJs⟩⟩
  ·intro x c kl yd yp w2 cnt2 hkey hlk hv hat hrg2 hlt hg2 hs2 hen
   obtain ⟨x', ex, rfl, hwf⟩ := keyOf_inv hkey
   obtain rfl : x = x' := encV_inj ex
   have hJ2 : J ss w2 := hJ ss wr w2 (some W.heap.size) hJs hg2 (fun r e => by cases e; exact ⟨Nat.le_refl _, hrg.iter_walk⟩)
   have hJ2' := hJ ss w2 (w2.alloc (.cells #[.int .i64 x.o, .int .i64 x.c, .int .i64 x.n, .int .i64 x.d] 60)) none hJ2 (World.grownBy_alloc w2 _ none) (fun r e => by cases e)
   have hrg2' := hrg2.of_walks (KeepsWalks.alloc w2 (.cells #[.int .i64 x.o, .int .i64 x.c, .int .i64 x.n, .int .i64 x.d] 60))
   obtain ⟨fn, tmps, assign, body, hy, hR⟩ := hY ss x _ hJ2' (by omega)
   simp only [encV] at hy
   clear hs2
   gi_wp2
   refine hR.mono ?_
   have hC2 := hC.step hwf hlk hat
   rintro e W3 (⟨rfl, hJ3, hk3⟩ | ⟨rfl, hJx3⟩)
   ·gi_wp2
    have hrg3 := hrg2'.of_walks hk3
    go_roundw
    case rel => exact ⟨_, cnt2, ss ++ [x], hrg3, by simp; omega, hC2, hJ3⟩
    case measure => rw [hrg3.left_eq, hrg.left_eq]; exact hlt
   ·gi_wp2
    refine bodyPost_ret (results_none rfl _ _ _) rfl ?_
    exact ⟨⟨_, rfl⟩, .inr ⟨ss ++ [x], trivial, hJx3⟩⟩
theorem keys_stopsA {H : Type} (F : Fence) (n : Nat) (h10 : F.fn 56) (hro : F.round = none) (hn : 1 ≤ n) (Bm b nn : Nat) (D0 : DataW H) {R : Value → Option (DataW H × List MemPlace)} (w : World) (hBm : Bm < w.heap.size)
  (hm : w.cell? ⟨Bm, 0, none⟩ = some (.map (some b))) (hown : w.ownsMap Tryd.prog 60 R b nn D0) :
  SeqStopsK F n Tryd.prog 56 #[.pointer (some ⟨Bm, 0, none⟩)] (fun x : A4 => #[.agg (encA x).toArray]) KeepsWalks (fun ss => AllA D0 ss ∧ ss.length ≤ Maps.size D0) (fun _ => True) (Maps.size D0) w := fun l J Jx W hW hJ _ hY h0 => by
 have hown' : W.ownsMap Tryd.prog 60 R b nn D0 := by
  have hbl := hown.lt
  obtain ⟨es, clock, hb, Ft, hs, hD⟩ := hown
  exact ⟨es, clock, (hW.block b hbl).trans hb, Ft, hs, hD⟩
 exact keys1_in F n h10 hro hn l Bm b nn D0 J Jx hY W hJ ((hW.cell (p := ⟨Bm, 0, none⟩) hBm).trans hm) hown' h0
theorem keys_calls (mb : Option Nat) (w : World) :
  Calls Tryd.prog 40 #[.map mb] w fun e w' => e = .returned (.func (.func 56) #[] #[.pointer (some ⟨w.heap.size, 0, none⟩)]) ∧ w' = w.alloc (.cells #[.map mb] 54) := by
 go_enter Tryd.func40, Tryd.ntmps40
 go_wp2
 go_ret
 exact ⟨rfl, rfl⟩
theorem own_not_walk {w : World} {base : Nat} {e sz : Nat} {v : Value} {m : Nat} {cs : List Value} (h : w.ownsRow base e sz v m cs) : ∀ (j : Nat) (o : Obj), v.ownBlock = some j → w.heap[j]? = some o → o.isWalk = false := by
 intro j o hj ho
 obtain ⟨_, h | ⟨g, cap, cur, hv, hb, hblk, _⟩⟩ := h
 ·obtain ⟨rfl, _⟩ := h
  cases hj
 ·subst hv
  simp [Value.ownBlock] at hj
  subst hj
  rw [hblk] at ho
  cases ho
  rfl
theorem cells_new (W : World) (cs : List Value) (t : TypeId) : ∀ j u, cs[j]? = some u → (W.alloc (.cells cs.toArray t)).cell? ((⟨W.heap.size, 0, none⟩ : Addr).add j) = some u := by
 intro j u hu
 rw [add_plain]
 exact (blk_cell (World.alloc_heap_new W _) j).trans (by simpa using hu)
set_option maxRecDepth 100000 in
set_option maxHeartbeats 4000000 in
theorem appendSeq_in (F : Fence) (n : Nat) (h28 : F.fn 64) (hro : F.round = none) (hn : 3 ≤ n) (gf : Nat) (lb : Array Value) (hgf : F.fn gf) (eg : ∀ args w, (callFunc gf args).run Tryd.prog w = .ok (.enter gf args) w)
  (T Tp : List A4 → Prop) (N : Nat) {base : Nat} {A : Option Addr} {m c : Nat} {xs : List A4} {w : World} (hbase : base ≤ w.heap.size) (hrow : w.ownsRow base 60 4 (.slice A m c) xs.length (xs.flatMap encA)) (own0 : Option Nat) (hown0 : own0 = (Value.slice A m c).ownBlock)
  (hN : (xs.length + N) * 32 ≤ 140737488355328)
  (hseq : SeqStopsK F (n - 1) Tryd.prog gf lb (fun x : A4 => #[.agg (encA x).toArray]) KeepsWalks T Tp N w) :
  CallsIn F n Tryd.prog 64 #[.slice A m c, .func (.func gf) #[] lb] w fun e w' => ∃ v ys, e = .returned v ∧ T ys ∧ w'.ownsRow base 60 4 v (xs ++ ys).length ((xs ++ ys).flatMap encA) ∧ w.grownBy w' own0 := by
 obtain ⟨i0, hi, hz0, hz1, hz2⟩ := info_parts info60
 have HOWN := Aside0.mk hown0
 clear hown0
 have h1 : 1 ≤ n := by omega
 refine callsIn_of_wp_marks Tryd.func64 rfl h28 ?_ hro
 simp only [Tryd.ntmps64, List.size_toArray, List.length_cons, List.length_nil, Nat.reduceAdd, Nat.reduceSub, Array.replicate_succ, Array.replicate_zero, List.push_toArray, List.append_toArray, List.nil_append, List.cons_append]
 gi_wp2
 have bS := Boxed.new w 64 (.slice A m c)
 have hsz : (w.alloc (.cells #[.slice A m c] 64)).heap.size = w.heap.size + 1 := by simp
 have hg0 : w.grownBy (w.alloc (.cells #[.slice A m c] 64)) own0 := World.grownBy_alloc w _ _
 have hol : ∀ k, own0 = some k → k < w.heap.size := fun k hk => by rw [HOWN.out] at hk; exact (hrow.lt k hk).2
 refine wpIn_rangeFunc_ownH hro h1 (gf := gf) (lb := lb) rfl hgf eg hseq (fun h k => KeepsWalks.trans h k) (fun W l o o' hl hlo _ hw => KeepsWalks.putObj o' hlo hw) ((Below.refl _ w).alloc (Nat.le_refl _) _) (fun _ => rfl)
  (fun pre W => (∃ v, Boxed W w.heap.size 64 v ∧ W.ownsRow base 60 4 v (xs ++ pre).length ((xs ++ pre).flatMap encA) ∧ (∀ k, v.ownBlock = some k → own0 = some k ∨ w.heap.size < k)) ∧ w.grownBy W own0)
  (fun _ _ _ => False)
  (OwnFrom.and (Own.from (holdsRow_own base w.heap.size 64 60 4 (fun pre => (xs ++ pre).length) (fun pre => (xs ++ pre).flatMap encA) (fun _ v => ∀ k, v.ownBlock = some k → own0 = some k ∨ w.heap.size < k)) _) ?hI2)
  (fun _ _ _ _ _ hs _ _ => hs)
  ⟨⟨_, bS, ?h0a, ?h0b⟩, hg0⟩
  (fun x a' W => ∃ Bx, w.heap.size + 1 ≤ Bx ∧ W.heap[Bx]? = some (.cells (encA x).toArray 60 (0, 0)) ∧ a' = { tmps := #[.slice A m c, .func (.func gf) #[] lb, .pointer (some ⟨w.heap.size, 0, none⟩), undef, .slice none 0 0, .pointer (some ⟨Bx, 0, none⟩), .func (.func gf) #[] lb, .agg (encA x).toArray, undef, undef, undef, undef, undef], defers := [] })
  ?hAx ?assign ?body ?done ?stop
 case hI2 =>
  intro pre X Y row hs hg hr
  exact ⟨hg.os.trans hs.os, hg.tape.trans hs.tape, hg.output.trans hs.output, Nat.le_trans hs.size hg.size, fun k hk hne => (hg.block k (Nat.lt_of_lt_of_le hk hs.size) (fun e => by have := (hr k e.symm).1; rw [hsz] at this; omega)).trans (hs.block k hk hne)⟩
 case h0a => simpa using hrow.alloc _
 case h0b => exact fun k hk => .inl (by rw [HOWN.out]; exact hk)
 case hAx =>
  rintro x a' _ X Y row ⟨Bx, hb, hx, rfl⟩ hg hr
  refine ⟨Bx, hb, (hg.block Bx (Array.getElem?_eq_some_iff.1 hx).1 (fun e => ?_)).trans hx, rfl⟩
  obtain ⟨_, o, ho, hc⟩ := hr Bx e.symm
  rw [hx] at ho
  cases ho
  cases hc
 case assign =>
  rintro l pre x W K ⟨⟨v, hv, hr, hk⟩, hg⟩ hK
  simp only [encA]
  gi_wp2
  refine hK _ _ ((KeepsOthers.alloc _ _).from _) ?_ ⟨⟨v, hv.alloc _, hr.alloc _, hk⟩, Flat.grown_trans hg (World.grownBy_alloc _ _ _)⟩ ⟨W.heap.size, ?_, World.alloc_heap_new W _, rfl⟩
  ·exact KeepsWalks.alloc W _
  ·exact hv.lt
 case body =>
  rintro l pre x a' W hl ⟨r, hlr⟩ ⟨⟨v, hv, hr, hk⟩, hg⟩ ⟨Bx, hBx, hx, rfl⟩ hlen
  obtain ⟨A', c', rfl⟩ := own_slice hr
  have hc := hv.cell
  have HV := Aside0.mk hv
  have HR := Aside0.mk hr
  have HK := Aside0.mk hk
  have HG := Aside0.mk hg
  have hWl : w.heap.size < W.heap.size := hv.lt
  clear hv hr hk hg
  simp only [encA] at hx
  have hx0 : W.cell? ⟨Bx, 0, none⟩ = some (.int .i64 x.o) := (blk_cell hx 0).trans rfl
  have hx1 : W.cell? ⟨Bx, 1, none⟩ = some (.int .i64 x.c) := (blk_cell hx 1).trans rfl
  have hx2 : W.cell? ⟨Bx, 2, none⟩ = some (.int .i64 x.n) := (blk_cell hx 2).trans rfl
  have hx3 : W.cell? ⟨Bx, 3, none⟩ = some (.int .i64 x.d) := (blk_cell hx 3).trans rfl
  have HXB := Aside0.mk hx
  clear hx
  have HL := Aside0.mk hlr
  clear hlr
  have hcap : (xs ++ pre).length + 1 ≤ xs.length + N := by rw [List.length_append]; omega
  have hm1 : (xs ++ pre).length + 1 ≤ maxLen := by simp only [maxLen]; omega
  obtain ⟨ys, HYS, hys⟩ : ∃ ys, Aside0 (ys = xs ++ pre) ∧ xs ++ pre = ys := ⟨_, ⟨rfl⟩, rfl⟩
  rw [hys] at hc HV HR HK hcap hm1
  clear hys
  gi_wp2_with (gi_at_builtin; go_must (refine wpListIn_append_own_at _ rfl _ _ 64 rfl base 60 i0 _ 4 32 Tryd.underlying64 hi hz0 hz1 hz2 rfl (by decide) _ _ _ rfl (HR.out.alloc _) ⟨W.heap.size, 0, none⟩ 1 1 (encA x) rfl rfl ?hcl (encA_one x) hm1 (by omega) (by simp; omega) ?_); (case hcl => exact cells_new _ _ _); intro v' w1 hown' hgrow _ hat; have HAT := Aside0.mk hat; clear hat; have HO1 := Aside0.mk hown'; have HG1 := Aside0.mk hgrow; clear hown' hgrow; obtain ⟨g', cap', hv'⟩ := ownsRow_succ HO1.out; subst hv'; obtain ⟨hv1, hv2, hr2, hk2, _⟩ := HV.out.appended (by decide) HR.out (by omega) hbase HO1.out HG1.out; have hc1 := hv1.cell; have hf1 := hv1.frozen)
  have hg1 : W.grownBy w1 (Value.slice A' ys.length c').ownBlock := Flat.grown_trans (World.grownBy_alloc W _ _) HG1.out
  have hne : ∀ k, k < w.heap.size → some k ≠ own0 → some k ≠ (Value.slice A' ys.length c').ownBlock := fun k hk hk0 e => by
   rcases HK.out k e.symm with h | h
   ·exact hk0 h.symm
   ·omega
  have hblk : ∀ k, k < w.heap.size → some k ≠ own0 → (w1.setCell ⟨w.heap.size, 0, none⟩ (.slice (some ⟨g', 0, none⟩) (ys.length + 1) cap')).heap[k]? = W.heap[k]? := fun k hk hk0 =>
   (Below.heap_setCell w1 _ _ k (fun e => by simp only at e; omega)).trans (hg1.block k (by omega) (hne k hk hk0))
  have hsz2 : (w1.setCell ⟨w.heap.size, 0, none⟩ (.slice (some ⟨g', 0, none⟩) (ys.length + 1) cap')).heap.size = w1.heap.size := by simp [World.setCell]
  refine ⟨hk2.from _, (KeepsWalks.of_grownBy hg1 (own_not_walk HR.out)).trans (KeepsWalks.setCell _ _ _), ⟨_, hv2, ?_, ?_⟩, ⟨hg1.os.trans HG.out.os, hg1.tape.trans HG.out.tape, hg1.output.trans HG.out.output, by rw [hsz2]; exact Nat.le_trans HG.out.size hg1.size, fun k hk hk0 => (hblk k hk hk0).trans (HG.out.block k hk hk0)⟩⟩
  ·have e1 : xs ++ (pre ++ [x]) = ys ++ [x] := by rw [HYS.out, List.append_assoc]
   rw [e1, List.length_append, List.flatMap_append]
   simpa using hr2
  ·intro k hk
   rcases HAT.out with h | h
   ·exact HK.out k (h ▸ hk)
   ·rw [h] at hk
    injection hk with hk
    simp at hk
    omega
 case done =>
  rintro D ys W hD hT ⟨⟨v, hv, hr, hk⟩, hg⟩ hK
  have hc := hv.cell
  gi_wp2
  refine ⟨by simp, .inl ⟨_, _, rfl, run_takeDeferred hK, ?_⟩⟩
  refine ⟨_, results_tmp rfl _ _ _, v, ys, rfl, hT, ownsRow_putObj hr _ hK rfl, ?_⟩
  have hlt : D < W.heap.size := (Array.getElem?_eq_some_iff.1 hK).1
  exact ⟨hg.os, hg.tape, hg.output, Nat.le_trans hg.size (by simp [World.putObj]), fun k hk hne => (World.putObj_heap_other (by omega)).trans (hg.block k hk hne)⟩
 case stop =>
  rintro D c pre W _ _ h _
  exact h.elim
/-- slices.Collect at atoms. -/
theorem collect_in (F : Fence) (n : Nat) (h54 : F.fn 54) (h64 : F.fn 64) (hro : F.round = none) (hn : 4 ≤ n) (hd : F.depth = none) (gf : Nat) (lb : Array Value) (hgf : F.fn gf) (eg : ∀ args w, (callFunc gf args).run Tryd.prog w = .ok (.enter gf args) w)
  (T Tp : List A4 → Prop) (N : Nat) {w : World} (hN : N * 32 ≤ 140737488355328)
  (hseq : SeqStopsK F (n - 1 - 1) Tryd.prog gf lb (fun x : A4 => #[.agg (encA x).toArray]) KeepsWalks T Tp N w) :
  CallsIn F n Tryd.prog 54 #[.func (.func gf) #[] lb] w fun e w' => ∃ v ys, e = .returned v ∧ T ys ∧ w'.ownsRow w.heap.size 60 4 v ys.length (ys.flatMap encA) ∧ w.grownBy w' none := by
 have hdd : ∀ k : Nat, (F.depth.isSome = true → 1 ≤ k) := fun k h => by rw [hd] at h; cases h
 have hrow : w.ownsRow w.heap.size 60 4 (.slice none 0 0) ([] : List A4).length (([] : List A4).flatMap encA) := ⟨rfl, .inl ⟨rfl, rfl⟩⟩
 have G := Aside0.mk (appendSeq_in F (n - 1) h64 hro (by omega) gf lb hgf eg T Tp N (xs := []) (Nat.le_refl _) hrow none rfl (by simpa using hN) hseq)
 refine callsIn_of_wp Tryd.func54 rfl h54 ?_ hro
 simp only [Tryd.ntmps54, List.size_toArray, List.length_cons, List.length_nil, Nat.reduceAdd, Nat.reduceSub, Array.replicate_succ, Array.replicate_zero, List.push_toArray, List.append_toArray, List.nil_append, List.cons_append]
 gi_wp2_with ((try refine ⟨hdd _, ?_⟩); gi_at_call 64; refine G.out.mono ?_; clear G; rintro e w' ⟨v, ys, rfl, hT, hr, hg⟩)
 go_ret
 exact ⟨v, ys, rfl, hT, by simpa using hr, hg⟩
end Go.Proofs.YtabocfninjankaaDoor.P
namespace Go.Proofs
open Go.Shelf Go.RowKit Go.Lib Go.Sort
def Tryd.sortAtom_ren : Go.Shelf.Ren := ⟨fun | 6 => 55 | 15 => 66 | 14 => 65 | 28 => 80 | 29 => 81 | 20 => 72 | 21 => 73 | 22 => 74 | 23 => 75 | 24 => 76 | 25 => 77 | 26 => 78 | 27 => 79 | 46 => 93 | 47 => 94 | 48 => 95 | 49 => 96 | 50 => 97 | 57 => 101 | n => n, fun | 22 => 64 | 24 => 60 | 25 => 63 | 3 => 3 | 39 => 92 | 0 => 0 | 53 => 108 | 55 => 95 | 4 => 4 | 46 => 101 | 45 => 100 | 50 => 105 | 5 => 5 | 9 => 9 | 66 => 116 | 70 => 120 | 76 => 124 | 77 => 125 | n => n, fun | n => n⟩
theorem Tryd.sortAtom : Go.Proofs.SlLaysF0.n6 Tryd.prog Tryd.sortAtom_ren := {
  mixed := by kernel_rfl,
  f6 := ⟨Tryd.f55.name, by decide, Tryd.func55.trans (congrArg some (by kernel_rfl))⟩,
  f14 := ⟨Tryd.f65.name, by decide, Tryd.func65.trans (congrArg some (by kernel_rfl))⟩,
  f15 := Tryd.func66.trans (congrArg some (by kernel_rfl)),
  f20 := ⟨Tryd.f72.name, by decide, Tryd.func72.trans (congrArg some (by kernel_rfl))⟩,
  f21 := ⟨Tryd.f73.name, by decide, Tryd.func73.trans (congrArg some (by kernel_rfl))⟩,
  f22 := ⟨Tryd.f74.name, by decide, Tryd.func74.trans (congrArg some (by kernel_rfl))⟩,
  f23 := ⟨Tryd.f75.name, by decide, Tryd.func75.trans (congrArg some (by kernel_rfl))⟩,
  f24 := ⟨Tryd.f76.name, by decide, Tryd.func76.trans (congrArg some (by kernel_rfl))⟩,
  f25 := ⟨Tryd.f77.name, by decide, Tryd.func77.trans (congrArg some (by kernel_rfl))⟩,
  f26 := ⟨Tryd.f78.name, by decide, Tryd.func78.trans (congrArg some (by kernel_rfl))⟩,
  f27 := ⟨Tryd.f79.name, by decide, Tryd.func79.trans (congrArg some (by kernel_rfl))⟩,
  f28 := Tryd.func80.trans (congrArg some (by kernel_rfl)),
  f29 := Tryd.func81.trans (congrArg some (by kernel_rfl)),
  f46 := ⟨Tryd.f93.name, by decide, Tryd.func93.trans (congrArg some (by kernel_rfl))⟩,
  f47 := Tryd.func94.trans (congrArg some (by kernel_rfl)),
  f48 := Tryd.func95.trans (congrArg some (by kernel_rfl)),
  f49 := ⟨Tryd.f96.name, by decide, Tryd.func96.trans (congrArg some (by kernel_rfl))⟩,
  f50 := ⟨Tryd.f97.name, by decide, Tryd.func97.trans (congrArg some (by kernel_rfl))⟩,
  f57 := ⟨Tryd.f101.name, by decide, Tryd.func101.trans (congrArg some (by kernel_rfl))⟩,
  t0 := Tryd.underlying0,
  a0 := Tryd.isAgg0,
  z0 := Tryd.sizeOf0,
  v0 := Tryd.zeroValue0,
  t3 := Tryd.underlying3,
  a3 := Tryd.isAgg3,
  z3 := Tryd.sizeOf3,
  v3 := Tryd.zeroValue3,
  t4 := Tryd.underlying4,
  a4 := Tryd.isAgg4,
  z4 := Tryd.sizeOf4,
  v4 := Tryd.zeroValue4,
  t5 := Tryd.underlying5,
  a5 := Tryd.isAgg5,
  z5 := Tryd.sizeOf5,
  v5 := Tryd.zeroValue5,
  t9 := Tryd.underlying9,
  a9 := Tryd.isAgg9,
  z9 := Tryd.sizeOf9,
  v9 := Tryd.zeroValue9,
  t22 := Tryd.underlying64,
  a22 := Tryd.isAgg64,
  z22 := Tryd.sizeOf64,
  v22 := Tryd.zeroValue64,
  t25 := Tryd.underlying63,
  a25 := Tryd.isAgg63,
  z25 := Tryd.sizeOf63,
  v25 := Tryd.zeroValue63,
  t39 := Tryd.underlying92,
  a39 := Tryd.isAgg92,
  z39 := Tryd.sizeOf92,
  v39 := Tryd.zeroValue92,
  t45 := Tryd.underlying100,
  a45 := Tryd.isAgg100,
  z45 := Tryd.sizeOf100,
  v45 := Tryd.zeroValue100,
  t46 := Tryd.underlying101,
  a46 := Tryd.isAgg101,
  z46 := Tryd.sizeOf101,
  v46 := Tryd.zeroValue101,
  t50 := Tryd.underlying105,
  a50 := Tryd.isAgg105,
  z50 := Tryd.sizeOf105,
  v50 := Tryd.zeroValue105,
  t53 := Tryd.underlying108,
  a53 := Tryd.isAgg108,
  z53 := Tryd.sizeOf108,
  v53 := Tryd.zeroValue108,
  t55 := Tryd.underlying95,
  a55 := Tryd.isAgg95,
  z55 := Tryd.sizeOf95,
  v55 := Tryd.zeroValue95,
  t66 := Tryd.underlying116,
  a66 := Tryd.isAgg116,
  z66 := Tryd.sizeOf116,
  v66 := Tryd.zeroValue116,
  t70 := Tryd.underlying120,
  a70 := Tryd.isAgg120,
  z70 := Tryd.sizeOf120,
  v70 := Tryd.zeroValue120,
  t76 := Tryd.underlying124,
  a76 := Tryd.isAgg124,
  z76 := Tryd.sizeOf124,
  v76 := Tryd.zeroValue124,
  t77 := Tryd.underlying125,
  a77 := Tryd.isAgg125,
  z77 := Tryd.sizeOf125,
  v77 := Tryd.zeroValue125 }
end Go.Proofs
namespace Go.Proofs.YtabocfninjankaaDoor.P
open Go.RowKit Go.Proofs.YtabocfninjankaaDoorW.PrintWords Go.Proofs.YtabocfninjankaaDoorW.PrintLast Go.Proofs.YtabocfninjankaaDoorW.PrintMore
attribute [local go_sem] max2_int min2_int max_two min_two max_three min_three max_four min_four
set_option linter.unusedVariables false
set_option linter.unusedSimpArgs false
set_option maxHeartbeats 8000000 in
set_option maxRecDepth 100000 in
theorem rules_Atoms_1.grows (k : Nat) (a0_0 : Int) (a0_1 : Int) (a0_2 : Int) (a0_3 : Int) (a1_0 : Int) (a1_1 : Int) (a1_2 : Int) (a1_3 : Int) (r : Int) (w : World) (h : rules_Atoms_1.f k a0_0 a0_1 a0_2 a0_3 a1_0 a1_1 a1_2 a1_3 = some r) :
  Calls Tryd.prog 36 #[.agg #[.int .i64 a0_0, .int .i64 a0_1, .int .i64 a0_2, .int .i64 a0_3], .agg #[.int .i64 a1_0, .int .i64 a1_1, .int .i64 a1_2, .int .i64 a1_3]] w fun e w' => e = .returned (.int .i64 r) ∧ Below w.heap.size w w' ∧ w.drawn ≤ w'.drawn := by
 have hu60 := Tryd.underlying60
 have HB := Aside0.mk (Below.refl w.heap.size w)
 have HD := Aside0.mk (Nat.le_refl w.drawn)
 have H : ((cmp_Compare_int.f a0_0 a1_0).bind fun t171 => ((cmp_Compare_int.f a0_1 a1_1).bind fun t172 => ((cmp_Compare_int.f a0_2 a1_2).bind fun t173 => ((cmp_Compare_int.f a0_3 a1_3).bind fun t174 => ((cmp_Or_int.f k (([t171, t172, t173, t174] : List Int))).bind fun t178 => (some t178)))))) = some r := h
 clear h
 replace H := Option.bind_eq_some_iff.mp H
 obtain ⟨t171, A30, H⟩ := H
 replace H : ((cmp_Compare_int.f a0_1 a1_1).bind fun t172 => ((cmp_Compare_int.f a0_2 a1_2).bind fun t173 => ((cmp_Compare_int.f a0_3 a1_3).bind fun t174 => ((cmp_Or_int.f k (([t171, t172, t173, t174] : List Int))).bind fun t178 => (some t178))))) = some r := H
 have A3 := Aside0.mk A30
 clear A30
 replace H := Option.bind_eq_some_iff.mp H
 obtain ⟨t172, A40, H⟩ := H
 replace H : ((cmp_Compare_int.f a0_2 a1_2).bind fun t173 => ((cmp_Compare_int.f a0_3 a1_3).bind fun t174 => ((cmp_Or_int.f k (([t171, t172, t173, t174] : List Int))).bind fun t178 => (some t178)))) = some r := H
 have A4 := Aside0.mk A40
 clear A40
 replace H := Option.bind_eq_some_iff.mp H
 obtain ⟨t173, A50, H⟩ := H
 replace H : ((cmp_Compare_int.f a0_3 a1_3).bind fun t174 => ((cmp_Or_int.f k (([t171, t172, t173, t174] : List Int))).bind fun t178 => (some t178))) = some r := H
 have A5 := Aside0.mk A50
 clear A50
 replace H := Option.bind_eq_some_iff.mp H
 obtain ⟨t174, A60, H⟩ := H
 replace H : ((cmp_Or_int.f k (([t171, t172, t173, t174] : List Int))).bind fun t178 => (some t178)) = some r := H
 have A6 := Aside0.mk A60
 clear A60
 obtain ⟨y175, hy175⟩ : ∃ y_ : List Int, y_ = (([t171, t172, t173, t174] : List Int)) := ⟨_, rfl⟩
 replace H : ((cmp_Or_int.f k y175).bind fun t178 => (some t178)) = some r := by first | (rw [hy175]; with_reducible exact H) | (have H2_ := (Option.bind_some _ _).symm.trans H; rw [hy175]; with_reducible exact H2_) | (have H2_ := (Option.bind_some _ _).symm.trans H; with_reducible exact H2_) | with_reducible exact H | (rw [hy175]; exact H) | exact H
 have Ny175 := Aside0.mk hy175
 clear hy175
 replace H := Option.bind_eq_some_iff.mp H
 obtain ⟨t178, A70, H⟩ := H
 replace H : (some t178) = some r := H
 have A7 := Aside0.mk A70
 clear A70
 obtain rfl := Option.some.inj H
 go_enter Tryd.func36, Tryd.ntmps36
 try go_wp2_with (first | ((with_reducible refine gate_dst (N := 2) rfl ?_); refine Grow.box_event ?hg (N := 2) ?hd (cs := #[.int .i64 a0_0, .int .i64 a0_1, .int .i64 a0_2, .int .i64 a0_3]) (t := 60) ?hr ?_; (case hd => rfl); (case hg => rfl); (case hr => first | (go_simp; done) | (go_simp; rfl)); intro gb169 hg w8 hbox hb hd_; have HDn_ : Aside0 (w.drawn ≤ w8.drawn) := ⟨by have h1_ := HD.out; have h2_ := hd_; (try simp only [Grow.drawn_drewN, Grow.drawn_alloc] at h1_ h2_); omega⟩; clear HD hd_; have HD := HDn_; clear HDn_; have n0_ := Aside0.mk (below_step (by repeat (first | (with_reducible first | exact HB.out | apply below_alloc | apply pw_below_drewN | apply below_drew1) | exact HB.out)) hb); have n1_ := Aside0.mk (hbox); have n2_ := Aside0.mk ((by rw [hg]; exact (below_size (by repeat (first | (with_reducible first | exact HB.out | apply below_alloc | apply pw_below_drewN | apply below_drew1) | exact HB.out))) : w.heap.size ≤ gb169)); have n3_ := Aside0.mk ((by rw [hg]; exact (below_size (by repeat (first | (with_reducible first | exact HB.out | apply below_alloc | apply pw_below_drewN | apply below_drew1) | exact HB.out))) : w.heap.size ≤ gb169)); clear HB; have HB := n0_; have BK169 := n1_; have GW169 := n2_; have GE169 := n3_; clear n0_ n1_ n2_ n3_; clear hb hbox hg) | ((with_reducible refine gate_dst (N := 3) rfl ?_); refine Grow.box_event ?hg (N := 3) ?hd (cs := #[.int .i64 a1_0, .int .i64 a1_1, .int .i64 a1_2, .int .i64 a1_3]) (t := 60) ?hr ?_; (case hd => rfl); (case hg => rfl); (case hr => first | (go_simp; done) | (go_simp; rfl)); intro gb170 hg w9 hbox hb hd_; have HDn_ : Aside0 (w.drawn ≤ w9.drawn) := ⟨by have h1_ := HD.out; have h2_ := hd_; (try simp only [Grow.drawn_drewN, Grow.drawn_alloc] at h1_ h2_); omega⟩; clear HD hd_; have HD := HDn_; clear HDn_; have n0_ := Aside0.mk (blk_below (g := gb169) (o := .cells #[.int .i64 a0_0, .int .i64 a0_1, .int .i64 a0_2, .int .i64 a0_3] 60 (0, 0)) (by (with_reducible repeat (first | refine blk_drewN ?_ _ | refine blk_drew ?_ | refine blk_alloc ?_ _)); exact BK169.out) hb); have n1_ := Aside0.mk (below_step (by repeat (first | (with_reducible first | exact HB.out | apply below_alloc | apply pw_below_drewN | apply below_drew1 | refine below_set ?_ GE169.out) | exact HB.out)) hb); have n2_ := Aside0.mk (hbox); have n3_ := Aside0.mk ((by rw [hg]; exact (below_size (by repeat (first | (with_reducible first | exact HB.out | apply below_alloc | apply pw_below_drewN | apply below_drew1 | refine below_set ?_ GE169.out) | exact HB.out))) : w.heap.size ≤ gb170)); have n4_ := Aside0.mk ((by rw [hg]; exact (below_size (by repeat (first | (with_reducible first | exact HB.out | apply below_alloc | apply pw_below_drewN | apply below_drew1 | refine below_set ?_ GE169.out) | exact HB.out))) : w.heap.size ≤ gb170)); have n5_ := Aside0.mk ((by rw [hg]; exact Nat.ne_of_lt (blk_lt (g := gb169) (o := .cells #[.int .i64 a0_0, .int .i64 a0_1, .int .i64 a0_2, .int .i64 a0_3] 60 (0, 0)) (by (with_reducible repeat (first | refine blk_drewN ?_ _ | refine blk_drew ?_ | refine blk_alloc ?_ _)); exact BK169.out)) : gb169 ≠ gb170)); have n6_ := Aside0.mk ((by rw [hg]; exact Nat.ne_of_gt (blk_lt (g := gb169) (o := .cells #[.int .i64 a0_0, .int .i64 a0_1, .int .i64 a0_2, .int .i64 a0_3] 60 (0, 0)) (by (with_reducible repeat (first | refine blk_drewN ?_ _ | refine blk_drew ?_ | refine blk_alloc ?_ _)); exact BK169.out)) : gb170 ≠ gb169)); clear BK169; clear HB; have BK169 := n0_; have HB := n1_; have BK170 := n2_; have GW170 := n3_; have GE170 := n4_; have NB169_170 := n5_; have NB170_169 := n6_; clear n0_ n1_ n2_ n3_ n4_ n5_ n6_; clear hb hbox hg))
 have n0_ := Aside0.mk (blk_drew BK169.out)
 have n1_ := Aside0.mk (blk_drew BK170.out)
 have n2_ := Aside0.mk (below_drew1 HB.out)
 clear BK169
 clear BK170
 clear HB
 have BK169 := n0_
 have BK170 := n1_
 have HB := n2_
 clear n0_ n1_ n2_
 refine start_ (n := 23) (S := fun w' => w'.cell? ⟨gb169, 0, none⟩ = some (.int .i64 a0_0) ∧ w'.cell? ⟨gb169, 1, none⟩ = some (.int .i64 a0_1) ∧ w'.cell? ⟨gb169, 2, none⟩ = some (.int .i64 a0_2) ∧ w'.cell? ⟨gb169, 3, none⟩ = some (.int .i64 a0_3) ∧ w'.cell? ⟨gb170, 0, none⟩ = some (.int .i64 a1_0) ∧ w'.cell? ⟨gb170, 1, none⟩ = some (.int .i64 a1_1) ∧ w'.cell? ⟨gb170, 2, none⟩ = some (.int .i64 a1_2) ∧ w'.cell? ⟨gb170, 3, none⟩ = some (.int .i64 a1_3)) (ds := []) #[false, false, false, false, false, false, false, false, false, false, false, false, false, false, false, false, false, false, false, false, false, false, false] (by kernel_rfl) rfl rfl ⟨(blk_cell BK169.out 0).trans rfl, (blk_cell BK169.out 1).trans rfl, (blk_cell BK169.out 2).trans rfl, (blk_cell BK169.out 3).trans rfl, (blk_cell BK170.out 0).trans rfl, (blk_cell BK170.out 1).trans rfl, (blk_cell BK170.out 2).trans rfl, (blk_cell BK170.out 3).trans rfl⟩ (fun hHeld => ?_); refine with_tabW rules_Atoms_1.tab1 rules_Atoms_1.bits1 (fun HT_ HW_ => ?_)
 have HDn_ : Aside0 (w.drawn ≤ w9.drew.drawn) := ⟨Nat.le_succ_of_le HD.out⟩
 clear HD
 have HD := HDn_
 clear HDn_
 generalize w9.drew = w10 at BK169 BK170 HB HD hHeld ⊢
 refine pure_ (i := 0) (N := some 5) (v := ?_) (a' := ?_) #[true, false, false, false, false, false, false, false, false, false, false, false, false, false, false, false, false, false, false, false, false, false, false] rfl rfl (any_of HT_.out (by kernel_rfl)) (fun _ _ _ h => h) (Or.inl ⟨by rfl, ?_⟩) ?_ ?_
 rotate_left
 ·intro w'
  go_simp
  with_reducible rfl
 rotate_left
 ·simp only [Act.put, List.setIfInBounds_toArray, List.set_cons_zero, List.set_cons_succ, i64_w, i32_w]
  rfl
 refine pure_ (i := 2) (N := some 7) (v := ?_) (a' := ?_) #[true, false, true, false, false, false, false, false, false, false, false, false, false, false, false, false, false, false, false, false, false, false, false] rfl rfl (any_of HT_.out (by kernel_rfl)) (fun _ _ _ h => h) (Or.inl ⟨by rfl, ?_⟩) ?_ ?_
 rotate_left
 ·intro w'
  go_simp
  with_reducible rfl
 rotate_left
 ·simp only [Act.put, List.setIfInBounds_toArray, List.set_cons_zero, List.set_cons_succ, i64_w, i32_w]
  rfl
 refine pure_ (i := 5) (N := some 10) (v := ?_) (a' := ?_) #[true, false, true, false, false, true, false, false, false, false, false, false, false, false, false, false, false, false, false, false, false, false, false] rfl rfl (any_of HT_.out (by kernel_rfl)) (fun _ _ _ h => h) (Or.inl ⟨by rfl, ?_⟩) ?_ ?_
 rotate_left
 ·intro w'
  go_simp
  with_reducible rfl
 rotate_left
 ·simp only [Act.put, List.setIfInBounds_toArray, List.set_cons_zero, List.set_cons_succ, i64_w, i32_w]
  rfl
 refine pure_ (i := 7) (N := some 12) (v := ?_) (a' := ?_) #[true, false, true, false, false, true, false, true, false, false, false, false, false, false, false, false, false, false, false, false, false, false, false] rfl rfl (any_of HT_.out (by kernel_rfl)) (fun _ _ _ h => h) (Or.inl ⟨by rfl, ?_⟩) ?_ ?_
 rotate_left
 ·intro w'
  go_simp
  with_reducible rfl
 rotate_left
 ·simp only [Act.put, List.setIfInBounds_toArray, List.set_cons_zero, List.set_cons_succ, i64_w, i32_w]
  rfl
 refine pure_ (i := 10) (N := some 15) (v := ?_) (a' := ?_) #[true, false, true, false, false, true, false, true, false, false, true, false, false, false, false, false, false, false, false, false, false, false, false] rfl rfl (any_of HT_.out (by kernel_rfl)) (fun _ _ _ h => h) (Or.inl ⟨by rfl, ?_⟩) ?_ ?_
 rotate_left
 ·intro w'
  go_simp
  with_reducible rfl
 rotate_left
 ·simp only [Act.put, List.setIfInBounds_toArray, List.set_cons_zero, List.set_cons_succ, i64_w, i32_w]
  rfl
 refine pure_ (i := 12) (N := some 17) (v := ?_) (a' := ?_) #[true, false, true, false, false, true, false, true, false, false, true, false, true, false, false, false, false, false, false, false, false, false, false] rfl rfl (any_of HT_.out (by kernel_rfl)) (fun _ _ _ h => h) (Or.inl ⟨by rfl, ?_⟩) ?_ ?_
 rotate_left
 ·intro w'
  go_simp
  with_reducible rfl
 rotate_left
 ·simp only [Act.put, List.setIfInBounds_toArray, List.set_cons_zero, List.set_cons_succ, i64_w, i32_w]
  rfl
 refine pure_ (i := 15) (N := some 20) (v := ?_) (a' := ?_) #[true, false, true, false, false, true, false, true, false, false, true, false, true, false, false, true, false, false, false, false, false, false, false] rfl rfl (any_of HT_.out (by kernel_rfl)) (fun _ _ _ h => h) (Or.inl ⟨by rfl, ?_⟩) ?_ ?_
 rotate_left
 ·intro w'
  go_simp
  with_reducible rfl
 rotate_left
 ·simp only [Act.put, List.setIfInBounds_toArray, List.set_cons_zero, List.set_cons_succ, i64_w, i32_w]
  rfl
 refine pure_ (i := 17) (N := some 22) (v := ?_) (a' := ?_) #[true, false, true, false, false, true, false, true, false, false, true, false, true, false, false, true, false, true, false, false, false, false, false] rfl rfl (any_of HT_.out (by kernel_rfl)) (fun _ _ _ h => h) (Or.inl ⟨by rfl, ?_⟩) ?_ ?_
 rotate_left
 ·intro w'
  go_simp
  with_reducible rfl
 rotate_left
 ·simp only [Act.put, List.setIfInBounds_toArray, List.set_cons_zero, List.set_cons_succ, i64_w, i32_w]
  rfl
 refine take_ (i := 1) (N := some 6) (v := ?_) (a' := ?_) #[true, true, true, false, false, true, false, true, false, false, true, false, true, false, false, true, false, true, false, false, false, false, false] rfl rfl (take_ofW HT_.out HW_.out (by kernel_rfl)) (fun _ _ _ h => h) (Or.inl ⟨by rfl, ?_⟩) hHeld ?_ ?_
 rotate_left
 ·rintro w' ⟨s0, s1, s2, s3, s4, s5, s6, s7⟩
  go_simp
  with_reducible rfl
 rotate_left
 ·simp only [Act.put, List.setIfInBounds_toArray, List.set_cons_zero, List.set_cons_succ, i64_w, i32_w]
  rfl
 refine take_ (i := 3) (N := some 8) (v := ?_) (a' := ?_) #[true, true, true, true, false, true, false, true, false, false, true, false, true, false, false, true, false, true, false, false, false, false, false] rfl rfl (take_ofW HT_.out HW_.out (by kernel_rfl)) (fun _ _ _ h => h) (Or.inl ⟨by rfl, ?_⟩) hHeld ?_ ?_
 rotate_left
 ·rintro w' ⟨s0, s1, s2, s3, s4, s5, s6, s7⟩
  go_simp
  with_reducible rfl
 rotate_left
 ·simp only [Act.put, List.setIfInBounds_toArray, List.set_cons_zero, List.set_cons_succ, i64_w, i32_w]
  rfl
 refine take_ (i := 6) (N := some 11) (v := ?_) (a' := ?_) #[true, true, true, true, false, true, true, true, false, false, true, false, true, false, false, true, false, true, false, false, false, false, false] rfl rfl (take_ofW HT_.out HW_.out (by kernel_rfl)) (fun _ _ _ h => h) (Or.inl ⟨by rfl, ?_⟩) hHeld ?_ ?_
 rotate_left
 ·rintro w' ⟨s0, s1, s2, s3, s4, s5, s6, s7⟩
  go_simp
  with_reducible rfl
 rotate_left
 ·simp only [Act.put, List.setIfInBounds_toArray, List.set_cons_zero, List.set_cons_succ, i64_w, i32_w]
  rfl
 refine take_ (i := 8) (N := some 13) (v := ?_) (a' := ?_) #[true, true, true, true, false, true, true, true, true, false, true, false, true, false, false, true, false, true, false, false, false, false, false] rfl rfl (take_ofW HT_.out HW_.out (by kernel_rfl)) (fun _ _ _ h => h) (Or.inl ⟨by rfl, ?_⟩) hHeld ?_ ?_
 rotate_left
 ·rintro w' ⟨s0, s1, s2, s3, s4, s5, s6, s7⟩
  go_simp
  with_reducible rfl
 rotate_left
 ·simp only [Act.put, List.setIfInBounds_toArray, List.set_cons_zero, List.set_cons_succ, i64_w, i32_w]
  rfl
 refine take_ (i := 11) (N := some 16) (v := ?_) (a' := ?_) #[true, true, true, true, false, true, true, true, true, false, true, true, true, false, false, true, false, true, false, false, false, false, false] rfl rfl (take_ofW HT_.out HW_.out (by kernel_rfl)) (fun _ _ _ h => h) (Or.inl ⟨by rfl, ?_⟩) hHeld ?_ ?_
 rotate_left
 ·rintro w' ⟨s0, s1, s2, s3, s4, s5, s6, s7⟩
  go_simp
  with_reducible rfl
 rotate_left
 ·simp only [Act.put, List.setIfInBounds_toArray, List.set_cons_zero, List.set_cons_succ, i64_w, i32_w]
  rfl
 refine take_ (i := 13) (N := some 18) (v := ?_) (a' := ?_) #[true, true, true, true, false, true, true, true, true, false, true, true, true, true, false, true, false, true, false, false, false, false, false] rfl rfl (take_ofW HT_.out HW_.out (by kernel_rfl)) (fun _ _ _ h => h) (Or.inl ⟨by rfl, ?_⟩) hHeld ?_ ?_
 rotate_left
 ·rintro w' ⟨s0, s1, s2, s3, s4, s5, s6, s7⟩
  go_simp
  with_reducible rfl
 rotate_left
 ·simp only [Act.put, List.setIfInBounds_toArray, List.set_cons_zero, List.set_cons_succ, i64_w, i32_w]
  rfl
 refine take_ (i := 16) (N := some 21) (v := ?_) (a' := ?_) #[true, true, true, true, false, true, true, true, true, false, true, true, true, true, false, true, true, true, false, false, false, false, false] rfl rfl (take_ofW HT_.out HW_.out (by kernel_rfl)) (fun _ _ _ h => h) (Or.inl ⟨by rfl, ?_⟩) hHeld ?_ ?_
 rotate_left
 ·rintro w' ⟨s0, s1, s2, s3, s4, s5, s6, s7⟩
  go_simp
  with_reducible rfl
 rotate_left
 ·simp only [Act.put, List.setIfInBounds_toArray, List.set_cons_zero, List.set_cons_succ, i64_w, i32_w]
  rfl
 refine take_ (i := 18) (N := some 23) (v := ?_) (a' := ?_) #[true, true, true, true, false, true, true, true, true, false, true, true, true, true, false, true, true, true, true, false, false, false, false] rfl rfl (take_ofW HT_.out HW_.out (by kernel_rfl)) (fun _ _ _ h => h) (Or.inl ⟨by rfl, ?_⟩) hHeld ?_ ?_
 rotate_left
 ·rintro w' ⟨s0, s1, s2, s3, s4, s5, s6, s7⟩
  go_simp
  with_reducible rfl
 rotate_left
 ·simp only [Act.put, List.setIfInBounds_toArray, List.set_cons_zero, List.set_cons_succ, i64_w, i32_w]
  rfl
 refine one_ (i := 4) (N := some 9) #[true, true, true, true, true, true, true, true, true, false, true, true, true, true, false, true, true, true, true, false, false, false, false] rfl rfl (one_of HT_.out (by kernel_rfl)) (by decide) (fun K hK => ?_)
 refine goes_ Tryd.func38 (by kernel_rfl) rfl #[.int .i64 a0_0, .int .i64 a1_0] (by rfl) rfl rfl (by (try simp only [List.map_toArray, List.map_cons, List.map_nil]); first | done | rfl | (simp only [List.length_drop, List.length_take]; rfl)) ?_
 with_reducible refine (cmp_Compare_int.calls a0_0 a1_0 t171 _ A3.out).mono ?_
 rintro e w' ⟨rfl, ⟨nd, rfl⟩⟩
 refine ⟨_, rfl, ?_⟩
 refine hK.out _ _ ⟨(blk_cell BK169.out 0).trans rfl, (blk_cell BK169.out 1).trans rfl, (blk_cell BK169.out 2).trans rfl, (blk_cell BK169.out 3).trans rfl, (blk_cell BK170.out 0).trans rfl, (blk_cell BK170.out 1).trans rfl, (blk_cell BK170.out 2).trans rfl, (blk_cell BK170.out 3).trans rfl⟩ (fun hHeld => ?_)
 clear hK K
 refine norm_ (a' := ?_) ?_ ?_
 rotate_left
 ·show Act.put _ (some 9) _ = _
  simp only [Act.put, List.setIfInBounds_toArray, List.set_cons_zero, List.set_cons_succ, i64_w, i32_w]
  rfl
 refine one_ (i := 9) (N := some 14) #[true, true, true, true, true, true, true, true, true, true, true, true, true, true, false, true, true, true, true, false, false, false, false] rfl rfl (one_of HT_.out (by kernel_rfl)) (by decide) (fun K hK => ?_)
 refine goes_ Tryd.func38 (by kernel_rfl) rfl #[.int .i64 a0_1, .int .i64 a1_1] (by rfl) rfl rfl (by (try simp only [List.map_toArray, List.map_cons, List.map_nil]); first | done | rfl | (simp only [List.length_drop, List.length_take]; rfl)) ?_
 with_reducible refine (cmp_Compare_int.calls a0_1 a1_1 t172 _ A4.out).mono ?_
 rintro e w' ⟨rfl, ⟨nd, rfl⟩⟩
 refine ⟨_, rfl, ?_⟩
 refine hK.out _ _ ⟨(blk_cell BK169.out 0).trans rfl, (blk_cell BK169.out 1).trans rfl, (blk_cell BK169.out 2).trans rfl, (blk_cell BK169.out 3).trans rfl, (blk_cell BK170.out 0).trans rfl, (blk_cell BK170.out 1).trans rfl, (blk_cell BK170.out 2).trans rfl, (blk_cell BK170.out 3).trans rfl⟩ (fun hHeld => ?_)
 clear hK K
 refine norm_ (a' := ?_) ?_ ?_
 rotate_left
 ·show Act.put _ (some 14) _ = _
  simp only [Act.put, List.setIfInBounds_toArray, List.set_cons_zero, List.set_cons_succ, i64_w, i32_w]
  rfl
 refine one_ (i := 14) (N := some 19) #[true, true, true, true, true, true, true, true, true, true, true, true, true, true, true, true, true, true, true, false, false, false, false] rfl rfl (one_of HT_.out (by kernel_rfl)) (by decide) (fun K hK => ?_)
 refine goes_ Tryd.func38 (by kernel_rfl) rfl #[.int .i64 a0_2, .int .i64 a1_2] (by rfl) rfl rfl (by (try simp only [List.map_toArray, List.map_cons, List.map_nil]); first | done | rfl | (simp only [List.length_drop, List.length_take]; rfl)) ?_
 with_reducible refine (cmp_Compare_int.calls a0_2 a1_2 t173 _ A5.out).mono ?_
 rintro e w' ⟨rfl, ⟨nd, rfl⟩⟩
 refine ⟨_, rfl, ?_⟩
 refine hK.out _ _ ⟨(blk_cell BK169.out 0).trans rfl, (blk_cell BK169.out 1).trans rfl, (blk_cell BK169.out 2).trans rfl, (blk_cell BK169.out 3).trans rfl, (blk_cell BK170.out 0).trans rfl, (blk_cell BK170.out 1).trans rfl, (blk_cell BK170.out 2).trans rfl, (blk_cell BK170.out 3).trans rfl⟩ (fun hHeld => ?_)
 clear hK K
 refine norm_ (a' := ?_) ?_ ?_
 rotate_left
 ·show Act.put _ (some 19) _ = _
  simp only [Act.put, List.setIfInBounds_toArray, List.set_cons_zero, List.set_cons_succ, i64_w, i32_w]
  rfl
 refine one_ (i := 19) (N := some 24) #[true, true, true, true, true, true, true, true, true, true, true, true, true, true, true, true, true, true, true, true, false, false, false] rfl rfl (one_of HT_.out (by kernel_rfl)) (by decide) (fun K hK => ?_)
 refine goes_ Tryd.func38 (by kernel_rfl) rfl #[.int .i64 a0_3, .int .i64 a1_3] (by rfl) rfl rfl (by (try simp only [List.map_toArray, List.map_cons, List.map_nil]); first | done | rfl | (simp only [List.length_drop, List.length_take]; rfl)) ?_
 with_reducible refine (cmp_Compare_int.calls a0_3 a1_3 t174 _ A6.out).mono ?_
 rintro e w' ⟨rfl, ⟨nd, rfl⟩⟩
 refine ⟨_, rfl, ?_⟩
 refine hK.out _ _ ⟨(blk_cell BK169.out 0).trans rfl, (blk_cell BK169.out 1).trans rfl, (blk_cell BK169.out 2).trans rfl, (blk_cell BK169.out 3).trans rfl, (blk_cell BK170.out 0).trans rfl, (blk_cell BK170.out 1).trans rfl, (blk_cell BK170.out 2).trans rfl, (blk_cell BK170.out 3).trans rfl⟩ (fun hHeld => ?_)
 clear hK K
 refine norm_ (a' := ?_) ?_ ?_
 rotate_left
 ·show Act.put _ (some 24) _ = _
  simp only [Act.put, List.setIfInBounds_toArray, List.set_cons_zero, List.set_cons_succ, i64_w, i32_w]
  rfl
 refine one_ (i := 20) (N := some 25) #[true, true, true, true, true, true, true, true, true, true, true, true, true, true, true, true, true, true, true, true, true, false, false] rfl rfl (one_of HT_.out (by kernel_rfl)) (by decide) (fun K hK => ?_)
 refine Grow.R_lit_step (Kd.int .i64) _ 3 ?hg (N := 25) ?hd (xs := ([t171, t172, t173, t174] : List Int)) (inner := [.int .i64 t171, .int .i64 t172, .int .i64 t173, .int .i64 t174]) (ok := fun _ => True) (okp := fun _ => True) ?hr ?hp (fun _ hk => hk) trivial (Below.refl _ _) (Nat.le_refl _) (by simp) ?_; (case hd => rfl); (case hg => rfl); (case hr => first | (go_simp; done) | (go_simp; rfl)); (case hp => exact (Reps.one (show Kd.M (Kd.int .i64) _ _ _ t171 [.int .i64 t171] from rfl) (Reps.one (show Kd.M (Kd.int .i64) _ _ _ t172 [.int .i64 t172] from rfl) (Reps.one (show Kd.M (Kd.int .i64) _ _ _ t173 [.int .i64 t173] from rfl) (Reps.one (show Kd.M (Kd.int .i64) _ _ _ t174 [.int .i64 t174] from rfl) (Reps.none _ _))))))
 intro v176 w11 ho12 hb hg_ hnew_ hd_
 have HDn_ : Aside0 (w.drawn ≤ w11.drawn) := ⟨by have h1_ := HD.out; have h2_ := hd_; (try simp only [Grow.drawn_drewN, Grow.drawn_alloc] at h1_ h2_); omega⟩; clear HD hd_; have HD := HDn_; clear HDn_
 clear hg_ hnew_
 (first | rw [← Ny175.out] at ho12 | (simp only [Int.reduceToNat] at ho12; rw [← Ny175.out] at ho12))
 have n0_ := Aside0.mk (Kd.R_lower ho12 (below_size (by repeat (first | (with_reducible first | exact HB.out | apply below_alloc | apply pw_below_drewN | apply below_drew1 | refine below_set ?_ GE169.out | refine below_set ?_ GE170.out) | exact HB.out))))
 have n1_ := Aside0.mk (blk_below (g := gb169) (o := .cells #[.int .i64 a0_0, .int .i64 a0_1, .int .i64 a0_2, .int .i64 a0_3] 60 (0, 0)) (by (with_reducible repeat (first | refine blk_drewN ?_ _ | refine blk_drew ?_ | refine blk_alloc ?_ _)); exact BK169.out) hb)
 have n2_ := Aside0.mk (blk_below (g := gb170) (o := .cells #[.int .i64 a1_0, .int .i64 a1_1, .int .i64 a1_2, .int .i64 a1_3] 60 (0, 0)) (by (with_reducible repeat (first | refine blk_drewN ?_ _ | refine blk_drew ?_ | refine blk_alloc ?_ _)); exact BK170.out) hb)
 have n3_ := Aside0.mk (below_step (by repeat (first | (with_reducible first | exact HB.out | apply below_alloc | apply pw_below_drewN | apply below_drew1 | refine below_set ?_ GE169.out | refine below_set ?_ GE170.out) | exact HB.out)) hb)
 clear BK169
 clear BK170
 clear HB
 have HO177 := n0_
 have BK169 := n1_
 have BK170 := n2_
 have HB := n3_
 clear n0_ n1_ n2_ n3_
 clear hb ho12
 obtain ⟨Ao13, co13, eo13⟩ := Kd.R_slice HO177.out
 (first | subst eo13 | (injection eo13 with f1_ f2_ f3_; have f4_ := f1_.symm; have f5_ := f3_.symm; clear f1_ f2_ f3_; subst f4_; subst f5_))
 refine hK.out _ _ ⟨(blk_cell BK169.out 0).trans rfl, (blk_cell BK169.out 1).trans rfl, (blk_cell BK169.out 2).trans rfl, (blk_cell BK169.out 3).trans rfl, (blk_cell BK170.out 0).trans rfl, (blk_cell BK170.out 1).trans rfl, (blk_cell BK170.out 2).trans rfl, (blk_cell BK170.out 3).trans rfl⟩ (fun hHeld => ?_)
 clear hK K
 refine norm_ (a' := ?_) ?_ ?_
 rotate_left
 ·show Act.put _ (some 25) _ = _
  simp only [Act.put, List.setIfInBounds_toArray, List.set_cons_zero, List.set_cons_succ, i64_w, i32_w]
  rfl
 refine one_ (i := 21) (N := some 26) #[true, true, true, true, true, true, true, true, true, true, true, true, true, true, true, true, true, true, true, true, true, true, false] rfl rfl (one_of HT_.out (by kernel_rfl)) (by decide) (fun K hK => ?_)
 refine goes_ Tryd.func37 (by kernel_rfl) rfl #[.slice Ao13 y175.length co13] (by rfl) rfl rfl (by (try simp only [List.map_toArray, List.map_cons, List.map_nil]); first | done | rfl | (simp only [List.length_drop, List.length_take]; rfl)) ?_
 with_reducible refine (cmp_Or_int.calls k _ _ y175 t178 _ ?side1 ?side2 A7.out).mono ?_
 (case side1 => repeat (first | exact (Kd.R_reads' HO177.out).2.2 | (with_reducible refine Kd.C_alloc ?_ _) | (with_reducible refine Kd.C_drewN ?_ _) | (with_reducible refine Kd.C_drew ?_)))
 (case side2 => exact (Kd.R_reads' HO177.out).2.1)
 rintro e w' ⟨rfl, ⟨nd, rfl⟩⟩
 refine ⟨_, rfl, ?_⟩
 refine hK.out _ _ ⟨(blk_cell BK169.out 0).trans rfl, (blk_cell BK169.out 1).trans rfl, (blk_cell BK169.out 2).trans rfl, (blk_cell BK169.out 3).trans rfl, (blk_cell BK170.out 0).trans rfl, (blk_cell BK170.out 1).trans rfl, (blk_cell BK170.out 2).trans rfl, (blk_cell BK170.out 3).trans rfl⟩ (fun hHeld => ?_)
 clear hK K
 refine norm_ (a' := ?_) ?_ ?_
 rotate_left
 ·show Act.put _ (some 26) _ = _
  simp only [Act.put, List.setIfInBounds_toArray, List.set_cons_zero, List.set_cons_succ, i64_w, i32_w]
  rfl
 refine pure_ (i := 22) (N := some 4) (v := ?_) (a' := ?_) #[true, true, true, true, true, true, true, true, true, true, true, true, true, true, true, true, true, true, true, true, true, true, true] rfl rfl (any_of HT_.out (by kernel_rfl)) (fun _ _ _ h => h) (Or.inl ⟨by rfl, ?_⟩) ?_ ?_
 rotate_left
 ·intro w'
  go_simp
  with_reducible rfl
 rotate_left
 ·simp only [Act.put, List.setIfInBounds_toArray, List.set_cons_zero, List.set_cons_succ, i64_w, i32_w]
  rfl
 refine done_ (done_of HT_.out (by kernel_rfl)) ?_
 try go_wp2
 go_ret
 exact ⟨by first | rfl | (simp [errW_none, errW_some] <;> rfl) | (simp [*, errW_none, errW_some] <;> rfl), by repeat (first | (with_reducible first | exact HB.out | apply below_alloc | apply pw_below_drewN | apply below_drew1 | refine below_set ?_ GE169.out | refine below_set ?_ GE170.out) | exact HB.out), (by have h1_ := HD.out; (try simp only [Grow.drawn_drewN, Grow.drawn_alloc] at h1_ ⊢); omega)⟩
end Go.Proofs.YtabocfninjankaaDoor.P
