/- Texts of this claim, one behind the other: Formed, Check, Value, Px3, Px9, Px11, Px7. Merged by wip/mkmerge.py. -/
import Derived.Test.YtabocfninjankaaDoorCaMo1
import Derived.StillTailTactics
namespace Go.Proofs.YtabocfninjankaaDoor.P
open Go.RowKit Go.Proofs.YtabocfninjankaaDoorW.PrintWords Go.Proofs.YtabocfninjankaaDoorW.PrintLast Go.Proofs.YtabocfninjankaaDoorW.PrintMore
set_option linter.unusedVariables false
set_option linter.unusedSimpArgs false
def formed_1 (a1 : Int) (a2 : ByteArray) (a3 a4 : Int) (l : List S24) : Option Bool := if a1 = 0 ∧ a3 = 0 ∧ a4 = 0 then rules_kinds_1.f 1 a1 a2 a3 a4 l else some false
set_option maxHeartbeats 8000000 in
set_option maxRecDepth 100000 in
theorem formed_1_calls (a1 : Int) (a2 : ByteArray) (a3 a4 : Int) (A : Option Addr) (c : Nat) (l : List S24) (r : Bool) (w : World) (hC : Kd.C k24 w A l.length l) (hc : l.length ≤ c) (hK : KindsAt w) (h : formed_1 a1 a2 a3 a4 l = some r) :
    Calls Tryd.prog 45 #[.agg #[.int .i64 1, .int .i64 a1, .string a2, .int .i64 a3, .int .i64 a4, .slice A l.length c]] w fun e w' => e = .returned (.bool r) ∧ Below w.heap.size w w' := by
  have hu24 := Tryd.underlying24
  have hu80 := Tryd.underlying80
  have hu81 := Tryd.underlying81
  have t0 := hK.at_ 6 _ rfl
  have t1 := hK.at_ 7 _ rfl
  have t2 := hK.at_ 8 _ rfl
  have t3 := hK.at_ 9 _ rfl
  have t4 := hK.at_ 10 _ rfl
  have t5 := hK.at_ 11 _ rfl
  have HC := Aside0.mk hC
  have HK := Aside0.mk hK
  have hm : l.length ≤ 9223372036854775807 := hC.2.1
  clear hC hK
  have HB := Aside0.mk (Below.refl w.heap.size w)
  have hlw := HK.out.lt
  unfold formed_1 at h
  by_cases q_course : a1 = 0
  rotate_left
  · rw [if_neg (by simp [q_course])] at h
    have Q := Aside0.mk q_course
    obtain rfl := Option.some.inj h
    clear h
    have q1 : (a1 != 0) = true := by simpa using q_course
    clear q_course
    go_enter Tryd.func45, Tryd.ntmps45
    go_wp2_with (first | (go_at_call 35; refine (rules_within.calls _ _ _ true _ (by rfl)).mono ?_; rintro e w' ⟨rfl, nw, rfl⟩))
    go_ret
    exact ⟨rfl, (by repeat (first | (with_reducible first | exact HB.out | apply below_alloc | apply pw_below_drewN | apply below_drew1) | exact HB.out))⟩
  subst q_course
  by_cases q_n : a3 = 0
  rotate_left
  · rw [if_neg (by simp [q_n])] at h
    have Q := Aside0.mk q_n
    obtain rfl := Option.some.inj h
    clear h
    have q1 : (a3 != 0) = true := by simpa using q_n
    clear q_n
    go_enter Tryd.func45, Tryd.ntmps45
    go_wp2_with (first | (go_at_call 35; refine (rules_within.calls _ _ _ true _ (by rfl)).mono ?_; rintro e w' ⟨rfl, nw, rfl⟩))
    go_ret
    exact ⟨rfl, (by repeat (first | (with_reducible first | exact HB.out | apply below_alloc | apply pw_below_drewN | apply below_drew1) | exact HB.out))⟩
  subst q_n
  by_cases q_d : a4 = 0
  rotate_left
  · rw [if_neg (by simp [q_d])] at h
    have Q := Aside0.mk q_d
    obtain rfl := Option.some.inj h
    clear h
    have q1 : (a4 != 0) = true := by simpa using q_d
    clear q_d
    go_enter Tryd.func45, Tryd.ntmps45
    go_wp2_with (first | (go_at_call 35; refine (rules_within.calls _ _ _ true _ (by rfl)).mono ?_; rintro e w' ⟨rfl, nw, rfl⟩))
    go_ret
    exact ⟨rfl, (by repeat (first | (with_reducible first | exact HB.out | apply below_alloc | apply pw_below_drewN | apply below_drew1) | exact HB.out))⟩
  subst q_d
  rw [if_pos (by simp)] at h
  have HH := Aside0.mk h
  clear h
  go_enter Tryd.func45, Tryd.ntmps45
  go_wp2_with (first | (go_at_call 35; refine (rules_within.calls _ _ _ true _ (by rfl)).mono ?_; rintro e w' ⟨rfl, nw, rfl⟩) | (go_at_call 119; refine (rules_kinds_1.calls 1 0 a2 0 0 _ _ l _ _ (by (with_reducible repeat (first | refine Kd.C_alloc ?_ _ | refine Kd.C_drewN ?_ _)); exact HC.out) hc HH.out).mono ?_; rintro e w' ⟨rfl, hb⟩))
  go_ret
  exact ⟨rfl, below_then (by repeat (first | (with_reducible first | exact HB.out | apply below_alloc | apply pw_below_drewN | apply below_drew1) | exact HB.out)) (below_size (by repeat (first | (with_reducible first | exact HB.out | apply below_alloc | apply pw_below_drewN | apply below_drew1) | exact HB.out))) hb⟩
def formed_2 (a1 : Int) (a2 : ByteArray) (a3 a4 : Int) (l : List S24) : Option Bool := if a1 = 0 ∧ a3 = 0 ∧ a4 = 0 then rules_kinds_3.f 2 a1 a2 a3 a4 l else some false
set_option maxHeartbeats 8000000 in
set_option maxRecDepth 100000 in
theorem formed_2_calls (a1 : Int) (a2 : ByteArray) (a3 a4 : Int) (A : Option Addr) (c : Nat) (l : List S24) (r : Bool) (w : World) (hC : Kd.C k24 w A l.length l) (hc : l.length ≤ c) (hK : KindsAt w) (h : formed_2 a1 a2 a3 a4 l = some r) :
    Calls Tryd.prog 45 #[.agg #[.int .i64 2, .int .i64 a1, .string a2, .int .i64 a3, .int .i64 a4, .slice A l.length c]] w fun e w' => e = .returned (.bool r) ∧ Below w.heap.size w w' := by
  have hu24 := Tryd.underlying24
  have hu80 := Tryd.underlying80
  have hu81 := Tryd.underlying81
  have t0 := hK.at_ 12 _ rfl
  have t1 := hK.at_ 13 _ rfl
  have t2 := hK.at_ 14 _ rfl
  have t3 := hK.at_ 15 _ rfl
  have t4 := hK.at_ 16 _ rfl
  have t5 := hK.at_ 17 _ rfl
  have HC := Aside0.mk hC
  have HK := Aside0.mk hK
  have hm : l.length ≤ 9223372036854775807 := hC.2.1
  clear hC hK
  have HB := Aside0.mk (Below.refl w.heap.size w)
  have hlw := HK.out.lt
  unfold formed_2 at h
  by_cases q_course : a1 = 0
  rotate_left
  · rw [if_neg (by simp [q_course])] at h
    have Q := Aside0.mk q_course
    obtain rfl := Option.some.inj h
    clear h
    have q1 : (a1 != 0) = true := by simpa using q_course
    clear q_course
    go_enter Tryd.func45, Tryd.ntmps45
    go_wp2_with (first | (go_at_call 35; refine (rules_within.calls _ _ _ true _ (by rfl)).mono ?_; rintro e w' ⟨rfl, nw, rfl⟩))
    go_ret
    exact ⟨rfl, (by repeat (first | (with_reducible first | exact HB.out | apply below_alloc | apply pw_below_drewN | apply below_drew1) | exact HB.out))⟩
  subst q_course
  by_cases q_n : a3 = 0
  rotate_left
  · rw [if_neg (by simp [q_n])] at h
    have Q := Aside0.mk q_n
    obtain rfl := Option.some.inj h
    clear h
    have q1 : (a3 != 0) = true := by simpa using q_n
    clear q_n
    go_enter Tryd.func45, Tryd.ntmps45
    go_wp2_with (first | (go_at_call 35; refine (rules_within.calls _ _ _ true _ (by rfl)).mono ?_; rintro e w' ⟨rfl, nw, rfl⟩))
    go_ret
    exact ⟨rfl, (by repeat (first | (with_reducible first | exact HB.out | apply below_alloc | apply pw_below_drewN | apply below_drew1) | exact HB.out))⟩
  subst q_n
  by_cases q_d : a4 = 0
  rotate_left
  · rw [if_neg (by simp [q_d])] at h
    have Q := Aside0.mk q_d
    obtain rfl := Option.some.inj h
    clear h
    have q1 : (a4 != 0) = true := by simpa using q_d
    clear q_d
    go_enter Tryd.func45, Tryd.ntmps45
    go_wp2_with (first | (go_at_call 35; refine (rules_within.calls _ _ _ true _ (by rfl)).mono ?_; rintro e w' ⟨rfl, nw, rfl⟩))
    go_ret
    exact ⟨rfl, (by repeat (first | (with_reducible first | exact HB.out | apply below_alloc | apply pw_below_drewN | apply below_drew1) | exact HB.out))⟩
  subst q_d
  rw [if_pos (by simp)] at h
  have HH := Aside0.mk h
  clear h
  go_enter Tryd.func45, Tryd.ntmps45
  go_wp2_with (first | (go_at_call 35; refine (rules_within.calls _ _ _ true _ (by rfl)).mono ?_; rintro e w' ⟨rfl, nw, rfl⟩) | (go_at_call 121; refine (rules_kinds_3.calls 2 0 a2 0 0 _ _ l _ _ (by (with_reducible repeat (first | refine Kd.C_alloc ?_ _ | refine Kd.C_drewN ?_ _)); exact HC.out) hc HH.out).mono ?_; rintro e w' ⟨rfl, hb⟩))
  go_ret
  exact ⟨rfl, below_then (by repeat (first | (with_reducible first | exact HB.out | apply below_alloc | apply pw_below_drewN | apply below_drew1) | exact HB.out)) (below_size (by repeat (first | (with_reducible first | exact HB.out | apply below_alloc | apply pw_below_drewN | apply below_drew1) | exact HB.out))) hb⟩
def formed_3 (a1 : Int) (a2 : ByteArray) (a3 a4 : Int) (l : List S24) : Option Bool := if a1 = 0 ∧ a4 = 0 then rules_kinds_5.f 3 a1 a2 a3 a4 l else some false
set_option maxHeartbeats 8000000 in
set_option maxRecDepth 100000 in
theorem formed_3_calls (a1 : Int) (a2 : ByteArray) (a3 a4 : Int) (A : Option Addr) (c : Nat) (l : List S24) (r : Bool) (w : World) (hC : Kd.C k24 w A l.length l) (hc : l.length ≤ c) (hK : KindsAt w) (h : formed_3 a1 a2 a3 a4 l = some r) :
    Calls Tryd.prog 45 #[.agg #[.int .i64 3, .int .i64 a1, .string a2, .int .i64 a3, .int .i64 a4, .slice A l.length c]] w fun e w' => e = .returned (.bool r) ∧ Below w.heap.size w w' := by
  have hu24 := Tryd.underlying24
  have hu80 := Tryd.underlying80
  have hu81 := Tryd.underlying81
  have t0 := hK.at_ 18 _ rfl
  have t1 := hK.at_ 19 _ rfl
  have t2 := hK.at_ 20 _ rfl
  have t3 := hK.at_ 21 _ rfl
  have t4 := hK.at_ 22 _ rfl
  have t5 := hK.at_ 23 _ rfl
  have HC := Aside0.mk hC
  have HK := Aside0.mk hK
  have hm : l.length ≤ 9223372036854775807 := hC.2.1
  clear hC hK
  have HB := Aside0.mk (Below.refl w.heap.size w)
  have hlw := HK.out.lt
  unfold formed_3 at h
  by_cases q_course : a1 = 0
  rotate_left
  · rw [if_neg (by simp [q_course])] at h
    have Q := Aside0.mk q_course
    obtain rfl := Option.some.inj h
    clear h
    have q1 : (a1 != 0) = true := by simpa using q_course
    clear q_course
    go_enter Tryd.func45, Tryd.ntmps45
    go_wp2_with (first | (go_at_call 35; refine (rules_within.calls _ _ _ true _ (by rfl)).mono ?_; rintro e w' ⟨rfl, nw, rfl⟩))
    go_ret
    exact ⟨rfl, (by repeat (first | (with_reducible first | exact HB.out | apply below_alloc | apply pw_below_drewN | apply below_drew1) | exact HB.out))⟩
  subst q_course
  by_cases q_d : a4 = 0
  rotate_left
  · rw [if_neg (by simp [q_d])] at h
    have Q := Aside0.mk q_d
    obtain rfl := Option.some.inj h
    clear h
    have q1 : (a4 != 0) = true := by simpa using q_d
    clear q_d
    go_enter Tryd.func45, Tryd.ntmps45
    go_wp2_with (first | (go_at_call 35; refine (rules_within.calls _ _ _ true _ (by rfl)).mono ?_; rintro e w' ⟨rfl, nw, rfl⟩))
    go_ret
    exact ⟨rfl, (by repeat (first | (with_reducible first | exact HB.out | apply below_alloc | apply pw_below_drewN | apply below_drew1) | exact HB.out))⟩
  subst q_d
  rw [if_pos (by simp)] at h
  have HH := Aside0.mk h
  clear h
  go_enter Tryd.func45, Tryd.ntmps45
  go_wp2_with (first | (go_at_call 35; refine (rules_within.calls _ _ _ true _ (by rfl)).mono ?_; rintro e w' ⟨rfl, nw, rfl⟩) | (go_at_call 123; refine (rules_kinds_5.calls 3 0 a2 a3 0 _ _ l _ _ (by (with_reducible repeat (first | refine Kd.C_alloc ?_ _ | refine Kd.C_drewN ?_ _)); exact HC.out) hc HH.out).mono ?_; rintro e w' ⟨rfl, hb⟩))
  go_ret
  exact ⟨rfl, below_then (by repeat (first | (with_reducible first | exact HB.out | apply below_alloc | apply pw_below_drewN | apply below_drew1) | exact HB.out)) (below_size (by repeat (first | (with_reducible first | exact HB.out | apply below_alloc | apply pw_below_drewN | apply below_drew1) | exact HB.out))) hb⟩
def formed_4 (a1 : Int) (a2 : ByteArray) (a3 a4 : Int) (l : List S24) : Option Bool := if a1 = 0 ∧ a3 = 0 ∧ a4 = 0 then rules_kinds_7.f 4 a1 a2 a3 a4 l else some false
set_option maxHeartbeats 8000000 in
set_option maxRecDepth 100000 in
theorem formed_4_calls (a1 : Int) (a2 : ByteArray) (a3 a4 : Int) (A : Option Addr) (c : Nat) (l : List S24) (r : Bool) (w : World) (hC : Kd.C k24 w A l.length l) (hc : l.length ≤ c) (hK : KindsAt w) (h : formed_4 a1 a2 a3 a4 l = some r) :
    Calls Tryd.prog 45 #[.agg #[.int .i64 4, .int .i64 a1, .string a2, .int .i64 a3, .int .i64 a4, .slice A l.length c]] w fun e w' => e = .returned (.bool r) ∧ Below w.heap.size w w' := by
  have hu24 := Tryd.underlying24
  have hu80 := Tryd.underlying80
  have hu81 := Tryd.underlying81
  have t0 := hK.at_ 24 _ rfl
  have t1 := hK.at_ 25 _ rfl
  have t2 := hK.at_ 26 _ rfl
  have t3 := hK.at_ 27 _ rfl
  have t4 := hK.at_ 28 _ rfl
  have t5 := hK.at_ 29 _ rfl
  have HC := Aside0.mk hC
  have HK := Aside0.mk hK
  have hm : l.length ≤ 9223372036854775807 := hC.2.1
  clear hC hK
  have HB := Aside0.mk (Below.refl w.heap.size w)
  have hlw := HK.out.lt
  unfold formed_4 at h
  by_cases q_course : a1 = 0
  rotate_left
  · rw [if_neg (by simp [q_course])] at h
    have Q := Aside0.mk q_course
    obtain rfl := Option.some.inj h
    clear h
    have q1 : (a1 != 0) = true := by simpa using q_course
    clear q_course
    go_enter Tryd.func45, Tryd.ntmps45
    go_wp2_with (first | (go_at_call 35; refine (rules_within.calls _ _ _ true _ (by rfl)).mono ?_; rintro e w' ⟨rfl, nw, rfl⟩))
    go_ret
    exact ⟨rfl, (by repeat (first | (with_reducible first | exact HB.out | apply below_alloc | apply pw_below_drewN | apply below_drew1) | exact HB.out))⟩
  subst q_course
  by_cases q_n : a3 = 0
  rotate_left
  · rw [if_neg (by simp [q_n])] at h
    have Q := Aside0.mk q_n
    obtain rfl := Option.some.inj h
    clear h
    have q1 : (a3 != 0) = true := by simpa using q_n
    clear q_n
    go_enter Tryd.func45, Tryd.ntmps45
    go_wp2_with (first | (go_at_call 35; refine (rules_within.calls _ _ _ true _ (by rfl)).mono ?_; rintro e w' ⟨rfl, nw, rfl⟩))
    go_ret
    exact ⟨rfl, (by repeat (first | (with_reducible first | exact HB.out | apply below_alloc | apply pw_below_drewN | apply below_drew1) | exact HB.out))⟩
  subst q_n
  by_cases q_d : a4 = 0
  rotate_left
  · rw [if_neg (by simp [q_d])] at h
    have Q := Aside0.mk q_d
    obtain rfl := Option.some.inj h
    clear h
    have q1 : (a4 != 0) = true := by simpa using q_d
    clear q_d
    go_enter Tryd.func45, Tryd.ntmps45
    go_wp2_with (first | (go_at_call 35; refine (rules_within.calls _ _ _ true _ (by rfl)).mono ?_; rintro e w' ⟨rfl, nw, rfl⟩))
    go_ret
    exact ⟨rfl, (by repeat (first | (with_reducible first | exact HB.out | apply below_alloc | apply pw_below_drewN | apply below_drew1) | exact HB.out))⟩
  subst q_d
  rw [if_pos (by simp)] at h
  have HH := Aside0.mk h
  clear h
  go_enter Tryd.func45, Tryd.ntmps45
  go_wp2_with (first | (go_at_call 35; refine (rules_within.calls _ _ _ true _ (by rfl)).mono ?_; rintro e w' ⟨rfl, nw, rfl⟩) | (go_at_call 125; refine (rules_kinds_7.calls 4 0 a2 0 0 _ _ l _ _ (by (with_reducible repeat (first | refine Kd.C_alloc ?_ _ | refine Kd.C_drewN ?_ _)); exact HC.out) hc HH.out).mono ?_; rintro e w' ⟨rfl, hb⟩))
  go_ret
  exact ⟨rfl, below_then (by repeat (first | (with_reducible first | exact HB.out | apply below_alloc | apply pw_below_drewN | apply below_drew1) | exact HB.out)) (below_size (by repeat (first | (with_reducible first | exact HB.out | apply below_alloc | apply pw_below_drewN | apply below_drew1) | exact HB.out))) hb⟩
def formed_5 (a1 : Int) (a2 : ByteArray) (a3 a4 : Int) (l : List S24) : Option Bool := if a4 = 0 ∧ l.length = 0 then rules_kinds_9.f 5 a1 a2 a3 a4 l else some false
set_option maxHeartbeats 8000000 in
set_option maxRecDepth 100000 in
theorem formed_5_calls (a1 : Int) (a2 : ByteArray) (a3 a4 : Int) (A : Option Addr) (c : Nat) (l : List S24) (r : Bool) (w : World) (hC : Kd.C k24 w A l.length l) (hc : l.length ≤ c) (hK : KindsAt w) (h : formed_5 a1 a2 a3 a4 l = some r) :
    Calls Tryd.prog 45 #[.agg #[.int .i64 5, .int .i64 a1, .string a2, .int .i64 a3, .int .i64 a4, .slice A l.length c]] w fun e w' => e = .returned (.bool r) ∧ Below w.heap.size w w' := by
  have hu24 := Tryd.underlying24
  have hu80 := Tryd.underlying80
  have hu81 := Tryd.underlying81
  have t0 := hK.at_ 30 _ rfl
  have t1 := hK.at_ 31 _ rfl
  have t2 := hK.at_ 32 _ rfl
  have t3 := hK.at_ 33 _ rfl
  have t4 := hK.at_ 34 _ rfl
  have t5 := hK.at_ 35 _ rfl
  have HC := Aside0.mk hC
  have HK := Aside0.mk hK
  have hm : l.length ≤ 9223372036854775807 := hC.2.1
  clear hC hK
  have HB := Aside0.mk (Below.refl w.heap.size w)
  have hlw := HK.out.lt
  unfold formed_5 at h
  by_cases q_d : a4 = 0
  rotate_left
  · rw [if_neg (by simp [q_d])] at h
    have Q := Aside0.mk q_d
    obtain rfl := Option.some.inj h
    clear h
    have q1 : (a4 != 0) = true := by simpa using q_d
    clear q_d
    go_enter Tryd.func45, Tryd.ntmps45
    go_wp2_with (first | (go_at_call 35; refine (rules_within.calls _ _ _ true _ (by rfl)).mono ?_; rintro e w' ⟨rfl, nw, rfl⟩))
    go_ret
    exact ⟨rfl, (by repeat (first | (with_reducible first | exact HB.out | apply below_alloc | apply pw_below_drewN | apply below_drew1) | exact HB.out))⟩
  subst q_d
  by_cases q_kids : l.length = 0
  rotate_left
  · rw [if_neg (by simp [q_kids])] at h
    have Q := Aside0.mk q_kids
    obtain rfl := Option.some.inj h
    clear h
    have q1 : 0 < l.length := by omega
    have q2 : decide ((l.length : Int) > 0) = true := decide_eq_true (by omega)
    clear q_kids
    go_enter Tryd.func45, Tryd.ntmps45
    go_wp2_with (first | (go_at_call 35; refine (rules_within.calls _ _ _ true _ (by rfl)).mono ?_; rintro e w' ⟨rfl, nw, rfl⟩))
    go_ret
    exact ⟨rfl, (by repeat (first | (with_reducible first | exact HB.out | apply below_alloc | apply pw_below_drewN | apply below_drew1) | exact HB.out))⟩
  have f_kids : decide ((l.length : Int) > 0) = false := decide_eq_false (by omega)
  have f_kids2 : decide (0 < l.length) = false := decide_eq_false (by omega)
  rw [if_pos (by simp [q_kids])] at h
  clear q_kids
  have HH := Aside0.mk h
  clear h
  go_enter Tryd.func45, Tryd.ntmps45
  go_wp2_with (first | (go_at_call 35; refine (rules_within.calls _ _ _ true _ (by rfl)).mono ?_; rintro e w' ⟨rfl, nw, rfl⟩) | (go_at_call 127; refine (rules_kinds_9.calls 5 a1 a2 a3 0 _ _ l _ _ (by (with_reducible repeat (first | refine Kd.C_alloc ?_ _ | refine Kd.C_drewN ?_ _)); exact HC.out) hc HH.out).mono ?_; rintro e w' ⟨rfl, hb⟩))
  go_ret
  exact ⟨rfl, below_then (by repeat (first | (with_reducible first | exact HB.out | apply below_alloc | apply pw_below_drewN | apply below_drew1) | exact HB.out)) (below_size (by repeat (first | (with_reducible first | exact HB.out | apply below_alloc | apply pw_below_drewN | apply below_drew1) | exact HB.out))) hb⟩
def formed_6 (a1 : Int) (a2 : ByteArray) (a3 a4 : Int) (l : List S24) : Option Bool := if a4 = 0 ∧ l.length = 0 then rules_kinds_11.f 6 a1 a2 a3 a4 l else some false
set_option maxHeartbeats 8000000 in
set_option maxRecDepth 100000 in
theorem formed_6_calls (a1 : Int) (a2 : ByteArray) (a3 a4 : Int) (A : Option Addr) (c : Nat) (l : List S24) (r : Bool) (w : World) (hC : Kd.C k24 w A l.length l) (hc : l.length ≤ c) (hK : KindsAt w) (h : formed_6 a1 a2 a3 a4 l = some r) :
    Calls Tryd.prog 45 #[.agg #[.int .i64 6, .int .i64 a1, .string a2, .int .i64 a3, .int .i64 a4, .slice A l.length c]] w fun e w' => e = .returned (.bool r) ∧ Below w.heap.size w w' := by
  have hu24 := Tryd.underlying24
  have hu80 := Tryd.underlying80
  have hu81 := Tryd.underlying81
  have t0 := hK.at_ 36 _ rfl
  have t1 := hK.at_ 37 _ rfl
  have t2 := hK.at_ 38 _ rfl
  have t3 := hK.at_ 39 _ rfl
  have t4 := hK.at_ 40 _ rfl
  have t5 := hK.at_ 41 _ rfl
  have HC := Aside0.mk hC
  have HK := Aside0.mk hK
  have hm : l.length ≤ 9223372036854775807 := hC.2.1
  clear hC hK
  have HB := Aside0.mk (Below.refl w.heap.size w)
  have hlw := HK.out.lt
  unfold formed_6 at h
  by_cases q_d : a4 = 0
  rotate_left
  · rw [if_neg (by simp [q_d])] at h
    have Q := Aside0.mk q_d
    obtain rfl := Option.some.inj h
    clear h
    have q1 : (a4 != 0) = true := by simpa using q_d
    clear q_d
    go_enter Tryd.func45, Tryd.ntmps45
    go_wp2_with (first | (go_at_call 35; refine (rules_within.calls _ _ _ true _ (by rfl)).mono ?_; rintro e w' ⟨rfl, nw, rfl⟩))
    go_ret
    exact ⟨rfl, (by repeat (first | (with_reducible first | exact HB.out | apply below_alloc | apply pw_below_drewN | apply below_drew1) | exact HB.out))⟩
  subst q_d
  by_cases q_kids : l.length = 0
  rotate_left
  · rw [if_neg (by simp [q_kids])] at h
    have Q := Aside0.mk q_kids
    obtain rfl := Option.some.inj h
    clear h
    have q1 : 0 < l.length := by omega
    have q2 : decide ((l.length : Int) > 0) = true := decide_eq_true (by omega)
    clear q_kids
    go_enter Tryd.func45, Tryd.ntmps45
    go_wp2_with (first | (go_at_call 35; refine (rules_within.calls _ _ _ true _ (by rfl)).mono ?_; rintro e w' ⟨rfl, nw, rfl⟩))
    go_ret
    exact ⟨rfl, (by repeat (first | (with_reducible first | exact HB.out | apply below_alloc | apply pw_below_drewN | apply below_drew1) | exact HB.out))⟩
  have f_kids : decide ((l.length : Int) > 0) = false := decide_eq_false (by omega)
  have f_kids2 : decide (0 < l.length) = false := decide_eq_false (by omega)
  rw [if_pos (by simp [q_kids])] at h
  clear q_kids
  have HH := Aside0.mk h
  clear h
  go_enter Tryd.func45, Tryd.ntmps45
  go_wp2_with (first | (go_at_call 35; refine (rules_within.calls _ _ _ true _ (by rfl)).mono ?_; rintro e w' ⟨rfl, nw, rfl⟩) | (go_at_call 131; refine (rules_kinds_11.calls 6 a1 a2 a3 0 _ _ l _ _ (by (with_reducible repeat (first | refine Kd.C_alloc ?_ _ | refine Kd.C_drewN ?_ _)); exact HC.out) hc HH.out).mono ?_; rintro e w' ⟨rfl, hb⟩))
  go_ret
  exact ⟨rfl, below_then (by repeat (first | (with_reducible first | exact HB.out | apply below_alloc | apply pw_below_drewN | apply below_drew1) | exact HB.out)) (below_size (by repeat (first | (with_reducible first | exact HB.out | apply below_alloc | apply pw_below_drewN | apply below_drew1) | exact HB.out))) hb⟩
def formed_7 (a1 : Int) (a2 : ByteArray) (a3 a4 : Int) (l : List S24) : Option Bool := if a1 = 0 ∧ a4 = 0 ∧ l.length = 0 then rules_kinds_13.f 7 a1 a2 a3 a4 l else some false
set_option maxHeartbeats 8000000 in
set_option maxRecDepth 100000 in
theorem formed_7_calls (a1 : Int) (a2 : ByteArray) (a3 a4 : Int) (A : Option Addr) (c : Nat) (l : List S24) (r : Bool) (w : World) (hC : Kd.C k24 w A l.length l) (hc : l.length ≤ c) (hK : KindsAt w) (h : formed_7 a1 a2 a3 a4 l = some r) :
    Calls Tryd.prog 45 #[.agg #[.int .i64 7, .int .i64 a1, .string a2, .int .i64 a3, .int .i64 a4, .slice A l.length c]] w fun e w' => e = .returned (.bool r) ∧ Below w.heap.size w w' := by
  have hu24 := Tryd.underlying24
  have hu80 := Tryd.underlying80
  have hu81 := Tryd.underlying81
  have t0 := hK.at_ 42 _ rfl
  have t1 := hK.at_ 43 _ rfl
  have t2 := hK.at_ 44 _ rfl
  have t3 := hK.at_ 45 _ rfl
  have t4 := hK.at_ 46 _ rfl
  have t5 := hK.at_ 47 _ rfl
  have HC := Aside0.mk hC
  have HK := Aside0.mk hK
  have hm : l.length ≤ 9223372036854775807 := hC.2.1
  clear hC hK
  have HB := Aside0.mk (Below.refl w.heap.size w)
  have hlw := HK.out.lt
  unfold formed_7 at h
  by_cases q_course : a1 = 0
  rotate_left
  · rw [if_neg (by simp [q_course])] at h
    have Q := Aside0.mk q_course
    obtain rfl := Option.some.inj h
    clear h
    have q1 : (a1 != 0) = true := by simpa using q_course
    clear q_course
    go_enter Tryd.func45, Tryd.ntmps45
    go_wp2_with (first | (go_at_call 35; refine (rules_within.calls _ _ _ true _ (by rfl)).mono ?_; rintro e w' ⟨rfl, nw, rfl⟩))
    go_ret
    exact ⟨rfl, (by repeat (first | (with_reducible first | exact HB.out | apply below_alloc | apply pw_below_drewN | apply below_drew1) | exact HB.out))⟩
  subst q_course
  by_cases q_d : a4 = 0
  rotate_left
  · rw [if_neg (by simp [q_d])] at h
    have Q := Aside0.mk q_d
    obtain rfl := Option.some.inj h
    clear h
    have q1 : (a4 != 0) = true := by simpa using q_d
    clear q_d
    go_enter Tryd.func45, Tryd.ntmps45
    go_wp2_with (first | (go_at_call 35; refine (rules_within.calls _ _ _ true _ (by rfl)).mono ?_; rintro e w' ⟨rfl, nw, rfl⟩))
    go_ret
    exact ⟨rfl, (by repeat (first | (with_reducible first | exact HB.out | apply below_alloc | apply pw_below_drewN | apply below_drew1) | exact HB.out))⟩
  subst q_d
  by_cases q_kids : l.length = 0
  rotate_left
  · rw [if_neg (by simp [q_kids])] at h
    have Q := Aside0.mk q_kids
    obtain rfl := Option.some.inj h
    clear h
    have q1 : 0 < l.length := by omega
    have q2 : decide ((l.length : Int) > 0) = true := decide_eq_true (by omega)
    clear q_kids
    go_enter Tryd.func45, Tryd.ntmps45
    go_wp2_with (first | (go_at_call 35; refine (rules_within.calls _ _ _ true _ (by rfl)).mono ?_; rintro e w' ⟨rfl, nw, rfl⟩))
    go_ret
    exact ⟨rfl, (by repeat (first | (with_reducible first | exact HB.out | apply below_alloc | apply pw_below_drewN | apply below_drew1) | exact HB.out))⟩
  have f_kids : decide ((l.length : Int) > 0) = false := decide_eq_false (by omega)
  have f_kids2 : decide (0 < l.length) = false := decide_eq_false (by omega)
  rw [if_pos (by simp [q_kids])] at h
  clear q_kids
  have HH := Aside0.mk h
  clear h
  go_enter Tryd.func45, Tryd.ntmps45
  go_wp2_with (first | (go_at_call 35; refine (rules_within.calls _ _ _ true _ (by rfl)).mono ?_; rintro e w' ⟨rfl, nw, rfl⟩) | (go_at_call 133; refine (rules_kinds_13.calls 7 0 a2 a3 0 _ _ l _ _ (by (with_reducible repeat (first | refine Kd.C_alloc ?_ _ | refine Kd.C_drewN ?_ _)); exact HC.out) hc HH.out).mono ?_; rintro e w' ⟨rfl, hb⟩))
  go_ret
  exact ⟨rfl, below_then (by repeat (first | (with_reducible first | exact HB.out | apply below_alloc | apply pw_below_drewN | apply below_drew1) | exact HB.out)) (below_size (by repeat (first | (with_reducible first | exact HB.out | apply below_alloc | apply pw_below_drewN | apply below_drew1) | exact HB.out))) hb⟩
def formed_8 (a1 : Int) (a2 : ByteArray) (a3 a4 : Int) (l : List S24) : Option Bool := if a1 = 0 ∧ l.length = 0 then rules_kinds_15.f 8 a1 a2 a3 a4 l else some false
set_option maxHeartbeats 8000000 in
set_option maxRecDepth 100000 in
theorem formed_8_calls (a1 : Int) (a2 : ByteArray) (a3 a4 : Int) (A : Option Addr) (c : Nat) (l : List S24) (r : Bool) (w : World) (hC : Kd.C k24 w A l.length l) (hc : l.length ≤ c) (hK : KindsAt w) (h : formed_8 a1 a2 a3 a4 l = some r) :
    Calls Tryd.prog 45 #[.agg #[.int .i64 8, .int .i64 a1, .string a2, .int .i64 a3, .int .i64 a4, .slice A l.length c]] w fun e w' => e = .returned (.bool r) ∧ Below w.heap.size w w' := by
  have hu24 := Tryd.underlying24
  have hu80 := Tryd.underlying80
  have hu81 := Tryd.underlying81
  have t0 := hK.at_ 48 _ rfl
  have t1 := hK.at_ 49 _ rfl
  have t2 := hK.at_ 50 _ rfl
  have t3 := hK.at_ 51 _ rfl
  have t4 := hK.at_ 52 _ rfl
  have t5 := hK.at_ 53 _ rfl
  have HC := Aside0.mk hC
  have HK := Aside0.mk hK
  have hm : l.length ≤ 9223372036854775807 := hC.2.1
  clear hC hK
  have HB := Aside0.mk (Below.refl w.heap.size w)
  have hlw := HK.out.lt
  unfold formed_8 at h
  by_cases q_course : a1 = 0
  rotate_left
  · rw [if_neg (by simp [q_course])] at h
    have Q := Aside0.mk q_course
    obtain rfl := Option.some.inj h
    clear h
    have q1 : (a1 != 0) = true := by simpa using q_course
    clear q_course
    go_enter Tryd.func45, Tryd.ntmps45
    go_wp2_with (first | (go_at_call 35; refine (rules_within.calls _ _ _ true _ (by rfl)).mono ?_; rintro e w' ⟨rfl, nw, rfl⟩))
    go_ret
    exact ⟨rfl, (by repeat (first | (with_reducible first | exact HB.out | apply below_alloc | apply pw_below_drewN | apply below_drew1) | exact HB.out))⟩
  subst q_course
  by_cases q_kids : l.length = 0
  rotate_left
  · rw [if_neg (by simp [q_kids])] at h
    have Q := Aside0.mk q_kids
    obtain rfl := Option.some.inj h
    clear h
    have q1 : 0 < l.length := by omega
    have q2 : decide ((l.length : Int) > 0) = true := decide_eq_true (by omega)
    clear q_kids
    go_enter Tryd.func45, Tryd.ntmps45
    go_wp2_with (first | (go_at_call 35; refine (rules_within.calls _ _ _ true _ (by rfl)).mono ?_; rintro e w' ⟨rfl, nw, rfl⟩))
    go_ret
    exact ⟨rfl, (by repeat (first | (with_reducible first | exact HB.out | apply below_alloc | apply pw_below_drewN | apply below_drew1) | exact HB.out))⟩
  have f_kids : decide ((l.length : Int) > 0) = false := decide_eq_false (by omega)
  have f_kids2 : decide (0 < l.length) = false := decide_eq_false (by omega)
  rw [if_pos (by simp [q_kids])] at h
  clear q_kids
  have HH := Aside0.mk h
  clear h
  go_enter Tryd.func45, Tryd.ntmps45
  go_wp2_with (first | (go_at_call 35; refine (rules_within.calls _ _ _ true _ (by rfl)).mono ?_; rintro e w' ⟨rfl, nw, rfl⟩) | (go_at_call 135; refine (rules_kinds_15.calls 8 0 a2 a3 a4 _ _ l _ _ (by (with_reducible repeat (first | refine Kd.C_alloc ?_ _ | refine Kd.C_drewN ?_ _)); exact HC.out) hc HH.out).mono ?_; rintro e w' ⟨rfl, hb⟩))
  go_ret
  exact ⟨rfl, below_then (by repeat (first | (with_reducible first | exact HB.out | apply below_alloc | apply pw_below_drewN | apply below_drew1) | exact HB.out)) (below_size (by repeat (first | (with_reducible first | exact HB.out | apply below_alloc | apply pw_below_drewN | apply below_drew1) | exact HB.out))) hb⟩
def formed_9 (a1 : Int) (a2 : ByteArray) (a3 a4 : Int) (l : List S24) : Option Bool := if a3 = 0 ∧ a4 = 0 ∧ l.length = 0 then rules_course.f 9 a1 a2 a3 a4 l else some false
set_option maxHeartbeats 8000000 in
set_option maxRecDepth 100000 in
theorem formed_9_calls (a1 : Int) (a2 : ByteArray) (a3 a4 : Int) (A : Option Addr) (c : Nat) (l : List S24) (r : Bool) (w : World) (hC : Kd.C k24 w A l.length l) (hc : l.length ≤ c) (hK : KindsAt w) (h : formed_9 a1 a2 a3 a4 l = some r) :
    Calls Tryd.prog 45 #[.agg #[.int .i64 9, .int .i64 a1, .string a2, .int .i64 a3, .int .i64 a4, .slice A l.length c]] w fun e w' => e = .returned (.bool r) ∧ Below w.heap.size w w' := by
  have hu24 := Tryd.underlying24
  have hu80 := Tryd.underlying80
  have hu81 := Tryd.underlying81
  have t0 := hK.at_ 54 _ rfl
  have t1 := hK.at_ 55 _ rfl
  have t2 := hK.at_ 56 _ rfl
  have t3 := hK.at_ 57 _ rfl
  have t4 := hK.at_ 58 _ rfl
  have t5 := hK.at_ 59 _ rfl
  have HC := Aside0.mk hC
  have HK := Aside0.mk hK
  have hm : l.length ≤ 9223372036854775807 := hC.2.1
  clear hC hK
  have HB := Aside0.mk (Below.refl w.heap.size w)
  have hlw := HK.out.lt
  unfold formed_9 at h
  by_cases q_n : a3 = 0
  rotate_left
  · rw [if_neg (by simp [q_n])] at h
    have Q := Aside0.mk q_n
    obtain rfl := Option.some.inj h
    clear h
    have q1 : (a3 != 0) = true := by simpa using q_n
    clear q_n
    go_enter Tryd.func45, Tryd.ntmps45
    go_wp2_with (first | (go_at_call 35; refine (rules_within.calls _ _ _ true _ (by rfl)).mono ?_; rintro e w' ⟨rfl, nw, rfl⟩))
    go_ret
    exact ⟨rfl, (by repeat (first | (with_reducible first | exact HB.out | apply below_alloc | apply pw_below_drewN | apply below_drew1) | exact HB.out))⟩
  subst q_n
  by_cases q_d : a4 = 0
  rotate_left
  · rw [if_neg (by simp [q_d])] at h
    have Q := Aside0.mk q_d
    obtain rfl := Option.some.inj h
    clear h
    have q1 : (a4 != 0) = true := by simpa using q_d
    clear q_d
    go_enter Tryd.func45, Tryd.ntmps45
    go_wp2_with (first | (go_at_call 35; refine (rules_within.calls _ _ _ true _ (by rfl)).mono ?_; rintro e w' ⟨rfl, nw, rfl⟩))
    go_ret
    exact ⟨rfl, (by repeat (first | (with_reducible first | exact HB.out | apply below_alloc | apply pw_below_drewN | apply below_drew1) | exact HB.out))⟩
  subst q_d
  by_cases q_kids : l.length = 0
  rotate_left
  · rw [if_neg (by simp [q_kids])] at h
    have Q := Aside0.mk q_kids
    obtain rfl := Option.some.inj h
    clear h
    have q1 : 0 < l.length := by omega
    have q2 : decide ((l.length : Int) > 0) = true := decide_eq_true (by omega)
    clear q_kids
    go_enter Tryd.func45, Tryd.ntmps45
    go_wp2_with (first | (go_at_call 35; refine (rules_within.calls _ _ _ true _ (by rfl)).mono ?_; rintro e w' ⟨rfl, nw, rfl⟩))
    go_ret
    exact ⟨rfl, (by repeat (first | (with_reducible first | exact HB.out | apply below_alloc | apply pw_below_drewN | apply below_drew1) | exact HB.out))⟩
  have f_kids : decide ((l.length : Int) > 0) = false := decide_eq_false (by omega)
  have f_kids2 : decide (0 < l.length) = false := decide_eq_false (by omega)
  rw [if_pos (by simp [q_kids])] at h
  clear q_kids
  have HH := Aside0.mk h
  clear h
  go_enter Tryd.func45, Tryd.ntmps45
  go_wp2_with (first | (go_at_call 35; refine (rules_within.calls _ _ _ true _ (by rfl)).mono ?_; rintro e w' ⟨rfl, nw, rfl⟩) | (go_at_call 128; refine (rules_course.calls 9 a1 a2 0 0 _ _ l _ _ (by (with_reducible repeat (first | refine Kd.C_alloc ?_ _ | refine Kd.C_drewN ?_ _)); exact HC.out) hc HH.out).mono ?_; rintro e w' ⟨rfl, hb⟩))
  go_ret
  exact ⟨rfl, below_then (by repeat (first | (with_reducible first | exact HB.out | apply below_alloc | apply pw_below_drewN | apply below_drew1) | exact HB.out)) (below_size (by repeat (first | (with_reducible first | exact HB.out | apply below_alloc | apply pw_below_drewN | apply below_drew1) | exact HB.out))) hb⟩
def rules_formed.f (a0 a1 : Int) (a2 : ByteArray) (a3 a4 : Int) (l : List S24) : Option Bool :=
  if a0 = 1 then formed_1 a1 a2 a3 a4 l else if a0 = 2 then formed_2 a1 a2 a3 a4 l else if a0 = 3 then formed_3 a1 a2 a3 a4 l else if a0 = 4 then formed_4 a1 a2 a3 a4 l else if a0 = 5 then formed_5 a1 a2 a3 a4 l else if a0 = 6 then formed_6 a1 a2 a3 a4 l else if a0 = 7 then formed_7 a1 a2 a3 a4 l else if a0 = 8 then formed_8 a1 a2 a3 a4 l else if a0 = 9 then formed_9 a1 a2 a3 a4 l else some false
set_option maxHeartbeats 8000000 in
theorem rules_formed.calls (a0 a1 : Int) (a2 : ByteArray) (a3 a4 : Int) (A : Option Addr) (c : Nat) (l : List S24) (r : Bool) (w : World) (hC : Kd.C k24 w A l.length l) (hc : l.length ≤ c) (hK : KindsAt w) (h : rules_formed.f a0 a1 a2 a3 a4 l = some r) :
    Calls Tryd.prog 45 #[.agg #[.int .i64 a0, .int .i64 a1, .string a2, .int .i64 a3, .int .i64 a4, .slice A l.length c]] w fun e w' => e = .returned (.bool r) ∧ Below w.heap.size w w' := by
  unfold rules_formed.f at h
  by_cases h1 : a0 = 1
  · rw [if_pos h1] at h
    subst h1
    exact formed_1_calls a1 a2 a3 a4 A c l r w hC hc hK h
  rw [if_neg h1] at h
  by_cases h2 : a0 = 2
  · rw [if_pos h2] at h
    subst h2
    exact formed_2_calls a1 a2 a3 a4 A c l r w hC hc hK h
  rw [if_neg h2] at h
  by_cases h3 : a0 = 3
  · rw [if_pos h3] at h
    subst h3
    exact formed_3_calls a1 a2 a3 a4 A c l r w hC hc hK h
  rw [if_neg h3] at h
  by_cases h4 : a0 = 4
  · rw [if_pos h4] at h
    subst h4
    exact formed_4_calls a1 a2 a3 a4 A c l r w hC hc hK h
  rw [if_neg h4] at h
  by_cases h5 : a0 = 5
  · rw [if_pos h5] at h
    subst h5
    exact formed_5_calls a1 a2 a3 a4 A c l r w hC hc hK h
  rw [if_neg h5] at h
  by_cases h6 : a0 = 6
  · rw [if_pos h6] at h
    subst h6
    exact formed_6_calls a1 a2 a3 a4 A c l r w hC hc hK h
  rw [if_neg h6] at h
  by_cases h7 : a0 = 7
  · rw [if_pos h7] at h
    subst h7
    exact formed_7_calls a1 a2 a3 a4 A c l r w hC hc hK h
  rw [if_neg h7] at h
  by_cases h8 : a0 = 8
  · rw [if_pos h8] at h
    subst h8
    exact formed_8_calls a1 a2 a3 a4 A c l r w hC hc hK h
  rw [if_neg h8] at h
  by_cases h9 : a0 = 9
  · rw [if_pos h9] at h
    subst h9
    exact formed_9_calls a1 a2 a3 a4 A c l r w hC hc hK h
  rw [if_neg h9] at h
  obtain rfl := Option.some.inj h
  have hw : rules_within.f a0 1 9 = some false := by
    unfold rules_within.f
    by_cases g : a0 ≥ 1
    · rw [if_pos g, decide_eq_false (by omega)]
    · rw [if_neg g]
  have HW := Aside0.mk hw
  have HB := Aside0.mk (Below.refl w.heap.size w)
  have hu24 := Tryd.underlying24
  clear h hC hc hw h1 h2 h3 h4 h5 h6 h7 h8 h9
  go_enter Tryd.func45, Tryd.ntmps45
  go_wp2_with (first | (go_at_call 35; refine (rules_within.calls _ _ _ false _ HW.out).mono ?_; rintro e w' ⟨rfl, nw, rfl⟩))
  go_ret
  exact ⟨rfl, (by repeat (first | (with_reducible first | exact HB.out | apply below_alloc | apply pw_below_drewN | apply below_drew1) | exact HB.out))⟩
end Go.Proofs.YtabocfninjankaaDoor.P
namespace Go.Proofs.YtabocfninjankaaDoor.P
open Go.RowKit Go.Shelf Go.Proofs.YtabocfninjankaaDoorW.PrintWords Go.Proofs.YtabocfninjankaaDoorW.PrintLast Go.Proofs.YtabocfninjankaaDoorW.PrintMore
attribute [local go_sem] Oper.semAt_some
set_option linter.unusedVariables false
set_option linter.unusedSimpArgs false
/-- Has a part the right fields? -/
def formedB (r : S24) : Bool := (rules_formed.f r.f0 r.f1 r.f2 r.f3 r.f4 r.f5).getD false
theorem within_some (a b c : Int) : ∃ r, rules_within.f a b c = some r := by unfold rules_within.f; split <;> exact ⟨_, rfl⟩
theorem bind_total {α β : Type} {x : Option α} {f : α → Option β} (hx : ∃ a, x = some a) (hf : ∀ a, ∃ b, f a = some b) : ∃ b, x.bind f = some b := by
  obtain ⟨a, rfl⟩ := hx
  exact hf a
theorem if_total {β : Type} {p : Prop} [Decidable p] {x y : Option β} (hx : ∃ b, x = some b) (hy : ∃ b, y = some b) : ∃ b, (if p then x else y) = some b := by split <;> assumption
theorem check_some (a b : Int) : ∃ r, ratio_Check.f a b = some r := by
  unfold ratio_Check.f ratio_common.f
  repeat' first | exact ⟨_, rfl⟩ | apply if_total | (apply bind_total (x := some _) ⟨_, rfl⟩; intro _)
theorem mean_some (a b : Int) : ∃ r, rules_mean.f a b = some r := by
  unfold rules_mean.f
  refine bind_total (check_some a b) fun _ => ?_
  repeat' first | exact ⟨_, rfl⟩ | apply if_total
theorem course_some (a b : Int) (s : ByteArray) (c d : Int) (l : List S24) : ∃ r, rules_course.f a b s c d l = some r := by
  unfold rules_course.f
  exact bind_total (within_some _ _ _) fun _ => ⟨_, rfl⟩
theorem formed_some (r : S24) : rules_formed.f r.f0 r.f1 r.f2 r.f3 r.f4 r.f5 = some (formedB r) := by
  have h : ∃ b, rules_formed.f r.f0 r.f1 r.f2 r.f3 r.f4 r.f5 = some b := by
    unfold rules_formed.f formed_1 formed_2 formed_3 formed_4 formed_5 formed_6 formed_7 formed_8 formed_9 rules_kinds_1.f rules_kinds_3.f rules_kinds_5.f rules_kinds_7.f rules_kinds_9.f rules_kinds_11.f rules_kinds_13.f rules_kinds_15.f
    repeat' first | exact ⟨_, rfl⟩ | apply if_total | exact course_some _ _ _ _ _ _ | exact mean_some _ _ | exact within_some _ _ _ | (refine bind_total (within_some _ _ _) fun _ => ?_) | (refine bind_total (mean_some _ _) fun _ => ?_) | (refine bind_total (course_some _ _ _ _ _ _) fun _ => ?_)
  obtain ⟨b, hb⟩ := h
  unfold formedB
  rw [hb]
  rfl
/-- Parts, the first of which is the i-th, are few, not deep, and have the right fields. -/
def chk : Nat → List (Int × S24) → Bool
  | _, [] => true
  | i, (d, p) :: xs => if 200 < i + 1 then false else if 16 < d then false else if formedB p = true then chk (i + 1) xs else false
def chkR (r : S24) : Bool := chk 0 (preR 1 r)
def rules_Check.f (a0 a1 : Int) (a2 : ByteArray) (a3 a4 : Int) (l : List S24) : Option Int := some (if chkR ⟨a0, a1, a2, a3, a4, l⟩ = true then 0 else 120)
theorem new_blk (W : World) (o : Obj) {b : Nat} (hb : b = W.heap.size) : (W.alloc o).heap[b]? = some o := by subst hb; exact blk_new _ _
theorem KeptC.setCell {b0 : Nat} {X : Nat → Prop} {W : World} (p : Addr) (u : Value) (hb : b0 ≤ p.block) (hX : X p.block) : KeptC b0 X W (W.setCell p u) :=
  ⟨by simp, fun k hk => Below.heap_setCell W p u k (by omega), fun k cs t m hx hc => (Below.heap_setCell W p u k (fun e => hx (by rw [e]; exact hX))).trans hc⟩
theorem KeptC.of_below {b0 : Nat} {X : Nat → Prop} {W W' : World} (hb : Below W.heap.size W W') (hle : b0 ≤ W.heap.size) : KeptC b0 X W W' :=
  ⟨hb.size, fun k hk => hb.block k (by omega), fun k cs t m _ hc => (hb.block k (Array.getElem?_eq_some_iff.1 hc).1).trans hc⟩
theorem keepsFrom_below {B : Nat} {W W' : World} (hb : Below W.heap.size W W') : KeepsFrom B W W' := ⟨hb.size, fun k o _ hk _ => (hb.block k (Array.getElem?_eq_some_iff.1 hk).1).trans hk⟩
set_option maxHeartbeats 4000000 in
set_option maxRecDepth 100000 in
theorem check_in (r : S24) (A : Option Addr) (c : Nat) (w : World) (hC : Kd.C k24 w A r.f5.length r.f5) (hc : r.f5.length ≤ c) (hK : KindsAt w) :
    CallsIn Fence.wide 6 Tryd.prog 20 #[.agg #[.int .i64 r.f0, .int .i64 r.f1, .string r.f2, .int .i64 r.f3, .int .i64 r.f4, .slice A r.f5.length c]] w
      fun e w' => e = .returned (.int .i64 (if chkR r = true then 0 else 120)) ∧ Below w.heap.size w w' := by
  generalize hv : (if chkR r = true then (0 : Int) else 120) = v
  have HV := Aside0.mk hv
  clear hv
  have hu24 := Tryd.underlying24
  have HC := Aside0.mk hC
  have HK := Aside0.mk hK
  clear hC hK
  refine callsIn_of_wp_marks Tryd.func20 rfl trivial ?_ rfl
  simp only [Tryd.ntmps20, List.size_toArray, List.length_cons, List.length_nil, Nat.reduceAdd, Nat.reduceSub, Array.replicate_succ, Array.replicate_zero, List.push_toArray, List.append_toArray, List.nil_append, List.cons_append]
  have cP : ∀ W, CallsIn Fence.wide 5 Tryd.prog 34 #[.agg #[.int .i64 r.f0, .int .i64 r.f1, .string r.f2, .int .i64 r.f3, .int .i64 r.f4, .slice A r.f5.length c]] W fun e w' =>
      e = .returned (.func (.func 52) #[] #[.pointer (some ⟨W.heap.size + 1, 0, none⟩), .pointer (some ⟨W.heap.size, 0, none⟩)]) ∧
      w' = (W.alloc (.cells #[.int .i64 r.f0, .int .i64 r.f1, .string r.f2, .int .i64 r.f3, .int .i64 r.f4, .slice A r.f5.length c] 24)).alloc (.cells #[.func (.func 51) #[] #[.pointer (some ⟨W.heap.size + 1, 0, none⟩)]] 82) := fun W => callsIn_wide.2 (parts_calls r A c W)
  have CP := Aside0.mk cP
  clear cP
  have hfP : Fence.wide.fn 34 := trivial
  gi_wp2_with (gi_at_call 34; refine (CP.out _).mono ?_; rintro e w' ⟨rfl, rfl⟩)
  generalize hWn : World.alloc (World.alloc _ _) (Obj.cells #[.func (.func 51) #[] #[.pointer (some ⟨_, 0, none⟩)]] 82) = Wn
  have hz : Wn.heap.size = w.heap.size + 5 := by rw [← hWn]; simp
  have hBW : Below w.heap.size w Wn := by rw [← hWn]; exact ((((((Below.refl _ w).alloc (Nat.le_refl _) _).alloc (by simp) _).alloc (by simp; omega) _).alloc (by simp; omega) _).alloc (by simp; omega) _)
  have be : Wn.heap[w.heap.size + 1]? = some (.cells #[.int .i64 0] 32 (0, 0)) := by
    rw [← hWn]
    refine (Below.heap_alloc _ _ _ (by simp)).trans ((Below.heap_alloc _ _ _ (by simp)).trans ((Below.heap_alloc _ _ _ (by simp)).trans (new_blk _ _ (by simp))))
  have bn : Wn.heap[w.heap.size + 1 + 1]? = some (.cells #[.int .i64 0] 3 (0, 0)) := by
    rw [← hWn]
    refine (Below.heap_alloc _ _ _ (by simp)).trans ((Below.heap_alloc _ _ _ (by simp)).trans (new_blk _ _ (by simp)))
  have bR : Wn.heap[w.heap.size + 1 + 1 + 1]? = some (.cells #[.int .i64 r.f0, .int .i64 r.f1, .string r.f2, .int .i64 r.f3, .int .i64 r.f4, .slice A r.f5.length c] 24 (0, 0)) := by
    rw [← hWn]
    refine (Below.heap_alloc _ _ _ (by simp)).trans (new_blk _ _ (by simp))
  have bK : Wn.heap[w.heap.size + 1 + 1 + 1 + 1]? = some (.cells #[.func (.func 51) #[] #[.pointer (some ⟨w.heap.size + 1 + 1 + 1 + 1, 0, none⟩)]] 82 (0, 0)) := by
    rw [← hWn]
    exact new_blk _ _ (by simp)
  clear hWn
  refine wpIn_rangeFunc_ownH (α := PartW w) (F := Fence.wide) (n := 6) rfl (by omega) (gf := 52) (lb := #[.pointer (some ⟨w.heap.size + 1 + 1 + 1 + 1, 0, none⟩), .pointer (some ⟨w.heap.size + 1 + 1 + 1, 0, none⟩)]) rfl trivial (enters_of Tryd.func52 (by kernel_rfl) rfl)
    (parts_stops w (fun k => k = w.heap.size + 1 ∨ k = w.heap.size + 1 + 1) Fence.wide rfl trivial trivial rfl 5 _ _ r A c Wn hc HC.out hBW (fun k hk => by omega) (by omega) bK bR)
    (fun h k => KeptC.trans h k) (fun W l o o' hl hlo ho _ => KeptC.putObj o' (by omega) hlo ho) (Below.refl _ _) (fun _ => rfl)
    (fun pre W => W.heap[w.heap.size + 1]? = some (.cells #[.int .i64 0] 32 (0, 0)) ∧ W.heap[w.heap.size + 1 + 1]? = some (.cells #[.int .i64 (pre.length : Int)] 3 (0, 0)) ∧ Below w.heap.size w W ∧ Wn.heap.size ≤ W.heap.size ∧ Aside0 (pre.length ≤ 200 ∧ ∀ rest, chk 0 (pre.map PartQ.key ++ rest) = chk pre.length rest))
    (fun c pre W => c = .ret ∧ W.heap[w.heap.size + 1]? = some (.cells #[.int .i64 120] 32 (0, 0)) ∧ Below w.heap.size w W ∧ ∀ rest, chk 0 (pre.map PartQ.key ++ rest) = false)
    ?hI ?hIx ⟨be, bn, hBW, Nat.le_refl _, ⟨Nat.zero_le _, fun rest => rfl⟩⟩
    (fun x a' W => ∃ Bx, Wn.heap.size ≤ Bx ∧ W.heap[Bx]? = some (.cells #[.int .i64 x.r.f0, .int .i64 x.r.f1, .string x.r.f2, .int .i64 x.r.f3, .int .i64 x.r.f4, .slice x.A x.r.f5.length x.c] 24 (0, 0)) ∧ a' = { tmps := #[.agg #[.int .i64 r.f0, .int .i64 r.f1, .string r.f2, .int .i64 r.f3, .int .i64 r.f4, .slice A r.f5.length c], .pointer (some ⟨w.heap.size, 0, none⟩), .pointer (some ⟨w.heap.size + 1, 0, none⟩), .pointer (some ⟨w.heap.size + 1 + 1, 0, none⟩), .int .i64 x.d, .pointer (some ⟨Bx, 0, none⟩), .agg #[.int .i64 r.f0, .int .i64 r.f1, .string r.f2, .int .i64 r.f3, .int .i64 r.f4, .slice A r.f5.length c], .func (.func 52) #[] #[.pointer (some ⟨w.heap.size + 1 + 1 + 1 + 1, 0, none⟩), .pointer (some ⟨w.heap.size + 1 + 1 + 1, 0, none⟩)], .int .i64 x.d, x.cells, undef, undef, undef, undef, undef, undef, undef, undef, undef, undef, undef, undef, undef], defers := [] })
    ?hAx ?assign ?body ?done ?stop
  case hI =>
    rintro pre X Y row ⟨h1, h2, h3, h4, h5⟩ hg hr
    exact ⟨(hg.block _ (by omega) (fun e => by have := (hr _ e.symm).1; omega)).trans h1, (hg.block _ (by omega) (fun e => by have := (hr _ e.symm).1; omega)).trans h2, h3.grown hg h3.size (fun k e => by have := (hr k e).1; omega), Nat.le_trans h4 hg.size, h5⟩
  case hIx =>
    rintro c pre X Y row ⟨h0, h1, h3, h5⟩ hg hr
    exact ⟨h0, (hg.block _ (Array.getElem?_eq_some_iff.1 h1).1 (fun e => by have := (hr _ e.symm).1; omega)).trans h1, h3.grown hg h3.size (fun k e => by have := (hr k e).1; omega), h5⟩
  case hAx =>
    rintro x a' _ X Y row ⟨Bx, hb, hx, rfl⟩ hg hr
    refine ⟨Bx, hb, (hg.block Bx (Array.getElem?_eq_some_iff.1 hx).1 (fun e => ?_)).trans hx, rfl⟩
    obtain ⟨_, o, ho, hc⟩ := hr Bx e.symm
    rw [hx] at ho
    cases ho
    cases hc
  case assign =>
    rintro l pre x W K ⟨h1, h2, h3, h4, h5⟩ hK
    simp only [PartQ.cells]
    gi_wp2
    refine hK _ _ ((KeepsOthers.alloc _ _).from _) (KeptC.alloc (KeptC.refl _ _ _) (by omega) _) ⟨(Below.heap_alloc _ _ _ (by omega)).trans h1, (Below.heap_alloc _ _ _ (by omega)).trans h2, h3.alloc h3.size _, by simp; omega, h5⟩ ⟨W.heap.size, h4, blk_new _ _, rfl⟩
  case stop =>
    rintro D c pre W hD ⟨rest, hrest⟩ ⟨rfl, h1, h3, h5⟩ hK
    have HE : Aside0 (v = 120) := ⟨by rw [← HV.out, if_neg (by unfold chkR; rw [← hrest, h5 rest]; simp)]⟩
    have hz2 : (W.putObj D (.deferred none)).cell? ⟨w.heap.size + 1, 0, none⟩ = some (.int .i64 120) := (blk_cell ((World.putObj_heap_other (by omega)).trans h1) 0).trans rfl
    have hB := Aside0.mk (h3.grown (grownBy_putObj' W D (.deferred none)) h3.size (fun k e => by cases e; omega))
    clear h1 h5 hrest
    gi_wp2
    refine ⟨by simp, .inl ⟨_, _, rfl, run_takeDeferred hK, ?_⟩⟩
    refine ⟨.int .i64 120, by simp [results, Tryd.results20, go_sem, hz2], ?_, hB.out⟩
    rw [HE.out]
  case done =>
    rintro D ys W hD hys ⟨h1, h2, h3, h4, h5⟩ hK
    have HE : Aside0 (v = 0) := ⟨by
      have := h5.out.2 []
      rw [List.append_nil, hys] at this
      rw [← HV.out, if_pos (by unfold chkR; rw [this]; rfl)]⟩
    have hz0 := (blk_cell h1 0).trans rfl
    have hf0 := blk_frozen h1 0
    have HZ : Aside0 (((W.setCell ⟨w.heap.size + 1, 0, none⟩ (.int .i64 0)).putObj D (.deferred none)).cell? ⟨w.heap.size + 1, 0, none⟩ = some (.int .i64 0)) := ⟨by
      refine (blk_cell (cs := #[.int .i64 0]) (t := 32) ((World.putObj_heap_other (by omega)).trans ?_) 0).trans rfl
      refine blk_put (cs := #[.int .i64 0]) ?_ 0 _ rfl
      exact h1⟩
    have HD : Aside0 ((W.setCell ⟨w.heap.size + 1, 0, none⟩ (.int .i64 0)).heap[D]? = some (.deferred (some []))) := ⟨(Below.heap_setCell _ _ _ _ (by show D ≠ w.heap.size + 1; omega)).trans hK⟩
    have hB3 := h3.setCell (p := ⟨w.heap.size + 1, 0, none⟩) (by show _ ≤ w.heap.size + 1; omega) (.int .i64 0)
    have HB := Aside0.mk (hB3.grown (grownBy_putObj' _ D (.deferred none)) hB3.size (fun k e => by cases e; omega))
    clear h1 h2 h3 h4 h5 hK hB3
    gi_wp2
    refine ⟨by simp, .inl ⟨_, _, rfl, run_takeDeferred HD.out, ?_⟩⟩
    have hz2 := HZ.out
    refine ⟨.int .i64 0, by simp [results, Tryd.results20, go_sem, hz2], ?_, HB.out⟩
    rw [HE.out]
  case body =>
    rintro l pre x a' W hl ⟨rr, hlr⟩ ⟨h1, h2, h3, h4, h5⟩ ⟨Bx, hBx, hx, rfl⟩ hlen
    have hp := h5.out.1
    have z1 := (blk_cell h2 0).trans rfl
    have f1 := blk_frozen h2 0
    have z2 := (blk_cell h1 0).trans rfl
    have f2 := blk_frozen h1 0
    have y0 := (blk_cell hx 0).trans rfl
    have y1 := (blk_cell hx 1).trans rfl
    have y2 := (blk_cell hx 2).trans rfl
    have y3 := (blk_cell hx 3).trans rfl
    have y4 := (blk_cell hx 4).trans rfl
    have y5 := (blk_cell hx 5).trans rfl
    have H1 := Aside0.mk h1
    have H2 := Aside0.mk h2
    have H3 := Aside0.mk h3
    have H4 := Aside0.mk h4
    have HX := Aside0.mk hx
    clear h1 h2 h3 h4 hx hlr
    simp only [PartQ.cells]
    have HXL := Aside0.mk (Array.getElem?_eq_some_iff.1 HX.out).1
    -- the world behind 'n++'
    obtain ⟨W1, hW1⟩ : ∃ W1, W1 = W.setCell ⟨w.heap.size + 1 + 1, 0, none⟩ (.int .i64 ((pre.length : Int) + 1)) := ⟨_, rfl⟩
    have HW1 := Aside0.mk hW1
    have N1 : Aside0 (W1.heap[w.heap.size + 1 + 1]? = some (.cells #[.int .i64 ((pre ++ [x]).length : Int)] 3 (0, 0))) := ⟨by
      rw [hW1, List.length_append]
      refine blk_put (cs := #[.int .i64 (pre.length : Int)]) ?_ 0 _ rfl
      exact H2.out⟩
    have E1 : Aside0 (W1.heap[w.heap.size + 1]? = some (.cells #[.int .i64 0] 32 (0, 0))) := ⟨by rw [hW1]; exact blk_far H1.out (by show w.heap.size + 1 ≠ w.heap.size + 1 + 1; omega) _⟩
    have B1 : Aside0 (Below w.heap.size w W1) := ⟨by rw [hW1]; exact H3.out.setCell (p := ⟨w.heap.size + 1 + 1, 0, none⟩) (by show _ ≤ w.heap.size + 1 + 1; omega) _⟩
    have K1 : Aside0 (KeepsFrom Wn.heap.size W W1) := ⟨by rw [hW1]; exact (KeepsOthers.setCell _ _ _).from _⟩
    have C1 : Aside0 (KeptC w.heap.size (fun k => k = w.heap.size + 1 ∨ k = w.heap.size + 1 + 1) W W1) := ⟨by rw [hW1]; exact KeptC.setCell _ _ (by show _ ≤ w.heap.size + 1 + 1; omega) (.inr rfl)⟩
    have S1 : Aside0 (W.heap.size ≤ W1.heap.size) := ⟨K1.out.size⟩
    clear hW1
    -- the way out: the error is stored
    have out : ∀ W2, Below W1.heap.size W1 W2 → (∀ rest, chk 0 ((pre ++ [x]).map PartQ.key ++ rest) = false) →
        KeepsFrom Wn.heap.size W (W2.setCell ⟨w.heap.size + 1, 0, none⟩ (.int .i64 120)) ∧ (W2.setCell ⟨w.heap.size + 1, 0, none⟩ (.int .i64 120)).heap[w.heap.size + 1]? = some (.cells #[.int .i64 120] 32 (0, 0)) ∧
          Below w.heap.size w (W2.setCell ⟨w.heap.size + 1, 0, none⟩ (.int .i64 120)) ∧ ∀ rest, chk 0 ((pre ++ [x]).map PartQ.key ++ rest) = false := fun W2 hb hf => by
      have hlt := (Array.getElem?_eq_some_iff.1 E1.out).1
      refine ⟨(K1.out.trans (keepsFrom_below hb)).trans ((KeepsOthers.setCell _ _ _).from _), ?_, (B1.out.trans (hb.mono B1.out.size)).setCell (p := ⟨w.heap.size + 1, 0, none⟩) (by show _ ≤ w.heap.size + 1; omega) _, hf⟩
      refine blk_put (cs := #[.int .i64 0]) ?_ 0 _ rfl
      exact (hb.block _ hlt).trans E1.out
    have OUT := Aside0.mk out
    clear out
    have hfe : W1.frozen? ⟨w.heap.size + 1, 0, none⟩ = false := blk_frozen E1.out 0
    have hze : W1.cell? ⟨w.heap.size + 1, 0, none⟩ = some (.int .i64 0) := (blk_cell E1.out 0).trans rfl
    have STEP : Aside0 (∀ rest, chk 0 ((pre ++ [x]).map PartQ.key ++ rest) = chk pre.length ((x.d, x.r) :: rest)) := ⟨fun rest => by rw [List.map_append, List.append_assoc, h5.out.2]; rfl⟩
    have HF := Aside0.mk (formed_some x.r)
    have HK1 := Aside0.mk (HK.out.below B1.out)
    have HC1 := Aside0.mk (Kd.C_below x.rd B1.out)
    by_cases hA : 200 < pre.length + 1
    · have d1 : decide ((pre.length : Int) + 1 > 200) = true := decide_eq_true (by omega)
      gi_wp2_with fail
      refine ⟨trivial, ?_⟩
      rw [← HW1.out]
      gi_wp2
      obtain ⟨o1, o2, o3, o4⟩ := OUT.out W1 (Below.refl _ _) (fun rest => by rw [STEP.out]; simp only [chk]; rw [if_pos (by omega)])
      exact ⟨o1, rfl, o2, o3, o4⟩
    · have d1 : decide ((pre.length : Int) + 1 > 200) = false := decide_eq_false (by omega)
      by_cases hD : 16 < x.d
      · have d2 : decide (x.d > 16) = true := decide_eq_true (by omega)
        gi_wp2_with fail
        refine ⟨trivial, ?_⟩
        rw [← HW1.out]
        gi_wp2
        obtain ⟨o1, o2, o3, o4⟩ := OUT.out W1 (Below.refl _ _) (fun rest => by rw [STEP.out]; simp only [chk]; rw [if_neg (by omega), if_pos (by omega)])
        exact ⟨o1, rfl, o2, o3, o4⟩
      · have d2 : decide (x.d > 16) = false := decide_eq_false (by omega)
        gi_wp2_with fail
        refine ⟨trivial, ?_⟩
        rw [← HW1.out]
        refine (CallsIn.inRound l (callsIn_wide.2 (rules_formed.calls _ _ _ _ _ _ _ _ _ W1 HC1.out x.le HK1.out HF.out))).mono ?_
        rintro e W2 ⟨rfl, hb⟩
        have HL1 := Aside0.mk (Array.getElem?_eq_some_iff.1 E1.out).1
        have e2 : W2.cell? ⟨w.heap.size + 1, 0, none⟩ = some (.int .i64 0) := (hb.cell (p := ⟨w.heap.size + 1, 0, none⟩) HL1.out).trans hze
        have g2 : W2.frozen? ⟨w.heap.size + 1, 0, none⟩ = false := (hb.frozen (p := ⟨w.heap.size + 1, 0, none⟩) HL1.out).trans hfe
        have HB2 := Aside0.mk hb
        clear hb hze hfe
        cases hf : formedB x.r with
        | true =>
          have HFB := Aside0.mk hf
          clear hf
          gi_wp2
          have hle := HB2.out.size
          have hs1 := S1.out
          have h4' := H4.out
          refine ⟨K1.out.trans (keepsFrom_below HB2.out), C1.out.trans (KeptC.of_below HB2.out (by omega)), (HB2.out.block _ HL1.out).trans E1.out, (HB2.out.block _ (Array.getElem?_eq_some_iff.1 N1.out).1).trans N1.out, B1.out.trans (HB2.out.mono B1.out.size), by omega, ⟨?_, fun rest => ?_⟩⟩
          · rw [List.length_append]; simp; omega
          · rw [STEP.out]
            simp only [chk]
            rw [if_neg (by omega), if_neg (by omega), if_pos HFB.out, List.length_append]
            rfl
        | false =>
          have HFB := Aside0.mk hf
          clear hf
          gi_wp2
          obtain ⟨o1, o2, o3, o4⟩ := OUT.out W2 HB2.out (fun rest => by rw [STEP.out]; simp only [chk]; rw [if_neg (by omega), if_neg (by omega), if_neg (by rw [HFB.out]; simp)])
          exact ⟨o1, rfl, o2, o3, o4⟩
theorem rules_Check.calls (a0_0 : Int) (a0_1 : Int) (a0_2 : ByteArray) (a0_3 : Int) (a0_4 : Int) (A0_5 : Option Addr) (c0_5 : Nat) (l0_5 : List (S24)) (r : Int) (w : World) (hr0_5 : Kd.C k24 w A0_5 l0_5.length l0_5) (hc0_5 : l0_5.length ≤ c0_5) (h : rules_Check.f a0_0 a0_1 a0_2 a0_3 a0_4 l0_5 = some r) (hK : KindsAt w) :
    Calls Tryd.prog 20 #[.agg #[.int .i64 a0_0, .int .i64 a0_1, .string a0_2, .int .i64 a0_3, .int .i64 a0_4, .slice A0_5 l0_5.length c0_5]] w fun e w' => e = .returned (.int .i64 r) ∧ Below w.heap.size w w' := by
  have hr : r = if chkR ⟨a0_0, a0_1, a0_2, a0_3, a0_4, l0_5⟩ = true then 0 else 120 := (Option.some.inj h).symm
  subst hr
  exact (callsIn_wide (n := 6)).1 (check_in ⟨a0_0, a0_1, a0_2, a0_3, a0_4, l0_5⟩ A0_5 c0_5 w hr0_5 hc0_5 hK)
end Go.Proofs.YtabocfninjankaaDoor.P
namespace Go.Proofs.YtabocfninjankaaDoor.P
open Go.RowKit Go.Shelf Go.Proofs.YtabocfninjankaaDoorW.PrintWords Go.Proofs.YtabocfninjankaaDoorW.PrintLast Go.Proofs.YtabocfninjankaaDoorW.PrintMore
attribute [local go_sem] Oper.semAt_some
set_option linter.unusedVariables false
set_option linter.unusedSimpArgs false
/-- What a situation says of a course. -/
def aboutP (l : List S49) (c : Int) : S49 := (l.find? fun x => x.f0 == c).getD ⟨c, 0, -1, false⟩
theorem about_l0 (c : Int) (l : List S49) (hl : l.length ≤ 9223372036854775807) : ∀ (m k i : Nat), m = l.length - i → i ≤ l.length → m < k →
    rules_about.l0 k c l (l.length : Int) i = some ((((l.drop i).find? fun x => x.f0 == c).getD ⟨c, 0, -1, false⟩).f0, (((l.drop i).find? fun x => x.f0 == c).getD ⟨c, 0, -1, false⟩).f1, (((l.drop i).find? fun x => x.f0 == c).getD ⟨c, 0, -1, false⟩).f2, (((l.drop i).find? fun x => x.f0 == c).getD ⟨c, 0, -1, false⟩).f3)
  | m, 0, i, hm, hi, hk => absurd hk (by omega)
  | 0, k + 1, i, hm, hi, hk => by
    unfold rules_about.l0
    rw [if_neg (by omega), List.drop_eq_nil_of_le (by omega)]
    rfl
  | m + 1, k + 1, i, hm, hi, hk => by
    have hlt : i < l.length := by omega
    have hr : rd_T49 l (i : Int) = l[i] := by simp [rd_T49, List.getD_eq_getElem?_getD, hlt]
    unfold rules_about.l0
    rw [if_pos (by omega), if_pos (by omega), if_pos (by omega), hr, List.drop_eq_getElem_cons hlt, List.find?_cons]
    by_cases h : l[i].f0 = c
    · rw [if_pos h]
      simp [h]
    · rw [if_neg h]
      have h2 : (l[i].f0 == c) = false := by simpa using h
      rw [h2]
      have hw : wrap64 ((i : Int) + 1) = ((i + 1 : Nat) : Int) := by unfold wrap64; omega
      rw [hw]
      exact about_l0 c l hl m k (i + 1) (by omega) (by omega) (by omega)
theorem about_f (l : List S49) (hl : l.length ≤ 9223372036854775807) (e m1 m2 c : Int) : rules_about.f (l.length + 1) l e m1 m2 c = some ((aboutP l c).f0, (aboutP l c).f1, (aboutP l c).f2, (aboutP l c).f3) :=
  about_l0 c l hl l.length (l.length + 1) 0 (by omega) (by omega) (by omega)
theorem compare_some (a b c d : Int) : ∃ r, ratio_Compare.f a b c d = some r := by
  unfold ratio_Compare.f
  refine bind_total (check_some _ _) fun _ => ?_
  refine if_total (bind_total (check_some _ _) fun _ => ?_) ⟨_, rfl⟩
  refine if_total ?_ ⟨_, rfl⟩
  unfold cmp_Compare_int.f
  refine bind_total ?_ fun _ => ⟨_, rfl⟩
  repeat' first | exact ⟨_, rfl⟩ | apply if_total
def cmpP (a b c d : Int) : Int := ((ratio_Compare.f a b c d).getD (0, 0)).1
/-- Does a part hold, given how many of its kids do? -/
def opHolds (l : List S49) (e m1 m2 op course n d len cnt : Int) : Bool :=
  if op = 1 then cnt == len else if op = 2 then decide (cnt > 0) else if op = 3 then decide (cnt ≥ n) else if op = 4 then cnt == 0
  else if op = 5 then decide ((aboutP l course).f2 ≥ n) else if op = 6 then decide ((aboutP l course).f1 ≥ n) else if op = 7 then decide (e ≥ n)
  else if op = 8 then decide (cmpP m1 m2 n d ≥ 0) else (aboutP l course).f3
mutual
def valR (l : List S49) (e m1 m2 : Int) : S24 → Bool
  | ⟨a, b, c, n, d, ks⟩ => opHolds l e m1 m2 a b n d ks.length (cntL l e m1 m2 ks)
def cntL (l : List S49) (e m1 m2 : Int) : List S24 → Nat
  | [] => 0
  | k :: ks => (if valR l e m1 m2 k = true then 1 else 0) + cntL l e m1 m2 ks
end
mutual
def opsR : S24 → Bool
  | ⟨a, b, c, n, d, ks⟩ => decide (1 ≤ a) && decide (a ≤ 9) && opsL ks
def opsL : List S24 → Bool
  | [] => true
  | k :: ks => opsR k && opsL ks
end
theorem valR_eq (l : List S49) (e m1 m2 : Int) (r : S24) : valR l e m1 m2 r = opHolds l e m1 m2 r.f0 r.f1 r.f3 r.f4 r.f5.length (cntL l e m1 m2 r.f5) := by cases r; simp [valR]
theorem cntL_append (l : List S49) (e m1 m2 : Int) : ∀ xs ys, cntL l e m1 m2 (xs ++ ys) = cntL l e m1 m2 xs + cntL l e m1 m2 ys
  | [], ys => by simp [cntL]
  | x :: xs, ys => by simp [cntL, cntL_append l e m1 m2 xs ys]; omega
theorem cntL_snoc (l : List S49) (e m1 m2 : Int) (ks : List S24) (k : Nat) (h : k < ks.length) : cntL l e m1 m2 (ks.take (k + 1)) = cntL l e m1 m2 (ks.take k) + if valR l e m1 m2 ks[k] = true then 1 else 0 := by
  rw [List.take_succ_eq_append_getElem h, cntL_append]
  simp [cntL]
theorem cntL_le (l : List S49) (e m1 m2 : Int) : ∀ xs, cntL l e m1 m2 xs ≤ xs.length
  | [] => by simp [cntL]
  | x :: xs => by
    have := cntL_le l e m1 m2 xs
    simp only [cntL, List.length_cons]
    split <;> omega
theorem opsR_eq (r : S24) : opsR r = true ↔ 1 ≤ r.f0 ∧ r.f0 ≤ 9 ∧ ∀ k, k ∈ r.f5 → opsR k = true := by
  have hL : ∀ xs, opsL xs = true ↔ ∀ k, k ∈ xs → opsR k = true := by
    intro xs
    induction xs with
    | nil => simp [opsL]
    | cons x xs ih => simp [opsL, ih]
  cases r
  simp [opsR, hL, and_assoc]
theorem kinds_2_val (l : List S49) (e m1 m2 : Int) (r : S24) (hop : r.f0 = 1) : rules_kinds_2.f 1 r.f1 r.f2 r.f3 r.f4 r.f5 l e m1 m2 (cntL l e m1 m2 r.f5 : Nat) = some (valR l e m1 m2 r) := by
  rw [valR_eq, hop]; unfold rules_kinds_2.f opHolds; simp
theorem kinds_4_val (l : List S49) (e m1 m2 : Int) (r : S24) (hop : r.f0 = 2) : rules_kinds_4.f 2 r.f1 r.f2 r.f3 r.f4 r.f5 l e m1 m2 (cntL l e m1 m2 r.f5 : Nat) = some (valR l e m1 m2 r) := by
  rw [valR_eq, hop]; unfold rules_kinds_4.f opHolds; simp
theorem kinds_6_val (l : List S49) (e m1 m2 : Int) (r : S24) (hop : r.f0 = 3) : rules_kinds_6.f 3 r.f1 r.f2 r.f3 r.f4 r.f5 l e m1 m2 (cntL l e m1 m2 r.f5 : Nat) = some (valR l e m1 m2 r) := by
  rw [valR_eq, hop]; unfold rules_kinds_6.f opHolds; simp
theorem kinds_8_val (l : List S49) (e m1 m2 : Int) (r : S24) (hop : r.f0 = 4) : rules_kinds_8.f 4 r.f1 r.f2 r.f3 r.f4 r.f5 l e m1 m2 (cntL l e m1 m2 r.f5 : Nat) = some (valR l e m1 m2 r) := by
  rw [valR_eq, hop]; unfold rules_kinds_8.f opHolds; simp
theorem kinds_10_val (l : List S49) (hl : l.length ≤ 9223372036854775807) (e m1 m2 : Int) (r : S24) (hop : r.f0 = 5) : rules_kinds_10.f (l.length + 1) 5 r.f1 r.f2 r.f3 r.f4 r.f5 l e m1 m2 (cntL l e m1 m2 r.f5 : Nat) = some (valR l e m1 m2 r) := by
  rw [valR_eq, hop]; unfold rules_kinds_10.f opHolds; rw [about_f _ hl]; simp
theorem kinds_12_val (l : List S49) (hl : l.length ≤ 9223372036854775807) (e m1 m2 : Int) (r : S24) (hop : r.f0 = 6) : rules_kinds_12.f (l.length + 1) 6 r.f1 r.f2 r.f3 r.f4 r.f5 l e m1 m2 (cntL l e m1 m2 r.f5 : Nat) = some (valR l e m1 m2 r) := by
  rw [valR_eq, hop]; unfold rules_kinds_12.f opHolds; rw [about_f _ hl]; simp
theorem kinds_14_val (l : List S49) (e m1 m2 : Int) (r : S24) (hop : r.f0 = 7) : rules_kinds_14.f 7 r.f1 r.f2 r.f3 r.f4 r.f5 l e m1 m2 (cntL l e m1 m2 r.f5 : Nat) = some (valR l e m1 m2 r) := by
  rw [valR_eq, hop]; unfold rules_kinds_14.f opHolds; simp
theorem kinds_16_val (l : List S49) (e m1 m2 : Int) (r : S24) (hop : r.f0 = 8) : rules_kinds_16.f 8 r.f1 r.f2 r.f3 r.f4 r.f5 l e m1 m2 (cntL l e m1 m2 r.f5 : Nat) = some (valR l e m1 m2 r) := by
  rw [valR_eq, hop]
  obtain ⟨q, hq⟩ := compare_some m1 m2 r.f3 r.f4
  unfold rules_kinds_16.f opHolds cmpP
  rw [hq]
  simp
theorem kinds_17_val (l : List S49) (hl : l.length ≤ 9223372036854775807) (e m1 m2 : Int) (r : S24) (hop : r.f0 = 9) : rules_kinds_17.f (l.length + 1) 9 r.f1 r.f2 r.f3 r.f4 r.f5 l e m1 m2 (cntL l e m1 m2 r.f5 : Nat) = some (valR l e m1 m2 r) := by
  rw [valR_eq, hop]; unfold rules_kinds_17.f opHolds; rw [about_f _ hl]; simp
def rules_value.f (a0 a1 : Int) (a2 : ByteArray) (a3 a4 : Int) (l : List S24) (s : List S49) (e m1 m2 : Int) : Option Bool :=
  if opsR ⟨a0, a1, a2, a3, a4, l⟩ = true then some (valR s e m1 m2 ⟨a0, a1, a2, a3, a4, l⟩) else none
set_option maxRecDepth 100000 in
set_option maxHeartbeats 4000000 in
theorem value_walk (A1 : Option Addr) (c1 : Nat) (l1 : List S49) (e1 m1 m2 : Int) : ∀ (sz : Nat) (r : S24) (A : Option Addr) (c : Nat) (w : World), SizeOf.sizeOf r < sz → r.f5.length ≤ c → Kd.C k24 w A r.f5.length r.f5 → Kd.C k49 w A1 l1.length l1 → l1.length ≤ c1 → KindsAt w → opsR r = true →
    Calls Tryd.prog 29 #[.agg #[.int .i64 r.f0, .int .i64 r.f1, .string r.f2, .int .i64 r.f3, .int .i64 r.f4, .slice A r.f5.length c], .agg #[.slice A1 l1.length c1, .int .i64 e1, .int .i64 m1, .int .i64 m2]] w
      fun e w' => e = .returned (.bool (valR l1 e1 m1 m2 r)) ∧ Below w.heap.size w w'
  | 0, r, A, c, w, hsz, _, _, _, _, _, _ => absurd hsz (by omega)
  | sz + 1, r, A, c, w, hsz, hc, hC, hS, hcS, hK, hO => by
    have hu24 := Tryd.underlying24
    have hu29 := Tryd.underlying29
    have hm : r.f5.length ≤ 9223372036854775807 := hC.2.1
    have HC := Aside0.mk hC
    have HSI := Aside0.mk hS
    have HK := Aside0.mk hK
    have HO := Aside0.mk ((opsR_eq r).1 hO)
    have HZ := Aside0.mk hsz
    clear hC hS hK hO hsz
    go_enter Tryd.func29, Tryd.ntmps29
    go_wp2
    go_loopw [5, 11] (fun t5 t11 wr => ∃ (k : Nat), t5 = .int .i64 (cntL l1 e1 m1 m2 (r.f5.take k) : Nat) ∧ t11 = .int .i64 k ∧ k ≤ r.f5.length ∧ Aside0 (wr.heap[w.heap.size]? = some (.cells #[.int .i64 r.f0, .int .i64 r.f1, .string r.f2, .int .i64 r.f3, .int .i64 r.f4, .slice A r.f5.length c] 24 (0, 0))) ∧ Aside0 (wr.heap[w.heap.size + 1]? = some (.cells #[.slice A1 l1.length c1, .int .i64 e1, .int .i64 m1, .int .i64 m2] 29 (0, 0))) ∧ Aside0 (Below w.heap.size w wr))
      (fun _ t11 _ => r.f5.length - (intOf t11).toNat)
    case atStart =>
      refine ⟨0, rfl, rfl, Nat.zero_le _, ⟨?_⟩, ⟨?_⟩, ⟨((Below.refl _ w).alloc (Nat.le_refl _) _).alloc (by simp) _⟩⟩
      · exact (Below.heap_alloc _ _ _ (by simp)).trans (blk_new _ _)
      · exact new_blk _ _ (by simp)
    case round =>
      obtain ⟨k, rfl, rfl, hk, H0, H1, HB⟩ := hrel
      have x0 := (blk_cell H0.out 0).trans rfl
      have x1 := (blk_cell H0.out 1).trans rfl
      have x2 := (blk_cell H0.out 2).trans rfl
      have x3 := (blk_cell H0.out 3).trans rfl
      have x4 := (blk_cell H0.out 4).trans rfl
      have x5 := (blk_cell H0.out 5).trans rfl
      have z0 := (blk_cell H1.out 0).trans rfl
      have z1 := (blk_cell H1.out 1).trans rfl
      have z2 := (blk_cell H1.out 2).trans rfl
      have z3 := (blk_cell H1.out 3).trans rfl
      by_cases hlt : k < r.f5.length
      · obtain ⟨ad, A5, c5, e, y0, y1, y2, y3, y4, y5, hl5, hC5⟩ := at_T24 HC.out (k : Int) (by omega) (by omega)
        subst e
        rw [Int.toNat_natCast] at y0 y1 y2 y3 y4 y5
        have hrk : rd_T24 r.f5 (k : Int) = r.f5[k] := by simp [rd_T24, List.getD_eq_getElem?_getD, hlt]
        have hsk := size_kid r k hlt
        have hok := HO.out.2.2 r.f5[k] (List.getElem_mem hlt)
        obtain ⟨q, HQ, hq⟩ : ∃ q, Aside0 (q = r.f5[k]) ∧ r.f5[k] = q := ⟨_, ⟨rfl⟩, rfl⟩
        rw [hrk, hq] at y0 y1 y2 y3 y4 y5 hl5 hC5
        rw [hq] at hsk hok
        clear hrk hq
        have hbl := World.block_lt_of_cell? w _ y0
        have mv : ∀ (a : Addr) (v : Value), a.block < w.heap.size → w.cell? a = some v → wr.cell? a = some v := fun a v ha h => (HB.out.cell ha).trans h
        replace y0 := mv _ _ hbl y0
        replace y1 := mv ⟨(ad.add (k * 6)).block, (ad.add (k * 6)).off + 1, none⟩ _ hbl y1
        replace y2 := mv ⟨(ad.add (k * 6)).block, (ad.add (k * 6)).off + 2, none⟩ _ hbl y2
        replace y3 := mv ⟨(ad.add (k * 6)).block, (ad.add (k * 6)).off + 3, none⟩ _ hbl y3
        replace y4 := mv ⟨(ad.add (k * 6)).block, (ad.add (k * 6)).off + 4, none⟩ _ hbl y4
        replace y5 := mv ⟨(ad.add (k * 6)).block, (ad.add (k * 6)).off + 5, none⟩ _ hbl y5
        clear mv
        have hbw : Below w.heap.size w (wr.alloc (.cells #[.int .i64 q.f0, .int .i64 q.f1, .string q.f2, .int .i64 q.f3, .int .i64 q.f4, .slice A5 q.f5.length c5] 24)) := HB.out.alloc HB.out.size _
        have G := Aside0.mk (value_walk A1 c1 l1 e1 m1 m2 sz q A5 c5 (wr.alloc (.cells #[.int .i64 q.f0, .int .i64 q.f1, .string q.f2, .int .i64 q.f3, .int .i64 q.f4, .slice A5 q.f5.length c5] 24)) (by have := HZ.out; omega) hl5 (Kd.C_below hC5 hbw) (Kd.C_below HSI.out hbw) hcS (HK.out.below hbw) hok)
        have CN : Aside0 (cntL l1 e1 m1 m2 (r.f5.take (k + 1)) = cntL l1 e1 m1 m2 (r.f5.take k) + if valR l1 e1 m1 m2 q = true then 1 else 0) := ⟨by rw [cntL_snoc _ _ _ _ _ _ hlt, ← HQ.out]⟩
        have hcl : cntL l1 e1 m1 m2 (r.f5.take k) ≤ k := by have := cntL_le l1 e1 m1 m2 (r.f5.take k); rw [List.length_take] at this; omega
        generalize cntL l1 e1 m1 m2 (r.f5.take k) = n at CN hcl ⊢
        generalize valR l1 e1 m1 m2 q = b at CN G
        clear hC5 hok hsk hbl
        clear hbw
        have H1' := (Below.heap_alloc wr (.cells #[.int .i64 q.f0, .int .i64 q.f1, .string q.f2, .int .i64 q.f3, .int .i64 q.f4, .slice A5 q.f5.length c5] 24) (w.heap.size + 1) (Array.getElem?_eq_some_iff.1 H1.out).1).trans H1.out
        have z0' := (blk_cell H1' 0).trans rfl
        have z1' := (blk_cell H1' 1).trans rfl
        have z2' := (blk_cell H1' 2).trans rfl
        have z3' := (blk_cell H1' 3).trans rfl
        clear H1'
        cases b with
        | true =>
          go_wp2_with (go_at_call 29; refine G.out.mono ?_; clear G; rintro e W5 ⟨rfl, hb⟩)
          refine ⟨⟨k + 1, by rw [CN.out]; simp, by simp, by omega, ⟨(hb.block _ (by have := (Array.getElem?_eq_some_iff.1 H0.out).1; simp; omega)).trans ((Below.heap_alloc _ _ _ (Array.getElem?_eq_some_iff.1 H0.out).1).trans H0.out)⟩, ⟨(hb.block _ (by have := (Array.getElem?_eq_some_iff.1 H1.out).1; simp; omega)).trans ((Below.heap_alloc _ _ _ (Array.getElem?_eq_some_iff.1 H1.out).1).trans H1.out)⟩, ⟨(HB.out.alloc HB.out.size _).trans (hb.mono (by have := HB.out.size; simp; omega))⟩⟩, by simp [intOf]; omega⟩
        | false =>
          go_wp2_with (go_at_call 29; refine G.out.mono ?_; clear G; rintro e W5 ⟨rfl, hb⟩)
          refine ⟨⟨k + 1, by rw [CN.out]; simp, by simp, by omega, ⟨(hb.block _ (by have := (Array.getElem?_eq_some_iff.1 H0.out).1; simp; omega)).trans ((Below.heap_alloc _ _ _ (Array.getElem?_eq_some_iff.1 H0.out).1).trans H0.out)⟩, ⟨(hb.block _ (by have := (Array.getElem?_eq_some_iff.1 H1.out).1; simp; omega)).trans ((Below.heap_alloc _ _ _ (Array.getElem?_eq_some_iff.1 H1.out).1).trans H1.out)⟩, ⟨(HB.out.alloc HB.out.size _).trans (hb.mono (by have := HB.out.size; simp; omega))⟩⟩, by simp [intOf]; omega⟩
      · have hkn : r.f5.take k = r.f5 := by rw [show k = r.f5.length by omega, List.take_length]
        rw [hkn]
        clear hkn
        have hml : l1.length ≤ 9223372036854775807 := HSI.out.2.1
        have HCd := Aside0.mk (Kd.C_drew (Kd.C_below HC.out HB.out))
        have HSd := Aside0.mk (Kd.C_drew (Kd.C_below HSI.out HB.out))
        have HBd := Aside0.mk (below_drew1 HB.out)
        go_wp2
        have hop : r.f0 = 1 ∨ r.f0 = 2 ∨ r.f0 = 3 ∨ r.f0 = 4 ∨ r.f0 = 5 ∨ r.f0 = 6 ∨ r.f0 = 7 ∨ r.f0 = 8 ∨ r.f0 = 9 := by have := HO.out.1; have := HO.out.2.1; omega
        have hu80 := Tryd.underlying80
        have hu81 := Tryd.underlying81
        rcases hop with hop | hop | hop | hop | hop | hop | hop | hop | hop
        · have t5 := (HB.out.cell (p := ⟨0, 11, none⟩) HK.out.lt).trans (HK.out.at_ 11 _ rfl)
          have hv := Aside0.mk (kinds_2_val l1 e1 m1 m2 r hop)
          go_still_tail 8, (by kernel_rfl)
          go_wp2_with (go_at_call 120; refine (rules_kinds_2.calls _ _ _ _ _ _ _ _ _ _ _ _ _ _ _ _ _ HCd.out hc HSd.out hcS hv.out).mono ?_; rintro e W5 ⟨rfl, hb⟩)
          go_ret
          exact ⟨rfl, HBd.out.trans (hb.mono (by have := HB.out.size; simp; omega))⟩
        · have t5 := (HB.out.cell (p := ⟨0, 17, none⟩) HK.out.lt).trans (HK.out.at_ 17 _ rfl)
          have hv := Aside0.mk (kinds_4_val l1 e1 m1 m2 r hop)
          go_still_tail 8, (by kernel_rfl)
          go_wp2_with (go_at_call 122; refine (rules_kinds_4.calls _ _ _ _ _ _ _ _ _ _ _ _ _ _ _ _ _ HCd.out hc HSd.out hcS hv.out).mono ?_; rintro e W5 ⟨rfl, hb⟩)
          go_ret
          exact ⟨rfl, HBd.out.trans (hb.mono (by have := HB.out.size; simp; omega))⟩
        · have t5 := (HB.out.cell (p := ⟨0, 23, none⟩) HK.out.lt).trans (HK.out.at_ 23 _ rfl)
          have hv := Aside0.mk (kinds_6_val l1 e1 m1 m2 r hop)
          go_still_tail 8, (by kernel_rfl)
          go_wp2_with (go_at_call 124; refine (rules_kinds_6.calls _ _ _ _ _ _ _ _ _ _ _ _ _ _ _ _ _ HCd.out hc HSd.out hcS hv.out).mono ?_; rintro e W5 ⟨rfl, hb⟩)
          go_ret
          exact ⟨rfl, HBd.out.trans (hb.mono (by have := HB.out.size; simp; omega))⟩
        · have t5 := (HB.out.cell (p := ⟨0, 29, none⟩) HK.out.lt).trans (HK.out.at_ 29 _ rfl)
          have hv := Aside0.mk (kinds_8_val l1 e1 m1 m2 r hop)
          go_still_tail 8, (by kernel_rfl)
          go_wp2_with (go_at_call 126; refine (rules_kinds_8.calls _ _ _ _ _ _ _ _ _ _ _ _ _ _ _ _ _ HCd.out hc HSd.out hcS hv.out).mono ?_; rintro e W5 ⟨rfl, hb⟩)
          go_ret
          exact ⟨rfl, HBd.out.trans (hb.mono (by have := HB.out.size; simp; omega))⟩
        · have t5 := (HB.out.cell (p := ⟨0, 35, none⟩) HK.out.lt).trans (HK.out.at_ 35 _ rfl)
          have hv := Aside0.mk (kinds_10_val l1 hml e1 m1 m2 r hop)
          go_still_tail 8, (by kernel_rfl)
          go_wp2_with (go_at_call 129; refine (rules_kinds_10.calls (l1.length + 1) _ _ _ _ _ _ _ _ _ _ _ _ _ _ _ _ _ HCd.out hc HSd.out hcS hv.out).mono ?_; rintro e W5 ⟨rfl, hb⟩)
          go_ret
          exact ⟨rfl, HBd.out.trans (hb.mono (by have := HB.out.size; simp; omega))⟩
        · have t5 := (HB.out.cell (p := ⟨0, 41, none⟩) HK.out.lt).trans (HK.out.at_ 41 _ rfl)
          have hv := Aside0.mk (kinds_12_val l1 hml e1 m1 m2 r hop)
          go_still_tail 8, (by kernel_rfl)
          go_wp2_with (go_at_call 132; refine (rules_kinds_12.calls (l1.length + 1) _ _ _ _ _ _ _ _ _ _ _ _ _ _ _ _ _ HCd.out hc HSd.out hcS hv.out).mono ?_; rintro e W5 ⟨rfl, hb⟩)
          go_ret
          exact ⟨rfl, HBd.out.trans (hb.mono (by have := HB.out.size; simp; omega))⟩
        · have t5 := (HB.out.cell (p := ⟨0, 47, none⟩) HK.out.lt).trans (HK.out.at_ 47 _ rfl)
          have hv := Aside0.mk (kinds_14_val l1 e1 m1 m2 r hop)
          go_still_tail 8, (by kernel_rfl)
          go_wp2_with (go_at_call 134; refine (rules_kinds_14.calls _ _ _ _ _ _ _ _ _ _ _ _ _ _ _ _ _ HCd.out hc HSd.out hcS hv.out).mono ?_; rintro e W5 ⟨rfl, hb⟩)
          go_ret
          exact ⟨rfl, HBd.out.trans (hb.mono (by have := HB.out.size; simp; omega))⟩
        · have t5 := (HB.out.cell (p := ⟨0, 53, none⟩) HK.out.lt).trans (HK.out.at_ 53 _ rfl)
          have hv := Aside0.mk (kinds_16_val l1 e1 m1 m2 r hop)
          go_still_tail 8, (by kernel_rfl)
          go_wp2_with (go_at_call 136; refine (rules_kinds_16.calls _ _ _ _ _ _ _ _ _ _ _ _ _ _ _ _ _ HCd.out hc HSd.out hcS hv.out).mono ?_; rintro e W5 ⟨rfl, hb⟩)
          go_ret
          exact ⟨rfl, HBd.out.trans (hb.mono (by have := HB.out.size; simp; omega))⟩
        · have t5 := (HB.out.cell (p := ⟨0, 59, none⟩) HK.out.lt).trans (HK.out.at_ 59 _ rfl)
          have hv := Aside0.mk (kinds_17_val l1 hml e1 m1 m2 r hop)
          go_still_tail 8, (by kernel_rfl)
          go_wp2_with (go_at_call 138; refine (rules_kinds_17.calls (l1.length + 1) _ _ _ _ _ _ _ _ _ _ _ _ _ _ _ _ _ HCd.out hc HSd.out hcS hv.out).mono ?_; rintro e W5 ⟨rfl, hb⟩)
          go_ret
          exact ⟨rfl, HBd.out.trans (hb.mono (by have := HB.out.size; simp; omega))⟩
theorem rules_value.calls (a0_0 : Int) (a0_1 : Int) (a0_2 : ByteArray) (a0_3 : Int) (a0_4 : Int) (A0_5 : Option Addr) (c0_5 : Nat) (l0_5 : List (S24)) (A1_0 : Option Addr) (c1_0 : Nat) (l1_0 : List (S49)) (a1_1 : Int) (a1_2 : Int) (a1_3 : Int) (r : Bool) (w : World) (hr0_5 : Kd.C k24 w A0_5 l0_5.length l0_5) (hc0_5 : l0_5.length ≤ c0_5) (hr1_0 : Kd.C k49 w A1_0 l1_0.length l1_0) (hc1_0 : l1_0.length ≤ c1_0) (h : rules_value.f a0_0 a0_1 a0_2 a0_3 a0_4 l0_5 l1_0 a1_1 a1_2 a1_3 = some r) (hK : KindsAt w) :
    Calls Tryd.prog 29 #[.agg #[.int .i64 a0_0, .int .i64 a0_1, .string a0_2, .int .i64 a0_3, .int .i64 a0_4, .slice A0_5 l0_5.length c0_5], .agg #[.slice A1_0 l1_0.length c1_0, .int .i64 a1_1, .int .i64 a1_2, .int .i64 a1_3]] w fun e w' => e = .returned (.bool r) ∧ Below w.heap.size w w' := by
  unfold rules_value.f at h
  split at h
  · obtain rfl := Option.some.inj h
    exact value_walk A1_0 c1_0 l1_0 a1_1 a1_2 a1_3 _ ⟨a0_0, a0_1, a0_2, a0_3, a0_4, l0_5⟩ A0_5 c0_5 w (Nat.lt_succ_self _) hc0_5 hr0_5 hr1_0 hc1_0 hK ‹_›
  · cases h
end Go.Proofs.YtabocfninjankaaDoor.P
namespace Go.Proofs.YtabocfninjankaaDoor.P
open Go.RowKit Go.Proofs.YtabocfninjankaaDoorW.PrintWords Go.Proofs.YtabocfninjankaaDoorW.PrintLast Go.Proofs.YtabocfninjankaaDoorW.PrintMore
attribute [local go_sem] max2_int min2_int max_two min_two max_three min_three max_four min_four   -- for this text's walks alone
set_option linter.unusedVariables false
set_option linter.unusedSimpArgs false
def rules_Atoms_1.f (k : Nat) (a0_0 : Int) (a0_1 : Int) (a0_2 : Int) (a0_3 : Int) (a1_0 : Int) (a1_1 : Int) (a1_2 : Int) (a1_3 : Int) : Option (Int) := (cmp_Compare_int.f a0_0 a1_0).bind fun t171 => ((cmp_Compare_int.f a0_1 a1_1).bind fun t172 => ((cmp_Compare_int.f a0_2 a1_2).bind fun t173 => ((cmp_Compare_int.f a0_3 a1_3).bind fun t174 => ((cmp_Or_int.f k (([t171, t172, t173, t174] : List Int))).bind fun t178 => (some t178)))))
def rules_Atoms_1.T1 : Bool × List (List Nat × List Nat) := (true, [([], []), ([0], [0]), ([], []), ([2], [2]), ([1, 3], [1, 3]), ([], []), ([5], [5]), ([], []), ([7], [7]), ([6, 8, 4], [6, 8]), ([], []), ([10], [10]), ([], []), ([12], [12]), ([11, 13, 9], [11, 13]), ([], []), ([15], [15]), ([], []), ([17], [17]), ([16, 18, 14], [16, 18]), ([4, 9, 14, 19], [4, 9, 14, 19]), ([20, 19], [20]), ([21, 21, 0, 1, 2, 3, 4, 5, 6, 7, 8, 9, 10, 11, 12, 13, 14, 15, 16, 17, 18, 19, 20, 21], [21])])
def rules_Atoms_1.B1 : List Nat := [0, 1, 0, 4, 15, 0, 32, 0, 128, 511, 0, 1024, 0, 4096, 16383, 0, 32768, 0, 131072, 524287, 1048575, 2097151, 4194303]
theorem rules_Atoms_1.tab1 : rtab .any (opsOf Tryd.f36 1) = rules_Atoms_1.T1 := by kernel_rfl
theorem rules_Atoms_1.bits1 : waitsOk rules_Atoms_1.T1.2 rules_Atoms_1.B1 = true := by kernel_rfl
def rules_Holds.f (k : Nat) (a0_0 : Int) (a0_1 : Int) (a0_2 : ByteArray) (a0_3 : Int) (a0_4 : Int) (l0_5 : List (S24)) (l1_0 : List (S49)) (a1_1 : Int) (a1_2 : Int) (a1_3 : Int) : Option (Bool × Int) := (rules_Check.f a0_0 a0_1 a0_2 a0_3 a0_4 l0_5).bind fun t181 => (if t181 = 0 then ((rules_Fits.f k l1_0 a1_1 a1_2 a1_3).bind fun t182 => (if t182 = 0 then ((rules_value.f a0_0 a0_1 a0_2 a0_3 a0_4 l0_5 l1_0 a1_1 a1_2 a1_3).bind fun t183 => (some (t183, 0))) else (some (false, t182)))) else (some (false, t181)))
set_option maxHeartbeats 8000000 in
set_option maxRecDepth 100000 in
theorem rules_Holds.calls (k : Nat) (a0_0 : Int) (a0_1 : Int) (a0_2 : ByteArray) (a0_3 : Int) (a0_4 : Int) (A0_5 : Option Addr) (c0_5 : Nat) (l0_5 : List (S24)) (A1_0 : Option Addr) (c1_0 : Nat) (l1_0 : List (S49)) (a1_1 : Int) (a1_2 : Int) (a1_3 : Int) (r1 : Bool) (r2 : Int) (w : World) (hr0_5 : Kd.C k24 w A0_5 l0_5.length l0_5) (hc0_5 : l0_5.length ≤ c0_5) (hr1_0 : Kd.C k49 w A1_0 l1_0.length l1_0) (hc1_0 : l1_0.length ≤ c1_0) (h : rules_Holds.f k a0_0 a0_1 a0_2 a0_3 a0_4 l0_5 l1_0 a1_1 a1_2 a1_3 = some (r1, r2)) (hKT : KindsAt w) :
  Calls Tryd.prog 12 #[.agg #[.int .i64 a0_0, .int .i64 a0_1, .string a0_2, .int .i64 a0_3, .int .i64 a0_4, .slice A0_5 l0_5.length c0_5], .agg #[.slice A1_0 l1_0.length c1_0, .int .i64 a1_1, .int .i64 a1_2, .int .i64 a1_3]] w fun e w' => e = .returned (.tuple #[.bool r1, .int .i64 r2]) ∧ Below w.heap.size w w' := by
 have HKT := Aside0.mk hKT
 clear hKT
 have hu24 := Tryd.underlying24
 have hu29 := Tryd.underlying29
 have HR0_5 := Aside0.mk hr0_5
 have HC0_5 := Aside0.mk hc0_5
 clear hr0_5 hc0_5
 have HR1_0 := Aside0.mk hr1_0
 have HC1_0 := Aside0.mk hc1_0
 clear hr1_0 hc1_0
 have HB := Aside0.mk (Below.refl w.heap.size w)
 have H : ((rules_Check.f a0_0 a0_1 a0_2 a0_3 a0_4 l0_5).bind fun t181 => (if t181 = 0 then ((rules_Fits.f k l1_0 a1_1 a1_2 a1_3).bind fun t182 => (if t182 = 0 then ((rules_value.f a0_0 a0_1 a0_2 a0_3 a0_4 l0_5 l1_0 a1_1 a1_2 a1_3).bind fun t183 => (some (t183, 0))) else (some (false, t182)))) else (some (false, t181)))) = some (r1, r2) := h
 clear h
 replace H := Option.bind_eq_some_iff.mp H
 obtain ⟨t181, A30, H⟩ := H
 replace H : (if t181 = 0 then ((rules_Fits.f k l1_0 a1_1 a1_2 a1_3).bind fun t182 => (if t182 = 0 then ((rules_value.f a0_0 a0_1 a0_2 a0_3 a0_4 l0_5 l1_0 a1_1 a1_2 a1_3).bind fun t183 => (some (t183, 0))) else (some (false, t182)))) else (some (false, t181))) = some (r1, r2) := H
 have A3 := Aside0.mk A30
 clear A30
 by_cases c4 : t181 = 0
 ·rw [if_pos c4] at H
  have c4b0 : (t181 == 0) = true := beq_iff_eq.mpr c4
  have c4b1 : (t181 != 0) = false := bne_eq_false_iff_eq.mpr c4
  clear c4
  replace H := Option.bind_eq_some_iff.mp H
  obtain ⟨t182, A50, H⟩ := H
  replace H : (if t182 = 0 then ((rules_value.f a0_0 a0_1 a0_2 a0_3 a0_4 l0_5 l1_0 a1_1 a1_2 a1_3).bind fun t183 => (some (t183, 0))) else (some (false, t182))) = some (r1, r2) := H
  have A5 := Aside0.mk A50
  clear A50
  by_cases c6 : t182 = 0
  ·rw [if_pos c6] at H
   have c6b0 : (t182 == 0) = true := beq_iff_eq.mpr c6
   have c6b1 : (t182 != 0) = false := bne_eq_false_iff_eq.mpr c6
   clear c6
   replace H := Option.bind_eq_some_iff.mp H
   obtain ⟨t183, A70, H⟩ := H
   replace H : (some (t183, 0)) = some (r1, r2) := H
   have A7 := Aside0.mk A70
   clear A70
   simp only [Option.some.injEq, Prod.mk.injEq] at H
   obtain ⟨rfl, rfl⟩ := H
   go_enter Tryd.func12, Tryd.ntmps12
   go_wp2_with (first | ((with_reducible refine gate_dst (N := 2) rfl ?_); refine box_event ?hg (N := 2) ?hd (cs := #[.int .i64 a0_0, .int .i64 a0_1, .string a0_2, .int .i64 a0_3, .int .i64 a0_4, .slice A0_5 l0_5.length c0_5]) (t := 24) ?hr ?_; (case hd => rfl); (case hg => rfl); (case hr => first | (go_simp; done) | (go_simp; rfl)); intro gb179 hg w8 hbox hb; have n0_ := Aside0.mk (below_step (by repeat (first | (with_reducible first | exact HB.out | apply below_alloc | apply pw_below_drewN | apply below_drew1) | exact HB.out)) hb); have n1_ := Aside0.mk (hbox); have n2_ := Aside0.mk ((by rw [hg]; exact (below_size (by repeat (first | (with_reducible first | exact HB.out | apply below_alloc | apply pw_below_drewN | apply below_drew1) | exact HB.out))) : w.heap.size ≤ gb179)); have n3_ := Aside0.mk ((by rw [hg]; exact (below_size (by repeat (first | (with_reducible first | exact HB.out | apply below_alloc | apply pw_below_drewN | apply below_drew1) | exact HB.out))) : w.heap.size ≤ gb179)); clear HB; have HB := n0_; have BK179 := n1_; have GW179 := n2_; have GE179 := n3_; clear n0_ n1_ n2_ n3_; clear hb hbox hg) | ((with_reducible refine gate_dst (N := 3) rfl ?_); refine box_event ?hg (N := 3) ?hd (cs := #[.slice A1_0 l1_0.length c1_0, .int .i64 a1_1, .int .i64 a1_2, .int .i64 a1_3]) (t := 29) ?hr ?_; (case hd => rfl); (case hg => rfl); (case hr => first | (go_simp; done) | (go_simp; rfl)); intro gb180 hg w9 hbox hb; have n0_ := Aside0.mk (blk_below (g := gb179) (o := .cells #[.int .i64 a0_0, .int .i64 a0_1, .string a0_2, .int .i64 a0_3, .int .i64 a0_4, .slice A0_5 l0_5.length c0_5] 24 (0, 0)) (by (with_reducible repeat (first | refine blk_drewN ?_ _ | refine blk_drew ?_ | refine blk_alloc ?_ _)); exact BK179.out) hb); have n1_ := Aside0.mk (below_step (by repeat (first | (with_reducible first | exact HB.out | apply below_alloc | apply pw_below_drewN | apply below_drew1 | refine below_set ?_ GE179.out) | exact HB.out)) hb); have n2_ := Aside0.mk (hbox); have n3_ := Aside0.mk ((by rw [hg]; exact (below_size (by repeat (first | (with_reducible first | exact HB.out | apply below_alloc | apply pw_below_drewN | apply below_drew1 | refine below_set ?_ GE179.out) | exact HB.out))) : w.heap.size ≤ gb180)); have n4_ := Aside0.mk ((by rw [hg]; exact (below_size (by repeat (first | (with_reducible first | exact HB.out | apply below_alloc | apply pw_below_drewN | apply below_drew1 | refine below_set ?_ GE179.out) | exact HB.out))) : w.heap.size ≤ gb180)); have n5_ := Aside0.mk ((by rw [hg]; exact Nat.ne_of_lt (blk_lt (g := gb179) (o := .cells #[.int .i64 a0_0, .int .i64 a0_1, .string a0_2, .int .i64 a0_3, .int .i64 a0_4, .slice A0_5 l0_5.length c0_5] 24 (0, 0)) (by (with_reducible repeat (first | refine blk_drewN ?_ _ | refine blk_drew ?_ | refine blk_alloc ?_ _)); exact BK179.out)) : gb179 ≠ gb180)); have n6_ := Aside0.mk ((by rw [hg]; exact Nat.ne_of_gt (blk_lt (g := gb179) (o := .cells #[.int .i64 a0_0, .int .i64 a0_1, .string a0_2, .int .i64 a0_3, .int .i64 a0_4, .slice A0_5 l0_5.length c0_5] 24 (0, 0)) (by (with_reducible repeat (first | refine blk_drewN ?_ _ | refine blk_drew ?_ | refine blk_alloc ?_ _)); exact BK179.out)) : gb180 ≠ gb179)); clear BK179; clear HB; have BK179 := n0_; have HB := n1_; have BK180 := n2_; have GW180 := n3_; have GE180 := n4_; have NB179_180 := n5_; have NB180_179 := n6_; clear n0_ n1_ n2_ n3_ n4_ n5_ n6_; clear hb hbox hg; have hnb10 := NB179_180.out; have hnc10 := NB180_179.out; have hcz11_0 : w9.cell? ⟨gb179, 0, none⟩ = some (.int .i64 a0_0) := (blk_cell BK179.out 0).trans rfl; have hcz11_1 : w9.cell? ⟨gb179, 1, none⟩ = some (.int .i64 a0_1) := (blk_cell BK179.out 1).trans rfl; have hcz11_2 : w9.cell? ⟨gb179, 2, none⟩ = some (.string a0_2) := (blk_cell BK179.out 2).trans rfl; have hcz11_3 : w9.cell? ⟨gb179, 3, none⟩ = some (.int .i64 a0_3) := (blk_cell BK179.out 3).trans rfl; have hcz11_4 : w9.cell? ⟨gb179, 4, none⟩ = some (.int .i64 a0_4) := (blk_cell BK179.out 4).trans rfl; have hcz11_5 : w9.cell? ⟨gb179, 5, none⟩ = some (.slice A0_5 l0_5.length c0_5) := (blk_cell BK179.out 5).trans rfl; have hfz11_0 := blk_frozen BK179.out 0; have hfz11_1 := blk_frozen BK179.out 1; have hfz11_2 := blk_frozen BK179.out 2; have hfz11_3 := blk_frozen BK179.out 3; have hfz11_4 := blk_frozen BK179.out 4; have hfz11_5 := blk_frozen BK179.out 5) | ((with_reducible refine gate_callee (f := 20) rfl ?_); refine goesL_ (some 9) rfl rfl Tryd.func20 (by kernel_rfl) rfl #[.agg #[.int .i64 a0_0, .int .i64 a0_1, .string a0_2, .int .i64 a0_3, .int .i64 a0_4, .slice A0_5 l0_5.length c0_5]] rfl (by (try simp only [List.map_toArray, List.map_cons, List.map_nil]); first | done | rfl | (simp only [List.length_drop, List.length_take]; rfl)) ?_; (with_reducible refine (rules_Check.calls a0_0 a0_1 a0_2 a0_3 a0_4 _ _ l0_5 t181 _ ?side1 ?side2 A3.out ?sideK).mono ?_); (case sideK => exact HKT.out.below (by repeat (first | (with_reducible first | exact HB.out | apply below_alloc | apply pw_below_drewN | apply below_drew1 | refine below_set ?_ GE179.out | refine below_set ?_ GE180.out) | exact HB.out))); (case side1 => repeat (first | exact (Kd.C_below HR0_5.out HB.out) | (with_reducible refine Kd.C_alloc ?_ _) | (with_reducible refine Kd.C_drewN ?_ _) | (with_reducible refine Kd.C_drew ?_))); (case side2 => exact HC0_5.out); rintro e w12 ⟨rfl, hb⟩; refine ⟨_, rfl, ?_⟩; have n0_ := Aside0.mk (blk_below (g := gb179) (o := .cells #[.int .i64 a0_0, .int .i64 a0_1, .string a0_2, .int .i64 a0_3, .int .i64 a0_4, .slice A0_5 l0_5.length c0_5] 24 (0, 0)) (by (with_reducible repeat (first | refine blk_drewN ?_ _ | refine blk_drew ?_ | refine blk_alloc ?_ _)); exact BK179.out) hb); have n1_ := Aside0.mk (blk_below (g := gb180) (o := .cells #[.slice A1_0 l1_0.length c1_0, .int .i64 a1_1, .int .i64 a1_2, .int .i64 a1_3] 29 (0, 0)) (by (with_reducible repeat (first | refine blk_drewN ?_ _ | refine blk_drew ?_ | refine blk_alloc ?_ _)); exact BK180.out) hb); have n2_ := Aside0.mk (below_step (by repeat (first | (with_reducible first | exact HB.out | apply below_alloc | apply pw_below_drewN | apply below_drew1 | refine below_set ?_ GE179.out | refine below_set ?_ GE180.out) | exact HB.out)) hb); clear BK179; clear BK180; clear HB; have BK179 := n0_; have BK180 := n1_; have HB := n2_; clear n0_ n1_ n2_; (try clear hb); (try clear hb2); (try clear hk); (try clear hi); have hcz13_0 : w12.cell? ⟨gb180, 0, none⟩ = some (.slice A1_0 l1_0.length c1_0) := (blk_cell BK180.out 0).trans rfl; have hcz13_1 : w12.cell? ⟨gb180, 1, none⟩ = some (.int .i64 a1_1) := (blk_cell BK180.out 1).trans rfl; have hcz13_2 : w12.cell? ⟨gb180, 2, none⟩ = some (.int .i64 a1_2) := (blk_cell BK180.out 2).trans rfl; have hcz13_3 : w12.cell? ⟨gb180, 3, none⟩ = some (.int .i64 a1_3) := (blk_cell BK180.out 3).trans rfl; have hfz13_0 := blk_frozen BK180.out 0; have hfz13_1 := blk_frozen BK180.out 1; have hfz13_2 := blk_frozen BK180.out 2; have hfz13_3 := blk_frozen BK180.out 3) | ((with_reducible refine gate_callee (f := 21) rfl ?_); refine goesL_ (some 14) rfl rfl Tryd.func21 (by kernel_rfl) rfl #[.agg #[.slice A1_0 l1_0.length c1_0, .int .i64 a1_1, .int .i64 a1_2, .int .i64 a1_3]] rfl (by (try simp only [List.map_toArray, List.map_cons, List.map_nil]); first | done | rfl | (simp only [List.length_drop, List.length_take]; rfl)) ?_; (with_reducible refine (rules_Fits.calls k _ _ l1_0 a1_1 a1_2 a1_3 t182 _ ?side1 ?side2 A5.out).mono ?_); (case side1 => repeat (first | exact (Kd.C_below HR1_0.out HB.out) | (with_reducible refine Kd.C_alloc ?_ _) | (with_reducible refine Kd.C_drewN ?_ _) | (with_reducible refine Kd.C_drew ?_))); (case side2 => exact HC1_0.out); rintro e w14 ⟨rfl, hb⟩; refine ⟨_, rfl, ?_⟩; have n0_ := Aside0.mk (blk_below (g := gb179) (o := .cells #[.int .i64 a0_0, .int .i64 a0_1, .string a0_2, .int .i64 a0_3, .int .i64 a0_4, .slice A0_5 l0_5.length c0_5] 24 (0, 0)) (by (with_reducible repeat (first | refine blk_drewN ?_ _ | refine blk_drew ?_ | refine blk_alloc ?_ _)); exact BK179.out) hb); have n1_ := Aside0.mk (blk_below (g := gb180) (o := .cells #[.slice A1_0 l1_0.length c1_0, .int .i64 a1_1, .int .i64 a1_2, .int .i64 a1_3] 29 (0, 0)) (by (with_reducible repeat (first | refine blk_drewN ?_ _ | refine blk_drew ?_ | refine blk_alloc ?_ _)); exact BK180.out) hb); have n2_ := Aside0.mk (below_step (by repeat (first | (with_reducible first | exact HB.out | apply below_alloc | apply pw_below_drewN | apply below_drew1 | refine below_set ?_ GE179.out | refine below_set ?_ GE180.out) | exact HB.out)) hb); clear BK179; clear BK180; clear HB; have BK179 := n0_; have BK180 := n1_; have HB := n2_; clear n0_ n1_ n2_; (try clear hb); (try clear hb2); (try clear hk); (try clear hi); have hcz15_0 : w14.cell? ⟨gb179, 0, none⟩ = some (.int .i64 a0_0) := (blk_cell BK179.out 0).trans rfl; have hcz15_1 : w14.cell? ⟨gb179, 1, none⟩ = some (.int .i64 a0_1) := (blk_cell BK179.out 1).trans rfl; have hcz15_2 : w14.cell? ⟨gb179, 2, none⟩ = some (.string a0_2) := (blk_cell BK179.out 2).trans rfl; have hcz15_3 : w14.cell? ⟨gb179, 3, none⟩ = some (.int .i64 a0_3) := (blk_cell BK179.out 3).trans rfl; have hcz15_4 : w14.cell? ⟨gb179, 4, none⟩ = some (.int .i64 a0_4) := (blk_cell BK179.out 4).trans rfl; have hcz15_5 : w14.cell? ⟨gb179, 5, none⟩ = some (.slice A0_5 l0_5.length c0_5) := (blk_cell BK179.out 5).trans rfl; have hfz15_0 := blk_frozen BK179.out 0; have hfz15_1 := blk_frozen BK179.out 1; have hfz15_2 := blk_frozen BK179.out 2; have hfz15_3 := blk_frozen BK179.out 3; have hfz15_4 := blk_frozen BK179.out 4; have hfz15_5 := blk_frozen BK179.out 5; have hcz16_0 : w14.cell? ⟨gb180, 0, none⟩ = some (.slice A1_0 l1_0.length c1_0) := (blk_cell BK180.out 0).trans rfl; have hcz16_1 : w14.cell? ⟨gb180, 1, none⟩ = some (.int .i64 a1_1) := (blk_cell BK180.out 1).trans rfl; have hcz16_2 : w14.cell? ⟨gb180, 2, none⟩ = some (.int .i64 a1_2) := (blk_cell BK180.out 2).trans rfl; have hcz16_3 : w14.cell? ⟨gb180, 3, none⟩ = some (.int .i64 a1_3) := (blk_cell BK180.out 3).trans rfl; have hfz16_0 := blk_frozen BK180.out 0; have hfz16_1 := blk_frozen BK180.out 1; have hfz16_2 := blk_frozen BK180.out 2; have hfz16_3 := blk_frozen BK180.out 3) | ((with_reducible refine gate_callee (f := 29) rfl ?_); refine goesL_ (some 20) rfl rfl Tryd.func29 (by kernel_rfl) rfl #[.agg #[.int .i64 a0_0, .int .i64 a0_1, .string a0_2, .int .i64 a0_3, .int .i64 a0_4, .slice A0_5 l0_5.length c0_5], .agg #[.slice A1_0 l1_0.length c1_0, .int .i64 a1_1, .int .i64 a1_2, .int .i64 a1_3]] rfl (by (try simp only [List.map_toArray, List.map_cons, List.map_nil]); first | done | rfl | (simp only [List.length_drop, List.length_take]; rfl)) ?_; (with_reducible refine (rules_value.calls a0_0 a0_1 a0_2 a0_3 a0_4 _ _ l0_5 _ _ l1_0 a1_1 a1_2 a1_3 t183 _ ?side1 ?side2 ?side3 ?side4 A7.out ?sideK).mono ?_); (case sideK => exact HKT.out.below (by repeat (first | (with_reducible first | exact HB.out | apply below_alloc | apply pw_below_drewN | apply below_drew1 | refine below_set ?_ GE179.out | refine below_set ?_ GE180.out) | exact HB.out))); (case side1 => repeat (first | exact (Kd.C_below HR0_5.out HB.out) | (with_reducible refine Kd.C_alloc ?_ _) | (with_reducible refine Kd.C_drewN ?_ _) | (with_reducible refine Kd.C_drew ?_))); (case side2 => exact HC0_5.out); (case side3 => repeat (first | exact (Kd.C_below HR1_0.out HB.out) | (with_reducible refine Kd.C_alloc ?_ _) | (with_reducible refine Kd.C_drewN ?_ _) | (with_reducible refine Kd.C_drew ?_))); (case side4 => exact HC1_0.out); rintro e w17 ⟨rfl, hb⟩; refine ⟨_, rfl, ?_⟩; have n0_ := Aside0.mk (blk_below (g := gb179) (o := .cells #[.int .i64 a0_0, .int .i64 a0_1, .string a0_2, .int .i64 a0_3, .int .i64 a0_4, .slice A0_5 l0_5.length c0_5] 24 (0, 0)) (by (with_reducible repeat (first | refine blk_drewN ?_ _ | refine blk_drew ?_ | refine blk_alloc ?_ _)); exact BK179.out) hb); have n1_ := Aside0.mk (blk_below (g := gb180) (o := .cells #[.slice A1_0 l1_0.length c1_0, .int .i64 a1_1, .int .i64 a1_2, .int .i64 a1_3] 29 (0, 0)) (by (with_reducible repeat (first | refine blk_drewN ?_ _ | refine blk_drew ?_ | refine blk_alloc ?_ _)); exact BK180.out) hb); have n2_ := Aside0.mk (below_step (by repeat (first | (with_reducible first | exact HB.out | apply below_alloc | apply pw_below_drewN | apply below_drew1 | refine below_set ?_ GE179.out | refine below_set ?_ GE180.out) | exact HB.out)) hb); clear BK179; clear BK180; clear HB; have BK179 := n0_; have BK180 := n1_; have HB := n2_; clear n0_ n1_ n2_; (try clear hb); (try clear hb2); (try clear hk); (try clear hi)))
   go_ret2
   exact ⟨by first | rfl | (simp [errW_none, errW_some] <;> rfl) | (simp [*, errW_none, errW_some] <;> rfl), by repeat (first | (with_reducible first | exact HB.out | apply below_alloc | apply pw_below_drewN | apply below_drew1 | refine below_set ?_ GE179.out | refine below_set ?_ GE180.out) | exact HB.out)⟩
  ·rw [if_neg c6] at H
   have c6b0 : (t182 == 0) = false := beq_eq_false_iff_ne.mpr c6
   have c6b1 : (t182 != 0) = true := bne_iff_ne.mpr c6
   simp only [Option.some.injEq, Prod.mk.injEq] at H
   obtain ⟨rfl, rfl⟩ := H
   go_enter Tryd.func12, Tryd.ntmps12
   go_wp2_with (first | ((with_reducible refine gate_dst (N := 2) rfl ?_); refine box_event ?hg (N := 2) ?hd (cs := #[.int .i64 a0_0, .int .i64 a0_1, .string a0_2, .int .i64 a0_3, .int .i64 a0_4, .slice A0_5 l0_5.length c0_5]) (t := 24) ?hr ?_; (case hd => rfl); (case hg => rfl); (case hr => first | (go_simp; done) | (go_simp; rfl)); intro gb179 hg w18 hbox hb; have n0_ := Aside0.mk (below_step (by repeat (first | (with_reducible first | exact HB.out | apply below_alloc | apply pw_below_drewN | apply below_drew1) | exact HB.out)) hb); have n1_ := Aside0.mk (hbox); have n2_ := Aside0.mk ((by rw [hg]; exact (below_size (by repeat (first | (with_reducible first | exact HB.out | apply below_alloc | apply pw_below_drewN | apply below_drew1) | exact HB.out))) : w.heap.size ≤ gb179)); have n3_ := Aside0.mk ((by rw [hg]; exact (below_size (by repeat (first | (with_reducible first | exact HB.out | apply below_alloc | apply pw_below_drewN | apply below_drew1) | exact HB.out))) : w.heap.size ≤ gb179)); clear HB; have HB := n0_; have BK179 := n1_; have GW179 := n2_; have GE179 := n3_; clear n0_ n1_ n2_ n3_; clear hb hbox hg) | ((with_reducible refine gate_dst (N := 3) rfl ?_); refine box_event ?hg (N := 3) ?hd (cs := #[.slice A1_0 l1_0.length c1_0, .int .i64 a1_1, .int .i64 a1_2, .int .i64 a1_3]) (t := 29) ?hr ?_; (case hd => rfl); (case hg => rfl); (case hr => first | (go_simp; done) | (go_simp; rfl)); intro gb180 hg w19 hbox hb; have n0_ := Aside0.mk (blk_below (g := gb179) (o := .cells #[.int .i64 a0_0, .int .i64 a0_1, .string a0_2, .int .i64 a0_3, .int .i64 a0_4, .slice A0_5 l0_5.length c0_5] 24 (0, 0)) (by (with_reducible repeat (first | refine blk_drewN ?_ _ | refine blk_drew ?_ | refine blk_alloc ?_ _)); exact BK179.out) hb); have n1_ := Aside0.mk (below_step (by repeat (first | (with_reducible first | exact HB.out | apply below_alloc | apply pw_below_drewN | apply below_drew1 | refine below_set ?_ GE179.out) | exact HB.out)) hb); have n2_ := Aside0.mk (hbox); have n3_ := Aside0.mk ((by rw [hg]; exact (below_size (by repeat (first | (with_reducible first | exact HB.out | apply below_alloc | apply pw_below_drewN | apply below_drew1 | refine below_set ?_ GE179.out) | exact HB.out))) : w.heap.size ≤ gb180)); have n4_ := Aside0.mk ((by rw [hg]; exact (below_size (by repeat (first | (with_reducible first | exact HB.out | apply below_alloc | apply pw_below_drewN | apply below_drew1 | refine below_set ?_ GE179.out) | exact HB.out))) : w.heap.size ≤ gb180)); have n5_ := Aside0.mk ((by rw [hg]; exact Nat.ne_of_lt (blk_lt (g := gb179) (o := .cells #[.int .i64 a0_0, .int .i64 a0_1, .string a0_2, .int .i64 a0_3, .int .i64 a0_4, .slice A0_5 l0_5.length c0_5] 24 (0, 0)) (by (with_reducible repeat (first | refine blk_drewN ?_ _ | refine blk_drew ?_ | refine blk_alloc ?_ _)); exact BK179.out)) : gb179 ≠ gb180)); have n6_ := Aside0.mk ((by rw [hg]; exact Nat.ne_of_gt (blk_lt (g := gb179) (o := .cells #[.int .i64 a0_0, .int .i64 a0_1, .string a0_2, .int .i64 a0_3, .int .i64 a0_4, .slice A0_5 l0_5.length c0_5] 24 (0, 0)) (by (with_reducible repeat (first | refine blk_drewN ?_ _ | refine blk_drew ?_ | refine blk_alloc ?_ _)); exact BK179.out)) : gb180 ≠ gb179)); clear BK179; clear HB; have BK179 := n0_; have HB := n1_; have BK180 := n2_; have GW180 := n3_; have GE180 := n4_; have NB179_180 := n5_; have NB180_179 := n6_; clear n0_ n1_ n2_ n3_ n4_ n5_ n6_; clear hb hbox hg; have hnb20 := NB179_180.out; have hnc20 := NB180_179.out; have hcz21_0 : w19.cell? ⟨gb179, 0, none⟩ = some (.int .i64 a0_0) := (blk_cell BK179.out 0).trans rfl; have hcz21_1 : w19.cell? ⟨gb179, 1, none⟩ = some (.int .i64 a0_1) := (blk_cell BK179.out 1).trans rfl; have hcz21_2 : w19.cell? ⟨gb179, 2, none⟩ = some (.string a0_2) := (blk_cell BK179.out 2).trans rfl; have hcz21_3 : w19.cell? ⟨gb179, 3, none⟩ = some (.int .i64 a0_3) := (blk_cell BK179.out 3).trans rfl; have hcz21_4 : w19.cell? ⟨gb179, 4, none⟩ = some (.int .i64 a0_4) := (blk_cell BK179.out 4).trans rfl; have hcz21_5 : w19.cell? ⟨gb179, 5, none⟩ = some (.slice A0_5 l0_5.length c0_5) := (blk_cell BK179.out 5).trans rfl; have hfz21_0 := blk_frozen BK179.out 0; have hfz21_1 := blk_frozen BK179.out 1; have hfz21_2 := blk_frozen BK179.out 2; have hfz21_3 := blk_frozen BK179.out 3; have hfz21_4 := blk_frozen BK179.out 4; have hfz21_5 := blk_frozen BK179.out 5) | ((with_reducible refine gate_callee (f := 20) rfl ?_); refine goesL_ (some 9) rfl rfl Tryd.func20 (by kernel_rfl) rfl #[.agg #[.int .i64 a0_0, .int .i64 a0_1, .string a0_2, .int .i64 a0_3, .int .i64 a0_4, .slice A0_5 l0_5.length c0_5]] rfl (by (try simp only [List.map_toArray, List.map_cons, List.map_nil]); first | done | rfl | (simp only [List.length_drop, List.length_take]; rfl)) ?_; (with_reducible refine (rules_Check.calls a0_0 a0_1 a0_2 a0_3 a0_4 _ _ l0_5 t181 _ ?side1 ?side2 A3.out ?sideK).mono ?_); (case sideK => exact HKT.out.below (by repeat (first | (with_reducible first | exact HB.out | apply below_alloc | apply pw_below_drewN | apply below_drew1 | refine below_set ?_ GE179.out | refine below_set ?_ GE180.out) | exact HB.out))); (case side1 => repeat (first | exact (Kd.C_below HR0_5.out HB.out) | (with_reducible refine Kd.C_alloc ?_ _) | (with_reducible refine Kd.C_drewN ?_ _) | (with_reducible refine Kd.C_drew ?_))); (case side2 => exact HC0_5.out); rintro e w22 ⟨rfl, hb⟩; refine ⟨_, rfl, ?_⟩; have n0_ := Aside0.mk (blk_below (g := gb179) (o := .cells #[.int .i64 a0_0, .int .i64 a0_1, .string a0_2, .int .i64 a0_3, .int .i64 a0_4, .slice A0_5 l0_5.length c0_5] 24 (0, 0)) (by (with_reducible repeat (first | refine blk_drewN ?_ _ | refine blk_drew ?_ | refine blk_alloc ?_ _)); exact BK179.out) hb); have n1_ := Aside0.mk (blk_below (g := gb180) (o := .cells #[.slice A1_0 l1_0.length c1_0, .int .i64 a1_1, .int .i64 a1_2, .int .i64 a1_3] 29 (0, 0)) (by (with_reducible repeat (first | refine blk_drewN ?_ _ | refine blk_drew ?_ | refine blk_alloc ?_ _)); exact BK180.out) hb); have n2_ := Aside0.mk (below_step (by repeat (first | (with_reducible first | exact HB.out | apply below_alloc | apply pw_below_drewN | apply below_drew1 | refine below_set ?_ GE179.out | refine below_set ?_ GE180.out) | exact HB.out)) hb); clear BK179; clear BK180; clear HB; have BK179 := n0_; have BK180 := n1_; have HB := n2_; clear n0_ n1_ n2_; (try clear hb); (try clear hb2); (try clear hk); (try clear hi); have hcz23_0 : w22.cell? ⟨gb180, 0, none⟩ = some (.slice A1_0 l1_0.length c1_0) := (blk_cell BK180.out 0).trans rfl; have hcz23_1 : w22.cell? ⟨gb180, 1, none⟩ = some (.int .i64 a1_1) := (blk_cell BK180.out 1).trans rfl; have hcz23_2 : w22.cell? ⟨gb180, 2, none⟩ = some (.int .i64 a1_2) := (blk_cell BK180.out 2).trans rfl; have hcz23_3 : w22.cell? ⟨gb180, 3, none⟩ = some (.int .i64 a1_3) := (blk_cell BK180.out 3).trans rfl; have hfz23_0 := blk_frozen BK180.out 0; have hfz23_1 := blk_frozen BK180.out 1; have hfz23_2 := blk_frozen BK180.out 2; have hfz23_3 := blk_frozen BK180.out 3) | ((with_reducible refine gate_callee (f := 21) rfl ?_); refine goesL_ (some 14) rfl rfl Tryd.func21 (by kernel_rfl) rfl #[.agg #[.slice A1_0 l1_0.length c1_0, .int .i64 a1_1, .int .i64 a1_2, .int .i64 a1_3]] rfl (by (try simp only [List.map_toArray, List.map_cons, List.map_nil]); first | done | rfl | (simp only [List.length_drop, List.length_take]; rfl)) ?_; (with_reducible refine (rules_Fits.calls k _ _ l1_0 a1_1 a1_2 a1_3 t182 _ ?side1 ?side2 A5.out).mono ?_); (case side1 => repeat (first | exact (Kd.C_below HR1_0.out HB.out) | (with_reducible refine Kd.C_alloc ?_ _) | (with_reducible refine Kd.C_drewN ?_ _) | (with_reducible refine Kd.C_drew ?_))); (case side2 => exact HC1_0.out); rintro e w24 ⟨rfl, hb⟩; refine ⟨_, rfl, ?_⟩; have n0_ := Aside0.mk (blk_below (g := gb179) (o := .cells #[.int .i64 a0_0, .int .i64 a0_1, .string a0_2, .int .i64 a0_3, .int .i64 a0_4, .slice A0_5 l0_5.length c0_5] 24 (0, 0)) (by (with_reducible repeat (first | refine blk_drewN ?_ _ | refine blk_drew ?_ | refine blk_alloc ?_ _)); exact BK179.out) hb); have n1_ := Aside0.mk (blk_below (g := gb180) (o := .cells #[.slice A1_0 l1_0.length c1_0, .int .i64 a1_1, .int .i64 a1_2, .int .i64 a1_3] 29 (0, 0)) (by (with_reducible repeat (first | refine blk_drewN ?_ _ | refine blk_drew ?_ | refine blk_alloc ?_ _)); exact BK180.out) hb); have n2_ := Aside0.mk (below_step (by repeat (first | (with_reducible first | exact HB.out | apply below_alloc | apply pw_below_drewN | apply below_drew1 | refine below_set ?_ GE179.out | refine below_set ?_ GE180.out) | exact HB.out)) hb); clear BK179; clear BK180; clear HB; have BK179 := n0_; have BK180 := n1_; have HB := n2_; clear n0_ n1_ n2_; (try clear hb); (try clear hb2); (try clear hk); (try clear hi)))
   go_ret2
   exact ⟨by first | rfl | (simp [errW_none, errW_some] <;> rfl) | (simp [*, errW_none, errW_some] <;> rfl), by repeat (first | (with_reducible first | exact HB.out | apply below_alloc | apply pw_below_drewN | apply below_drew1 | refine below_set ?_ GE179.out | refine below_set ?_ GE180.out) | exact HB.out)⟩
 ·rw [if_neg c4] at H
  have c4b0 : (t181 == 0) = false := beq_eq_false_iff_ne.mpr c4
  have c4b1 : (t181 != 0) = true := bne_iff_ne.mpr c4
  simp only [Option.some.injEq, Prod.mk.injEq] at H
  obtain ⟨rfl, rfl⟩ := H
  go_enter Tryd.func12, Tryd.ntmps12
  go_wp2_with (first | ((with_reducible refine gate_dst (N := 2) rfl ?_); refine box_event ?hg (N := 2) ?hd (cs := #[.int .i64 a0_0, .int .i64 a0_1, .string a0_2, .int .i64 a0_3, .int .i64 a0_4, .slice A0_5 l0_5.length c0_5]) (t := 24) ?hr ?_; (case hd => rfl); (case hg => rfl); (case hr => first | (go_simp; done) | (go_simp; rfl)); intro gb179 hg w25 hbox hb; have n0_ := Aside0.mk (below_step (by repeat (first | (with_reducible first | exact HB.out | apply below_alloc | apply pw_below_drewN | apply below_drew1) | exact HB.out)) hb); have n1_ := Aside0.mk (hbox); have n2_ := Aside0.mk ((by rw [hg]; exact (below_size (by repeat (first | (with_reducible first | exact HB.out | apply below_alloc | apply pw_below_drewN | apply below_drew1) | exact HB.out))) : w.heap.size ≤ gb179)); have n3_ := Aside0.mk ((by rw [hg]; exact (below_size (by repeat (first | (with_reducible first | exact HB.out | apply below_alloc | apply pw_below_drewN | apply below_drew1) | exact HB.out))) : w.heap.size ≤ gb179)); clear HB; have HB := n0_; have BK179 := n1_; have GW179 := n2_; have GE179 := n3_; clear n0_ n1_ n2_ n3_; clear hb hbox hg) | ((with_reducible refine gate_dst (N := 3) rfl ?_); refine box_event ?hg (N := 3) ?hd (cs := #[.slice A1_0 l1_0.length c1_0, .int .i64 a1_1, .int .i64 a1_2, .int .i64 a1_3]) (t := 29) ?hr ?_; (case hd => rfl); (case hg => rfl); (case hr => first | (go_simp; done) | (go_simp; rfl)); intro gb180 hg w26 hbox hb; have n0_ := Aside0.mk (blk_below (g := gb179) (o := .cells #[.int .i64 a0_0, .int .i64 a0_1, .string a0_2, .int .i64 a0_3, .int .i64 a0_4, .slice A0_5 l0_5.length c0_5] 24 (0, 0)) (by (with_reducible repeat (first | refine blk_drewN ?_ _ | refine blk_drew ?_ | refine blk_alloc ?_ _)); exact BK179.out) hb); have n1_ := Aside0.mk (below_step (by repeat (first | (with_reducible first | exact HB.out | apply below_alloc | apply pw_below_drewN | apply below_drew1 | refine below_set ?_ GE179.out) | exact HB.out)) hb); have n2_ := Aside0.mk (hbox); have n3_ := Aside0.mk ((by rw [hg]; exact (below_size (by repeat (first | (with_reducible first | exact HB.out | apply below_alloc | apply pw_below_drewN | apply below_drew1 | refine below_set ?_ GE179.out) | exact HB.out))) : w.heap.size ≤ gb180)); have n4_ := Aside0.mk ((by rw [hg]; exact (below_size (by repeat (first | (with_reducible first | exact HB.out | apply below_alloc | apply pw_below_drewN | apply below_drew1 | refine below_set ?_ GE179.out) | exact HB.out))) : w.heap.size ≤ gb180)); have n5_ := Aside0.mk ((by rw [hg]; exact Nat.ne_of_lt (blk_lt (g := gb179) (o := .cells #[.int .i64 a0_0, .int .i64 a0_1, .string a0_2, .int .i64 a0_3, .int .i64 a0_4, .slice A0_5 l0_5.length c0_5] 24 (0, 0)) (by (with_reducible repeat (first | refine blk_drewN ?_ _ | refine blk_drew ?_ | refine blk_alloc ?_ _)); exact BK179.out)) : gb179 ≠ gb180)); have n6_ := Aside0.mk ((by rw [hg]; exact Nat.ne_of_gt (blk_lt (g := gb179) (o := .cells #[.int .i64 a0_0, .int .i64 a0_1, .string a0_2, .int .i64 a0_3, .int .i64 a0_4, .slice A0_5 l0_5.length c0_5] 24 (0, 0)) (by (with_reducible repeat (first | refine blk_drewN ?_ _ | refine blk_drew ?_ | refine blk_alloc ?_ _)); exact BK179.out)) : gb180 ≠ gb179)); clear BK179; clear HB; have BK179 := n0_; have HB := n1_; have BK180 := n2_; have GW180 := n3_; have GE180 := n4_; have NB179_180 := n5_; have NB180_179 := n6_; clear n0_ n1_ n2_ n3_ n4_ n5_ n6_; clear hb hbox hg; have hnb27 := NB179_180.out; have hnc27 := NB180_179.out; have hcz28_0 : w26.cell? ⟨gb179, 0, none⟩ = some (.int .i64 a0_0) := (blk_cell BK179.out 0).trans rfl; have hcz28_1 : w26.cell? ⟨gb179, 1, none⟩ = some (.int .i64 a0_1) := (blk_cell BK179.out 1).trans rfl; have hcz28_2 : w26.cell? ⟨gb179, 2, none⟩ = some (.string a0_2) := (blk_cell BK179.out 2).trans rfl; have hcz28_3 : w26.cell? ⟨gb179, 3, none⟩ = some (.int .i64 a0_3) := (blk_cell BK179.out 3).trans rfl; have hcz28_4 : w26.cell? ⟨gb179, 4, none⟩ = some (.int .i64 a0_4) := (blk_cell BK179.out 4).trans rfl; have hcz28_5 : w26.cell? ⟨gb179, 5, none⟩ = some (.slice A0_5 l0_5.length c0_5) := (blk_cell BK179.out 5).trans rfl; have hfz28_0 := blk_frozen BK179.out 0; have hfz28_1 := blk_frozen BK179.out 1; have hfz28_2 := blk_frozen BK179.out 2; have hfz28_3 := blk_frozen BK179.out 3; have hfz28_4 := blk_frozen BK179.out 4; have hfz28_5 := blk_frozen BK179.out 5) | ((with_reducible refine gate_callee (f := 20) rfl ?_); refine goesL_ (some 9) rfl rfl Tryd.func20 (by kernel_rfl) rfl #[.agg #[.int .i64 a0_0, .int .i64 a0_1, .string a0_2, .int .i64 a0_3, .int .i64 a0_4, .slice A0_5 l0_5.length c0_5]] rfl (by (try simp only [List.map_toArray, List.map_cons, List.map_nil]); first | done | rfl | (simp only [List.length_drop, List.length_take]; rfl)) ?_; (with_reducible refine (rules_Check.calls a0_0 a0_1 a0_2 a0_3 a0_4 _ _ l0_5 t181 _ ?side1 ?side2 A3.out ?sideK).mono ?_); (case sideK => exact HKT.out.below (by repeat (first | (with_reducible first | exact HB.out | apply below_alloc | apply pw_below_drewN | apply below_drew1 | refine below_set ?_ GE179.out | refine below_set ?_ GE180.out) | exact HB.out))); (case side1 => repeat (first | exact (Kd.C_below HR0_5.out HB.out) | (with_reducible refine Kd.C_alloc ?_ _) | (with_reducible refine Kd.C_drewN ?_ _) | (with_reducible refine Kd.C_drew ?_))); (case side2 => exact HC0_5.out); rintro e w29 ⟨rfl, hb⟩; refine ⟨_, rfl, ?_⟩; have n0_ := Aside0.mk (blk_below (g := gb179) (o := .cells #[.int .i64 a0_0, .int .i64 a0_1, .string a0_2, .int .i64 a0_3, .int .i64 a0_4, .slice A0_5 l0_5.length c0_5] 24 (0, 0)) (by (with_reducible repeat (first | refine blk_drewN ?_ _ | refine blk_drew ?_ | refine blk_alloc ?_ _)); exact BK179.out) hb); have n1_ := Aside0.mk (blk_below (g := gb180) (o := .cells #[.slice A1_0 l1_0.length c1_0, .int .i64 a1_1, .int .i64 a1_2, .int .i64 a1_3] 29 (0, 0)) (by (with_reducible repeat (first | refine blk_drewN ?_ _ | refine blk_drew ?_ | refine blk_alloc ?_ _)); exact BK180.out) hb); have n2_ := Aside0.mk (below_step (by repeat (first | (with_reducible first | exact HB.out | apply below_alloc | apply pw_below_drewN | apply below_drew1 | refine below_set ?_ GE179.out | refine below_set ?_ GE180.out) | exact HB.out)) hb); clear BK179; clear BK180; clear HB; have BK179 := n0_; have BK180 := n1_; have HB := n2_; clear n0_ n1_ n2_; (try clear hb); (try clear hb2); (try clear hk); (try clear hi)))
  go_ret2
  exact ⟨by first | rfl | (simp [errW_none, errW_some] <;> rfl) | (simp [*, errW_none, errW_some] <;> rfl), by repeat (first | (with_reducible first | exact HB.out | apply below_alloc | apply pw_below_drewN | apply below_drew1 | refine below_set ?_ GE179.out | refine below_set ?_ GE180.out) | exact HB.out)⟩
end Go.Proofs.YtabocfninjankaaDoor.P
namespace Go.Proofs.YtabocfninjankaaDoor.P
open Go.RowKit Go.Proofs.YtabocfninjankaaDoorW.PrintWords Go.Proofs.YtabocfninjankaaDoorW.PrintLast Go.Proofs.YtabocfninjankaaDoorW.PrintMore
attribute [local go_sem] max2_int min2_int max_two min_two max_three min_three max_four min_four   -- for this text's walks alone
set_option linter.unusedVariables false
set_option linter.unusedSimpArgs false
mutual
def sizarref12_Depth.l0 : Nat → Int → Int → Int → Int → ByteArray → Int → Int → List (S24) → Option (Int)
 | 0, _, _, _, _, _, _, _, _ => none
 | k + 1, x3, x4, x287000, x287001, x287002, x287003, x287004, x287005 => if x4 < (x287005.length : Int) then (if 0 ≤ x4 then ((sizarref12_Depth.f k ((rd_T24 x287005 x4).f0) ((rd_T24 x287005 x4).f1) ((rd_T24 x287005 x4).f2) ((rd_T24 x287005 x4).f3) ((rd_T24 x287005 x4).f4) ((rd_T24 x287005 x4).f5)).bind fun t288 => (sizarref12_Depth.l0 k (mx x3 t288) (wrap64 (x4 + 1)) x287000 x287001 x287002 x287003 x287004 x287005)) else (none)) else (some (wrap64 (x3 + 1)))
def sizarref12_Depth.f : Nat → Int → Int → ByteArray → Int → Int → List (S24) → Option (Int)
 | 0, _, _, _, _, _, _ => none
 | k + 1, a0_0, a0_1, a0_2, a0_3, a0_4, l0_5 => sizarref12_Depth.l0 k 0 0 a0_0 a0_1 a0_2 a0_3 a0_4 l0_5
end
set_option maxHeartbeats 8000000 in
set_option maxRecDepth 100000 in
theorem sizarref12_Depth.calls (k : Nat) : ∀ (a0_0 : Int) (a0_1 : Int) (a0_2 : ByteArray) (a0_3 : Int) (a0_4 : Int) (A0_5 : Option Addr) (c0_5 : Nat) (l0_5 : List (S24)) (r : Int) (w : World) (hr0_5 : Kd.C k24 w A0_5 l0_5.length l0_5) (hc0_5 : l0_5.length ≤ c0_5) (h : sizarref12_Depth.f k a0_0 a0_1 a0_2 a0_3 a0_4 l0_5 = some r),
  Calls Tryd.prog 27 #[.agg #[.int .i64 a0_0, .int .i64 a0_1, .string a0_2, .int .i64 a0_3, .int .i64 a0_4, .slice A0_5 l0_5.length c0_5]] w fun e w' => e = .returned (.int .i64 r) ∧ Below w.heap.size w w' := by
 induction k using Nat.strongRecOn with
 | _ k ih =>
 intro a0_0 a0_1 a0_2 a0_3 a0_4 A0_5 c0_5 l0_5 r w hr0_5 hc0_5 h
 cases k with
 | zero => exact absurd h (by simp [sizarref12_Depth.f])
 | succ k =>
 simp only [sizarref12_Depth.f] at h
 have hu24 := Tryd.underlying24
 have HR0_5 := Aside0.mk hr0_5
 have HC0_5 := Aside0.mk hc0_5
 clear hr0_5 hc0_5
 have HB := Aside0.mk (Below.refl w.heap.size w)
 have H : (sizarref12_Depth.l0 k 0 0 a0_0 a0_1 a0_2 a0_3 a0_4 l0_5) = some r := h
 clear h
 have H' := Aside0.mk H
 clear H
 go_enter Tryd.func27, Tryd.ntmps27
 go_wp2_with (first | ((with_reducible refine gate_dst (N := 1) rfl ?_); refine box_event ?hg (N := 1) ?hd (cs := #[.int .i64 a0_0, .int .i64 a0_1, .string a0_2, .int .i64 a0_3, .int .i64 a0_4, .slice A0_5 l0_5.length c0_5]) (t := 24) ?hr ?_; (case hd => rfl); (case hg => rfl); (case hr => first | (go_simp; done) | (go_simp; rfl)); intro gb286 hg w2 hbox hb; have n0_ := Aside0.mk (below_step (by repeat (first | (with_reducible first | exact HB.out | apply below_alloc | apply pw_below_drewN | apply below_drew1) | exact HB.out)) hb); have n1_ := Aside0.mk (hbox); have n2_ := Aside0.mk ((by rw [hg]; exact (below_size (by repeat (first | (with_reducible first | exact HB.out | apply below_alloc | apply pw_below_drewN | apply below_drew1) | exact HB.out))) : w.heap.size ≤ gb286)); have n3_ := Aside0.mk ((by rw [hg]; exact (below_size (by repeat (first | (with_reducible first | exact HB.out | apply below_alloc | apply pw_below_drewN | apply below_drew1) | exact HB.out))) : w.heap.size ≤ gb286)); clear HB; have HB := n0_; have BK286 := n1_; have GW286 := n2_; have GE286 := n3_; clear n0_ n1_ n2_ n3_; clear hb hbox hg))
 go_loopg [3, 4] k (fun kq v3 v4 w' => ∃ (x3_1 : Int) (x4_1 : Int), v3 = .int .i64 x3_1 ∧ v4 = .int .i64 x4_1 ∧ Aside0 (sizarref12_Depth.l0 kq x3_1 x4_1 a0_0 a0_1 a0_2 a0_3 a0_4 l0_5 = some r) ∧ Aside0 (kq ≤ k) ∧ Aside0 (w'.heap[gb286]? = some (.cells #[.int .i64 a0_0, .int .i64 a0_1, .string a0_2, .int .i64 a0_3, .int .i64 a0_4, (.slice A0_5 l0_5.length c0_5)] 24 (0, 0))) ∧ Aside0 (Below w.heap.size w w'))
 case atStart => exact ⟨(0), (0), (by first | rfl | (simp; done) | (simp [*]; done)), (by first | rfl | (simp; done) | (simp [*]; done)), H', ⟨Nat.le_refl _⟩, ⟨by (with_reducible repeat (first | refine blk_drewN ?_ _ | refine blk_drew ?_ | refine blk_alloc ?_ _)); exact BK286.out⟩, ⟨by repeat (first | (with_reducible first | exact HB.out | apply below_alloc | apply pw_below_drewN | apply below_drew1 | refine below_set ?_ GE286.out) | exact HB.out)⟩⟩
 case round =>
  clear H'
  try clear c2
  try clear p2
  obtain ⟨x3_1, x4_1, rfl, rfl, HA, HK1, BK286, HB⟩ := hrel
  cases gk with
  | zero => exact absurd HA.out (by simp [sizarref12_Depth.l0])
  | succ k1 =>
   have H := HA.out
   clear HA
   simp only [sizarref12_Depth.l0] at H
   by_cases c3 : x4_1 < (l0_5.length : Int)
   ·rw [if_pos c3] at H
    have c3b0 : decide (x4_1 < (l0_5.length : Int)) = true := decide_eq_true c3
    clear c3
    by_cases c4 : 0 ≤ x4_1
    ·rw [if_pos c4] at H
     have c4b0 : decide (0 ≤ x4_1) = true := decide_eq_true c4
     clear c4
     replace H := Option.bind_eq_some_iff.mp H
     obtain ⟨t288, A50, H⟩ := H
     replace H : (sizarref12_Depth.l0 k1 (mx x3_1 t288) (wrap64 (x4_1 + 1)) a0_0 a0_1 a0_2 a0_3 a0_4 l0_5) = some r := H
     have A5 := Aside0.mk A50
     clear A50
     obtain ⟨ji6, hji6⟩ : ∃ j_ : Int, (mx x3_1 t288) = j_ := ⟨_, rfl⟩
     replace H : (sizarref12_Depth.l0 k1 ji6 (wrap64 (x4_1 + 1)) a0_0 a0_1 a0_2 a0_3 a0_4 l0_5) = some r := by first | (rw [hji6] at H; exact H) | (simp only [hji6] at H ⊢; exact H)
     (try rw [hji6] at A5)
     have hji6_ : (if x3_1 < t288 then t288 else x3_1) = ji6 := hji6
     have H' := Aside0.mk H
     clear H
     have hcz7_0 : wr.cell? ⟨gb286, 0, none⟩ = some (.int .i64 a0_0) := (blk_cell BK286.out 0).trans rfl
     have hcz7_1 : wr.cell? ⟨gb286, 1, none⟩ = some (.int .i64 a0_1) := (blk_cell BK286.out 1).trans rfl
     have hcz7_2 : wr.cell? ⟨gb286, 2, none⟩ = some (.string a0_2) := (blk_cell BK286.out 2).trans rfl
     have hcz7_3 : wr.cell? ⟨gb286, 3, none⟩ = some (.int .i64 a0_3) := (blk_cell BK286.out 3).trans rfl
     have hcz7_4 : wr.cell? ⟨gb286, 4, none⟩ = some (.int .i64 a0_4) := (blk_cell BK286.out 4).trans rfl
     have hcz7_5 : wr.cell? ⟨gb286, 5, none⟩ = some (.slice A0_5 l0_5.length c0_5) := (blk_cell BK286.out 5).trans rfl
     have hfz7_0 := blk_frozen BK286.out 0
     have hfz7_1 := blk_frozen BK286.out 1
     have hfz7_2 := blk_frozen BK286.out 2
     have hfz7_3 := blk_frozen BK286.out 3
     have hfz7_4 := blk_frozen BK286.out 4
     have hfz7_5 := blk_frozen BK286.out 5
     have p287 : 0 ≤ (x4_1 : Int) := of_decide_eq_true (by first | (with_reducible assumption) | assumption)
     have q287 : x4_1 < (l0_5.length : Int) := of_decide_eq_true (by first | (with_reducible assumption) | assumption)
     obtain ⟨ad287, A287_5, c287_5, e287, hx287_0, hx287_1, hx287_2, hx287_3, hx287_4, hx287_5, hl287_5, hi287_5⟩ := at_T24 HR0_5.out x4_1 p287 q287
     cases e287
     replace hx287_0 := (HB.out.cell (World.block_lt_of_cell? w _ hx287_0)).trans hx287_0
     replace hx287_1 := (HB.out.cell (World.block_lt_of_cell? w _ hx287_1)).trans hx287_1
     replace hx287_2 := (HB.out.cell (World.block_lt_of_cell? w _ hx287_2)).trans hx287_2
     replace hx287_3 := (HB.out.cell (World.block_lt_of_cell? w _ hx287_3)).trans hx287_3
     replace hx287_4 := (HB.out.cell (World.block_lt_of_cell? w _ hx287_4)).trans hx287_4
     replace hx287_5 := (HB.out.cell (World.block_lt_of_cell? w _ hx287_5)).trans hx287_5
     have HR287_5 := Aside0.mk hi287_5
     have HC287_5 := Aside0.mk hl287_5
     clear hi287_5 hl287_5
     replace p287 := eq_true p287
     replace q287 := eq_true q287
     go_wp2_with (first | ((with_reducible refine gate_callee (f := 27) rfl ?_); refine goesL_ (some 18) rfl rfl Tryd.func27 (by kernel_rfl) rfl #[.agg #[.int .i64 ((rd_T24 l0_5 x4_1).f0), .int .i64 ((rd_T24 l0_5 x4_1).f1), .string ((rd_T24 l0_5 x4_1).f2), .int .i64 ((rd_T24 l0_5 x4_1).f3), .int .i64 ((rd_T24 l0_5 x4_1).f4), .slice A287_5 ((rd_T24 l0_5 x4_1).f5).length c287_5]] rfl (by (try simp only [List.map_toArray, List.map_cons, List.map_nil]); first | done | rfl | (simp only [List.length_drop, List.length_take]; rfl)) ?_; (with_reducible refine (ih k1 (by have := HK1.out; omega) ((rd_T24 l0_5 x4_1).f0) ((rd_T24 l0_5 x4_1).f1) ((rd_T24 l0_5 x4_1).f2) ((rd_T24 l0_5 x4_1).f3) ((rd_T24 l0_5 x4_1).f4) _ _ ((rd_T24 l0_5 x4_1).f5) t288 _ ?side1 ?side2 A5.out).mono ?_); (case side1 => repeat (first | exact (Kd.C_below HR287_5.out HB.out) | (with_reducible refine Kd.C_alloc ?_ _) | (with_reducible refine Kd.C_drewN ?_ _) | (with_reducible refine Kd.C_drew ?_))); (case side2 => exact HC287_5.out); rintro e w8 ⟨rfl, hb⟩; refine ⟨_, rfl, ?_⟩; have n0_ := Aside0.mk (blk_below (g := gb286) (o := .cells #[.int .i64 a0_0, .int .i64 a0_1, .string a0_2, .int .i64 a0_3, .int .i64 a0_4, .slice (some ad287) l0_5.length c0_5] 24 (0, 0)) (by (with_reducible repeat (first | refine blk_drewN ?_ _ | refine blk_drew ?_ | refine blk_alloc ?_ _)); exact BK286.out) hb); have n1_ := Aside0.mk (below_step (by repeat (first | (with_reducible first | exact HB.out | apply below_alloc | apply pw_below_drewN | apply below_drew1 | refine below_set ?_ GE286.out) | exact HB.out)) hb); clear BK286; clear HB; have BK286 := n0_; have HB := n1_; clear n0_ n1_; (try clear hb); (try clear hb2); (try clear hk); (try clear hi)))
     go_roundg k1
     case measure => have := HK1.out; omega
     case rel => exact ⟨(ji6), (wrap64 (x4_1 + 1)), (by first | rfl | (simp; done) | (simp only [← hji6] <;> (first | rfl | simp)) | (simp [*]; done)), (by first | rfl | (simp; done) | (simp [*]; done)), H', ⟨by have := HK1.out; omega⟩, ⟨by (with_reducible repeat (first | refine blk_drewN ?_ _ | refine blk_drew ?_ | refine blk_alloc ?_ _)); exact BK286.out⟩, ⟨by repeat (first | (with_reducible first | exact HB.out | apply below_alloc | apply pw_below_drewN | apply below_drew1 | refine below_set ?_ GE286.out) | exact HB.out)⟩⟩
    ·rw [if_neg c4] at H
     exact absurd H (by simp)
   ·rw [if_neg c3] at H
    have c3b0 : decide (x4_1 < (l0_5.length : Int)) = false := decide_eq_false c3
    clear c3
    obtain rfl := Option.some.inj H
    have hcz9_0 : wr.cell? ⟨gb286, 0, none⟩ = some (.int .i64 a0_0) := (blk_cell BK286.out 0).trans rfl
    have hcz9_1 : wr.cell? ⟨gb286, 1, none⟩ = some (.int .i64 a0_1) := (blk_cell BK286.out 1).trans rfl
    have hcz9_2 : wr.cell? ⟨gb286, 2, none⟩ = some (.string a0_2) := (blk_cell BK286.out 2).trans rfl
    have hcz9_3 : wr.cell? ⟨gb286, 3, none⟩ = some (.int .i64 a0_3) := (blk_cell BK286.out 3).trans rfl
    have hcz9_4 : wr.cell? ⟨gb286, 4, none⟩ = some (.int .i64 a0_4) := (blk_cell BK286.out 4).trans rfl
    have hcz9_5 : wr.cell? ⟨gb286, 5, none⟩ = some (.slice A0_5 l0_5.length c0_5) := (blk_cell BK286.out 5).trans rfl
    have hfz9_0 := blk_frozen BK286.out 0
    have hfz9_1 := blk_frozen BK286.out 1
    have hfz9_2 := blk_frozen BK286.out 2
    have hfz9_3 := blk_frozen BK286.out 3
    have hfz9_4 := blk_frozen BK286.out 4
    have hfz9_5 := blk_frozen BK286.out 5
    go_wp2
    go_ret
    exact ⟨by first | rfl | (simp [errW_none, errW_some] <;> rfl) | (simp [*, errW_none, errW_some] <;> rfl), by repeat (first | (with_reducible first | exact HB.out | apply below_alloc | apply pw_below_drewN | apply below_drew1 | refine below_set ?_ GE286.out) | exact HB.out)⟩
mutual
def sizarref12_Parts.l0 : Nat → Int → Int → Int → Int → ByteArray → Int → Int → List (S24) → Option (Int)
 | 0, _, _, _, _, _, _, _, _ => none
 | k + 1, x3, x4, x290000, x290001, x290002, x290003, x290004, x290005 => if x4 < (x290005.length : Int) then (if 0 ≤ x4 then ((sizarref12_Parts.f k ((rd_T24 x290005 x4).f0) ((rd_T24 x290005 x4).f1) ((rd_T24 x290005 x4).f2) ((rd_T24 x290005 x4).f3) ((rd_T24 x290005 x4).f4) ((rd_T24 x290005 x4).f5)).bind fun t291 => (sizarref12_Parts.l0 k (wrap64 (x3 + t291)) (wrap64 (x4 + 1)) x290000 x290001 x290002 x290003 x290004 x290005)) else (none)) else (some x3)
def sizarref12_Parts.f : Nat → Int → Int → ByteArray → Int → Int → List (S24) → Option (Int)
 | 0, _, _, _, _, _, _ => none
 | k + 1, a0_0, a0_1, a0_2, a0_3, a0_4, l0_5 => sizarref12_Parts.l0 k 1 0 a0_0 a0_1 a0_2 a0_3 a0_4 l0_5
end
set_option maxHeartbeats 8000000 in
set_option maxRecDepth 100000 in
theorem sizarref12_Parts.calls (k : Nat) : ∀ (a0_0 : Int) (a0_1 : Int) (a0_2 : ByteArray) (a0_3 : Int) (a0_4 : Int) (A0_5 : Option Addr) (c0_5 : Nat) (l0_5 : List (S24)) (r : Int) (w : World) (hr0_5 : Kd.C k24 w A0_5 l0_5.length l0_5) (hc0_5 : l0_5.length ≤ c0_5) (h : sizarref12_Parts.f k a0_0 a0_1 a0_2 a0_3 a0_4 l0_5 = some r),
  Calls Tryd.prog 28 #[.agg #[.int .i64 a0_0, .int .i64 a0_1, .string a0_2, .int .i64 a0_3, .int .i64 a0_4, .slice A0_5 l0_5.length c0_5]] w fun e w' => e = .returned (.int .i64 r) ∧ Below w.heap.size w w' := by
 induction k using Nat.strongRecOn with
 | _ k ih =>
 intro a0_0 a0_1 a0_2 a0_3 a0_4 A0_5 c0_5 l0_5 r w hr0_5 hc0_5 h
 cases k with
 | zero => exact absurd h (by simp [sizarref12_Parts.f])
 | succ k =>
 simp only [sizarref12_Parts.f] at h
 have hu24 := Tryd.underlying24
 have HR0_5 := Aside0.mk hr0_5
 have HC0_5 := Aside0.mk hc0_5
 clear hr0_5 hc0_5
 have HB := Aside0.mk (Below.refl w.heap.size w)
 have H : (sizarref12_Parts.l0 k 1 0 a0_0 a0_1 a0_2 a0_3 a0_4 l0_5) = some r := h
 clear h
 have H' := Aside0.mk H
 clear H
 go_enter Tryd.func28, Tryd.ntmps28
 go_wp2_with (first | ((with_reducible refine gate_dst (N := 1) rfl ?_); refine box_event ?hg (N := 1) ?hd (cs := #[.int .i64 a0_0, .int .i64 a0_1, .string a0_2, .int .i64 a0_3, .int .i64 a0_4, .slice A0_5 l0_5.length c0_5]) (t := 24) ?hr ?_; (case hd => rfl); (case hg => rfl); (case hr => first | (go_simp; done) | (go_simp; rfl)); intro gb289 hg w2 hbox hb; have n0_ := Aside0.mk (below_step (by repeat (first | (with_reducible first | exact HB.out | apply below_alloc | apply pw_below_drewN | apply below_drew1) | exact HB.out)) hb); have n1_ := Aside0.mk (hbox); have n2_ := Aside0.mk ((by rw [hg]; exact (below_size (by repeat (first | (with_reducible first | exact HB.out | apply below_alloc | apply pw_below_drewN | apply below_drew1) | exact HB.out))) : w.heap.size ≤ gb289)); have n3_ := Aside0.mk ((by rw [hg]; exact (below_size (by repeat (first | (with_reducible first | exact HB.out | apply below_alloc | apply pw_below_drewN | apply below_drew1) | exact HB.out))) : w.heap.size ≤ gb289)); clear HB; have HB := n0_; have BK289 := n1_; have GW289 := n2_; have GE289 := n3_; clear n0_ n1_ n2_ n3_; clear hb hbox hg))
 go_loopg [3, 4] k (fun kq v3 v4 w' => ∃ (x3_1 : Int) (x4_1 : Int), v3 = .int .i64 x3_1 ∧ v4 = .int .i64 x4_1 ∧ Aside0 (sizarref12_Parts.l0 kq x3_1 x4_1 a0_0 a0_1 a0_2 a0_3 a0_4 l0_5 = some r) ∧ Aside0 (kq ≤ k) ∧ Aside0 (w'.heap[gb289]? = some (.cells #[.int .i64 a0_0, .int .i64 a0_1, .string a0_2, .int .i64 a0_3, .int .i64 a0_4, (.slice A0_5 l0_5.length c0_5)] 24 (0, 0))) ∧ Aside0 (Below w.heap.size w w'))
 case atStart => exact ⟨(1), (0), (by first | rfl | (simp; done) | (simp [*]; done)), (by first | rfl | (simp; done) | (simp [*]; done)), H', ⟨Nat.le_refl _⟩, ⟨by (with_reducible repeat (first | refine blk_drewN ?_ _ | refine blk_drew ?_ | refine blk_alloc ?_ _)); exact BK289.out⟩, ⟨by repeat (first | (with_reducible first | exact HB.out | apply below_alloc | apply pw_below_drewN | apply below_drew1 | refine below_set ?_ GE289.out) | exact HB.out)⟩⟩
 case round =>
  clear H'
  try clear c2
  try clear p2
  obtain ⟨x3_1, x4_1, rfl, rfl, HA, HK1, BK289, HB⟩ := hrel
  cases gk with
  | zero => exact absurd HA.out (by simp [sizarref12_Parts.l0])
  | succ k1 =>
   have H := HA.out
   clear HA
   simp only [sizarref12_Parts.l0] at H
   by_cases c3 : x4_1 < (l0_5.length : Int)
   ·rw [if_pos c3] at H
    have c3b0 : decide (x4_1 < (l0_5.length : Int)) = true := decide_eq_true c3
    clear c3
    by_cases c4 : 0 ≤ x4_1
    ·rw [if_pos c4] at H
     have c4b0 : decide (0 ≤ x4_1) = true := decide_eq_true c4
     clear c4
     replace H := Option.bind_eq_some_iff.mp H
     obtain ⟨t291, A50, H⟩ := H
     replace H : (sizarref12_Parts.l0 k1 (wrap64 (x3_1 + t291)) (wrap64 (x4_1 + 1)) a0_0 a0_1 a0_2 a0_3 a0_4 l0_5) = some r := H
     have A5 := Aside0.mk A50
     clear A50
     have H' := Aside0.mk H
     clear H
     have hcz6_0 : wr.cell? ⟨gb289, 0, none⟩ = some (.int .i64 a0_0) := (blk_cell BK289.out 0).trans rfl
     have hcz6_1 : wr.cell? ⟨gb289, 1, none⟩ = some (.int .i64 a0_1) := (blk_cell BK289.out 1).trans rfl
     have hcz6_2 : wr.cell? ⟨gb289, 2, none⟩ = some (.string a0_2) := (blk_cell BK289.out 2).trans rfl
     have hcz6_3 : wr.cell? ⟨gb289, 3, none⟩ = some (.int .i64 a0_3) := (blk_cell BK289.out 3).trans rfl
     have hcz6_4 : wr.cell? ⟨gb289, 4, none⟩ = some (.int .i64 a0_4) := (blk_cell BK289.out 4).trans rfl
     have hcz6_5 : wr.cell? ⟨gb289, 5, none⟩ = some (.slice A0_5 l0_5.length c0_5) := (blk_cell BK289.out 5).trans rfl
     have hfz6_0 := blk_frozen BK289.out 0
     have hfz6_1 := blk_frozen BK289.out 1
     have hfz6_2 := blk_frozen BK289.out 2
     have hfz6_3 := blk_frozen BK289.out 3
     have hfz6_4 := blk_frozen BK289.out 4
     have hfz6_5 := blk_frozen BK289.out 5
     have p290 : 0 ≤ (x4_1 : Int) := of_decide_eq_true (by first | (with_reducible assumption) | assumption)
     have q290 : x4_1 < (l0_5.length : Int) := of_decide_eq_true (by first | (with_reducible assumption) | assumption)
     obtain ⟨ad290, A290_5, c290_5, e290, hx290_0, hx290_1, hx290_2, hx290_3, hx290_4, hx290_5, hl290_5, hi290_5⟩ := at_T24 HR0_5.out x4_1 p290 q290
     cases e290
     replace hx290_0 := (HB.out.cell (World.block_lt_of_cell? w _ hx290_0)).trans hx290_0
     replace hx290_1 := (HB.out.cell (World.block_lt_of_cell? w _ hx290_1)).trans hx290_1
     replace hx290_2 := (HB.out.cell (World.block_lt_of_cell? w _ hx290_2)).trans hx290_2
     replace hx290_3 := (HB.out.cell (World.block_lt_of_cell? w _ hx290_3)).trans hx290_3
     replace hx290_4 := (HB.out.cell (World.block_lt_of_cell? w _ hx290_4)).trans hx290_4
     replace hx290_5 := (HB.out.cell (World.block_lt_of_cell? w _ hx290_5)).trans hx290_5
     have HR290_5 := Aside0.mk hi290_5
     have HC290_5 := Aside0.mk hl290_5
     clear hi290_5 hl290_5
     replace p290 := eq_true p290
     replace q290 := eq_true q290
     go_wp2_with (first | ((with_reducible refine gate_callee (f := 28) rfl ?_); refine goesL_ (some 18) rfl rfl Tryd.func28 (by kernel_rfl) rfl #[.agg #[.int .i64 ((rd_T24 l0_5 x4_1).f0), .int .i64 ((rd_T24 l0_5 x4_1).f1), .string ((rd_T24 l0_5 x4_1).f2), .int .i64 ((rd_T24 l0_5 x4_1).f3), .int .i64 ((rd_T24 l0_5 x4_1).f4), .slice A290_5 ((rd_T24 l0_5 x4_1).f5).length c290_5]] rfl (by (try simp only [List.map_toArray, List.map_cons, List.map_nil]); first | done | rfl | (simp only [List.length_drop, List.length_take]; rfl)) ?_; (with_reducible refine (ih k1 (by have := HK1.out; omega) ((rd_T24 l0_5 x4_1).f0) ((rd_T24 l0_5 x4_1).f1) ((rd_T24 l0_5 x4_1).f2) ((rd_T24 l0_5 x4_1).f3) ((rd_T24 l0_5 x4_1).f4) _ _ ((rd_T24 l0_5 x4_1).f5) t291 _ ?side1 ?side2 A5.out).mono ?_); (case side1 => repeat (first | exact (Kd.C_below HR290_5.out HB.out) | (with_reducible refine Kd.C_alloc ?_ _) | (with_reducible refine Kd.C_drewN ?_ _) | (with_reducible refine Kd.C_drew ?_))); (case side2 => exact HC290_5.out); rintro e w7 ⟨rfl, hb⟩; refine ⟨_, rfl, ?_⟩; have n0_ := Aside0.mk (blk_below (g := gb289) (o := .cells #[.int .i64 a0_0, .int .i64 a0_1, .string a0_2, .int .i64 a0_3, .int .i64 a0_4, .slice (some ad290) l0_5.length c0_5] 24 (0, 0)) (by (with_reducible repeat (first | refine blk_drewN ?_ _ | refine blk_drew ?_ | refine blk_alloc ?_ _)); exact BK289.out) hb); have n1_ := Aside0.mk (below_step (by repeat (first | (with_reducible first | exact HB.out | apply below_alloc | apply pw_below_drewN | apply below_drew1 | refine below_set ?_ GE289.out) | exact HB.out)) hb); clear BK289; clear HB; have BK289 := n0_; have HB := n1_; clear n0_ n1_; (try clear hb); (try clear hb2); (try clear hk); (try clear hi)))
     go_roundg k1
     case measure => have := HK1.out; omega
     case rel => exact ⟨(wrap64 (x3_1 + t291)), (wrap64 (x4_1 + 1)), (by first | rfl | (simp; done) | (simp [*]; done)), (by first | rfl | (simp; done) | (simp [*]; done)), H', ⟨by have := HK1.out; omega⟩, ⟨by (with_reducible repeat (first | refine blk_drewN ?_ _ | refine blk_drew ?_ | refine blk_alloc ?_ _)); exact BK289.out⟩, ⟨by repeat (first | (with_reducible first | exact HB.out | apply below_alloc | apply pw_below_drewN | apply below_drew1 | refine below_set ?_ GE289.out) | exact HB.out)⟩⟩
    ·rw [if_neg c4] at H
     exact absurd H (by simp)
   ·rw [if_neg c3] at H
    have c3b0 : decide (x4_1 < (l0_5.length : Int)) = false := decide_eq_false c3
    clear c3
    obtain rfl := Option.some.inj H
    have hcz8_0 : wr.cell? ⟨gb289, 0, none⟩ = some (.int .i64 a0_0) := (blk_cell BK289.out 0).trans rfl
    have hcz8_1 : wr.cell? ⟨gb289, 1, none⟩ = some (.int .i64 a0_1) := (blk_cell BK289.out 1).trans rfl
    have hcz8_2 : wr.cell? ⟨gb289, 2, none⟩ = some (.string a0_2) := (blk_cell BK289.out 2).trans rfl
    have hcz8_3 : wr.cell? ⟨gb289, 3, none⟩ = some (.int .i64 a0_3) := (blk_cell BK289.out 3).trans rfl
    have hcz8_4 : wr.cell? ⟨gb289, 4, none⟩ = some (.int .i64 a0_4) := (blk_cell BK289.out 4).trans rfl
    have hcz8_5 : wr.cell? ⟨gb289, 5, none⟩ = some (.slice A0_5 l0_5.length c0_5) := (blk_cell BK289.out 5).trans rfl
    have hfz8_0 := blk_frozen BK289.out 0
    have hfz8_1 := blk_frozen BK289.out 1
    have hfz8_2 := blk_frozen BK289.out 2
    have hfz8_3 := blk_frozen BK289.out 3
    have hfz8_4 := blk_frozen BK289.out 4
    have hfz8_5 := blk_frozen BK289.out 5
    go_wp2
    go_ret
    exact ⟨by first | rfl | (simp [errW_none, errW_some] <;> rfl) | (simp [*, errW_none, errW_some] <;> rfl), by repeat (first | (with_reducible first | exact HB.out | apply below_alloc | apply pw_below_drewN | apply below_drew1 | refine below_set ?_ GE289.out) | exact HB.out)⟩
end Go.Proofs.YtabocfninjankaaDoor.P
namespace Go.Proofs.YtabocfninjankaaDoor.P
open Go.RowKit Go.Proofs.YtabocfninjankaaDoorW.PrintWords Go.Proofs.YtabocfninjankaaDoorW.PrintLast Go.Proofs.YtabocfninjankaaDoorW.PrintMore
attribute [local go_sem] max2_int min2_int max_two min_two max_three min_three max_four min_four   -- for this text's walks alone
set_option linter.unusedVariables false
set_option linter.unusedSimpArgs false
def sizarref12_Few.f (k : Nat) (a0_0 : Int) (a0_1 : Int) (a0_2 : ByteArray) (a0_3 : Int) (a0_4 : Int) (l0_5 : List (S24)) : Option (Bool) := (sizarref12_Depth.f k a0_0 a0_1 a0_2 a0_3 a0_4 l0_5).bind fun t329 => (if t329 ≤ 40 then ((sizarref12_Parts.f k a0_0 a0_1 a0_2 a0_3 a0_4 l0_5).bind fun t330 => (some (decide (t330 ≤ 300)))) else (some false))
set_option maxHeartbeats 8000000 in
set_option maxRecDepth 100000 in
theorem sizarref12_Few.calls (k : Nat) (a0_0 : Int) (a0_1 : Int) (a0_2 : ByteArray) (a0_3 : Int) (a0_4 : Int) (A0_5 : Option Addr) (c0_5 : Nat) (l0_5 : List (S24)) (r : Bool) (w : World) (hr0_5 : Kd.C k24 w A0_5 l0_5.length l0_5) (hc0_5 : l0_5.length ≤ c0_5) (h : sizarref12_Few.f k a0_0 a0_1 a0_2 a0_3 a0_4 l0_5 = some r) :
  Calls Tryd.prog 11 #[.agg #[.int .i64 a0_0, .int .i64 a0_1, .string a0_2, .int .i64 a0_3, .int .i64 a0_4, .slice A0_5 l0_5.length c0_5]] w fun e w' => e = .returned (.bool r) ∧ Below w.heap.size w w' := by
 have hu24 := Tryd.underlying24
 have HR0_5 := Aside0.mk hr0_5
 have HC0_5 := Aside0.mk hc0_5
 clear hr0_5 hc0_5
 have HB := Aside0.mk (Below.refl w.heap.size w)
 have H : ((sizarref12_Depth.f k a0_0 a0_1 a0_2 a0_3 a0_4 l0_5).bind fun t329 => (if t329 ≤ 40 then ((sizarref12_Parts.f k a0_0 a0_1 a0_2 a0_3 a0_4 l0_5).bind fun t330 => (some (decide (t330 ≤ 300)))) else (some false))) = some r := h
 clear h
 replace H := Option.bind_eq_some_iff.mp H
 obtain ⟨t329, A20, H⟩ := H
 replace H : (if t329 ≤ 40 then ((sizarref12_Parts.f k a0_0 a0_1 a0_2 a0_3 a0_4 l0_5).bind fun t330 => (some (decide (t330 ≤ 300)))) else (some false)) = some r := H
 have A2 := Aside0.mk A20
 clear A20
 by_cases c3 : t329 ≤ 40
 ·rw [if_pos c3] at H
  have c3b0 : decide (t329 ≤ 40) = true := decide_eq_true c3
  clear c3
  replace H := Option.bind_eq_some_iff.mp H
  obtain ⟨t330, A40, H⟩ := H
  replace H : (some (decide (t330 ≤ 300))) = some r := H
  have A4 := Aside0.mk A40
  clear A40
  obtain rfl := Option.some.inj H
  go_enter Tryd.func11, Tryd.ntmps11
  go_wp2_with (first | ((with_reducible refine gate_dst (N := 1) rfl ?_); refine box_event ?hg (N := 1) ?hd (cs := #[.int .i64 a0_0, .int .i64 a0_1, .string a0_2, .int .i64 a0_3, .int .i64 a0_4, .slice A0_5 l0_5.length c0_5]) (t := 24) ?hr ?_; (case hd => rfl); (case hg => rfl); (case hr => first | (go_simp; done) | (go_simp; rfl)); intro gb328 hg w5 hbox hb; have n0_ := Aside0.mk (below_step (by repeat (first | (with_reducible first | exact HB.out | apply below_alloc | apply pw_below_drewN | apply below_drew1) | exact HB.out)) hb); have n1_ := Aside0.mk (hbox); have n2_ := Aside0.mk ((by rw [hg]; exact (below_size (by repeat (first | (with_reducible first | exact HB.out | apply below_alloc | apply pw_below_drewN | apply below_drew1) | exact HB.out))) : w.heap.size ≤ gb328)); have n3_ := Aside0.mk ((by rw [hg]; exact (below_size (by repeat (first | (with_reducible first | exact HB.out | apply below_alloc | apply pw_below_drewN | apply below_drew1) | exact HB.out))) : w.heap.size ≤ gb328)); clear HB; have HB := n0_; have BK328 := n1_; have GW328 := n2_; have GE328 := n3_; clear n0_ n1_ n2_ n3_; clear hb hbox hg; have hcz6_0 : w5.cell? ⟨gb328, 0, none⟩ = some (.int .i64 a0_0) := (blk_cell BK328.out 0).trans rfl; have hcz6_1 : w5.cell? ⟨gb328, 1, none⟩ = some (.int .i64 a0_1) := (blk_cell BK328.out 1).trans rfl; have hcz6_2 : w5.cell? ⟨gb328, 2, none⟩ = some (.string a0_2) := (blk_cell BK328.out 2).trans rfl; have hcz6_3 : w5.cell? ⟨gb328, 3, none⟩ = some (.int .i64 a0_3) := (blk_cell BK328.out 3).trans rfl; have hcz6_4 : w5.cell? ⟨gb328, 4, none⟩ = some (.int .i64 a0_4) := (blk_cell BK328.out 4).trans rfl; have hcz6_5 : w5.cell? ⟨gb328, 5, none⟩ = some (.slice A0_5 l0_5.length c0_5) := (blk_cell BK328.out 5).trans rfl; have hfz6_0 := blk_frozen BK328.out 0; have hfz6_1 := blk_frozen BK328.out 1; have hfz6_2 := blk_frozen BK328.out 2; have hfz6_3 := blk_frozen BK328.out 3; have hfz6_4 := blk_frozen BK328.out 4; have hfz6_5 := blk_frozen BK328.out 5) | ((with_reducible refine gate_callee (f := 27) rfl ?_); refine goesL_ (some 4) rfl rfl Tryd.func27 (by kernel_rfl) rfl #[.agg #[.int .i64 a0_0, .int .i64 a0_1, .string a0_2, .int .i64 a0_3, .int .i64 a0_4, .slice A0_5 l0_5.length c0_5]] rfl (by (try simp only [List.map_toArray, List.map_cons, List.map_nil]); first | done | rfl | (simp only [List.length_drop, List.length_take]; rfl)) ?_; (with_reducible refine (sizarref12_Depth.calls k a0_0 a0_1 a0_2 a0_3 a0_4 _ _ l0_5 t329 _ ?side1 ?side2 A2.out).mono ?_); (case side1 => repeat (first | exact (Kd.C_below HR0_5.out HB.out) | (with_reducible refine Kd.C_alloc ?_ _) | (with_reducible refine Kd.C_drewN ?_ _) | (with_reducible refine Kd.C_drew ?_))); (case side2 => exact HC0_5.out); rintro e w7 ⟨rfl, hb⟩; refine ⟨_, rfl, ?_⟩; have n0_ := Aside0.mk (blk_below (g := gb328) (o := .cells #[.int .i64 a0_0, .int .i64 a0_1, .string a0_2, .int .i64 a0_3, .int .i64 a0_4, .slice A0_5 l0_5.length c0_5] 24 (0, 0)) (by (with_reducible repeat (first | refine blk_drewN ?_ _ | refine blk_drew ?_ | refine blk_alloc ?_ _)); exact BK328.out) hb); have n1_ := Aside0.mk (below_step (by repeat (first | (with_reducible first | exact HB.out | apply below_alloc | apply pw_below_drewN | apply below_drew1 | refine below_set ?_ GE328.out) | exact HB.out)) hb); clear BK328; clear HB; have BK328 := n0_; have HB := n1_; clear n0_ n1_; (try clear hb); (try clear hb2); (try clear hk); (try clear hi); have hcz8_0 : w7.cell? ⟨gb328, 0, none⟩ = some (.int .i64 a0_0) := (blk_cell BK328.out 0).trans rfl; have hcz8_1 : w7.cell? ⟨gb328, 1, none⟩ = some (.int .i64 a0_1) := (blk_cell BK328.out 1).trans rfl; have hcz8_2 : w7.cell? ⟨gb328, 2, none⟩ = some (.string a0_2) := (blk_cell BK328.out 2).trans rfl; have hcz8_3 : w7.cell? ⟨gb328, 3, none⟩ = some (.int .i64 a0_3) := (blk_cell BK328.out 3).trans rfl; have hcz8_4 : w7.cell? ⟨gb328, 4, none⟩ = some (.int .i64 a0_4) := (blk_cell BK328.out 4).trans rfl; have hcz8_5 : w7.cell? ⟨gb328, 5, none⟩ = some (.slice A0_5 l0_5.length c0_5) := (blk_cell BK328.out 5).trans rfl; have hfz8_0 := blk_frozen BK328.out 0; have hfz8_1 := blk_frozen BK328.out 1; have hfz8_2 := blk_frozen BK328.out 2; have hfz8_3 := blk_frozen BK328.out 3; have hfz8_4 := blk_frozen BK328.out 4; have hfz8_5 := blk_frozen BK328.out 5) | (go_at_call 28; (with_reducible refine (sizarref12_Parts.calls k a0_0 a0_1 a0_2 a0_3 a0_4 _ _ l0_5 t330 _ ?side1 ?side2 A4.out).mono ?_); (case side1 => repeat (first | exact (Kd.C_below HR0_5.out HB.out) | (with_reducible refine Kd.C_alloc ?_ _) | (with_reducible refine Kd.C_drewN ?_ _) | (with_reducible refine Kd.C_drew ?_))); (case side2 => exact HC0_5.out); rintro e w9 ⟨rfl, hb⟩; have n0_ := Aside0.mk (blk_below (g := gb328) (o := .cells #[.int .i64 a0_0, .int .i64 a0_1, .string a0_2, .int .i64 a0_3, .int .i64 a0_4, .slice A0_5 l0_5.length c0_5] 24 (0, 0)) (by (with_reducible repeat (first | refine blk_drewN ?_ _ | refine blk_drew ?_ | refine blk_alloc ?_ _)); exact BK328.out) hb); have n1_ := Aside0.mk (below_step (by repeat (first | (with_reducible first | exact HB.out | apply below_alloc | apply pw_below_drewN | apply below_drew1 | refine below_set ?_ GE328.out) | exact HB.out)) hb); clear BK328; clear HB; have BK328 := n0_; have HB := n1_; clear n0_ n1_; (try clear hb); (try clear hb2); (try clear hk); (try clear hi)))
  go_ret
  exact ⟨by first | rfl | (simp [errW_none, errW_some] <;> rfl) | (simp [*, errW_none, errW_some] <;> rfl), by repeat (first | (with_reducible first | exact HB.out | apply below_alloc | apply pw_below_drewN | apply below_drew1 | refine below_set ?_ GE328.out) | exact HB.out)⟩
 ·rw [if_neg c3] at H
  have c3b0 : decide (t329 ≤ 40) = false := decide_eq_false c3
  clear c3
  obtain rfl := Option.some.inj H
  go_enter Tryd.func11, Tryd.ntmps11
  go_wp2_with (first | ((with_reducible refine gate_dst (N := 1) rfl ?_); refine box_event ?hg (N := 1) ?hd (cs := #[.int .i64 a0_0, .int .i64 a0_1, .string a0_2, .int .i64 a0_3, .int .i64 a0_4, .slice A0_5 l0_5.length c0_5]) (t := 24) ?hr ?_; (case hd => rfl); (case hg => rfl); (case hr => first | (go_simp; done) | (go_simp; rfl)); intro gb328 hg w10 hbox hb; have n0_ := Aside0.mk (below_step (by repeat (first | (with_reducible first | exact HB.out | apply below_alloc | apply pw_below_drewN | apply below_drew1) | exact HB.out)) hb); have n1_ := Aside0.mk (hbox); have n2_ := Aside0.mk ((by rw [hg]; exact (below_size (by repeat (first | (with_reducible first | exact HB.out | apply below_alloc | apply pw_below_drewN | apply below_drew1) | exact HB.out))) : w.heap.size ≤ gb328)); have n3_ := Aside0.mk ((by rw [hg]; exact (below_size (by repeat (first | (with_reducible first | exact HB.out | apply below_alloc | apply pw_below_drewN | apply below_drew1) | exact HB.out))) : w.heap.size ≤ gb328)); clear HB; have HB := n0_; have BK328 := n1_; have GW328 := n2_; have GE328 := n3_; clear n0_ n1_ n2_ n3_; clear hb hbox hg; have hcz11_0 : w10.cell? ⟨gb328, 0, none⟩ = some (.int .i64 a0_0) := (blk_cell BK328.out 0).trans rfl; have hcz11_1 : w10.cell? ⟨gb328, 1, none⟩ = some (.int .i64 a0_1) := (blk_cell BK328.out 1).trans rfl; have hcz11_2 : w10.cell? ⟨gb328, 2, none⟩ = some (.string a0_2) := (blk_cell BK328.out 2).trans rfl; have hcz11_3 : w10.cell? ⟨gb328, 3, none⟩ = some (.int .i64 a0_3) := (blk_cell BK328.out 3).trans rfl; have hcz11_4 : w10.cell? ⟨gb328, 4, none⟩ = some (.int .i64 a0_4) := (blk_cell BK328.out 4).trans rfl; have hcz11_5 : w10.cell? ⟨gb328, 5, none⟩ = some (.slice A0_5 l0_5.length c0_5) := (blk_cell BK328.out 5).trans rfl; have hfz11_0 := blk_frozen BK328.out 0; have hfz11_1 := blk_frozen BK328.out 1; have hfz11_2 := blk_frozen BK328.out 2; have hfz11_3 := blk_frozen BK328.out 3; have hfz11_4 := blk_frozen BK328.out 4; have hfz11_5 := blk_frozen BK328.out 5) | ((with_reducible refine gate_callee (f := 27) rfl ?_); refine goesL_ (some 4) rfl rfl Tryd.func27 (by kernel_rfl) rfl #[.agg #[.int .i64 a0_0, .int .i64 a0_1, .string a0_2, .int .i64 a0_3, .int .i64 a0_4, .slice A0_5 l0_5.length c0_5]] rfl (by (try simp only [List.map_toArray, List.map_cons, List.map_nil]); first | done | rfl | (simp only [List.length_drop, List.length_take]; rfl)) ?_; (with_reducible refine (sizarref12_Depth.calls k a0_0 a0_1 a0_2 a0_3 a0_4 _ _ l0_5 t329 _ ?side1 ?side2 A2.out).mono ?_); (case side1 => repeat (first | exact (Kd.C_below HR0_5.out HB.out) | (with_reducible refine Kd.C_alloc ?_ _) | (with_reducible refine Kd.C_drewN ?_ _) | (with_reducible refine Kd.C_drew ?_))); (case side2 => exact HC0_5.out); rintro e w12 ⟨rfl, hb⟩; refine ⟨_, rfl, ?_⟩; have n0_ := Aside0.mk (blk_below (g := gb328) (o := .cells #[.int .i64 a0_0, .int .i64 a0_1, .string a0_2, .int .i64 a0_3, .int .i64 a0_4, .slice A0_5 l0_5.length c0_5] 24 (0, 0)) (by (with_reducible repeat (first | refine blk_drewN ?_ _ | refine blk_drew ?_ | refine blk_alloc ?_ _)); exact BK328.out) hb); have n1_ := Aside0.mk (below_step (by repeat (first | (with_reducible first | exact HB.out | apply below_alloc | apply pw_below_drewN | apply below_drew1 | refine below_set ?_ GE328.out) | exact HB.out)) hb); clear BK328; clear HB; have BK328 := n0_; have HB := n1_; clear n0_ n1_; (try clear hb); (try clear hb2); (try clear hk); (try clear hi)))
  go_ret
  exact ⟨by first | rfl | (simp [errW_none, errW_some] <;> rfl) | (simp [*, errW_none, errW_some] <;> rfl), by repeat (first | (with_reducible first | exact HB.out | apply below_alloc | apply pw_below_drewN | apply below_drew1 | refine below_set ?_ GE328.out) | exact HB.out)⟩
def sizarlaw12_holds.f (k : Nat) (a0_0 : Int) (a0_1 : Int) (a0_2 : ByteArray) (a0_3 : Int) (a0_4 : Int) (l0_5 : List (S24)) (l1_0 : List (S49)) (a1_1 : Int) (a1_2 : Int) (a1_3 : Int) : Option (Bool) := (rules_Holds.f k a0_0 a0_1 a0_2 a0_3 a0_4 l0_5 l1_0 a1_1 a1_2 a1_3).bind fun bt333 => (if bt333.1 = true then (some (bt333.2 == 0)) else (some false))
set_option maxHeartbeats 8000000 in
set_option maxRecDepth 100000 in
theorem sizarlaw12_holds.calls (k : Nat) (a0_0 : Int) (a0_1 : Int) (a0_2 : ByteArray) (a0_3 : Int) (a0_4 : Int) (A0_5 : Option Addr) (c0_5 : Nat) (l0_5 : List (S24)) (A1_0 : Option Addr) (c1_0 : Nat) (l1_0 : List (S49)) (a1_1 : Int) (a1_2 : Int) (a1_3 : Int) (r : Bool) (w : World) (hr0_5 : Kd.C k24 w A0_5 l0_5.length l0_5) (hc0_5 : l0_5.length ≤ c0_5) (hr1_0 : Kd.C k49 w A1_0 l1_0.length l1_0) (hc1_0 : l1_0.length ≤ c1_0) (h : sizarlaw12_holds.f k a0_0 a0_1 a0_2 a0_3 a0_4 l0_5 l1_0 a1_1 a1_2 a1_3 = some r) (hKT : KindsAt w) :
  Calls Tryd.prog 22 #[.agg #[.int .i64 a0_0, .int .i64 a0_1, .string a0_2, .int .i64 a0_3, .int .i64 a0_4, .slice A0_5 l0_5.length c0_5], .agg #[.slice A1_0 l1_0.length c1_0, .int .i64 a1_1, .int .i64 a1_2, .int .i64 a1_3]] w fun e w' => e = .returned (.bool r) ∧ Below w.heap.size w w' := by
 have HKT := Aside0.mk hKT
 clear hKT
 have hu24 := Tryd.underlying24
 have hu29 := Tryd.underlying29
 have HR0_5 := Aside0.mk hr0_5
 have HC0_5 := Aside0.mk hc0_5
 clear hr0_5 hc0_5
 have HR1_0 := Aside0.mk hr1_0
 have HC1_0 := Aside0.mk hc1_0
 clear hr1_0 hc1_0
 have HB := Aside0.mk (Below.refl w.heap.size w)
 have H : ((rules_Holds.f k a0_0 a0_1 a0_2 a0_3 a0_4 l0_5 l1_0 a1_1 a1_2 a1_3).bind fun bt333 => (if bt333.1 = true then (some (bt333.2 == 0)) else (some false))) = some r := h
 clear h
 replace H := Option.bind_eq_some_iff.mp H
 obtain ⟨⟨t333, t334⟩, A30, H⟩ := H
 replace H : (if t333 = true then (some (t334 == 0)) else (some false)) = some r := H
 have A3 := Aside0.mk A30
 clear A30
 by_cases c4 : t333 = true
 ·subst c4
  have H1 : (some (t334 == 0)) = some r := by rw [if_pos rfl] at H; exact H
  clear H
  have H := H1
  clear H1
  obtain rfl := Option.some.inj H
  go_enter Tryd.func22, Tryd.ntmps22
  go_wp2_with (first | ((with_reducible refine gate_dst (N := 2) rfl ?_); refine box_event ?hg (N := 2) ?hd (cs := #[.int .i64 a0_0, .int .i64 a0_1, .string a0_2, .int .i64 a0_3, .int .i64 a0_4, .slice A0_5 l0_5.length c0_5]) (t := 24) ?hr ?_; (case hd => rfl); (case hg => rfl); (case hr => first | (go_simp; done) | (go_simp; rfl)); intro gb331 hg w5 hbox hb; have n0_ := Aside0.mk (below_step (by repeat (first | (with_reducible first | exact HB.out | apply below_alloc | apply pw_below_drewN | apply below_drew1) | exact HB.out)) hb); have n1_ := Aside0.mk (hbox); have n2_ := Aside0.mk ((by rw [hg]; exact (below_size (by repeat (first | (with_reducible first | exact HB.out | apply below_alloc | apply pw_below_drewN | apply below_drew1) | exact HB.out))) : w.heap.size ≤ gb331)); have n3_ := Aside0.mk ((by rw [hg]; exact (below_size (by repeat (first | (with_reducible first | exact HB.out | apply below_alloc | apply pw_below_drewN | apply below_drew1) | exact HB.out))) : w.heap.size ≤ gb331)); clear HB; have HB := n0_; have BK331 := n1_; have GW331 := n2_; have GE331 := n3_; clear n0_ n1_ n2_ n3_; clear hb hbox hg) | ((with_reducible refine gate_dst (N := 3) rfl ?_); refine box_event ?hg (N := 3) ?hd (cs := #[.slice A1_0 l1_0.length c1_0, .int .i64 a1_1, .int .i64 a1_2, .int .i64 a1_3]) (t := 29) ?hr ?_; (case hd => rfl); (case hg => rfl); (case hr => first | (go_simp; done) | (go_simp; rfl)); intro gb332 hg w6 hbox hb; have n0_ := Aside0.mk (blk_below (g := gb331) (o := .cells #[.int .i64 a0_0, .int .i64 a0_1, .string a0_2, .int .i64 a0_3, .int .i64 a0_4, .slice A0_5 l0_5.length c0_5] 24 (0, 0)) (by (with_reducible repeat (first | refine blk_drewN ?_ _ | refine blk_drew ?_ | refine blk_alloc ?_ _)); exact BK331.out) hb); have n1_ := Aside0.mk (below_step (by repeat (first | (with_reducible first | exact HB.out | apply below_alloc | apply pw_below_drewN | apply below_drew1 | refine below_set ?_ GE331.out) | exact HB.out)) hb); have n2_ := Aside0.mk (hbox); have n3_ := Aside0.mk ((by rw [hg]; exact (below_size (by repeat (first | (with_reducible first | exact HB.out | apply below_alloc | apply pw_below_drewN | apply below_drew1 | refine below_set ?_ GE331.out) | exact HB.out))) : w.heap.size ≤ gb332)); have n4_ := Aside0.mk ((by rw [hg]; exact (below_size (by repeat (first | (with_reducible first | exact HB.out | apply below_alloc | apply pw_below_drewN | apply below_drew1 | refine below_set ?_ GE331.out) | exact HB.out))) : w.heap.size ≤ gb332)); have n5_ := Aside0.mk ((by rw [hg]; exact Nat.ne_of_lt (blk_lt (g := gb331) (o := .cells #[.int .i64 a0_0, .int .i64 a0_1, .string a0_2, .int .i64 a0_3, .int .i64 a0_4, .slice A0_5 l0_5.length c0_5] 24 (0, 0)) (by (with_reducible repeat (first | refine blk_drewN ?_ _ | refine blk_drew ?_ | refine blk_alloc ?_ _)); exact BK331.out)) : gb331 ≠ gb332)); have n6_ := Aside0.mk ((by rw [hg]; exact Nat.ne_of_gt (blk_lt (g := gb331) (o := .cells #[.int .i64 a0_0, .int .i64 a0_1, .string a0_2, .int .i64 a0_3, .int .i64 a0_4, .slice A0_5 l0_5.length c0_5] 24 (0, 0)) (by (with_reducible repeat (first | refine blk_drewN ?_ _ | refine blk_drew ?_ | refine blk_alloc ?_ _)); exact BK331.out)) : gb332 ≠ gb331)); clear BK331; clear HB; have BK331 := n0_; have HB := n1_; have BK332 := n2_; have GW332 := n3_; have GE332 := n4_; have NB331_332 := n5_; have NB332_331 := n6_; clear n0_ n1_ n2_ n3_ n4_ n5_ n6_; clear hb hbox hg; have hnb7 := NB331_332.out; have hnc7 := NB332_331.out; have hcz8_0 : w6.cell? ⟨gb331, 0, none⟩ = some (.int .i64 a0_0) := (blk_cell BK331.out 0).trans rfl; have hcz8_1 : w6.cell? ⟨gb331, 1, none⟩ = some (.int .i64 a0_1) := (blk_cell BK331.out 1).trans rfl; have hcz8_2 : w6.cell? ⟨gb331, 2, none⟩ = some (.string a0_2) := (blk_cell BK331.out 2).trans rfl; have hcz8_3 : w6.cell? ⟨gb331, 3, none⟩ = some (.int .i64 a0_3) := (blk_cell BK331.out 3).trans rfl; have hcz8_4 : w6.cell? ⟨gb331, 4, none⟩ = some (.int .i64 a0_4) := (blk_cell BK331.out 4).trans rfl; have hcz8_5 : w6.cell? ⟨gb331, 5, none⟩ = some (.slice A0_5 l0_5.length c0_5) := (blk_cell BK331.out 5).trans rfl; have hfz8_0 := blk_frozen BK331.out 0; have hfz8_1 := blk_frozen BK331.out 1; have hfz8_2 := blk_frozen BK331.out 2; have hfz8_3 := blk_frozen BK331.out 3; have hfz8_4 := blk_frozen BK331.out 4; have hfz8_5 := blk_frozen BK331.out 5; have hcz9_0 : w6.cell? ⟨gb332, 0, none⟩ = some (.slice A1_0 l1_0.length c1_0) := (blk_cell BK332.out 0).trans rfl; have hcz9_1 : w6.cell? ⟨gb332, 1, none⟩ = some (.int .i64 a1_1) := (blk_cell BK332.out 1).trans rfl; have hcz9_2 : w6.cell? ⟨gb332, 2, none⟩ = some (.int .i64 a1_2) := (blk_cell BK332.out 2).trans rfl; have hcz9_3 : w6.cell? ⟨gb332, 3, none⟩ = some (.int .i64 a1_3) := (blk_cell BK332.out 3).trans rfl; have hfz9_0 := blk_frozen BK332.out 0; have hfz9_1 := blk_frozen BK332.out 1; have hfz9_2 := blk_frozen BK332.out 2; have hfz9_3 := blk_frozen BK332.out 3) | ((with_reducible refine gate_callee (f := 12) rfl ?_); refine goesL_ (some 10) rfl rfl Tryd.func12 (by kernel_rfl) rfl #[.agg #[.int .i64 a0_0, .int .i64 a0_1, .string a0_2, .int .i64 a0_3, .int .i64 a0_4, .slice A0_5 l0_5.length c0_5], .agg #[.slice A1_0 l1_0.length c1_0, .int .i64 a1_1, .int .i64 a1_2, .int .i64 a1_3]] rfl (by (try simp only [List.map_toArray, List.map_cons, List.map_nil]); first | done | rfl | (simp only [List.length_drop, List.length_take]; rfl)) ?_; (with_reducible refine (rules_Holds.calls k a0_0 a0_1 a0_2 a0_3 a0_4 _ _ l0_5 _ _ l1_0 a1_1 a1_2 a1_3 true t334 _ ?side1 ?side2 ?side3 ?side4 A3.out ?sideK).mono ?_); (case sideK => exact HKT.out.below (by repeat (first | (with_reducible first | exact HB.out | apply below_alloc | apply pw_below_drewN | apply below_drew1 | refine below_set ?_ GE331.out | refine below_set ?_ GE332.out) | exact HB.out))); (case side1 => repeat (first | exact (Kd.C_below HR0_5.out HB.out) | (with_reducible refine Kd.C_alloc ?_ _) | (with_reducible refine Kd.C_drewN ?_ _) | (with_reducible refine Kd.C_drew ?_))); (case side2 => exact HC0_5.out); (case side3 => repeat (first | exact (Kd.C_below HR1_0.out HB.out) | (with_reducible refine Kd.C_alloc ?_ _) | (with_reducible refine Kd.C_drewN ?_ _) | (with_reducible refine Kd.C_drew ?_))); (case side4 => exact HC1_0.out); rintro e w10 ⟨rfl, hb⟩; refine ⟨_, rfl, ?_⟩; have n0_ := Aside0.mk (blk_below (g := gb331) (o := .cells #[.int .i64 a0_0, .int .i64 a0_1, .string a0_2, .int .i64 a0_3, .int .i64 a0_4, .slice A0_5 l0_5.length c0_5] 24 (0, 0)) (by (with_reducible repeat (first | refine blk_drewN ?_ _ | refine blk_drew ?_ | refine blk_alloc ?_ _)); exact BK331.out) hb); have n1_ := Aside0.mk (blk_below (g := gb332) (o := .cells #[.slice A1_0 l1_0.length c1_0, .int .i64 a1_1, .int .i64 a1_2, .int .i64 a1_3] 29 (0, 0)) (by (with_reducible repeat (first | refine blk_drewN ?_ _ | refine blk_drew ?_ | refine blk_alloc ?_ _)); exact BK332.out) hb); have n2_ := Aside0.mk (below_step (by repeat (first | (with_reducible first | exact HB.out | apply below_alloc | apply pw_below_drewN | apply below_drew1 | refine below_set ?_ GE331.out | refine below_set ?_ GE332.out) | exact HB.out)) hb); clear BK331; clear BK332; clear HB; have BK331 := n0_; have BK332 := n1_; have HB := n2_; clear n0_ n1_ n2_; (try clear hb); (try clear hb2); (try clear hk); (try clear hi)))
  go_ret
  exact ⟨by first | rfl | (simp [errW_none, errW_some] <;> rfl) | (simp [*, errW_none, errW_some] <;> rfl), by repeat (first | (with_reducible first | exact HB.out | apply below_alloc | apply pw_below_drewN | apply below_drew1 | refine below_set ?_ GE331.out | refine below_set ?_ GE332.out) | exact HB.out)⟩
 ·replace c4 := Bool.eq_false_iff.mpr c4
  subst c4
  have H1 : (some false) = some r := by rw [if_neg (show ¬ (false = true) by decide)] at H; exact H
  clear H
  have H := H1
  clear H1
  obtain rfl := Option.some.inj H
  go_enter Tryd.func22, Tryd.ntmps22
  go_wp2_with (first | ((with_reducible refine gate_dst (N := 2) rfl ?_); refine box_event ?hg (N := 2) ?hd (cs := #[.int .i64 a0_0, .int .i64 a0_1, .string a0_2, .int .i64 a0_3, .int .i64 a0_4, .slice A0_5 l0_5.length c0_5]) (t := 24) ?hr ?_; (case hd => rfl); (case hg => rfl); (case hr => first | (go_simp; done) | (go_simp; rfl)); intro gb331 hg w11 hbox hb; have n0_ := Aside0.mk (below_step (by repeat (first | (with_reducible first | exact HB.out | apply below_alloc | apply pw_below_drewN | apply below_drew1) | exact HB.out)) hb); have n1_ := Aside0.mk (hbox); have n2_ := Aside0.mk ((by rw [hg]; exact (below_size (by repeat (first | (with_reducible first | exact HB.out | apply below_alloc | apply pw_below_drewN | apply below_drew1) | exact HB.out))) : w.heap.size ≤ gb331)); have n3_ := Aside0.mk ((by rw [hg]; exact (below_size (by repeat (first | (with_reducible first | exact HB.out | apply below_alloc | apply pw_below_drewN | apply below_drew1) | exact HB.out))) : w.heap.size ≤ gb331)); clear HB; have HB := n0_; have BK331 := n1_; have GW331 := n2_; have GE331 := n3_; clear n0_ n1_ n2_ n3_; clear hb hbox hg) | ((with_reducible refine gate_dst (N := 3) rfl ?_); refine box_event ?hg (N := 3) ?hd (cs := #[.slice A1_0 l1_0.length c1_0, .int .i64 a1_1, .int .i64 a1_2, .int .i64 a1_3]) (t := 29) ?hr ?_; (case hd => rfl); (case hg => rfl); (case hr => first | (go_simp; done) | (go_simp; rfl)); intro gb332 hg w12 hbox hb; have n0_ := Aside0.mk (blk_below (g := gb331) (o := .cells #[.int .i64 a0_0, .int .i64 a0_1, .string a0_2, .int .i64 a0_3, .int .i64 a0_4, .slice A0_5 l0_5.length c0_5] 24 (0, 0)) (by (with_reducible repeat (first | refine blk_drewN ?_ _ | refine blk_drew ?_ | refine blk_alloc ?_ _)); exact BK331.out) hb); have n1_ := Aside0.mk (below_step (by repeat (first | (with_reducible first | exact HB.out | apply below_alloc | apply pw_below_drewN | apply below_drew1 | refine below_set ?_ GE331.out) | exact HB.out)) hb); have n2_ := Aside0.mk (hbox); have n3_ := Aside0.mk ((by rw [hg]; exact (below_size (by repeat (first | (with_reducible first | exact HB.out | apply below_alloc | apply pw_below_drewN | apply below_drew1 | refine below_set ?_ GE331.out) | exact HB.out))) : w.heap.size ≤ gb332)); have n4_ := Aside0.mk ((by rw [hg]; exact (below_size (by repeat (first | (with_reducible first | exact HB.out | apply below_alloc | apply pw_below_drewN | apply below_drew1 | refine below_set ?_ GE331.out) | exact HB.out))) : w.heap.size ≤ gb332)); have n5_ := Aside0.mk ((by rw [hg]; exact Nat.ne_of_lt (blk_lt (g := gb331) (o := .cells #[.int .i64 a0_0, .int .i64 a0_1, .string a0_2, .int .i64 a0_3, .int .i64 a0_4, .slice A0_5 l0_5.length c0_5] 24 (0, 0)) (by (with_reducible repeat (first | refine blk_drewN ?_ _ | refine blk_drew ?_ | refine blk_alloc ?_ _)); exact BK331.out)) : gb331 ≠ gb332)); have n6_ := Aside0.mk ((by rw [hg]; exact Nat.ne_of_gt (blk_lt (g := gb331) (o := .cells #[.int .i64 a0_0, .int .i64 a0_1, .string a0_2, .int .i64 a0_3, .int .i64 a0_4, .slice A0_5 l0_5.length c0_5] 24 (0, 0)) (by (with_reducible repeat (first | refine blk_drewN ?_ _ | refine blk_drew ?_ | refine blk_alloc ?_ _)); exact BK331.out)) : gb332 ≠ gb331)); clear BK331; clear HB; have BK331 := n0_; have HB := n1_; have BK332 := n2_; have GW332 := n3_; have GE332 := n4_; have NB331_332 := n5_; have NB332_331 := n6_; clear n0_ n1_ n2_ n3_ n4_ n5_ n6_; clear hb hbox hg; have hnb13 := NB331_332.out; have hnc13 := NB332_331.out; have hcz14_0 : w12.cell? ⟨gb331, 0, none⟩ = some (.int .i64 a0_0) := (blk_cell BK331.out 0).trans rfl; have hcz14_1 : w12.cell? ⟨gb331, 1, none⟩ = some (.int .i64 a0_1) := (blk_cell BK331.out 1).trans rfl; have hcz14_2 : w12.cell? ⟨gb331, 2, none⟩ = some (.string a0_2) := (blk_cell BK331.out 2).trans rfl; have hcz14_3 : w12.cell? ⟨gb331, 3, none⟩ = some (.int .i64 a0_3) := (blk_cell BK331.out 3).trans rfl; have hcz14_4 : w12.cell? ⟨gb331, 4, none⟩ = some (.int .i64 a0_4) := (blk_cell BK331.out 4).trans rfl; have hcz14_5 : w12.cell? ⟨gb331, 5, none⟩ = some (.slice A0_5 l0_5.length c0_5) := (blk_cell BK331.out 5).trans rfl; have hfz14_0 := blk_frozen BK331.out 0; have hfz14_1 := blk_frozen BK331.out 1; have hfz14_2 := blk_frozen BK331.out 2; have hfz14_3 := blk_frozen BK331.out 3; have hfz14_4 := blk_frozen BK331.out 4; have hfz14_5 := blk_frozen BK331.out 5; have hcz15_0 : w12.cell? ⟨gb332, 0, none⟩ = some (.slice A1_0 l1_0.length c1_0) := (blk_cell BK332.out 0).trans rfl; have hcz15_1 : w12.cell? ⟨gb332, 1, none⟩ = some (.int .i64 a1_1) := (blk_cell BK332.out 1).trans rfl; have hcz15_2 : w12.cell? ⟨gb332, 2, none⟩ = some (.int .i64 a1_2) := (blk_cell BK332.out 2).trans rfl; have hcz15_3 : w12.cell? ⟨gb332, 3, none⟩ = some (.int .i64 a1_3) := (blk_cell BK332.out 3).trans rfl; have hfz15_0 := blk_frozen BK332.out 0; have hfz15_1 := blk_frozen BK332.out 1; have hfz15_2 := blk_frozen BK332.out 2; have hfz15_3 := blk_frozen BK332.out 3) | ((with_reducible refine gate_callee (f := 12) rfl ?_); refine goesL_ (some 10) rfl rfl Tryd.func12 (by kernel_rfl) rfl #[.agg #[.int .i64 a0_0, .int .i64 a0_1, .string a0_2, .int .i64 a0_3, .int .i64 a0_4, .slice A0_5 l0_5.length c0_5], .agg #[.slice A1_0 l1_0.length c1_0, .int .i64 a1_1, .int .i64 a1_2, .int .i64 a1_3]] rfl (by (try simp only [List.map_toArray, List.map_cons, List.map_nil]); first | done | rfl | (simp only [List.length_drop, List.length_take]; rfl)) ?_; (with_reducible refine (rules_Holds.calls k a0_0 a0_1 a0_2 a0_3 a0_4 _ _ l0_5 _ _ l1_0 a1_1 a1_2 a1_3 false t334 _ ?side1 ?side2 ?side3 ?side4 A3.out ?sideK).mono ?_); (case sideK => exact HKT.out.below (by repeat (first | (with_reducible first | exact HB.out | apply below_alloc | apply pw_below_drewN | apply below_drew1 | refine below_set ?_ GE331.out | refine below_set ?_ GE332.out) | exact HB.out))); (case side1 => repeat (first | exact (Kd.C_below HR0_5.out HB.out) | (with_reducible refine Kd.C_alloc ?_ _) | (with_reducible refine Kd.C_drewN ?_ _) | (with_reducible refine Kd.C_drew ?_))); (case side2 => exact HC0_5.out); (case side3 => repeat (first | exact (Kd.C_below HR1_0.out HB.out) | (with_reducible refine Kd.C_alloc ?_ _) | (with_reducible refine Kd.C_drewN ?_ _) | (with_reducible refine Kd.C_drew ?_))); (case side4 => exact HC1_0.out); rintro e w16 ⟨rfl, hb⟩; refine ⟨_, rfl, ?_⟩; have n0_ := Aside0.mk (blk_below (g := gb331) (o := .cells #[.int .i64 a0_0, .int .i64 a0_1, .string a0_2, .int .i64 a0_3, .int .i64 a0_4, .slice A0_5 l0_5.length c0_5] 24 (0, 0)) (by (with_reducible repeat (first | refine blk_drewN ?_ _ | refine blk_drew ?_ | refine blk_alloc ?_ _)); exact BK331.out) hb); have n1_ := Aside0.mk (blk_below (g := gb332) (o := .cells #[.slice A1_0 l1_0.length c1_0, .int .i64 a1_1, .int .i64 a1_2, .int .i64 a1_3] 29 (0, 0)) (by (with_reducible repeat (first | refine blk_drewN ?_ _ | refine blk_drew ?_ | refine blk_alloc ?_ _)); exact BK332.out) hb); have n2_ := Aside0.mk (below_step (by repeat (first | (with_reducible first | exact HB.out | apply below_alloc | apply pw_below_drewN | apply below_drew1 | refine below_set ?_ GE331.out | refine below_set ?_ GE332.out) | exact HB.out)) hb); clear BK331; clear BK332; clear HB; have BK331 := n0_; have BK332 := n1_; have HB := n2_; clear n0_ n1_ n2_; (try clear hb); (try clear hb2); (try clear hk); (try clear hi)))
  go_ret
  exact ⟨by first | rfl | (simp [errW_none, errW_some] <;> rfl) | (simp [*, errW_none, errW_some] <;> rfl), by repeat (first | (with_reducible first | exact HB.out | apply below_alloc | apply pw_below_drewN | apply below_drew1 | refine below_set ?_ GE331.out | refine below_set ?_ GE332.out) | exact HB.out)⟩
mutual
def sizarlaw12_negates.l0 : Nat → Int → Int → Int → ByteArray → Int → Int → List (S24) → Option (Bool)
 | 0, _, _, _, _, _, _, _ => none
 | k + 1, x3, x336000, x336001, x336002, x336003, x336004, x336005 => if x3 < (x336005.length : Int) then (if 0 ≤ x3 then ((sizarlaw12_negates.f k ((rd_T24 x336005 x3).f0) ((rd_T24 x336005 x3).f1) ((rd_T24 x336005 x3).f2) ((rd_T24 x336005 x3).f3) ((rd_T24 x336005 x3).f4) ((rd_T24 x336005 x3).f5)).bind fun t337 => (if t337 = true then (some true) else (sizarlaw12_negates.l0 k (wrap64 (x3 + 1)) x336000 x336001 x336002 x336003 x336004 x336005))) else (none)) else (some false)
def sizarlaw12_negates.f : Nat → Int → Int → ByteArray → Int → Int → List (S24) → Option (Bool)
 | 0, _, _, _, _, _, _ => none
 | k + 1, a0_0, a0_1, a0_2, a0_3, a0_4, l0_5 => if a0_0 = 4 then (some true) else (sizarlaw12_negates.l0 k 0 a0_0 a0_1 a0_2 a0_3 a0_4 l0_5)
end
set_option maxHeartbeats 8000000 in
set_option maxRecDepth 100000 in
theorem sizarlaw12_negates.calls (k : Nat) : ∀ (a0_0 : Int) (a0_1 : Int) (a0_2 : ByteArray) (a0_3 : Int) (a0_4 : Int) (A0_5 : Option Addr) (c0_5 : Nat) (l0_5 : List (S24)) (r : Bool) (w : World) (hr0_5 : Kd.C k24 w A0_5 l0_5.length l0_5) (hc0_5 : l0_5.length ≤ c0_5) (h : sizarlaw12_negates.f k a0_0 a0_1 a0_2 a0_3 a0_4 l0_5 = some r),
  Calls Tryd.prog 23 #[.agg #[.int .i64 a0_0, .int .i64 a0_1, .string a0_2, .int .i64 a0_3, .int .i64 a0_4, .slice A0_5 l0_5.length c0_5]] w fun e w' => e = .returned (.bool r) ∧ Below w.heap.size w w' := by
 induction k using Nat.strongRecOn with
 | _ k ih =>
 intro a0_0 a0_1 a0_2 a0_3 a0_4 A0_5 c0_5 l0_5 r w hr0_5 hc0_5 h
 cases k with
 | zero => exact absurd h (by simp [sizarlaw12_negates.f])
 | succ k =>
 simp only [sizarlaw12_negates.f] at h
 have hu24 := Tryd.underlying24
 have HR0_5 := Aside0.mk hr0_5
 have HC0_5 := Aside0.mk hc0_5
 clear hr0_5 hc0_5
 have HB := Aside0.mk (Below.refl w.heap.size w)
 have H : (if a0_0 = 4 then (some true) else (sizarlaw12_negates.l0 k 0 a0_0 a0_1 a0_2 a0_3 a0_4 l0_5)) = some r := h
 clear h
 by_cases c2 : a0_0 = 4
 ·rw [if_pos c2] at H
  have c2b0 : (a0_0 == 4) = true := beq_iff_eq.mpr c2
  have c2b1 : (a0_0 != 4) = false := bne_eq_false_iff_eq.mpr c2
  clear c2
  obtain rfl := Option.some.inj H
  go_enter Tryd.func23, Tryd.ntmps23
  go_wp2_with (first | ((with_reducible refine gate_dst (N := 1) rfl ?_); refine box_event ?hg (N := 1) ?hd (cs := #[.int .i64 a0_0, .int .i64 a0_1, .string a0_2, .int .i64 a0_3, .int .i64 a0_4, .slice A0_5 l0_5.length c0_5]) (t := 24) ?hr ?_; (case hd => rfl); (case hg => rfl); (case hr => first | (go_simp; done) | (go_simp; rfl)); intro gb335 hg w3 hbox hb; have n0_ := Aside0.mk (below_step (by repeat (first | (with_reducible first | exact HB.out | apply below_alloc | apply pw_below_drewN | apply below_drew1) | exact HB.out)) hb); have n1_ := Aside0.mk (hbox); have n2_ := Aside0.mk ((by rw [hg]; exact (below_size (by repeat (first | (with_reducible first | exact HB.out | apply below_alloc | apply pw_below_drewN | apply below_drew1) | exact HB.out))) : w.heap.size ≤ gb335)); have n3_ := Aside0.mk ((by rw [hg]; exact (below_size (by repeat (first | (with_reducible first | exact HB.out | apply below_alloc | apply pw_below_drewN | apply below_drew1) | exact HB.out))) : w.heap.size ≤ gb335)); clear HB; have HB := n0_; have BK335 := n1_; have GW335 := n2_; have GE335 := n3_; clear n0_ n1_ n2_ n3_; clear hb hbox hg; have hcz4_0 : w3.cell? ⟨gb335, 0, none⟩ = some (.int .i64 a0_0) := (blk_cell BK335.out 0).trans rfl; have hcz4_1 : w3.cell? ⟨gb335, 1, none⟩ = some (.int .i64 a0_1) := (blk_cell BK335.out 1).trans rfl; have hcz4_2 : w3.cell? ⟨gb335, 2, none⟩ = some (.string a0_2) := (blk_cell BK335.out 2).trans rfl; have hcz4_3 : w3.cell? ⟨gb335, 3, none⟩ = some (.int .i64 a0_3) := (blk_cell BK335.out 3).trans rfl; have hcz4_4 : w3.cell? ⟨gb335, 4, none⟩ = some (.int .i64 a0_4) := (blk_cell BK335.out 4).trans rfl; have hcz4_5 : w3.cell? ⟨gb335, 5, none⟩ = some (.slice A0_5 l0_5.length c0_5) := (blk_cell BK335.out 5).trans rfl; have hfz4_0 := blk_frozen BK335.out 0; have hfz4_1 := blk_frozen BK335.out 1; have hfz4_2 := blk_frozen BK335.out 2; have hfz4_3 := blk_frozen BK335.out 3; have hfz4_4 := blk_frozen BK335.out 4; have hfz4_5 := blk_frozen BK335.out 5))
  go_ret
  exact ⟨by first | rfl | (simp [errW_none, errW_some] <;> rfl) | (simp [*, errW_none, errW_some] <;> rfl), by repeat (first | (with_reducible first | exact HB.out | apply below_alloc | apply pw_below_drewN | apply below_drew1 | refine below_set ?_ GE335.out) | exact HB.out)⟩
 ·rw [if_neg c2] at H
  have c2b0 : (a0_0 == 4) = false := beq_eq_false_iff_ne.mpr c2
  have c2b1 : (a0_0 != 4) = true := bne_iff_ne.mpr c2
  have H' := Aside0.mk H
  clear H
  go_enter Tryd.func23, Tryd.ntmps23
  go_wp2_with (first | ((with_reducible refine gate_dst (N := 1) rfl ?_); refine box_event ?hg (N := 1) ?hd (cs := #[.int .i64 a0_0, .int .i64 a0_1, .string a0_2, .int .i64 a0_3, .int .i64 a0_4, .slice A0_5 l0_5.length c0_5]) (t := 24) ?hr ?_; (case hd => rfl); (case hg => rfl); (case hr => first | (go_simp; done) | (go_simp; rfl)); intro gb335 hg w5 hbox hb; have n0_ := Aside0.mk (below_step (by repeat (first | (with_reducible first | exact HB.out | apply below_alloc | apply pw_below_drewN | apply below_drew1) | exact HB.out)) hb); have n1_ := Aside0.mk (hbox); have n2_ := Aside0.mk ((by rw [hg]; exact (below_size (by repeat (first | (with_reducible first | exact HB.out | apply below_alloc | apply pw_below_drewN | apply below_drew1) | exact HB.out))) : w.heap.size ≤ gb335)); have n3_ := Aside0.mk ((by rw [hg]; exact (below_size (by repeat (first | (with_reducible first | exact HB.out | apply below_alloc | apply pw_below_drewN | apply below_drew1) | exact HB.out))) : w.heap.size ≤ gb335)); clear HB; have HB := n0_; have BK335 := n1_; have GW335 := n2_; have GE335 := n3_; clear n0_ n1_ n2_ n3_; clear hb hbox hg; have hcz6_0 : w5.cell? ⟨gb335, 0, none⟩ = some (.int .i64 a0_0) := (blk_cell BK335.out 0).trans rfl; have hcz6_1 : w5.cell? ⟨gb335, 1, none⟩ = some (.int .i64 a0_1) := (blk_cell BK335.out 1).trans rfl; have hcz6_2 : w5.cell? ⟨gb335, 2, none⟩ = some (.string a0_2) := (blk_cell BK335.out 2).trans rfl; have hcz6_3 : w5.cell? ⟨gb335, 3, none⟩ = some (.int .i64 a0_3) := (blk_cell BK335.out 3).trans rfl; have hcz6_4 : w5.cell? ⟨gb335, 4, none⟩ = some (.int .i64 a0_4) := (blk_cell BK335.out 4).trans rfl; have hcz6_5 : w5.cell? ⟨gb335, 5, none⟩ = some (.slice A0_5 l0_5.length c0_5) := (blk_cell BK335.out 5).trans rfl; have hfz6_0 := blk_frozen BK335.out 0; have hfz6_1 := blk_frozen BK335.out 1; have hfz6_2 := blk_frozen BK335.out 2; have hfz6_3 := blk_frozen BK335.out 3; have hfz6_4 := blk_frozen BK335.out 4; have hfz6_5 := blk_frozen BK335.out 5))
  go_loopg [3] k (fun kq v3 w' => ∃ (x3_1 : Int), v3 = .int .i64 x3_1 ∧ Aside0 (sizarlaw12_negates.l0 kq x3_1 a0_0 a0_1 a0_2 a0_3 a0_4 l0_5 = some r) ∧ Aside0 (kq ≤ k) ∧ Aside0 (w'.heap[gb335]? = some (.cells #[.int .i64 a0_0, .int .i64 a0_1, .string a0_2, .int .i64 a0_3, .int .i64 a0_4, (.slice A0_5 l0_5.length c0_5)] 24 (0, 0))) ∧ Aside0 (Below w.heap.size w w'))
  case atStart => exact ⟨(0), (by first | rfl | (simp; done) | (simp [*]; done)), H', ⟨Nat.le_refl _⟩, ⟨by (with_reducible repeat (first | refine blk_drewN ?_ _ | refine blk_drew ?_ | refine blk_alloc ?_ _)); exact BK335.out⟩, ⟨by repeat (first | (with_reducible first | exact HB.out | apply below_alloc | apply pw_below_drewN | apply below_drew1 | refine below_set ?_ GE335.out) | exact HB.out)⟩⟩
  case round =>
   clear H'
   try clear c2
   try clear c2b0
   try clear c2b1
   try clear p2
   try clear hcz4_0
   try clear hcz4_1
   try clear hcz4_2
   try clear hcz4_3
   try clear hcz4_4
   try clear hcz4_5
   try clear hcz6_0
   try clear hcz6_1
   try clear hcz6_2
   try clear hcz6_3
   try clear hcz6_4
   try clear hcz6_5
   try clear hfz4_0
   try clear hfz4_1
   try clear hfz4_2
   try clear hfz4_3
   try clear hfz4_4
   try clear hfz4_5
   try clear hfz6_0
   try clear hfz6_1
   try clear hfz6_2
   try clear hfz6_3
   try clear hfz6_4
   try clear hfz6_5
   obtain ⟨x3_1, rfl, HA, HK1, BK335, HB⟩ := hrel
   cases gk with
   | zero => exact absurd HA.out (by simp [sizarlaw12_negates.l0])
   | succ k1 =>
    have H := HA.out
    clear HA
    simp only [sizarlaw12_negates.l0] at H
    by_cases c7 : x3_1 < (l0_5.length : Int)
    ·rw [if_pos c7] at H
     have c7b0 : decide (x3_1 < (l0_5.length : Int)) = true := decide_eq_true c7
     clear c7
     by_cases c8 : 0 ≤ x3_1
     ·rw [if_pos c8] at H
      have c8b0 : decide (0 ≤ x3_1) = true := decide_eq_true c8
      clear c8
      replace H := Option.bind_eq_some_iff.mp H
      obtain ⟨t337, A90, H⟩ := H
      replace H : (if t337 = true then (some true) else (sizarlaw12_negates.l0 k1 (wrap64 (x3_1 + 1)) a0_0 a0_1 a0_2 a0_3 a0_4 l0_5)) = some r := H
      have A9 := Aside0.mk A90
      clear A90
      by_cases c10 : t337 = true
      ·subst c10
       have H1 : (some true) = some r := by rw [if_pos rfl] at H; exact H
       clear H
       have H := H1
       clear H1
       obtain rfl := Option.some.inj H
       have hcz11_0 : wr.cell? ⟨gb335, 0, none⟩ = some (.int .i64 a0_0) := (blk_cell BK335.out 0).trans rfl
       have hcz11_1 : wr.cell? ⟨gb335, 1, none⟩ = some (.int .i64 a0_1) := (blk_cell BK335.out 1).trans rfl
       have hcz11_2 : wr.cell? ⟨gb335, 2, none⟩ = some (.string a0_2) := (blk_cell BK335.out 2).trans rfl
       have hcz11_3 : wr.cell? ⟨gb335, 3, none⟩ = some (.int .i64 a0_3) := (blk_cell BK335.out 3).trans rfl
       have hcz11_4 : wr.cell? ⟨gb335, 4, none⟩ = some (.int .i64 a0_4) := (blk_cell BK335.out 4).trans rfl
       have hcz11_5 : wr.cell? ⟨gb335, 5, none⟩ = some (.slice A0_5 l0_5.length c0_5) := (blk_cell BK335.out 5).trans rfl
       have hfz11_0 := blk_frozen BK335.out 0
       have hfz11_1 := blk_frozen BK335.out 1
       have hfz11_2 := blk_frozen BK335.out 2
       have hfz11_3 := blk_frozen BK335.out 3
       have hfz11_4 := blk_frozen BK335.out 4
       have hfz11_5 := blk_frozen BK335.out 5
       have p336 : 0 ≤ (x3_1 : Int) := of_decide_eq_true (by first | (with_reducible assumption) | assumption)
       have q336 : x3_1 < (l0_5.length : Int) := of_decide_eq_true (by first | (with_reducible assumption) | assumption)
       obtain ⟨ad336, A336_5, c336_5, e336, hx336_0, hx336_1, hx336_2, hx336_3, hx336_4, hx336_5, hl336_5, hi336_5⟩ := at_T24 HR0_5.out x3_1 p336 q336
       cases e336
       replace hx336_0 := (HB.out.cell (World.block_lt_of_cell? w _ hx336_0)).trans hx336_0
       replace hx336_1 := (HB.out.cell (World.block_lt_of_cell? w _ hx336_1)).trans hx336_1
       replace hx336_2 := (HB.out.cell (World.block_lt_of_cell? w _ hx336_2)).trans hx336_2
       replace hx336_3 := (HB.out.cell (World.block_lt_of_cell? w _ hx336_3)).trans hx336_3
       replace hx336_4 := (HB.out.cell (World.block_lt_of_cell? w _ hx336_4)).trans hx336_4
       replace hx336_5 := (HB.out.cell (World.block_lt_of_cell? w _ hx336_5)).trans hx336_5
       have HR336_5 := Aside0.mk hi336_5
       have HC336_5 := Aside0.mk hl336_5
       clear hi336_5 hl336_5
       replace p336 := eq_true p336
       replace q336 := eq_true q336
       go_wp2_with (first | ((with_reducible refine gate_callee (f := 23) rfl ?_); refine goesL_ (some 19) rfl rfl Tryd.func23 (by kernel_rfl) rfl #[.agg #[.int .i64 ((rd_T24 l0_5 x3_1).f0), .int .i64 ((rd_T24 l0_5 x3_1).f1), .string ((rd_T24 l0_5 x3_1).f2), .int .i64 ((rd_T24 l0_5 x3_1).f3), .int .i64 ((rd_T24 l0_5 x3_1).f4), .slice A336_5 ((rd_T24 l0_5 x3_1).f5).length c336_5]] rfl (by (try simp only [List.map_toArray, List.map_cons, List.map_nil]); first | done | rfl | (simp only [List.length_drop, List.length_take]; rfl)) ?_; (with_reducible refine (ih k1 (by have := HK1.out; omega) ((rd_T24 l0_5 x3_1).f0) ((rd_T24 l0_5 x3_1).f1) ((rd_T24 l0_5 x3_1).f2) ((rd_T24 l0_5 x3_1).f3) ((rd_T24 l0_5 x3_1).f4) _ _ ((rd_T24 l0_5 x3_1).f5) true _ ?side1 ?side2 A9.out).mono ?_); (case side1 => repeat (first | exact (Kd.C_below HR336_5.out HB.out) | (with_reducible refine Kd.C_alloc ?_ _) | (with_reducible refine Kd.C_drewN ?_ _) | (with_reducible refine Kd.C_drew ?_))); (case side2 => exact HC336_5.out); rintro e w12 ⟨rfl, hb⟩; refine ⟨_, rfl, ?_⟩; have n0_ := Aside0.mk (blk_below (g := gb335) (o := .cells #[.int .i64 a0_0, .int .i64 a0_1, .string a0_2, .int .i64 a0_3, .int .i64 a0_4, .slice (some ad336) l0_5.length c0_5] 24 (0, 0)) (by (with_reducible repeat (first | refine blk_drewN ?_ _ | refine blk_drew ?_ | refine blk_alloc ?_ _)); exact BK335.out) hb); have n1_ := Aside0.mk (below_step (by repeat (first | (with_reducible first | exact HB.out | apply below_alloc | apply pw_below_drewN | apply below_drew1 | refine below_set ?_ GE335.out) | exact HB.out)) hb); clear BK335; clear HB; have BK335 := n0_; have HB := n1_; clear n0_ n1_; (try clear hb); (try clear hb2); (try clear hk); (try clear hi)))
       go_ret
       exact ⟨by first | rfl | (simp [errW_none, errW_some] <;> rfl) | (simp [*, errW_none, errW_some] <;> rfl), by repeat (first | (with_reducible first | exact HB.out | apply below_alloc | apply pw_below_drewN | apply below_drew1 | refine below_set ?_ GE335.out) | exact HB.out)⟩
      ·replace c10 := Bool.eq_false_iff.mpr c10
       subst c10
       have H1 : (sizarlaw12_negates.l0 k1 (wrap64 (x3_1 + 1)) a0_0 a0_1 a0_2 a0_3 a0_4 l0_5) = some r := by rw [if_neg (show ¬ (false = true) by decide)] at H; exact H
       clear H
       have H := H1
       clear H1
       have H' := Aside0.mk H
       clear H
       have hcz13_0 : wr.cell? ⟨gb335, 0, none⟩ = some (.int .i64 a0_0) := (blk_cell BK335.out 0).trans rfl
       have hcz13_1 : wr.cell? ⟨gb335, 1, none⟩ = some (.int .i64 a0_1) := (blk_cell BK335.out 1).trans rfl
       have hcz13_2 : wr.cell? ⟨gb335, 2, none⟩ = some (.string a0_2) := (blk_cell BK335.out 2).trans rfl
       have hcz13_3 : wr.cell? ⟨gb335, 3, none⟩ = some (.int .i64 a0_3) := (blk_cell BK335.out 3).trans rfl
       have hcz13_4 : wr.cell? ⟨gb335, 4, none⟩ = some (.int .i64 a0_4) := (blk_cell BK335.out 4).trans rfl
       have hcz13_5 : wr.cell? ⟨gb335, 5, none⟩ = some (.slice A0_5 l0_5.length c0_5) := (blk_cell BK335.out 5).trans rfl
       have hfz13_0 := blk_frozen BK335.out 0
       have hfz13_1 := blk_frozen BK335.out 1
       have hfz13_2 := blk_frozen BK335.out 2
       have hfz13_3 := blk_frozen BK335.out 3
       have hfz13_4 := blk_frozen BK335.out 4
       have hfz13_5 := blk_frozen BK335.out 5
       have p336 : 0 ≤ (x3_1 : Int) := of_decide_eq_true (by first | (with_reducible assumption) | assumption)
       have q336 : x3_1 < (l0_5.length : Int) := of_decide_eq_true (by first | (with_reducible assumption) | assumption)
       obtain ⟨ad336, A336_5, c336_5, e336, hx336_0, hx336_1, hx336_2, hx336_3, hx336_4, hx336_5, hl336_5, hi336_5⟩ := at_T24 HR0_5.out x3_1 p336 q336
       cases e336
       replace hx336_0 := (HB.out.cell (World.block_lt_of_cell? w _ hx336_0)).trans hx336_0
       replace hx336_1 := (HB.out.cell (World.block_lt_of_cell? w _ hx336_1)).trans hx336_1
       replace hx336_2 := (HB.out.cell (World.block_lt_of_cell? w _ hx336_2)).trans hx336_2
       replace hx336_3 := (HB.out.cell (World.block_lt_of_cell? w _ hx336_3)).trans hx336_3
       replace hx336_4 := (HB.out.cell (World.block_lt_of_cell? w _ hx336_4)).trans hx336_4
       replace hx336_5 := (HB.out.cell (World.block_lt_of_cell? w _ hx336_5)).trans hx336_5
       have HR336_5 := Aside0.mk hi336_5
       have HC336_5 := Aside0.mk hl336_5
       clear hi336_5 hl336_5
       replace p336 := eq_true p336
       replace q336 := eq_true q336
       go_wp2_with (first | ((with_reducible refine gate_callee (f := 23) rfl ?_); refine goesL_ (some 19) rfl rfl Tryd.func23 (by kernel_rfl) rfl #[.agg #[.int .i64 ((rd_T24 l0_5 x3_1).f0), .int .i64 ((rd_T24 l0_5 x3_1).f1), .string ((rd_T24 l0_5 x3_1).f2), .int .i64 ((rd_T24 l0_5 x3_1).f3), .int .i64 ((rd_T24 l0_5 x3_1).f4), .slice A336_5 ((rd_T24 l0_5 x3_1).f5).length c336_5]] rfl (by (try simp only [List.map_toArray, List.map_cons, List.map_nil]); first | done | rfl | (simp only [List.length_drop, List.length_take]; rfl)) ?_; (with_reducible refine (ih k1 (by have := HK1.out; omega) ((rd_T24 l0_5 x3_1).f0) ((rd_T24 l0_5 x3_1).f1) ((rd_T24 l0_5 x3_1).f2) ((rd_T24 l0_5 x3_1).f3) ((rd_T24 l0_5 x3_1).f4) _ _ ((rd_T24 l0_5 x3_1).f5) false _ ?side1 ?side2 A9.out).mono ?_); (case side1 => repeat (first | exact (Kd.C_below HR336_5.out HB.out) | (with_reducible refine Kd.C_alloc ?_ _) | (with_reducible refine Kd.C_drewN ?_ _) | (with_reducible refine Kd.C_drew ?_))); (case side2 => exact HC336_5.out); rintro e w14 ⟨rfl, hb⟩; refine ⟨_, rfl, ?_⟩; have n0_ := Aside0.mk (blk_below (g := gb335) (o := .cells #[.int .i64 a0_0, .int .i64 a0_1, .string a0_2, .int .i64 a0_3, .int .i64 a0_4, .slice (some ad336) l0_5.length c0_5] 24 (0, 0)) (by (with_reducible repeat (first | refine blk_drewN ?_ _ | refine blk_drew ?_ | refine blk_alloc ?_ _)); exact BK335.out) hb); have n1_ := Aside0.mk (below_step (by repeat (first | (with_reducible first | exact HB.out | apply below_alloc | apply pw_below_drewN | apply below_drew1 | refine below_set ?_ GE335.out) | exact HB.out)) hb); clear BK335; clear HB; have BK335 := n0_; have HB := n1_; clear n0_ n1_; (try clear hb); (try clear hb2); (try clear hk); (try clear hi)))
       go_roundg k1
       case measure => have := HK1.out; omega
       case rel => exact ⟨(wrap64 (x3_1 + 1)), (by first | rfl | (simp; done) | (simp [*]; done)), H', ⟨by have := HK1.out; omega⟩, ⟨by (with_reducible repeat (first | refine blk_drewN ?_ _ | refine blk_drew ?_ | refine blk_alloc ?_ _)); exact BK335.out⟩, ⟨by repeat (first | (with_reducible first | exact HB.out | apply below_alloc | apply pw_below_drewN | apply below_drew1 | refine below_set ?_ GE335.out) | exact HB.out)⟩⟩
     ·rw [if_neg c8] at H
      exact absurd H (by simp)
    ·rw [if_neg c7] at H
     have c7b0 : decide (x3_1 < (l0_5.length : Int)) = false := decide_eq_false c7
     clear c7
     obtain rfl := Option.some.inj H
     have hcz15_0 : wr.cell? ⟨gb335, 0, none⟩ = some (.int .i64 a0_0) := (blk_cell BK335.out 0).trans rfl
     have hcz15_1 : wr.cell? ⟨gb335, 1, none⟩ = some (.int .i64 a0_1) := (blk_cell BK335.out 1).trans rfl
     have hcz15_2 : wr.cell? ⟨gb335, 2, none⟩ = some (.string a0_2) := (blk_cell BK335.out 2).trans rfl
     have hcz15_3 : wr.cell? ⟨gb335, 3, none⟩ = some (.int .i64 a0_3) := (blk_cell BK335.out 3).trans rfl
     have hcz15_4 : wr.cell? ⟨gb335, 4, none⟩ = some (.int .i64 a0_4) := (blk_cell BK335.out 4).trans rfl
     have hcz15_5 : wr.cell? ⟨gb335, 5, none⟩ = some (.slice A0_5 l0_5.length c0_5) := (blk_cell BK335.out 5).trans rfl
     have hfz15_0 := blk_frozen BK335.out 0
     have hfz15_1 := blk_frozen BK335.out 1
     have hfz15_2 := blk_frozen BK335.out 2
     have hfz15_3 := blk_frozen BK335.out 3
     have hfz15_4 := blk_frozen BK335.out 4
     have hfz15_5 := blk_frozen BK335.out 5
     go_wp2
     go_ret
     exact ⟨by first | rfl | (simp [errW_none, errW_some] <;> rfl) | (simp [*, errW_none, errW_some] <;> rfl), by repeat (first | (with_reducible first | exact HB.out | apply below_alloc | apply pw_below_drewN | apply below_drew1 | refine below_set ?_ GE335.out) | exact HB.out)⟩
end Go.Proofs.YtabocfninjankaaDoor.P
namespace Go.Proofs.YtabocfninjankaaDoor.P
open Go.RowKit Go.Proofs.YtabocfninjankaaDoorW.PrintWords Go.Proofs.YtabocfninjankaaDoorW.PrintLast Go.Proofs.YtabocfninjankaaDoorW.PrintMore
attribute [local go_sem] max2_int min2_int max_two min_two max_three min_three max_four min_four   -- for this text's walks alone
set_option linter.unusedVariables false
set_option linter.unusedSimpArgs false
def sizarref12_About.l0 : Nat → Int → Int → List (S49) → Int → Int → Int → Option (Int × Int × Int × Bool)
 | 0, _, _, _, _, _, _ => none
 | k + 1, x1, x5, x267000, x267001, x267002, x267003 => if x5 < (x267000.length : Int) then (if 0 ≤ x5 then (if ((rd_T49 x267000 x5).f0) = x1 then (some ((rd_T49 x267000 x5).f0, (rd_T49 x267000 x5).f1, (rd_T49 x267000 x5).f2, (rd_T49 x267000 x5).f3)) else (sizarref12_About.l0 k x1 (wrap64 (x5 + 1)) x267000 x267001 x267002 x267003)) else (none)) else (some (x1, 0, (-1), false))
def sizarref12_About.f (k : Nat) (l0_0 : List (S49)) (a0_1 : Int) (a0_2 : Int) (a0_3 : Int) (a1 : Int) : Option (Int × Int × Int × Bool) := sizarref12_About.l0 k a1 0 l0_0 a0_1 a0_2 a0_3
set_option maxHeartbeats 8000000 in
set_option maxRecDepth 100000 in
theorem sizarref12_About.calls (k : Nat) (A0_0 : Option Addr) (c0_0 : Nat) (l0_0 : List (S49)) (a0_1 : Int) (a0_2 : Int) (a0_3 : Int) (a1 : Int) (r1 : Int) (r2 : Int) (r3 : Int) (r4 : Bool) (w : World) (hr0_0 : Kd.C k49 w A0_0 l0_0.length l0_0) (hc0_0 : l0_0.length ≤ c0_0) (h : sizarref12_About.f k l0_0 a0_1 a0_2 a0_3 a1 = some (r1, r2, r3, r4)) :
  Calls Tryd.prog 47 #[.agg #[.slice A0_0 l0_0.length c0_0, .int .i64 a0_1, .int .i64 a0_2, .int .i64 a0_3], .int .i64 a1] w fun e w' => e = .returned (.agg #[.int .i64 r1, .int .i64 r2, .int .i64 r3, .bool r4]) ∧ Below w.heap.size w w' := by
 have hu29 := Tryd.underlying29
 have hu49 := Tryd.underlying49
 have HR0_0 := Aside0.mk hr0_0
 have HC0_0 := Aside0.mk hc0_0
 clear hr0_0 hc0_0
 have HB := Aside0.mk (Below.refl w.heap.size w)
 have H : (sizarref12_About.l0 k a1 0 l0_0 a0_1 a0_2 a0_3) = some (r1, r2, r3, r4) := h
 clear h
 have H' := Aside0.mk H
 clear H
 go_enter Tryd.func47, Tryd.ntmps47
 go_wp2_with (first | ((with_reducible refine gate_dst (N := 2) rfl ?_); refine box_event ?hg (N := 2) ?hd (cs := #[.slice A0_0 l0_0.length c0_0, .int .i64 a0_1, .int .i64 a0_2, .int .i64 a0_3]) (t := 29) ?hr ?_; (case hd => rfl); (case hg => rfl); (case hr => first | (go_simp; done) | (go_simp; rfl)); intro gb266 hg w3 hbox hb; have n0_ := Aside0.mk (below_step (by repeat (first | (with_reducible first | exact HB.out | apply below_alloc | apply pw_below_drewN | apply below_drew1) | exact HB.out)) hb); have n1_ := Aside0.mk (hbox); have n2_ := Aside0.mk ((by rw [hg]; exact (below_size (by repeat (first | (with_reducible first | exact HB.out | apply below_alloc | apply pw_below_drewN | apply below_drew1) | exact HB.out))) : w.heap.size ≤ gb266)); have n3_ := Aside0.mk ((by rw [hg]; exact (below_size (by repeat (first | (with_reducible first | exact HB.out | apply below_alloc | apply pw_below_drewN | apply below_drew1) | exact HB.out))) : w.heap.size ≤ gb266)); clear HB; have HB := n0_; have BK266 := n1_; have GW266 := n2_; have GE266 := n3_; clear n0_ n1_ n2_ n3_; clear hb hbox hg) | ((with_reducible refine gate_dst (N := 4) rfl ?_); refine box_event ?hg (N := 4) ?hd (cs := #[.int .i64 0, .int .i64 0, .int .i64 0, .bool false]) (t := 49) ?hr ?_; (case hd => rfl); (case hg => rfl); (case hr => first | (go_simp; done) | (go_simp; rfl)); intro gb267 hg w4 hbox hb; have n0_ := Aside0.mk (blk_below (g := gb266) (o := .cells #[.slice A0_0 l0_0.length c0_0, .int .i64 a0_1, .int .i64 a0_2, .int .i64 a0_3] 29 (0, 0)) (by (with_reducible repeat (first | refine blk_drewN ?_ _ | refine blk_drew ?_ | refine blk_alloc ?_ _)); exact BK266.out) hb); have n1_ := Aside0.mk (below_step (by repeat (first | (with_reducible first | exact HB.out | apply below_alloc | apply pw_below_drewN | apply below_drew1 | refine below_set ?_ GE266.out) | exact HB.out)) hb); have n2_ := Aside0.mk (hbox); have n3_ := Aside0.mk ((by rw [hg]; exact (below_size (by repeat (first | (with_reducible first | exact HB.out | apply below_alloc | apply pw_below_drewN | apply below_drew1 | refine below_set ?_ GE266.out) | exact HB.out))) : w.heap.size ≤ gb267)); have n4_ := Aside0.mk ((by rw [hg]; exact (below_size (by repeat (first | (with_reducible first | exact HB.out | apply below_alloc | apply pw_below_drewN | apply below_drew1 | refine below_set ?_ GE266.out) | exact HB.out))) : w.heap.size ≤ gb267)); have n5_ := Aside0.mk ((by rw [hg]; exact Nat.ne_of_lt (blk_lt (g := gb266) (o := .cells #[.slice A0_0 l0_0.length c0_0, .int .i64 a0_1, .int .i64 a0_2, .int .i64 a0_3] 29 (0, 0)) (by (with_reducible repeat (first | refine blk_drewN ?_ _ | refine blk_drew ?_ | refine blk_alloc ?_ _)); exact BK266.out)) : gb266 ≠ gb267)); have n6_ := Aside0.mk ((by rw [hg]; exact Nat.ne_of_gt (blk_lt (g := gb266) (o := .cells #[.slice A0_0 l0_0.length c0_0, .int .i64 a0_1, .int .i64 a0_2, .int .i64 a0_3] 29 (0, 0)) (by (with_reducible repeat (first | refine blk_drewN ?_ _ | refine blk_drew ?_ | refine blk_alloc ?_ _)); exact BK266.out)) : gb267 ≠ gb266)); clear BK266; clear HB; have BK266 := n0_; have HB := n1_; have BK267 := n2_; have GW267 := n3_; have GE267 := n4_; have NB266_267 := n5_; have NB267_266 := n6_; clear n0_ n1_ n2_ n3_ n4_ n5_ n6_; clear hb hbox hg))
 go_loopg [5] k (fun kq v5 w' => ∃ (x5_1 : Int) (x268000_1 : Int) (x268001_1 : Int) (x268002_1 : Int) (x268003_1 : Bool), v5 = .int .i64 x5_1 ∧ Aside0 (sizarref12_About.l0 kq a1 x5_1 l0_0 a0_1 a0_2 a0_3 = some (r1, r2, r3, r4)) ∧ Aside0 (kq ≤ k) ∧ Aside0 (w'.heap[gb266]? = some (.cells #[(.slice A0_0 l0_0.length c0_0), .int .i64 a0_1, .int .i64 a0_2, .int .i64 a0_3] 29 (0, 0))) ∧ Aside0 (w'.heap[gb267]? = some (.cells #[.int .i64 x268000_1, .int .i64 x268001_1, .int .i64 x268002_1, .bool x268003_1] 49 (0, 0))) ∧ Aside0 (Below w.heap.size w w'))
 case atStart => exact ⟨(0), (0), (0), (0), (false), (by first | rfl | (simp; done) | (simp [*]; done)), H', ⟨Nat.le_refl _⟩, ⟨by (with_reducible repeat (first | refine blk_drewN ?_ _ | refine blk_drew ?_ | refine blk_alloc ?_ _)); exact BK266.out⟩, ⟨by (with_reducible repeat (first | refine blk_drewN ?_ _ | refine blk_drew ?_ | refine blk_alloc ?_ _)); exact BK267.out⟩, ⟨by repeat (first | (with_reducible first | exact HB.out | apply below_alloc | apply pw_below_drewN | apply below_drew1 | refine below_set ?_ GE266.out | refine below_set ?_ GE267.out) | exact HB.out)⟩⟩
 case round =>
  clear H'
  try clear p2
  try clear c4
  obtain ⟨x5_1, x268000_1, x268001_1, x268002_1, x268003_1, rfl, HA, HK1, BK266, BK267, HB⟩ := hrel
  cases gk with
  | zero => exact absurd HA.out (by simp [sizarref12_About.l0])
  | succ k1 =>
   have H := HA.out
   clear HA
   simp only [sizarref12_About.l0] at H
   by_cases c5 : x5_1 < (l0_0.length : Int)
   ·rw [if_pos c5] at H
    have c5b0 : decide (x5_1 < (l0_0.length : Int)) = true := decide_eq_true c5
    clear c5
    by_cases c6 : 0 ≤ x5_1
    ·rw [if_pos c6] at H
     have c6b0 : decide (0 ≤ x5_1) = true := decide_eq_true c6
     clear c6
     by_cases c7 : ((rd_T49 l0_0 x5_1).f0) = a1
     ·rw [if_pos c7] at H
      have c7b0 : (((rd_T49 l0_0 x5_1).f0) == a1) = true := beq_iff_eq.mpr c7
      have c7b1 : (((rd_T49 l0_0 x5_1).f0) != a1) = false := bne_eq_false_iff_eq.mpr c7
      clear c7
      simp only [Option.some.injEq, Prod.mk.injEq] at H
      obtain ⟨rfl, rfl, rfl, rfl⟩ := H
      have hnb8 := NB266_267.out
      have hnc8 := NB267_266.out
      have hcz9_0 : wr.cell? ⟨gb266, 0, none⟩ = some (.slice A0_0 l0_0.length c0_0) := (blk_cell BK266.out 0).trans rfl
      have hcz9_1 : wr.cell? ⟨gb266, 1, none⟩ = some (.int .i64 a0_1) := (blk_cell BK266.out 1).trans rfl
      have hcz9_2 : wr.cell? ⟨gb266, 2, none⟩ = some (.int .i64 a0_2) := (blk_cell BK266.out 2).trans rfl
      have hcz9_3 : wr.cell? ⟨gb266, 3, none⟩ = some (.int .i64 a0_3) := (blk_cell BK266.out 3).trans rfl
      have hfz9_0 := blk_frozen BK266.out 0
      have hfz9_1 := blk_frozen BK266.out 1
      have hfz9_2 := blk_frozen BK266.out 2
      have hfz9_3 := blk_frozen BK266.out 3
      have p268 : 0 ≤ (x5_1 : Int) := of_decide_eq_true (by first | (with_reducible assumption) | assumption)
      have q268 : x5_1 < (l0_0.length : Int) := of_decide_eq_true (by first | (with_reducible assumption) | assumption)
      obtain ⟨ad268, e268, hx268_0, hx268_1, hx268_2, hx268_3⟩ := at_T49 HR0_0.out x5_1 p268 q268
      cases e268
      replace hx268_0 := (HB.out.cell (World.block_lt_of_cell? w _ hx268_0)).trans hx268_0
      replace hx268_1 := (HB.out.cell (World.block_lt_of_cell? w _ hx268_1)).trans hx268_1
      replace hx268_2 := (HB.out.cell (World.block_lt_of_cell? w _ hx268_2)).trans hx268_2
      replace hx268_3 := (HB.out.cell (World.block_lt_of_cell? w _ hx268_3)).trans hx268_3
      replace p268 := eq_true p268
      replace q268 := eq_true q268
      have p269 : 0 ≤ (x5_1 : Int) := of_decide_eq_true (by first | (with_reducible assumption) | assumption)
      have q269 : x5_1 < (l0_0.length : Int) := of_decide_eq_true (by first | (with_reducible assumption) | assumption)
      obtain ⟨ad269, e269, hx269_0, hx269_1, hx269_2, hx269_3⟩ := at_T49 HR0_0.out x5_1 p269 q269
      obtain rfl : ad268 = ad269 := (by injection e269)
      replace hx269_0 := (HB.out.cell (World.block_lt_of_cell? w _ hx269_0)).trans hx269_0
      replace hx269_1 := (HB.out.cell (World.block_lt_of_cell? w _ hx269_1)).trans hx269_1
      replace hx269_2 := (HB.out.cell (World.block_lt_of_cell? w _ hx269_2)).trans hx269_2
      replace hx269_3 := (HB.out.cell (World.block_lt_of_cell? w _ hx269_3)).trans hx269_3
      replace p269 := eq_true p269
      replace q269 := eq_true q269
      have hcz10_0 : wr.cell? ⟨gb267, 0, none⟩ = some (.int .i64 x268000_1) := (blk_cell BK267.out 0).trans rfl
      have hcz10_1 : wr.cell? ⟨gb267, 1, none⟩ = some (.int .i64 x268001_1) := (blk_cell BK267.out 1).trans rfl
      have hcz10_2 : wr.cell? ⟨gb267, 2, none⟩ = some (.int .i64 x268002_1) := (blk_cell BK267.out 2).trans rfl
      have hcz10_3 : wr.cell? ⟨gb267, 3, none⟩ = some (.bool x268003_1) := (blk_cell BK267.out 3).trans rfl
      have hfz10_0 := blk_frozen BK267.out 0
      have hfz10_1 := blk_frozen BK267.out 1
      have hfz10_2 := blk_frozen BK267.out 2
      have hfz10_3 := blk_frozen BK267.out 3
      go_wp2
      refine bodyPost_ret (results_cell_row rfl _ _ gb267 49 #[.int .i64 ((rd_T49 l0_0 x5_1).f0), .int .i64 ((rd_T49 l0_0 x5_1).f1), .int .i64 ((rd_T49 l0_0 x5_1).f2), .bool ((rd_T49 l0_0 x5_1).f3)] (0, 0) _ rfl (by (with_reducible repeat (first | refine blk_drewN ?_ _ | refine blk_drew ?_ | refine blk_alloc ?_ _)); refine blk_put (cs := #[.int .i64 ((rd_T49 l0_0 x5_1).f0), .int .i64 ((rd_T49 l0_0 x5_1).f1), .int .i64 ((rd_T49 l0_0 x5_1).f2), .bool x268003_1]) ?_ 3 _ rfl; (with_reducible repeat (first | refine blk_drewN ?_ _ | refine blk_drew ?_ | refine blk_alloc ?_ _)); refine blk_put (cs := #[.int .i64 ((rd_T49 l0_0 x5_1).f0), .int .i64 ((rd_T49 l0_0 x5_1).f1), .int .i64 x268002_1, .bool x268003_1]) ?_ 2 _ rfl; (with_reducible repeat (first | refine blk_drewN ?_ _ | refine blk_drew ?_ | refine blk_alloc ?_ _)); refine blk_put (cs := #[.int .i64 ((rd_T49 l0_0 x5_1).f0), .int .i64 x268001_1, .int .i64 x268002_1, .bool x268003_1]) ?_ 1 _ rfl; (with_reducible repeat (first | refine blk_drewN ?_ _ | refine blk_drew ?_ | refine blk_alloc ?_ _)); refine blk_put (cs := #[.int .i64 x268000_1, .int .i64 x268001_1, .int .i64 x268002_1, .bool x268003_1]) ?_ 0 _ rfl; (with_reducible repeat (first | refine blk_drewN ?_ _ | refine blk_drew ?_ | refine blk_alloc ?_ _)); exact BK267.out) Tryd.underlying49 rfl (by kernel_rfl)) rfl ?_
      exact ⟨by first | rfl | (simp [errW_none, errW_some] <;> rfl) | (simp [*, errW_none, errW_some] <;> rfl), by repeat (first | (with_reducible first | exact HB.out | apply below_alloc | apply pw_below_drewN | apply below_drew1 | refine below_set ?_ GE266.out | refine below_set ?_ GE267.out) | exact HB.out)⟩
     ·rw [if_neg c7] at H
      have c7b0 : (((rd_T49 l0_0 x5_1).f0) == a1) = false := beq_eq_false_iff_ne.mpr c7
      have c7b1 : (((rd_T49 l0_0 x5_1).f0) != a1) = true := bne_iff_ne.mpr c7
      have H' := Aside0.mk H
      clear H
      have hnb11 := NB266_267.out
      have hnc11 := NB267_266.out
      have hcz12_0 : wr.cell? ⟨gb266, 0, none⟩ = some (.slice A0_0 l0_0.length c0_0) := (blk_cell BK266.out 0).trans rfl
      have hcz12_1 : wr.cell? ⟨gb266, 1, none⟩ = some (.int .i64 a0_1) := (blk_cell BK266.out 1).trans rfl
      have hcz12_2 : wr.cell? ⟨gb266, 2, none⟩ = some (.int .i64 a0_2) := (blk_cell BK266.out 2).trans rfl
      have hcz12_3 : wr.cell? ⟨gb266, 3, none⟩ = some (.int .i64 a0_3) := (blk_cell BK266.out 3).trans rfl
      have hfz12_0 := blk_frozen BK266.out 0
      have hfz12_1 := blk_frozen BK266.out 1
      have hfz12_2 := blk_frozen BK266.out 2
      have hfz12_3 := blk_frozen BK266.out 3
      have p268 : 0 ≤ (x5_1 : Int) := of_decide_eq_true (by first | (with_reducible assumption) | assumption)
      have q268 : x5_1 < (l0_0.length : Int) := of_decide_eq_true (by first | (with_reducible assumption) | assumption)
      obtain ⟨ad268, e268, hx268_0, hx268_1, hx268_2, hx268_3⟩ := at_T49 HR0_0.out x5_1 p268 q268
      cases e268
      replace hx268_0 := (HB.out.cell (World.block_lt_of_cell? w _ hx268_0)).trans hx268_0
      replace hx268_1 := (HB.out.cell (World.block_lt_of_cell? w _ hx268_1)).trans hx268_1
      replace hx268_2 := (HB.out.cell (World.block_lt_of_cell? w _ hx268_2)).trans hx268_2
      replace hx268_3 := (HB.out.cell (World.block_lt_of_cell? w _ hx268_3)).trans hx268_3
      replace p268 := eq_true p268
      replace q268 := eq_true q268
      go_wp2
      go_roundg k1
      case measure => have := HK1.out; omega
      case rel => exact ⟨(wrap64 (x5_1 + 1)), (x268000_1), (x268001_1), (x268002_1), (x268003_1), (by first | rfl | (simp; done) | (simp [*]; done)), H', ⟨by have := HK1.out; omega⟩, ⟨by (with_reducible repeat (first | refine blk_drewN ?_ _ | refine blk_drew ?_ | refine blk_alloc ?_ _)); exact BK266.out⟩, ⟨by (with_reducible repeat (first | refine blk_drewN ?_ _ | refine blk_drew ?_ | refine blk_alloc ?_ _)); exact BK267.out⟩, ⟨by repeat (first | (with_reducible first | exact HB.out | apply below_alloc | apply pw_below_drewN | apply below_drew1 | refine below_set ?_ GE266.out | refine below_set ?_ GE267.out) | exact HB.out)⟩⟩
    ·rw [if_neg c6] at H
     exact absurd H (by simp)
   ·rw [if_neg c5] at H
    have c5b0 : decide (x5_1 < (l0_0.length : Int)) = false := decide_eq_false c5
    clear c5
    simp only [Option.some.injEq, Prod.mk.injEq] at H
    obtain ⟨rfl, rfl, rfl, rfl⟩ := H
    have hnb13 := NB266_267.out
    have hnc13 := NB267_266.out
    have hcz14_0 : wr.cell? ⟨gb266, 0, none⟩ = some (.slice A0_0 l0_0.length c0_0) := (blk_cell BK266.out 0).trans rfl
    have hcz14_1 : wr.cell? ⟨gb266, 1, none⟩ = some (.int .i64 a0_1) := (blk_cell BK266.out 1).trans rfl
    have hcz14_2 : wr.cell? ⟨gb266, 2, none⟩ = some (.int .i64 a0_2) := (blk_cell BK266.out 2).trans rfl
    have hcz14_3 : wr.cell? ⟨gb266, 3, none⟩ = some (.int .i64 a0_3) := (blk_cell BK266.out 3).trans rfl
    have hfz14_0 := blk_frozen BK266.out 0
    have hfz14_1 := blk_frozen BK266.out 1
    have hfz14_2 := blk_frozen BK266.out 2
    have hfz14_3 := blk_frozen BK266.out 3
    have hcz15_0 : wr.cell? ⟨gb267, 0, none⟩ = some (.int .i64 x268000_1) := (blk_cell BK267.out 0).trans rfl
    have hcz15_1 : wr.cell? ⟨gb267, 1, none⟩ = some (.int .i64 x268001_1) := (blk_cell BK267.out 1).trans rfl
    have hcz15_2 : wr.cell? ⟨gb267, 2, none⟩ = some (.int .i64 x268002_1) := (blk_cell BK267.out 2).trans rfl
    have hcz15_3 : wr.cell? ⟨gb267, 3, none⟩ = some (.bool x268003_1) := (blk_cell BK267.out 3).trans rfl
    have hfz15_0 := blk_frozen BK267.out 0
    have hfz15_1 := blk_frozen BK267.out 1
    have hfz15_2 := blk_frozen BK267.out 2
    have hfz15_3 := blk_frozen BK267.out 3
    go_wp2
    refine bodyPost_ret (results_cell_row rfl _ _ gb267 49 #[.int .i64 a1, .int .i64 0, .int .i64 (-1), .bool false] (0, 0) _ rfl (by (with_reducible repeat (first | refine blk_drewN ?_ _ | refine blk_drew ?_ | refine blk_alloc ?_ _)); refine blk_put (cs := #[.int .i64 a1, .int .i64 0, .int .i64 (-1), .bool x268003_1]) ?_ 3 _ rfl; (with_reducible repeat (first | refine blk_drewN ?_ _ | refine blk_drew ?_ | refine blk_alloc ?_ _)); refine blk_put (cs := #[.int .i64 a1, .int .i64 0, .int .i64 x268002_1, .bool x268003_1]) ?_ 2 _ rfl; (with_reducible repeat (first | refine blk_drewN ?_ _ | refine blk_drew ?_ | refine blk_alloc ?_ _)); refine blk_put (cs := #[.int .i64 a1, .int .i64 x268001_1, .int .i64 x268002_1, .bool x268003_1]) ?_ 1 _ rfl; (with_reducible repeat (first | refine blk_drewN ?_ _ | refine blk_drew ?_ | refine blk_alloc ?_ _)); refine blk_put (cs := #[.int .i64 x268000_1, .int .i64 x268001_1, .int .i64 x268002_1, .bool x268003_1]) ?_ 0 _ rfl; (with_reducible repeat (first | refine blk_drewN ?_ _ | refine blk_drew ?_ | refine blk_alloc ?_ _)); exact BK267.out) Tryd.underlying49 rfl (by kernel_rfl)) rfl ?_
    exact ⟨by first | rfl | (simp [errW_none, errW_some] <;> rfl) | (simp [*, errW_none, errW_some] <;> rfl), by repeat (first | (with_reducible first | exact HB.out | apply below_alloc | apply pw_below_drewN | apply below_drew1 | refine below_set ?_ GE266.out | refine below_set ?_ GE267.out) | exact HB.out)⟩
end Go.Proofs.YtabocfninjankaaDoor.P
