/- Proved: the statement RulesListsSpec, tied to the program as its card says, for every input; there are no conditions. Texts of this claim, one behind the other: RCourses, RListsC, Pl, Lists, LawRulesListsSpec. Merged by wip/mkmerge.py. -/
import Derived.Test.YtabocfninjankaaDoorCaLs5
import Derived.IntWalk
import Derived.Deep.RegionHeld3
import Derived.Deep.DrawnRows
import Derived.Test.YtabocfninjankaaDoorCaLs1
import Derived.Test.YtabocfninjankaaDoorCaLs2
import Derived.Test.YtabocfninjankaaDoorCaLs4
import Derived.Test.YtabocfninjankaaDoorCaLs3
import Derived.Test.YtabocfninjankaaDoorRows
import Derived.Test.YtabocfninjankaaDoorCards
import Derived.Test.YtabocfninjankaaDoorTie
import Derived.WalkKit
import Derived.ProofKit
import Derived.OpenShut
import Derived.ShutString
import Derived.ChangeOld
import Derived.Below
import Derived.SizedLaws
import Derived.LaidMore
import Derived.Stop.Joined
import Derived.JoinedCond
import Derived.SevenTiedAt
namespace Go.Proofs.YtabocfninjankaaDoor.P
open Go.RowKit Go.Shelf Go.Maps Go.Proofs.YtabocfninjankaaDoorW.PrintWords Go.Proofs.YtabocfninjankaaDoorW.PrintLast Go.Proofs.YtabocfninjankaaDoorW.PrintMore
attribute [local go_sem] Oper.semAt_some
attribute [local go_sem ↓] Go.wp_at_zero Go.wp_at_succ
set_option linter.unusedVariables false
set_option linter.unusedSimpArgs false
def putI : List Int → Int → List Int
 | [], c => [c]
 | x :: xs, c => if x < c then x :: putI xs c else if x = c then x :: xs else c :: x :: xs
def isCA (a : A4) : Bool := a.o == 5 || a.o == 6 || a.o == 9
/-- The courses of atoms, each put into those before. -/
def rcF (l : List A4) : List Int := l.foldl (fun acc a => if isCA a = true then putI acc a.c else acc) []
theorem rcF_snoc (l : List A4) (i : Nat) (h : i < l.length) : rcF (l.take (i + 1)) = if isCA l[i] = true then putI (rcF (l.take i)) l[i].c else rcF (l.take i) := by
 unfold rcF
 rw [List.take_succ_eq_append_getElem h, List.foldl_append]
 rfl
theorem putI_len : ∀ (l : List Int) (c : Int), (putI l c).length ≤ l.length + 1
 | [], c => by simp [putI]
 | x :: xs, c => by
  have := putI_len xs c
  unfold putI
  split
  ·simp only [List.length_cons]; omega
  ·split <;> simp
theorem rcF_len (l : List A4) : ∀ i, i ≤ l.length → (rcF (l.take i)).length ≤ i
 | 0, _ => by simp [rcF]
 | i + 1, h => by
  have := rcF_len l i (by omega)
  rw [rcF_snoc l i (by omega)]
  split
  ·have := putI_len (rcF (l.take i)) l[i].c; omega
  ·omega
/-- Where the place is found. -/
theorem putI_at : ∀ (l : List Int) (c : Int) (n : Nat), n ≤ l.length → (∀ (j : Nat) (h : j < l.length), j < n → l[j] < c) → (∀ h : n < l.length, ¬ l[n] < c) →
  putI l c = if ∃ h : n < l.length, l[n] = c then l else (l.take n ++ [c]) ++ l.drop n
 | [], c, n, hn, _, _ => by simp at hn; subst hn; simp [putI]
 | x :: xs, c, 0, hn, h1, h2 => by
  have := h2 (by simp)
  simp only [List.getElem_cons_zero] at this
  unfold putI
  rw [if_neg this]
  by_cases he : x = c
  ·simp [he]
  ·simp [he]
 | x :: xs, c, n + 1, hn, h1, h2 => by
  have h0 := h1 0 (by simp) (by omega)
  simp only [List.getElem_cons_zero] at h0
  have ih := putI_at xs c n (by simpa using hn) (fun j h hj => by have := h1 (j + 1) (by simpa using h) (by omega); simpa using this) (fun h => by have := h2 (by simpa using h); simpa using this)
  unfold putI
  rw [if_pos h0, ih]
  by_cases he : ∃ h : n < xs.length, xs[n] = c
  ·rw [if_pos he, if_pos (by obtain ⟨h, e⟩ := he; exact ⟨by simpa using h, by simpa using e⟩)]
  ·rw [if_neg he, if_neg (by rintro ⟨h, e⟩; exact he ⟨by simpa using h, by simpa using e⟩)]
   simp
theorem int_cell {w : World} {A : Option Addr} {xs : List Int} (h : Kd.C (Kd.int .i64) w A xs.length xs) (i : Nat) (hi : i < xs.length) : ∃ ad, A = some ad ∧ w.cell? (ad.add i) = some (.int .i64 xs[i]) := by
 obtain ⟨ad, c, e, _, hk, hc⟩ := Kd.C_get h 0 (i : Int) (by omega) (by omega)
 have hk' : c = [.int .i64 (xs.getD i 0)] := hk
 refine ⟨ad, e, ?_⟩
 have := hc 0 (.int .i64 (xs.getD i 0)) (by rw [hk']; rfl)
 rw [show (Kd.int .i64).sz = 1 from rfl] at this
 simpa [List.getD_eq_getElem?_getD, hi] using this
theorem R_empty {base H : Nat} (X : World) (hX : X.heap.size = H) (hb : base ≤ H) : Kd.R (Kd.int .i64) 3 (X.alloc (.cells #[] 3)) base (fun _ => True) (.slice (some ⟨H, 0, none⟩) 0 0) [] := by
 subst hX
 exact ⟨fun _ _ => trivial, _, own_lit X base 3 .i64 [] hb (by simp), Reps.none _ _⟩
theorem C_single {X : World} {b : Nat} {x : Int} (hb : X.heap[b]? = some (.cells #[.int .i64 x] 3 (0, 0))) : Kd.C (Kd.int .i64) X (some ⟨b, 0, none⟩) 1 [x] := by
 refine ⟨rfl, by decide, fun _ => ⟨_, rfl, fun j p hj => ⟨[.int .i64 p], rfl, rfl, fun i u hu => ?_⟩⟩⟩
 have hj1 := (List.getElem?_eq_some_iff.1 hj).1
 have hi1 := (List.getElem?_eq_some_iff.1 hu).1
 obtain rfl : j = 0 := by simpa using hj1
 obtain rfl : i = 0 := by simpa using hi1
 obtain rfl : x = p := by simpa using hj
 obtain rfl : Value.int .i64 x = u := by simpa using hu
 rw [add_plain]
 exact (blk_cell hb 0).trans rfl
theorem C_of_reads {w : World} {A : Option Addr} {n : Nat} {xs : List Int} (h : ReadsInt w .i64 A n xs) : Kd.C (Kd.int .i64) w A n xs := by
 refine ⟨h.1, h.2.1, fun hn => ?_⟩
 obtain ⟨ad, e, hc⟩ := h.2.2 hn
 refine ⟨ad, e, fun j p hj => ⟨[.int .i64 p], rfl, rfl, fun i u hu => ?_⟩⟩
 have hj1 := (List.getElem?_eq_some_iff.1 hj).1
 have hi1 := (List.getElem?_eq_some_iff.1 hu).1
 obtain rfl : i = 0 := by simpa using hi1
 obtain rfl : Value.int .i64 p = u := by simpa using hu
 have := hc j (by have := h.1; omega)
 rw [show (Kd.int .i64).sz = 1 from rfl, Nat.mul_one, Nat.add_zero, this]
 rw [List.getD_eq_getElem?_getD, hj]
 rfl
theorem reads_of_int {w : World} {A : Option Addr} {xs : List Int} (h : Kd.C (Kd.int .i64) w A xs.length xs) : ReadsInt w .i64 A xs.length xs := by
 refine ⟨rfl, h.2.1, fun hn => ?_⟩
 obtain ⟨ad, e, _⟩ := int_cell h 0 hn
 refine ⟨ad, e, fun j hj => ?_⟩
 obtain ⟨ad2, e2, hc⟩ := int_cell h j hj
 rw [e] at e2
 obtain rfl := Option.some.inj e2
 rw [hc]
 simp [List.getD_eq_getElem?_getD, hj]
def RC (xs : List Int) (w : World) (e : Ending) (w' : World) : Prop := ∃ v, e = .returned v ∧ Kd.R (Kd.int .i64) 3 w' w.heap.size (fun _ => True) v xs ∧ Below w.heap.size w w'
set_option maxRecDepth 100000 in
set_option maxHeartbeats 8000000 in
theorem rcourses_walk (r : S24) (A : Option Addr) (c : Nat) (w : World) (hcn : cntR r ≤ 1048576) (hc : r.f5.length ≤ c) (hC : Kd.C k24 w A r.f5.length r.f5) :
  Calls Tryd.prog 19 #[.agg #[.int .i64 r.f0, .int .i64 r.f1, .string r.f2, .int .i64 r.f3, .int .i64 r.f4, .slice A r.f5.length c]] w (RC (rcF (raR r)) w) := by
 have hu24 := Tryd.underlying24
 have hu39 := Tryd.underlying39
 have G := Aside0.mk (ratoms_calls r A c (w.alloc (.cells #[.int .i64 r.f0, .int .i64 r.f1, .string r.f2, .int .i64 r.f3, .int .i64 r.f4, .slice A r.f5.length c] 24)) hcn hc (Kd.C_alloc hC _))
 have hal := raR_len r
 replace hal : (raR r).length ≤ 1048576 := by omega
 unfold RA at G
 clear hC hcn hc
 generalize raR r = ats at *
 go_enter Tryd.func19, Tryd.ntmps19
 go_wp2_with fail
 refine G.out.mono ?_
 rintro e w1 ⟨v3, rfl, hV, hb⟩
 obtain ⟨A3, c3, e3⟩ := Kd.V_slice hV
 rw [List.length_map] at e3
 subst e3
 have HV := Aside0.mk hV
 have HB := Aside0.mk (below_step (below_alloc (Below.refl _ w) _) hb)
 clear G hV hb
 go_wp2_with fail
 go_loopw [4, 5] (fun t4 t5 wr => ∃ (i : Nat), t5 = .int .i64 i ∧ i ≤ ats.length ∧ Aside0 (Kd.R (Kd.int .i64) 3 wr w.heap.size (fun _ => True) t4 (rcF (ats.take i))) ∧ Aside0 (Kd.V k24 24 wr w.heap.size (fun _ => True) (.slice A3 ats.length c3) (ats.map ruleOf)) ∧ Aside0 (Below w.heap.size w wr))
  (fun _ t5 _ => ats.length - (intOf t5).toNat)
 case atStart => exact ⟨0, rfl, Nat.zero_le _, by simpa [rcF] using ⟨Kd.R_nil _ _ _ _ _⟩, ⟨V_rebase HV.out⟩, HB⟩
 case round =>
  obtain ⟨i, rfl, hi, HR, HV, HB⟩ := hrel
  by_cases hil : i < ats.length
  ·have hr3 := (Kd.V_reads' HV.out).2.2
   obtain ⟨ad6, A7, c7, e, y0, y1, y2, y3, y4, y5, hl7, hC7⟩ := at_T24 hr3 (i : Int) (by omega) (by simp; omega)
   subst e
   rw [Int.toNat_natCast] at y0 y1 y2 y3 y4 y5
   rw [rdm _ i hil] at y0 y1
   have hsn := rcF_snoc ats i hil
   have hle := rcF_len ats i hi
   generalize hac : ats[i] = a at *
   clear hac
   have y0' : wr.cell? (ad6.add (i * 6)) = some (.int .i64 a.o) := y0
   have y1' : wr.cell? ⟨(ad6.add (i * 6)).block, (ad6.add (i * 6)).off + 1, none⟩ = some (.int .i64 a.c) := y1
   have HSN := Aside0.mk hsn
   clear hr3 y0 y1 y2 y3 y4 y5 hl7 hC7 hsn
   obtain ⟨A4, c4, e4⟩ := Kd.R_slice HR.out
   subst e4
   go_upto_region 6 with fail
   go_cut [36] (fun v36 wc => v36 = .bool (!(isCA a)) ∧ wc = wr)
   case first =>
    by_cases h5 : a.o = 5
    ·have t5 : (a.o == 5) = true := by simpa using h5
     have t5' : (a.o != 5) = false := by simpa using h5
     go_wp2
     go_meet
     case rel => exact ⟨by simp [isCA, t5], rfl⟩
    have t5 : (a.o == 5) = false := by simpa using h5
    have t5' : (a.o != 5) = true := by simpa using h5
    by_cases h6 : a.o = 6
    ·have t6 : (a.o == 6) = true := by simpa using h6
     have t6' : (a.o != 6) = false := by simpa using h6
     clear h5 h6
     go_wp2
     go_meet
     case rel => exact ⟨by simp [isCA, t6], rfl⟩
    have t6 : (a.o == 6) = false := by simpa using h6
    have t6' : (a.o != 6) = true := by simpa using h6
    by_cases h9 : a.o = 9
    ·have t9 : (a.o == 9) = true := by simpa using h9
     have t9' : (a.o != 9) = false := by simpa using h9
     clear h5 h6 h9
     go_wp2
     go_meet
     case rel => exact ⟨by simp [isCA, t9], rfl⟩
    have t9 : (a.o == 9) = false := by simpa using h9
    have t9' : (a.o != 9) = true := by simpa using h9
    clear h5 h6 h9
    go_wp2
    go_meet
    case rel => exact ⟨by simp [isCA, t5, t6, t9], rfl⟩
   case rest =>
    obtain ⟨rfl, rfl⟩ := hcut
    cases hq : isCA a with
    | false =>
     rw [hq, if_neg (by simp)] at HSN
     clear hq
     go_wp2
     exact ⟨⟨i + 1, by go_num, by omega, ⟨by rw [HSN.out]; exact HR.out⟩, HV, HB⟩, by simp [intOf]; omega⟩
    | true =>
     rw [hq, if_pos rfl] at HSN
     clear hq
     generalize hls : rcF (ats.take i) = ls at *
     clear hls
     go_wp2
     obtain ⟨wo, rfl⟩ : ∃ wo : World, wo = wc := ⟨_, rfl⟩
     go_loopw [6] (fun t6 wi => ∃ (n m : Nat), t6 = .int .i64 n ∧ n ≤ ls.length ∧ Aside0 (∀ (j : Nat) (h : j < ls.length), j < n → ls[j] < a.c) ∧ wi = wo.drewN m)
      (fun t6 _ => ls.length - (intOf t6).toNat)
     case atStart => exact ⟨0, 0, rfl, Nat.zero_le _, ⟨fun _ _ h => absurd h (by omega)⟩, rfl⟩
     case round =>
      obtain ⟨n, m, rfl, hn, HL, rfl⟩ := hrel
      have HAT := Aside0.mk (putI_at ls a.c n hn HL.out)
      by_cases hnl : n < ls.length
      ·obtain ⟨ad4, e4, x4⟩ := int_cell (Kd.R_reads' HR.out).2.2 n hnl
       subst e4
       obtain ⟨xv, HX, hx⟩ : ∃ xv, Aside0 (xv = ls[n]) ∧ ls[n] = xv := ⟨_, ⟨rfl⟩, rfl⟩
       rw [hx] at x4
       clear hx
       by_cases hx : xv < a.c
       ·have g1 : decide (xv < a.c) = true := by simpa using hx
        have HL2 : Aside0 (∀ (j : Nat) (h : j < ls.length), j < n + 1 → ls[j] < a.c) := ⟨fun j h hj => by
         by_cases hjn : j = n
         ·subst hjn; rw [← HX.out]; exact hx
         ·exact HL.out j h (by omega)⟩
        clear hx HAT
        go_wp2
        go_quiet (fail)
        go_wp2
        go_roundw
        case rel => exact ⟨n + 1, _, by go_num, by omega, HL2, rfl⟩
        case measure => simp [intOf]; omega
       ·have g1 : decide (xv < a.c) = false := by simpa using hx
        have g2 : ((n : Int) == (ls.length : Int)) = false := by simp; omega
        by_cases he : xv = a.c
        ·have g3 : (xv != a.c) = false := by simpa using he
         have HP : Aside0 (putI ls a.c = ls) := ⟨by rw [HAT.out (fun _ => by rw [← HX.out]; exact hx), if_pos ⟨hnl, by rw [← HX.out]; exact he⟩]⟩
         clear hx he HAT HL
         go_wp2
         go_quiet (fail)
         go_wp2
         go_quiet (fail)
         go_wp2
         exact ⟨⟨i + 1, by go_num, by omega, ⟨by rw [HSN.out, HP.out]; exact Kd.R_drewN HR.out _⟩, ⟨Kd.V_drewN HV.out _⟩, ⟨pw_below_drewN HB.out _⟩⟩, by simp [intOf]; omega⟩
        ·have g3 : (xv != a.c) = true := by simpa using he
         have HP : Aside0 (putI ls a.c = (ls.take n ++ [a.c]) ++ ls.drop n) := ⟨by rw [HAT.out (fun _ => by rw [← HX.out]; exact hx), if_neg (by rintro ⟨_, h2⟩; exact he (by rw [HX.out]; exact h2))]⟩
         clear hx he HAT HL
         go_wp2
         go_quiet (fail)
         go_wp2
         go_quiet (fail)
         go_wp2
         have hclen : ls.length ≤ c4 := (Kd.R_reads' HR.out).2.1
         generalize hW : World.drewN _ nq = W
         have HRW : Aside0 (Kd.R (Kd.int .i64) 3 W w.heap.size (fun _ => True) (.slice (some ad4) ls.length c4) ls) := ⟨by rw [← hW]; exact Kd.R_drewN (Kd.R_drewN (Kd.R_drewN HR.out _) _) _⟩
         have HVW : Aside0 (Kd.V k24 24 W w.heap.size (fun _ => True) (.slice (some ad6) ats.length c3) (ats.map ruleOf)) := ⟨by rw [← hW]; exact Kd.V_drewN (Kd.V_drewN (Kd.V_drewN HV.out _) _) _⟩
         have HBW : Aside0 (Below w.heap.size w W) := ⟨by rw [← hW]; exact pw_below_drewN (pw_below_drewN (pw_below_drewN HB.out _) _) _⟩
         have yW : W.cell? ⟨(ad6.add (i * 6)).block, (ad6.add (i * 6)).off + 1, none⟩ = some (.int .i64 a.c) := by rw [← hW]; exact y1'
         have yW0 : W.cell? (ad6.add (i * 6)) = some (.int .i64 a.o) := by rw [← hW]; exact y0'
         clear hW
         obtain ⟨i0, hi0, _, hsz0, _⟩ := info_parts info3
         have hCl := (Kd.R_reads' HRW.out).2.2
         obtain ⟨A9, hcut, hrd9, hl9⟩ := print_cut_int (P := Tryd.prog) (k := .i64) 39 3 Tryd.underlying39 hi0 hsz0 (some ad4) c4 ls (n : Int) (by omega) (by omega) hclen
         rw [Int.toNat_natCast] at hcut hrd9 hl9
         have HCT : Aside0 (Kd.C (Kd.int .i64) W (some ad4) n (ls.take n)) := ⟨by have := Kd.C_take hCl hn; rwa [show (ls.take n).length = n by rw [List.length_take]; omega] at this⟩
         have HCD : Aside0 (Kd.C (Kd.int .i64) W A9 (ls.drop n).length (ls.drop n)) := ⟨C_of_reads (hrd9 W (reads_of_int hCl))⟩
         have hdl : (ls.drop n).length = ls.length - n := List.length_drop
         have HDL := Aside0.mk hdl
         rw [hdl] at hcut
         have hlt2 : ls.length ≤ 1048576 := by omega
         have hn0 : (0 : Int) ≤ (n : Int) := by omega
         have hn1 : (n : Int) ≤ (ls.length : Int) := by omega
         have hn2 : (n : Int) ≤ (c4 : Int) := by omega
         have hi1 : (0 : Int) ≤ (i : Int) := by omega
         have hi2 : (i : Int) < (ats.length : Int) := by omega
         clear hCl hrd9 hl9 hdl hi0 hsz0
         go_region_held3 (fun w' => w'.cell? ⟨(ad6.add (i * 6)).block, (ad6.add (i * 6)).off + 1, none⟩ = some (.int .i64 a.c))
          (exact pw_cell_below (by repeat (first | (with_reducible assumption) | (with_reducible exact Below.refl _ _) | (with_reducible apply below_alloc) | (with_reducible apply below_drew))) yW)
          (first
           | ((refine Kd.R_append_rows_step (o := ⟨some 75, _, _, _, _, _⟩) (Kd.int .i64) (w0 := W) W.heap.size (by rfl) (.tmp 71) (.tmp 74) 39 3 (.int .i64 0) 8 (by rfl) Tryd.underlying39 info3 (by rfl) (by decide) (by decide) _ [] (ls.take n) (some ad4) n c4 (fun _ => True) (fun _ => False) (by rfl) (by rfl) ?ho75 ?hr75 (fun _ _ h => h) (fun _ h => h.elim) (fun _ _ => trivial) ?hb75 ?hbs75 ?hl75 ?_); (case ho75 => repeat (first | exact R_empty _ (by simp) (by simp) | apply Kd.R_alloc | apply Kd.R_drew)); (case hr75 => exact (Kd.C_below HCT.out (by repeat (first | (with_reducible assumption) | (with_reducible exact Below.refl _ _) | (with_reducible apply below_alloc) | (with_reducible apply below_drew))))); (case hb75 => repeat (first | (with_reducible assumption) | (with_reducible exact Below.refl _ _) | (with_reducible apply below_alloc) | (with_reducible apply below_drew))); (case hbs75 => exact Below.size (show Below W.heap.size W _ from (by repeat (first | (with_reducible assumption) | (with_reducible exact Below.refl _ _) | (with_reducible apply below_alloc) | (with_reducible apply below_drew))))); (case hl75 => simp; omega); intro v75 w75 hR75 hB75 hG75 hat75)
           | ((refine Kd.R_append_rows_step (o := ⟨some 82, _, _, _, _, _⟩) (Kd.int .i64) (w0 := W) W.heap.size (by rfl) (.tmp 75) (.tmp 81) 39 3 (.int .i64 0) 8 (by rfl) Tryd.underlying39 info3 (by rfl) (by decide) (by decide) _ ([] ++ ls.take n) [a.c] _ 1 1 (fun _ => True) (fun _ => False) (by rfl) (by rfl) ?ho82 ?hr82 (fun _ _ h => h) (fun _ h => h.elim) (fun _ _ => trivial) ?hb82 ?hbs82 ?hl82 ?_); (case ho82 => repeat (first | exact hR75 | apply Kd.R_alloc | apply Kd.R_drew)); (case hr82 => exact (C_single (by first | exact new_blkD _ _ (by simp) | exact blk_drew (new_blkD _ _ (by simp)) | exact blk_drew ((hG75.block _ (by simp; try omega) (fun e_ => by have e3 := Option.some.inj (show some (_ : Nat) = some (_ : Nat) from e_); simp at e3)).trans (by repeat (first | exact new_blkD _ _ (by simp) | (refine blk_drew ?_) | (refine (Below.heap_alloc _ _ _ (by simp; try omega)).trans ?_)))) | exact (hG75.block _ (by simp; try omega) (fun e_ => by have e3 := Option.some.inj (show some (_ : Nat) = some (_ : Nat) from e_); simp at e3)).trans (by repeat (first | exact new_blkD _ _ (by simp) | (refine blk_drew ?_) | (refine (Below.heap_alloc _ _ _ (by simp; try omega)).trans ?_)))))); (case hb82 => repeat (first | (with_reducible assumption) | (with_reducible exact Below.refl _ _) | (with_reducible apply below_alloc) | (with_reducible apply below_drew))); (case hbs82 => exact Below.size (show Below W.heap.size W _ from (by repeat (first | (with_reducible assumption) | (with_reducible exact Below.refl _ _) | (with_reducible apply below_alloc) | (with_reducible apply below_drew))))); (case hl82 => simp; omega); intro v82 w82 hR82 hB82 hG82 hat82)
           | ((refine Kd.R_append_rows_step (o := ⟨some 86, _, _, _, _, _⟩) (Kd.int .i64) (w0 := W) W.heap.size (by rfl) (.tmp 82) (.tmp 85) 39 3 (.int .i64 0) 8 (by rfl) Tryd.underlying39 info3 (by rfl) (by decide) (by decide) _ (([] ++ ls.take n) ++ [a.c]) (ls.drop n) A9 (ls.length - n) (c4 - n) (fun _ => True) (fun _ => False) (by rfl) (by rfl) ?ho86 ?hr86 (fun _ _ h => h) (fun _ h => h.elim) (fun _ _ => trivial) ?hb86 ?hbs86 ?hl86 ?_); (case ho86 => repeat (first | exact hR82 | apply Kd.R_alloc | apply Kd.R_drew)); (case hr86 => exact (Kd.C_below (by have := HCD.out; rwa [HDL.out] at this) (by repeat (first | (with_reducible assumption) | (with_reducible exact Below.refl _ _) | (with_reducible apply below_alloc) | (with_reducible apply below_drew))))); (case hb86 => repeat (first | (with_reducible assumption) | (with_reducible exact Below.refl _ _) | (with_reducible apply below_alloc) | (with_reducible apply below_drew))); (case hbs86 => exact Below.size (show Below W.heap.size W _ from (by repeat (first | (with_reducible assumption) | (with_reducible exact Below.refl _ _) | (with_reducible apply below_alloc) | (with_reducible apply below_drew))))); (case hl86 => simp; omega); intro v86 w86 hR86 hB86 hG86 hat86))
         all_goals
          go_wp2
          exact ⟨⟨i + 1, by go_num, by omega, ⟨by rw [HSN.out, HP.out]; exact Kd.R_lower (by simpa using hR86) HBW.out.size⟩, ⟨Kd.V_below HVW.out hB86⟩, ⟨below_step HBW.out hB86⟩⟩, by simp [intOf]; omega⟩
      ·have hnn : n = ls.length := by omega
       have HP : Aside0 (putI ls a.c = (ls.take n ++ [a.c]) ++ ls.drop n) := ⟨by rw [HAT.out (fun h => absurd h hnl), if_neg (by rintro ⟨h2, _⟩; exact hnl h2)]⟩
       have g1 : decide (n < ls.length) = false := by simpa using hnl
       have g2 : ((n : Int) == (ls.length : Int)) = true := by simp; omega
       clear HAT HL hnl hnn
       go_wp2
       go_quiet (fail)
       go_wp2
       go_quiet (fail)
       go_wp2
       have hclen : ls.length ≤ c4 := (Kd.R_reads' HR.out).2.1
       generalize hW : World.drewN _ nq = W
       have HRW : Aside0 (Kd.R (Kd.int .i64) 3 W w.heap.size (fun _ => True) (.slice A4 ls.length c4) ls) := ⟨by rw [← hW]; exact Kd.R_drewN (Kd.R_drewN (Kd.R_drewN HR.out _) _) _⟩
       have HVW : Aside0 (Kd.V k24 24 W w.heap.size (fun _ => True) (.slice (some ad6) ats.length c3) (ats.map ruleOf)) := ⟨by rw [← hW]; exact Kd.V_drewN (Kd.V_drewN (Kd.V_drewN HV.out _) _) _⟩
       have HBW : Aside0 (Below w.heap.size w W) := ⟨by rw [← hW]; exact pw_below_drewN (pw_below_drewN (pw_below_drewN HB.out _) _) _⟩
       have yW : W.cell? ⟨(ad6.add (i * 6)).block, (ad6.add (i * 6)).off + 1, none⟩ = some (.int .i64 a.c) := by rw [← hW]; exact y1'
       have yW0 : W.cell? (ad6.add (i * 6)) = some (.int .i64 a.o) := by rw [← hW]; exact y0'
       clear hW
       obtain ⟨i0, hi0, _, hsz0, _⟩ := info_parts info3
       have hCl := (Kd.R_reads' HRW.out).2.2
       obtain ⟨A9, hcut, hrd9, hl9⟩ := print_cut_int (P := Tryd.prog) (k := .i64) 39 3 Tryd.underlying39 hi0 hsz0 A4 c4 ls (n : Int) (by omega) (by omega) hclen
       rw [Int.toNat_natCast] at hcut hrd9 hl9
       have HCT : Aside0 (Kd.C (Kd.int .i64) W A4 n (ls.take n)) := ⟨by have := Kd.C_take hCl hn; rwa [show (ls.take n).length = n by rw [List.length_take]; omega] at this⟩
       have HCD : Aside0 (Kd.C (Kd.int .i64) W A9 (ls.drop n).length (ls.drop n)) := ⟨C_of_reads (hrd9 W (reads_of_int hCl))⟩
       have hdl : (ls.drop n).length = ls.length - n := List.length_drop
       have HDL := Aside0.mk hdl
       rw [hdl] at hcut
       have hlt2 : ls.length ≤ 1048576 := by omega
       have hn0 : (0 : Int) ≤ (n : Int) := by omega
       have hn1 : (n : Int) ≤ (ls.length : Int) := by omega
       have hn2 : (n : Int) ≤ (c4 : Int) := by omega
       have hi1 : (0 : Int) ≤ (i : Int) := by omega
       have hi2 : (i : Int) < (ats.length : Int) := by omega
       clear hCl hrd9 hl9 hdl hi0 hsz0
       go_region_held3 (fun w' => w'.cell? ⟨(ad6.add (i * 6)).block, (ad6.add (i * 6)).off + 1, none⟩ = some (.int .i64 a.c))
        (exact pw_cell_below (by repeat (first | (with_reducible assumption) | (with_reducible exact Below.refl _ _) | (with_reducible apply below_alloc) | (with_reducible apply below_drew))) yW)
        (first
         | ((refine Kd.R_append_rows_step (o := ⟨some 75, _, _, _, _, _⟩) (Kd.int .i64) (w0 := W) W.heap.size (by rfl) (.tmp 71) (.tmp 74) 39 3 (.int .i64 0) 8 (by rfl) Tryd.underlying39 info3 (by rfl) (by decide) (by decide) _ [] (ls.take n) A4 n c4 (fun _ => True) (fun _ => False) (by rfl) (by rfl) ?ho75 ?hr75 (fun _ _ h => h) (fun _ h => h.elim) (fun _ _ => trivial) ?hb75 ?hbs75 ?hl75 ?_); (case ho75 => repeat (first | exact R_empty _ (by simp) (by simp) | apply Kd.R_alloc | apply Kd.R_drew)); (case hr75 => exact (Kd.C_below HCT.out (by repeat (first | (with_reducible assumption) | (with_reducible exact Below.refl _ _) | (with_reducible apply below_alloc) | (with_reducible apply below_drew))))); (case hb75 => repeat (first | (with_reducible assumption) | (with_reducible exact Below.refl _ _) | (with_reducible apply below_alloc) | (with_reducible apply below_drew))); (case hbs75 => exact Below.size (show Below W.heap.size W _ from (by repeat (first | (with_reducible assumption) | (with_reducible exact Below.refl _ _) | (with_reducible apply below_alloc) | (with_reducible apply below_drew))))); (case hl75 => simp; omega); intro v75 w75 hR75 hB75 hG75 hat75)
         | ((refine Kd.R_append_rows_step (o := ⟨some 82, _, _, _, _, _⟩) (Kd.int .i64) (w0 := W) W.heap.size (by rfl) (.tmp 75) (.tmp 81) 39 3 (.int .i64 0) 8 (by rfl) Tryd.underlying39 info3 (by rfl) (by decide) (by decide) _ ([] ++ ls.take n) [a.c] _ 1 1 (fun _ => True) (fun _ => False) (by rfl) (by rfl) ?ho82 ?hr82 (fun _ _ h => h) (fun _ h => h.elim) (fun _ _ => trivial) ?hb82 ?hbs82 ?hl82 ?_); (case ho82 => repeat (first | exact hR75 | apply Kd.R_alloc | apply Kd.R_drew)); (case hr82 => exact (C_single (by first | exact new_blkD _ _ (by simp) | exact blk_drew (new_blkD _ _ (by simp)) | exact blk_drew ((hG75.block _ (by simp; try omega) (fun e_ => by have e3 := Option.some.inj (show some (_ : Nat) = some (_ : Nat) from e_); simp at e3)).trans (by repeat (first | exact new_blkD _ _ (by simp) | (refine blk_drew ?_) | (refine (Below.heap_alloc _ _ _ (by simp; try omega)).trans ?_)))) | exact (hG75.block _ (by simp; try omega) (fun e_ => by have e3 := Option.some.inj (show some (_ : Nat) = some (_ : Nat) from e_); simp at e3)).trans (by repeat (first | exact new_blkD _ _ (by simp) | (refine blk_drew ?_) | (refine (Below.heap_alloc _ _ _ (by simp; try omega)).trans ?_)))))); (case hb82 => repeat (first | (with_reducible assumption) | (with_reducible exact Below.refl _ _) | (with_reducible apply below_alloc) | (with_reducible apply below_drew))); (case hbs82 => exact Below.size (show Below W.heap.size W _ from (by repeat (first | (with_reducible assumption) | (with_reducible exact Below.refl _ _) | (with_reducible apply below_alloc) | (with_reducible apply below_drew))))); (case hl82 => simp; omega); intro v82 w82 hR82 hB82 hG82 hat82)
         | ((refine Kd.R_append_rows_step (o := ⟨some 86, _, _, _, _, _⟩) (Kd.int .i64) (w0 := W) W.heap.size (by rfl) (.tmp 82) (.tmp 85) 39 3 (.int .i64 0) 8 (by rfl) Tryd.underlying39 info3 (by rfl) (by decide) (by decide) _ (([] ++ ls.take n) ++ [a.c]) (ls.drop n) A9 (ls.length - n) (c4 - n) (fun _ => True) (fun _ => False) (by rfl) (by rfl) ?ho86 ?hr86 (fun _ _ h => h) (fun _ h => h.elim) (fun _ _ => trivial) ?hb86 ?hbs86 ?hl86 ?_); (case ho86 => repeat (first | exact hR82 | apply Kd.R_alloc | apply Kd.R_drew)); (case hr86 => exact (Kd.C_below (by have := HCD.out; rwa [HDL.out] at this) (by repeat (first | (with_reducible assumption) | (with_reducible exact Below.refl _ _) | (with_reducible apply below_alloc) | (with_reducible apply below_drew))))); (case hb86 => repeat (first | (with_reducible assumption) | (with_reducible exact Below.refl _ _) | (with_reducible apply below_alloc) | (with_reducible apply below_drew))); (case hbs86 => exact Below.size (show Below W.heap.size W _ from (by repeat (first | (with_reducible assumption) | (with_reducible exact Below.refl _ _) | (with_reducible apply below_alloc) | (with_reducible apply below_drew))))); (case hl86 => simp; omega); intro v86 w86 hR86 hB86 hG86 hat86))
       all_goals
        go_wp2
        exact ⟨⟨i + 1, by go_num, by omega, ⟨by rw [HSN.out, HP.out]; exact Kd.R_lower (by simpa using hR86) HBW.out.size⟩, ⟨Kd.V_below HVW.out hB86⟩, ⟨below_step HBW.out hB86⟩⟩, by simp [intOf]; omega⟩
  ·have hkn : i = ats.length := by omega
   subst hkn
   rw [List.take_length] at HR
   clear hil hi
   go_wp2
   go_ret
   exact ⟨_, rfl, HR.out, HB.out⟩
end Go.Proofs.YtabocfninjankaaDoor.P
namespace Go.Proofs.YtabocfninjankaaDoor.P
open Go.RowKit Go.Proofs.YtabocfninjankaaDoorW.PrintWords Go.Proofs.YtabocfninjankaaDoorW.PrintLast Go.Proofs.YtabocfninjankaaDoorW.PrintMore
set_option linter.unusedVariables false
def sizarref12_Atoms.f (k : Nat) (a0_0 a0_1 : Int) (a0_2 : ByteArray) (a0_3 a0_4 : Int) (l0_5 : List S24) : Option (List S24) := if cntR ⟨a0_0, a0_1, a0_2, a0_3, a0_4, l0_5⟩ ≤ 1048576 then some ((raR ⟨a0_0, a0_1, a0_2, a0_3, a0_4, l0_5⟩).map ruleOf) else none
theorem sizarref12_Atoms.calls (k : Nat) (a0_0 : Int) (a0_1 : Int) (a0_2 : ByteArray) (a0_3 : Int) (a0_4 : Int) (A0_5 : Option Addr) (c0_5 : Nat) (l0_5 : List (S24)) (r : List S24) (w : World) (hr0_5 : Kd.C k24 w A0_5 l0_5.length l0_5) (hc0_5 : l0_5.length ≤ c0_5) (h : sizarref12_Atoms.f k a0_0 a0_1 a0_2 a0_3 a0_4 l0_5 = some r) :
    Calls Tryd.prog 16 #[.agg #[.int .i64 a0_0, .int .i64 a0_1, .string a0_2, .int .i64 a0_3, .int .i64 a0_4, .slice A0_5 l0_5.length c0_5]] w fun e w' => ∃ v0_ : Value, e = .returned v0_ ∧ Kd.V k24 24 w' w.heap.size (fun _ => True) v0_ r ∧ Below w.heap.size w w' := by
  unfold sizarref12_Atoms.f at h
  split at h
  · rename_i hh
    obtain rfl := Option.some.inj h
    exact ratoms_calls ⟨a0_0, a0_1, a0_2, a0_3, a0_4, l0_5⟩ A0_5 c0_5 w hh hc0_5 hr0_5
  · cases h
def sizarref12_Courses.f (k : Nat) (a0_0 a0_1 : Int) (a0_2 : ByteArray) (a0_3 a0_4 : Int) (l0_5 : List S24) : Option (List Int) := if cntR ⟨a0_0, a0_1, a0_2, a0_3, a0_4, l0_5⟩ ≤ 1048576 then some (rcF (raR ⟨a0_0, a0_1, a0_2, a0_3, a0_4, l0_5⟩)) else none
theorem sizarref12_Courses.calls (k : Nat) (a0_0 : Int) (a0_1 : Int) (a0_2 : ByteArray) (a0_3 : Int) (a0_4 : Int) (A0_5 : Option Addr) (c0_5 : Nat) (l0_5 : List (S24)) (r : List Int) (w : World) (hr0_5 : Kd.C k24 w A0_5 l0_5.length l0_5) (hc0_5 : l0_5.length ≤ c0_5) (h : sizarref12_Courses.f k a0_0 a0_1 a0_2 a0_3 a0_4 l0_5 = some r) :
    Calls Tryd.prog 19 #[.agg #[.int .i64 a0_0, .int .i64 a0_1, .string a0_2, .int .i64 a0_3, .int .i64 a0_4, .slice A0_5 l0_5.length c0_5]] w fun e w' => ∃ v0_ : Value, e = .returned v0_ ∧ Kd.R (Kd.int .i64) 3 w' w.heap.size (fun _ => True) v0_ r ∧ Below w.heap.size w w' := by
  unfold sizarref12_Courses.f at h
  split at h
  · rename_i hh
    obtain rfl := Option.some.inj h
    exact rcourses_walk ⟨a0_0, a0_1, a0_2, a0_3, a0_4, l0_5⟩ A0_5 c0_5 w hh hc0_5 hr0_5
  · cases h
end Go.Proofs.YtabocfninjankaaDoor.P
namespace Go.Proofs.YtabocfninjankaaDoor.P
open Go.RowKit Go.Proofs.YtabocfninjankaaDoorW.PrintWords Go.Proofs.YtabocfninjankaaDoorW.PrintLast Go.Proofs.YtabocfninjankaaDoorW.PrintMore
attribute [local go_sem] max2_int min2_int max_two min_two max_three min_three max_four min_four   -- for this text's walks alone
set_option linter.unusedVariables false
set_option linter.unusedSimpArgs false
def sizarlaw12_RulesListsSpec.f (k : Nat) (a0_0 : Int) (a0_1 : Int) (a0_2 : ByteArray) (a0_3 : Int) (a0_4 : Int) (l0_5 : List (S24)) : Option (Bool) := (sizarlaw12_sane.f k).bind fun t319 => (if t319 = true then ((sizarref12_Few.f k a0_0 a0_1 a0_2 a0_3 a0_4 l0_5).bind fun t320 => (if t320 = true then ((rules_Atoms.f a0_0 a0_1 a0_2 a0_3 a0_4 l0_5).bind fun t321 => ((sizarref12_Atoms.f k a0_0 a0_1 a0_2 a0_3 a0_4 l0_5).bind fun t324 => ((sizarref12_SameAtoms.f k t321 t324).bind fun t327 => (if t327 = true then ((rules_Courses.f a0_0 a0_1 a0_2 a0_3 a0_4 l0_5).bind fun t328 => ((sizarref12_Courses.f k a0_0 a0_1 a0_2 a0_3 a0_4 l0_5).bind fun t331 => ((sizarref12_SameInts.f k t328 t331).bind fun t334 => (some t334)))) else (some false))))) else (some true))) else (some false))
def sizarlaw12_RulesListsSpec.T3 : Bool × List (List Nat × List Nat) := (true, [([], []), ([0], [0]), ([1], [1]), ([2, 1], [2]), ([3], [3]), ([4, 3, 3], [3, 4]), ([3], [3]), ([6, 5, 3], [3, 6]), ([5, 7, 7, 3], [3, 5, 7]), ([8, 8, 3], [3, 8]), ([9], [9]), ([10, 9, 9], [9, 10]), ([9], [9]), ([12, 11, 9], [9, 12]), ([11, 13, 13, 9], [9, 11, 13]), ([9, 14, 3], [3, 9, 14]), ([3, 15], [3, 15]), ([16, 14, 0, 1, 2, 3, 4, 5, 6, 7, 8, 9, 10, 11, 12, 13, 14, 15, 16], [16])])
def sizarlaw12_RulesListsSpec.B3 : List Nat := [0, 1, 3, 7, 15, 31, 15, 127, 255, 511, 1023, 2047, 1023, 8191, 16383, 32767, 65535, 131071]
theorem sizarlaw12_RulesListsSpec.tab3 : rtab .any (opsOf Tryd.f4 3) = sizarlaw12_RulesListsSpec.T3 := by kernel_rfl
theorem sizarlaw12_RulesListsSpec.bits3 : waitsOk sizarlaw12_RulesListsSpec.T3.2 sizarlaw12_RulesListsSpec.B3 = true := by kernel_rfl
set_option maxHeartbeats 8000000 in
set_option maxRecDepth 100000 in
theorem sizarlaw12_RulesListsSpec.calls (k : Nat) (a0_0 : Int) (a0_1 : Int) (a0_2 : ByteArray) (a0_3 : Int) (a0_4 : Int) (A0_5 : Option Addr) (c0_5 : Nat) (l0_5 : List (S24)) (r : Bool) (w : World) (hr0_5 : Kd.C k24 w A0_5 l0_5.length l0_5) (hc0_5 : l0_5.length ≤ c0_5) (h : sizarlaw12_RulesListsSpec.f k a0_0 a0_1 a0_2 a0_3 a0_4 l0_5 = some r) (hKT : KindsAt w) :
  Calls Tryd.prog 4 #[.agg #[.int .i64 a0_0, .int .i64 a0_1, .string a0_2, .int .i64 a0_3, .int .i64 a0_4, .slice A0_5 l0_5.length c0_5]] w fun e w' => e = .returned (.bool r) ∧ Below w.heap.size w w' := by
 have HKT := Aside0.mk hKT
 clear hKT
 have hu24 := Tryd.underlying24
 have HR0_5 := Aside0.mk hr0_5
 have HC0_5 := Aside0.mk hc0_5
 clear hr0_5 hc0_5
 have HB := Aside0.mk (Below.refl w.heap.size w)
 have H : ((sizarlaw12_sane.f k).bind fun t319 => (if t319 = true then ((sizarref12_Few.f k a0_0 a0_1 a0_2 a0_3 a0_4 l0_5).bind fun t320 => (if t320 = true then ((rules_Atoms.f a0_0 a0_1 a0_2 a0_3 a0_4 l0_5).bind fun t321 => ((sizarref12_Atoms.f k a0_0 a0_1 a0_2 a0_3 a0_4 l0_5).bind fun t324 => ((sizarref12_SameAtoms.f k t321 t324).bind fun t327 => (if t327 = true then ((rules_Courses.f a0_0 a0_1 a0_2 a0_3 a0_4 l0_5).bind fun t328 => ((sizarref12_Courses.f k a0_0 a0_1 a0_2 a0_3 a0_4 l0_5).bind fun t331 => ((sizarref12_SameInts.f k t328 t331).bind fun t334 => (some t334)))) else (some false))))) else (some true))) else (some false))) = some r := h
 clear h
 replace H := Option.bind_eq_some_iff.mp H
 obtain ⟨t319, A20, H⟩ := H
 replace H : (if t319 = true then ((sizarref12_Few.f k a0_0 a0_1 a0_2 a0_3 a0_4 l0_5).bind fun t320 => (if t320 = true then ((rules_Atoms.f a0_0 a0_1 a0_2 a0_3 a0_4 l0_5).bind fun t321 => ((sizarref12_Atoms.f k a0_0 a0_1 a0_2 a0_3 a0_4 l0_5).bind fun t324 => ((sizarref12_SameAtoms.f k t321 t324).bind fun t327 => (if t327 = true then ((rules_Courses.f a0_0 a0_1 a0_2 a0_3 a0_4 l0_5).bind fun t328 => ((sizarref12_Courses.f k a0_0 a0_1 a0_2 a0_3 a0_4 l0_5).bind fun t331 => ((sizarref12_SameInts.f k t328 t331).bind fun t334 => (some t334)))) else (some false))))) else (some true))) else (some false)) = some r := H
 have A2 := Aside0.mk A20
 clear A20
 by_cases c3 : t319 = true
 ·subst c3
  have H1 : ((sizarref12_Few.f k a0_0 a0_1 a0_2 a0_3 a0_4 l0_5).bind fun t320 => (if t320 = true then ((rules_Atoms.f a0_0 a0_1 a0_2 a0_3 a0_4 l0_5).bind fun t321 => ((sizarref12_Atoms.f k a0_0 a0_1 a0_2 a0_3 a0_4 l0_5).bind fun t324 => ((sizarref12_SameAtoms.f k t321 t324).bind fun t327 => (if t327 = true then ((rules_Courses.f a0_0 a0_1 a0_2 a0_3 a0_4 l0_5).bind fun t328 => ((sizarref12_Courses.f k a0_0 a0_1 a0_2 a0_3 a0_4 l0_5).bind fun t331 => ((sizarref12_SameInts.f k t328 t331).bind fun t334 => (some t334)))) else (some false))))) else (some true))) = some r := by rw [if_pos rfl] at H; exact H
  clear H
  have H := H1
  clear H1
  replace H := Option.bind_eq_some_iff.mp H
  obtain ⟨t320, A40, H⟩ := H
  replace H : (if t320 = true then ((rules_Atoms.f a0_0 a0_1 a0_2 a0_3 a0_4 l0_5).bind fun t321 => ((sizarref12_Atoms.f k a0_0 a0_1 a0_2 a0_3 a0_4 l0_5).bind fun t324 => ((sizarref12_SameAtoms.f k t321 t324).bind fun t327 => (if t327 = true then ((rules_Courses.f a0_0 a0_1 a0_2 a0_3 a0_4 l0_5).bind fun t328 => ((sizarref12_Courses.f k a0_0 a0_1 a0_2 a0_3 a0_4 l0_5).bind fun t331 => ((sizarref12_SameInts.f k t328 t331).bind fun t334 => (some t334)))) else (some false))))) else (some true)) = some r := H
  have A4 := Aside0.mk A40
  clear A40
  by_cases c5 : t320 = true
  ·subst c5
   have H1 : ((rules_Atoms.f a0_0 a0_1 a0_2 a0_3 a0_4 l0_5).bind fun t321 => ((sizarref12_Atoms.f k a0_0 a0_1 a0_2 a0_3 a0_4 l0_5).bind fun t324 => ((sizarref12_SameAtoms.f k t321 t324).bind fun t327 => (if t327 = true then ((rules_Courses.f a0_0 a0_1 a0_2 a0_3 a0_4 l0_5).bind fun t328 => ((sizarref12_Courses.f k a0_0 a0_1 a0_2 a0_3 a0_4 l0_5).bind fun t331 => ((sizarref12_SameInts.f k t328 t331).bind fun t334 => (some t334)))) else (some false))))) = some r := by rw [if_pos rfl] at H; exact H
   clear H
   have H := H1
   clear H1
   replace H := Option.bind_eq_some_iff.mp H
   obtain ⟨t321, A60, H⟩ := H
   replace H : ((sizarref12_Atoms.f k a0_0 a0_1 a0_2 a0_3 a0_4 l0_5).bind fun t324 => ((sizarref12_SameAtoms.f k t321 t324).bind fun t327 => (if t327 = true then ((rules_Courses.f a0_0 a0_1 a0_2 a0_3 a0_4 l0_5).bind fun t328 => ((sizarref12_Courses.f k a0_0 a0_1 a0_2 a0_3 a0_4 l0_5).bind fun t331 => ((sizarref12_SameInts.f k t328 t331).bind fun t334 => (some t334)))) else (some false)))) = some r := H
   have A6 := Aside0.mk A60
   clear A60
   replace H := Option.bind_eq_some_iff.mp H
   obtain ⟨t324, A70, H⟩ := H
   replace H : ((sizarref12_SameAtoms.f k t321 t324).bind fun t327 => (if t327 = true then ((rules_Courses.f a0_0 a0_1 a0_2 a0_3 a0_4 l0_5).bind fun t328 => ((sizarref12_Courses.f k a0_0 a0_1 a0_2 a0_3 a0_4 l0_5).bind fun t331 => ((sizarref12_SameInts.f k t328 t331).bind fun t334 => (some t334)))) else (some false))) = some r := H
   have A7 := Aside0.mk A70
   clear A70
   replace H := Option.bind_eq_some_iff.mp H
   obtain ⟨t327, A80, H⟩ := H
   replace H : (if t327 = true then ((rules_Courses.f a0_0 a0_1 a0_2 a0_3 a0_4 l0_5).bind fun t328 => ((sizarref12_Courses.f k a0_0 a0_1 a0_2 a0_3 a0_4 l0_5).bind fun t331 => ((sizarref12_SameInts.f k t328 t331).bind fun t334 => (some t334)))) else (some false)) = some r := H
   have A8 := Aside0.mk A80
   clear A80
   by_cases c9 : t327 = true
   ·subst c9
    have H1 : ((rules_Courses.f a0_0 a0_1 a0_2 a0_3 a0_4 l0_5).bind fun t328 => ((sizarref12_Courses.f k a0_0 a0_1 a0_2 a0_3 a0_4 l0_5).bind fun t331 => ((sizarref12_SameInts.f k t328 t331).bind fun t334 => (some t334)))) = some r := by rw [if_pos rfl] at H; exact H
    clear H
    have H := H1
    clear H1
    replace H := Option.bind_eq_some_iff.mp H
    obtain ⟨t328, A100, H⟩ := H
    replace H : ((sizarref12_Courses.f k a0_0 a0_1 a0_2 a0_3 a0_4 l0_5).bind fun t331 => ((sizarref12_SameInts.f k t328 t331).bind fun t334 => (some t334))) = some r := H
    have A10 := Aside0.mk A100
    clear A100
    replace H := Option.bind_eq_some_iff.mp H
    obtain ⟨t331, A110, H⟩ := H
    replace H : ((sizarref12_SameInts.f k t328 t331).bind fun t334 => (some t334)) = some r := H
    have A11 := Aside0.mk A110
    clear A110
    replace H := Option.bind_eq_some_iff.mp H
    obtain ⟨t334, A120, H⟩ := H
    replace H : (some t334) = some r := H
    have A12 := Aside0.mk A120
    clear A120
    obtain rfl := Option.some.inj H
    go_enter Tryd.func4, Tryd.ntmps4
    try go_wp2_with (first | ((with_reducible refine gate_dst (N := 1) rfl ?_); refine box_event ?hg (N := 1) ?hd (cs := #[.int .i64 a0_0, .int .i64 a0_1, .string a0_2, .int .i64 a0_3, .int .i64 a0_4, .slice A0_5 l0_5.length c0_5]) (t := 24) ?hr ?_; (case hd => rfl); (case hg => rfl); (case hr => first | (go_simp; done) | (go_simp; rfl)); intro gb318 hg w13 hbox hb; have n0_ := Aside0.mk (below_step (by repeat (first | (with_reducible first | exact HB.out | apply below_alloc | apply pw_below_drewN | apply below_drew1) | exact HB.out)) hb); have n1_ := Aside0.mk (hbox); have n2_ := Aside0.mk ((by rw [hg]; exact (below_size (by repeat (first | (with_reducible first | exact HB.out | apply below_alloc | apply pw_below_drewN | apply below_drew1) | exact HB.out))) : w.heap.size ≤ gb318)); have n3_ := Aside0.mk ((by rw [hg]; exact (below_size (by repeat (first | (with_reducible first | exact HB.out | apply below_alloc | apply pw_below_drewN | apply below_drew1) | exact HB.out))) : w.heap.size ≤ gb318)); clear HB; have HB := n0_; have BK318 := n1_; have GW318 := n2_; have GE318 := n3_; clear n0_ n1_ n2_ n3_; clear hb hbox hg) | ((with_reducible refine gate_callee (f := 10) rfl ?_); refine goesL_ (some 3) rfl rfl Tryd.func10 (by kernel_rfl) rfl #[] rfl (by (try simp only [List.map_toArray, List.map_cons, List.map_nil]); first | done | rfl | (simp only [List.length_drop, List.length_take]; rfl)) ?_; (with_reducible refine (sizarlaw12_sane.calls k  true _ A2.out ?sideK).mono ?_); (case sideK => exact HKT.out.below (by repeat (first | (with_reducible first | exact HB.out | apply below_alloc | apply pw_below_drewN | apply below_drew1 | refine below_set ?_ GE318.out) | exact HB.out))); rintro e w14 ⟨rfl, hb⟩; refine ⟨_, rfl, ?_⟩; have n0_ := Aside0.mk (blk_below (g := gb318) (o := .cells #[.int .i64 a0_0, .int .i64 a0_1, .string a0_2, .int .i64 a0_3, .int .i64 a0_4, .slice A0_5 l0_5.length c0_5] 24 (0, 0)) (by (with_reducible repeat (first | refine blk_drewN ?_ _ | refine blk_drew ?_ | refine blk_alloc ?_ _)); exact BK318.out) hb); have n1_ := Aside0.mk (below_step (by repeat (first | (with_reducible first | exact HB.out | apply below_alloc | apply pw_below_drewN | apply below_drew1 | refine below_set ?_ GE318.out) | exact HB.out)) hb); clear BK318; clear HB; have BK318 := n0_; have HB := n1_; clear n0_ n1_; (try clear hb); (try clear hb2); (try clear hk); (try clear hi)))
    have n0_ := Aside0.mk (blk_drew BK318.out)
    have n1_ := Aside0.mk (below_drew1 HB.out)
    clear BK318
    clear HB
    have BK318 := n0_
    have HB := n1_
    clear n0_ n1_
    refine start_ (n := 18) (S := fun w' => w'.cell? ⟨gb318, 0, none⟩ = some (.int .i64 a0_0) ∧ w'.cell? ⟨gb318, 1, none⟩ = some (.int .i64 a0_1) ∧ w'.cell? ⟨gb318, 2, none⟩ = some (.string a0_2) ∧ w'.cell? ⟨gb318, 3, none⟩ = some (.int .i64 a0_3) ∧ w'.cell? ⟨gb318, 4, none⟩ = some (.int .i64 a0_4) ∧ w'.cell? ⟨gb318, 5, none⟩ = some (.slice A0_5 l0_5.length c0_5)) (ds := []) #[false, false, false, false, false, false, false, false, false, false, false, false, false, false, false, false, false, false] (by kernel_rfl) rfl rfl ⟨(blk_cell BK318.out 0).trans rfl, (blk_cell BK318.out 1).trans rfl, (blk_cell BK318.out 2).trans rfl, (blk_cell BK318.out 3).trans rfl, (blk_cell BK318.out 4).trans rfl, (blk_cell BK318.out 5).trans rfl⟩ (fun hHeld => ?_); refine with_tabW sizarlaw12_RulesListsSpec.tab3 sizarlaw12_RulesListsSpec.bits3 (fun HT_ HW_ => ?_)
    generalize w14.drew = w15 at BK318 HB hHeld ⊢
    refine take_ (i := 0) (N := some 5) (v := ?_) (a' := ?_) #[true, false, false, false, false, false, false, false, false, false, false, false, false, false, false, false, false, false] rfl rfl (take_ofW HT_.out HW_.out (by kernel_rfl)) (fun _ _ _ h => h) (Or.inl ⟨by rfl, ?_⟩) hHeld ?_ ?_
    rotate_left
    ·rintro w' ⟨s0, s1, s2, s3, s4, s5⟩
     go_simp
     with_reducible rfl
    rotate_left
    ·simp only [Act.put, List.setIfInBounds_toArray, List.set_cons_zero, List.set_cons_succ, i64_w, i32_w]
     rfl
    refine one_ (i := 1) (N := some 6) #[true, true, false, false, false, false, false, false, false, false, false, false, false, false, false, false, false, false] rfl rfl (one_of HT_.out (by kernel_rfl)) (by decide) (fun K hK => ?_)
    refine goes_ Tryd.func11 (by kernel_rfl) rfl #[.agg #[.int .i64 a0_0, .int .i64 a0_1, .string a0_2, .int .i64 a0_3, .int .i64 a0_4, .slice A0_5 l0_5.length c0_5]] (by rfl) rfl rfl (by (try simp only [List.map_toArray, List.map_cons, List.map_nil]); first | done | rfl | (simp only [List.length_drop, List.length_take]; rfl)) ?_
    with_reducible refine (sizarref12_Few.calls k a0_0 a0_1 a0_2 a0_3 a0_4 _ _ l0_5 true _ ?side1 ?side2 A4.out).mono ?_
    (case side1 => repeat (first | exact (Kd.C_below HR0_5.out HB.out) | (with_reducible refine Kd.C_alloc ?_ _) | (with_reducible refine Kd.C_drewN ?_ _) | (with_reducible refine Kd.C_drew ?_)))
    (case side2 => exact HC0_5.out)
    rintro e w16 ⟨rfl, hb⟩
    refine ⟨_, rfl, ?_⟩
    have n0_ := Aside0.mk (blk_below (g := gb318) (o := .cells #[.int .i64 a0_0, .int .i64 a0_1, .string a0_2, .int .i64 a0_3, .int .i64 a0_4, .slice A0_5 l0_5.length c0_5] 24 (0, 0)) (by (with_reducible repeat (first | refine blk_drewN ?_ _ | refine blk_drew ?_ | refine blk_alloc ?_ _)); exact BK318.out) hb)
    have n1_ := Aside0.mk (below_step (by repeat (first | (with_reducible first | exact HB.out | apply below_alloc | apply pw_below_drewN | apply below_drew1 | refine below_set ?_ GE318.out) | exact HB.out)) hb)
    clear BK318
    clear HB
    have BK318 := n0_
    have HB := n1_
    clear n0_ n1_
    (try clear hb)
    (try clear hb2)
    (try clear hk)
    (try clear hi)
    refine hK.out _ _ ⟨(blk_cell BK318.out 0).trans rfl, (blk_cell BK318.out 1).trans rfl, (blk_cell BK318.out 2).trans rfl, (blk_cell BK318.out 3).trans rfl, (blk_cell BK318.out 4).trans rfl, (blk_cell BK318.out 5).trans rfl⟩ (fun hHeld => ?_)
    clear hK K
    refine norm_ (a' := ?_) ?_ ?_
    rotate_left
    ·show Act.put _ (some 6) _ = _
     simp only [Act.put, List.setIfInBounds_toArray, List.set_cons_zero, List.set_cons_succ, i64_w, i32_w]
     rfl
    refine pure_ (i := 2) (N := some 7) (v := ?_) (a' := ?_) #[true, true, true, false, false, false, false, false, false, false, false, false, false, false, false, false, false, false] rfl rfl (any_of HT_.out (by kernel_rfl)) (fun _ _ _ h => h) (Or.inl ⟨by rfl, ?_⟩) ?_ ?_
    rotate_left
    ·intro w'
     go_simp
     with_reducible rfl
    rotate_left
    ·simp only [Act.put, List.setIfInBounds_toArray, List.set_cons_zero, List.set_cons_succ, i64_w, i32_w]
     rfl
    refine pure_ (i := 3) (N := some 8) (v := ?_) (a' := ?_) #[true, true, true, true, false, false, false, false, false, false, false, false, false, false, false, false, false, false] rfl rfl (any_of HT_.out (by kernel_rfl)) (fun _ _ _ h => h) (Or.inl ⟨by rfl, ?_⟩) ?_ ?_
    rotate_left
    ·intro w'
     go_simp
     with_reducible rfl
    rotate_left
    ·simp only [Act.put, List.setIfInBounds_toArray, List.set_cons_zero, List.set_cons_succ, i64_w, i32_w]
     rfl
    refine take_ (i := 4) (N := some 9) (v := ?_) (a' := ?_) #[true, true, true, true, true, false, false, false, false, false, false, false, false, false, false, false, false, false] rfl rfl (take_ofW HT_.out HW_.out (by kernel_rfl)) (fun _ _ _ h => h) (Or.inl ⟨by rfl, ?_⟩) hHeld ?_ ?_
    rotate_left
    ·rintro w' ⟨s0, s1, s2, s3, s4, s5⟩
     go_simp
     with_reducible rfl
    rotate_left
    ·simp only [Act.put, List.setIfInBounds_toArray, List.set_cons_zero, List.set_cons_succ, i64_w, i32_w]
     rfl
    refine take_ (i := 6) (N := some 11) (v := ?_) (a' := ?_) #[true, true, true, true, true, false, true, false, false, false, false, false, false, false, false, false, false, false] rfl rfl (take_ofW HT_.out HW_.out (by kernel_rfl)) (fun _ _ _ h => h) (Or.inl ⟨by rfl, ?_⟩) hHeld ?_ ?_
    rotate_left
    ·rintro w' ⟨s0, s1, s2, s3, s4, s5⟩
     go_simp
     with_reducible rfl
    rotate_left
    ·simp only [Act.put, List.setIfInBounds_toArray, List.set_cons_zero, List.set_cons_succ, i64_w, i32_w]
     rfl
    refine one_ (i := 5) (N := some 10) #[true, true, true, true, true, true, true, false, false, false, false, false, false, false, false, false, false, false] rfl rfl (one_of HT_.out (by kernel_rfl)) (by decide) (fun K hK => ?_)
    refine goes_ Tryd.func15 (by kernel_rfl) rfl #[.agg #[.int .i64 a0_0, .int .i64 a0_1, .string a0_2, .int .i64 a0_3, .int .i64 a0_4, .slice A0_5 l0_5.length c0_5]] (by rfl) rfl rfl (by (try simp only [List.map_toArray, List.map_cons, List.map_nil]); first | done | rfl | (simp only [List.length_drop, List.length_take]; rfl)) ?_
    with_reducible refine (rules_Atoms.calls a0_0 a0_1 a0_2 a0_3 a0_4 _ _ l0_5 t321 _ ?side1 ?side2 A6.out).mono ?_
    (case side1 => repeat (first | exact (Kd.C_below HR0_5.out HB.out) | (with_reducible refine Kd.C_alloc ?_ _) | (with_reducible refine Kd.C_drewN ?_ _) | (with_reducible refine Kd.C_drew ?_)))
    (case side2 => exact HC0_5.out)
    rintro e w17 ⟨v322, rfl, ho0, hb⟩
    refine ⟨_, rfl, ?_⟩
    have n0_ := Aside0.mk (Kd.R_lower (Kd.R_newB ho0 (g := gb318) (o := .cells #[.int .i64 a0_0, .int .i64 a0_1, .string a0_2, .int .i64 a0_3, .int .i64 a0_4, .slice A0_5 l0_5.length c0_5] 24 (0, 0)) (by (with_reducible repeat (first | refine blk_drewN ?_ _ | refine blk_drew ?_ | refine blk_alloc ?_ _)); exact BK318.out)) (below_size (by repeat (first | (with_reducible first | exact HB.out | apply below_alloc | apply pw_below_drewN | apply below_drew1 | refine below_set ?_ GE318.out) | exact HB.out))))
    have n1_ := Aside0.mk (blk_below (g := gb318) (o := .cells #[.int .i64 a0_0, .int .i64 a0_1, .string a0_2, .int .i64 a0_3, .int .i64 a0_4, .slice A0_5 l0_5.length c0_5] 24 (0, 0)) (by (with_reducible repeat (first | refine blk_drewN ?_ _ | refine blk_drew ?_ | refine blk_alloc ?_ _)); exact BK318.out) hb)
    have n2_ := Aside0.mk (below_step (by repeat (first | (with_reducible first | exact HB.out | apply below_alloc | apply pw_below_drewN | apply below_drew1 | refine below_set ?_ GE318.out) | exact HB.out)) hb)
    clear BK318
    clear HB
    have HO323 := n0_
    have BK318 := n1_
    have HB := n2_
    clear n0_ n1_ n2_
    (try clear hb)
    (try clear hb2)
    (try clear hk)
    (try clear hi)
    (try clear ho0)
    refine hK.out _ _ ⟨(blk_cell BK318.out 0).trans rfl, (blk_cell BK318.out 1).trans rfl, (blk_cell BK318.out 2).trans rfl, (blk_cell BK318.out 3).trans rfl, (blk_cell BK318.out 4).trans rfl, (blk_cell BK318.out 5).trans rfl⟩ (fun hHeld => ?_)
    clear hK K
    refine norm_ (a' := ?_) ?_ ?_
    rotate_left
    ·show Act.put _ (some 10) _ = _
     simp only [Act.put, List.setIfInBounds_toArray, List.set_cons_zero, List.set_cons_succ, i64_w, i32_w]
     rfl
    refine one_ (i := 7) (N := some 12) #[true, true, true, true, true, true, true, true, false, false, false, false, false, false, false, false, false, false] rfl rfl (one_of HT_.out (by kernel_rfl)) (by decide) (fun K hK => ?_)
    refine goes_ Tryd.func16 (by kernel_rfl) rfl #[.agg #[.int .i64 a0_0, .int .i64 a0_1, .string a0_2, .int .i64 a0_3, .int .i64 a0_4, .slice A0_5 l0_5.length c0_5]] (by rfl) rfl rfl (by (try simp only [List.map_toArray, List.map_cons, List.map_nil]); first | done | rfl | (simp only [List.length_drop, List.length_take]; rfl)) ?_
    with_reducible refine (sizarref12_Atoms.calls k a0_0 a0_1 a0_2 a0_3 a0_4 _ _ l0_5 t324 _ ?side1 ?side2 A7.out).mono ?_
    (case side1 => repeat (first | exact (Kd.C_below HR0_5.out HB.out) | (with_reducible refine Kd.C_alloc ?_ _) | (with_reducible refine Kd.C_drewN ?_ _) | (with_reducible refine Kd.C_drew ?_)))
    (case side2 => exact HC0_5.out)
    rintro e w18 ⟨v325, rfl, ho0, hb⟩
    refine ⟨_, rfl, ?_⟩
    have n0_ := Aside0.mk (Kd.R_below (by (with_reducible repeat (first | apply Kd.R_alloc | apply Kd.R_drewN | apply Kd.R_drew)); exact HO323.out) hb)
    have n1_ := Aside0.mk ho0
    have n2_ := Aside0.mk (blk_below (g := gb318) (o := .cells #[.int .i64 a0_0, .int .i64 a0_1, .string a0_2, .int .i64 a0_3, .int .i64 a0_4, .slice A0_5 l0_5.length c0_5] 24 (0, 0)) (by (with_reducible repeat (first | refine blk_drewN ?_ _ | refine blk_drew ?_ | refine blk_alloc ?_ _)); exact BK318.out) hb)
    have n3_ := Aside0.mk (below_step (by repeat (first | (with_reducible first | exact HB.out | apply below_alloc | apply pw_below_drewN | apply below_drew1 | refine below_set ?_ GE318.out) | exact HB.out)) hb)
    clear HO323
    clear BK318
    clear HB
    have HO323 := n0_
    have HO326 := n1_
    have BK318 := n2_
    have HB := n3_
    clear n0_ n1_ n2_ n3_
    (try clear hb)
    (try clear hb2)
    (try clear hk)
    (try clear hi)
    (try clear ho0)
    obtain ⟨Ao19, co19, eo19⟩ := Kd.R_slice HO323.out
    (first | subst eo19 | (injection eo19 with f1_ f2_ f3_; have f4_ := f1_.symm; have f5_ := f3_.symm; clear f1_ f2_ f3_; subst f4_; subst f5_))
    obtain ⟨Ao20, co20, eo20⟩ := Kd.V_slice HO326.out
    (first | subst eo20 | (injection eo20 with f1_ f2_ f3_; have f4_ := f1_.symm; have f5_ := f3_.symm; clear f1_ f2_ f3_; subst f4_; subst f5_))
    refine hK.out _ _ ⟨(blk_cell BK318.out 0).trans rfl, (blk_cell BK318.out 1).trans rfl, (blk_cell BK318.out 2).trans rfl, (blk_cell BK318.out 3).trans rfl, (blk_cell BK318.out 4).trans rfl, (blk_cell BK318.out 5).trans rfl⟩ (fun hHeld => ?_)
    clear hK K
    refine norm_ (a' := ?_) ?_ ?_
    rotate_left
    ·show Act.put _ (some 12) _ = _
     simp only [Act.put, List.setIfInBounds_toArray, List.set_cons_zero, List.set_cons_succ, i64_w, i32_w]
     rfl
    refine one_ (i := 8) (N := some 13) #[true, true, true, true, true, true, true, true, true, false, false, false, false, false, false, false, false, false] rfl rfl (one_of HT_.out (by kernel_rfl)) (by decide) (fun K hK => ?_)
    refine goes_ Tryd.func14 (by kernel_rfl) rfl #[.slice Ao19 t321.length co19, .slice Ao20 t324.length co20] (by rfl) rfl rfl (by (try simp only [List.map_toArray, List.map_cons, List.map_nil]); first | done | rfl | (simp only [List.length_drop, List.length_take]; rfl)) ?_
    with_reducible refine (sizarref12_SameAtoms.calls k _ _ t321 _ _ t324 true _ ?side1 ?side2 ?side3 ?side4 A8.out).mono ?_
    (case side1 => repeat (first | exact (Kd.R_reads' HO323.out).2.2 | (with_reducible refine Kd.C_alloc ?_ _) | (with_reducible refine Kd.C_drewN ?_ _) | (with_reducible refine Kd.C_drew ?_)))
    (case side2 => exact (Kd.R_reads' HO323.out).2.1)
    (case side3 => repeat (first | exact (Kd.V_reads' HO326.out).2.2 | (with_reducible refine Kd.C_alloc ?_ _) | (with_reducible refine Kd.C_drewN ?_ _) | (with_reducible refine Kd.C_drew ?_)))
    (case side4 => exact (Kd.V_reads' HO326.out).2.1)
    rintro e w21 ⟨rfl, hb⟩
    refine ⟨_, rfl, ?_⟩
    have n0_ := Aside0.mk (Kd.R_below (by (with_reducible repeat (first | apply Kd.R_alloc | apply Kd.R_drewN | apply Kd.R_drew)); exact HO323.out) hb)
    have n1_ := Aside0.mk (Kd.V_below (by (with_reducible repeat (first | apply Kd.V_alloc | apply Kd.V_drewN | apply Kd.V_drew)); exact HO326.out) hb)
    have n2_ := Aside0.mk (blk_below (g := gb318) (o := .cells #[.int .i64 a0_0, .int .i64 a0_1, .string a0_2, .int .i64 a0_3, .int .i64 a0_4, .slice A0_5 l0_5.length c0_5] 24 (0, 0)) (by (with_reducible repeat (first | refine blk_drewN ?_ _ | refine blk_drew ?_ | refine blk_alloc ?_ _)); exact BK318.out) hb)
    have n3_ := Aside0.mk (below_step (by repeat (first | (with_reducible first | exact HB.out | apply below_alloc | apply pw_below_drewN | apply below_drew1 | refine below_set ?_ GE318.out) | exact HB.out)) hb)
    clear HO323
    clear HO326
    clear BK318
    clear HB
    have HO323 := n0_
    have HO326 := n1_
    have BK318 := n2_
    have HB := n3_
    clear n0_ n1_ n2_ n3_
    (try clear hb)
    (try clear hb2)
    (try clear hk)
    (try clear hi)
    refine hK.out _ _ ⟨(blk_cell BK318.out 0).trans rfl, (blk_cell BK318.out 1).trans rfl, (blk_cell BK318.out 2).trans rfl, (blk_cell BK318.out 3).trans rfl, (blk_cell BK318.out 4).trans rfl, (blk_cell BK318.out 5).trans rfl⟩ (fun hHeld => ?_)
    clear hK K
    refine norm_ (a' := ?_) ?_ ?_
    rotate_left
    ·show Act.put _ (some 13) _ = _
     simp only [Act.put, List.setIfInBounds_toArray, List.set_cons_zero, List.set_cons_succ, i64_w, i32_w]
     rfl
    refine pure_ (i := 9) (N := some 14) (v := ?_) (a' := ?_) #[true, true, true, true, true, true, true, true, true, true, false, false, false, false, false, false, false, false] rfl rfl (any_of HT_.out (by kernel_rfl)) (fun _ _ _ h => h) (Or.inl ⟨by rfl, ?_⟩) ?_ ?_
    rotate_left
    ·intro w'
     go_simp
     with_reducible rfl
    rotate_left
    ·simp only [Act.put, List.setIfInBounds_toArray, List.set_cons_zero, List.set_cons_succ, i64_w, i32_w]
     rfl
    refine take_ (i := 10) (N := some 15) (v := ?_) (a' := ?_) #[true, true, true, true, true, true, true, true, true, true, true, false, false, false, false, false, false, false] rfl rfl (take_ofW HT_.out HW_.out (by kernel_rfl)) (fun _ _ _ h => h) (Or.inl ⟨by rfl, ?_⟩) hHeld ?_ ?_
    rotate_left
    ·rintro w' ⟨s0, s1, s2, s3, s4, s5⟩
     go_simp
     with_reducible rfl
    rotate_left
    ·simp only [Act.put, List.setIfInBounds_toArray, List.set_cons_zero, List.set_cons_succ, i64_w, i32_w]
     rfl
    refine take_ (i := 12) (N := some 17) (v := ?_) (a' := ?_) #[true, true, true, true, true, true, true, true, true, true, true, false, true, false, false, false, false, false] rfl rfl (take_ofW HT_.out HW_.out (by kernel_rfl)) (fun _ _ _ h => h) (Or.inl ⟨by rfl, ?_⟩) hHeld ?_ ?_
    rotate_left
    ·rintro w' ⟨s0, s1, s2, s3, s4, s5⟩
     go_simp
     with_reducible rfl
    rotate_left
    ·simp only [Act.put, List.setIfInBounds_toArray, List.set_cons_zero, List.set_cons_succ, i64_w, i32_w]
     rfl
    refine one_ (i := 11) (N := some 16) #[true, true, true, true, true, true, true, true, true, true, true, true, true, false, false, false, false, false] rfl rfl (one_of HT_.out (by kernel_rfl)) (by decide) (fun K hK => ?_)
    refine goes_ Tryd.func18 (by kernel_rfl) rfl #[.agg #[.int .i64 a0_0, .int .i64 a0_1, .string a0_2, .int .i64 a0_3, .int .i64 a0_4, .slice A0_5 l0_5.length c0_5]] (by rfl) rfl rfl (by (try simp only [List.map_toArray, List.map_cons, List.map_nil]); first | done | rfl | (simp only [List.length_drop, List.length_take]; rfl)) ?_
    with_reducible refine (rules_Courses.calls a0_0 a0_1 a0_2 a0_3 a0_4 _ _ l0_5 t328 _ ?side1 ?side2 A10.out).mono ?_
    (case side1 => repeat (first | exact (Kd.C_below HR0_5.out HB.out) | (with_reducible refine Kd.C_alloc ?_ _) | (with_reducible refine Kd.C_drewN ?_ _) | (with_reducible refine Kd.C_drew ?_)))
    (case side2 => exact HC0_5.out)
    rintro e w22 ⟨v329, rfl, ho0, hb⟩
    refine ⟨_, rfl, ?_⟩
    have n0_ := Aside0.mk (Kd.R_below (by (with_reducible repeat (first | apply Kd.R_alloc | apply Kd.R_drewN | apply Kd.R_drew)); exact HO323.out) hb)
    have n1_ := Aside0.mk (Kd.V_below (by (with_reducible repeat (first | apply Kd.V_alloc | apply Kd.V_drewN | apply Kd.V_drew)); exact HO326.out) hb)
    have n2_ := Aside0.mk (Kd.R_lower ho0 (below_size (by repeat (first | (with_reducible first | exact HB.out | apply below_alloc | apply pw_below_drewN | apply below_drew1 | refine below_set ?_ GE318.out) | exact HB.out))))
    have n3_ := Aside0.mk (blk_below (g := gb318) (o := .cells #[.int .i64 a0_0, .int .i64 a0_1, .string a0_2, .int .i64 a0_3, .int .i64 a0_4, .slice A0_5 l0_5.length c0_5] 24 (0, 0)) (by (with_reducible repeat (first | refine blk_drewN ?_ _ | refine blk_drew ?_ | refine blk_alloc ?_ _)); exact BK318.out) hb)
    have n4_ := Aside0.mk (below_step (by repeat (first | (with_reducible first | exact HB.out | apply below_alloc | apply pw_below_drewN | apply below_drew1 | refine below_set ?_ GE318.out) | exact HB.out)) hb)
    clear HO323
    clear HO326
    clear BK318
    clear HB
    have HO323 := n0_
    have HO326 := n1_
    have HO330 := n2_
    have BK318 := n3_
    have HB := n4_
    clear n0_ n1_ n2_ n3_ n4_
    (try clear hb)
    (try clear hb2)
    (try clear hk)
    (try clear hi)
    (try clear ho0)
    refine hK.out _ _ ⟨(blk_cell BK318.out 0).trans rfl, (blk_cell BK318.out 1).trans rfl, (blk_cell BK318.out 2).trans rfl, (blk_cell BK318.out 3).trans rfl, (blk_cell BK318.out 4).trans rfl, (blk_cell BK318.out 5).trans rfl⟩ (fun hHeld => ?_)
    clear hK K
    refine norm_ (a' := ?_) ?_ ?_
    rotate_left
    ·show Act.put _ (some 16) _ = _
     simp only [Act.put, List.setIfInBounds_toArray, List.set_cons_zero, List.set_cons_succ, i64_w, i32_w]
     rfl
    refine one_ (i := 13) (N := some 18) #[true, true, true, true, true, true, true, true, true, true, true, true, true, true, false, false, false, false] rfl rfl (one_of HT_.out (by kernel_rfl)) (by decide) (fun K hK => ?_)
    refine goes_ Tryd.func19 (by kernel_rfl) rfl #[.agg #[.int .i64 a0_0, .int .i64 a0_1, .string a0_2, .int .i64 a0_3, .int .i64 a0_4, .slice A0_5 l0_5.length c0_5]] (by rfl) rfl rfl (by (try simp only [List.map_toArray, List.map_cons, List.map_nil]); first | done | rfl | (simp only [List.length_drop, List.length_take]; rfl)) ?_
    with_reducible refine (sizarref12_Courses.calls k a0_0 a0_1 a0_2 a0_3 a0_4 _ _ l0_5 t331 _ ?side1 ?side2 A11.out).mono ?_
    (case side1 => repeat (first | exact (Kd.C_below HR0_5.out HB.out) | (with_reducible refine Kd.C_alloc ?_ _) | (with_reducible refine Kd.C_drewN ?_ _) | (with_reducible refine Kd.C_drew ?_)))
    (case side2 => exact HC0_5.out)
    rintro e w23 ⟨v332, rfl, ho0, hb⟩
    refine ⟨_, rfl, ?_⟩
    have n0_ := Aside0.mk (Kd.R_below (by (with_reducible repeat (first | apply Kd.R_alloc | apply Kd.R_drewN | apply Kd.R_drew)); exact HO323.out) hb)
    have n1_ := Aside0.mk (Kd.V_below (by (with_reducible repeat (first | apply Kd.V_alloc | apply Kd.V_drewN | apply Kd.V_drew)); exact HO326.out) hb)
    have n2_ := Aside0.mk (Kd.R_elder' (by (with_reducible repeat (first | apply Kd.R_alloc | apply Kd.R_drewN | apply Kd.R_drew)); exact HO330.out) (Kd.R_base ho0) hb)
    have n3_ := Aside0.mk (Kd.R_lower (Kd.R_new' ho0 (Kd.R_lt (by (with_reducible repeat (first | apply Kd.R_alloc | apply Kd.R_drewN | apply Kd.R_drew)); exact HO330.out))) (below_size (by repeat (first | (with_reducible first | exact HB.out | apply below_alloc | apply pw_below_drewN | apply below_drew1 | refine below_set ?_ GE318.out) | exact HB.out))))
    have n4_ := Aside0.mk (blk_below (g := gb318) (o := .cells #[.int .i64 a0_0, .int .i64 a0_1, .string a0_2, .int .i64 a0_3, .int .i64 a0_4, .slice A0_5 l0_5.length c0_5] 24 (0, 0)) (by (with_reducible repeat (first | refine blk_drewN ?_ _ | refine blk_drew ?_ | refine blk_alloc ?_ _)); exact BK318.out) hb)
    have n5_ := Aside0.mk (below_step (by repeat (first | (with_reducible first | exact HB.out | apply below_alloc | apply pw_below_drewN | apply below_drew1 | refine below_set ?_ GE318.out) | exact HB.out)) hb)
    clear HO323
    clear HO326
    clear HO330
    clear BK318
    clear HB
    have HO323 := n0_
    have HO326 := n1_
    have HO330 := n2_
    have HO333 := n3_
    have BK318 := n4_
    have HB := n5_
    clear n0_ n1_ n2_ n3_ n4_ n5_
    (try clear hb)
    (try clear hb2)
    (try clear hk)
    (try clear hi)
    (try clear ho0)
    obtain ⟨Ao24, co24, eo24⟩ := Kd.R_slice HO330.out
    (first | subst eo24 | (injection eo24 with f1_ f2_ f3_; have f4_ := f1_.symm; have f5_ := f3_.symm; clear f1_ f2_ f3_; subst f4_; subst f5_))
    obtain ⟨Ao25, co25, eo25⟩ := Kd.R_slice HO333.out
    (first | subst eo25 | (injection eo25 with f1_ f2_ f3_; have f4_ := f1_.symm; have f5_ := f3_.symm; clear f1_ f2_ f3_; subst f4_; subst f5_))
    refine hK.out _ _ ⟨(blk_cell BK318.out 0).trans rfl, (blk_cell BK318.out 1).trans rfl, (blk_cell BK318.out 2).trans rfl, (blk_cell BK318.out 3).trans rfl, (blk_cell BK318.out 4).trans rfl, (blk_cell BK318.out 5).trans rfl⟩ (fun hHeld => ?_)
    clear hK K
    refine norm_ (a' := ?_) ?_ ?_
    rotate_left
    ·show Act.put _ (some 18) _ = _
     simp only [Act.put, List.setIfInBounds_toArray, List.set_cons_zero, List.set_cons_succ, i64_w, i32_w]
     rfl
    refine one_ (i := 14) (N := some 19) #[true, true, true, true, true, true, true, true, true, true, true, true, true, true, true, false, false, false] rfl rfl (one_of HT_.out (by kernel_rfl)) (by decide) (fun K hK => ?_)
    refine goes_ Tryd.func17 (by kernel_rfl) rfl #[.slice Ao24 t328.length co24, .slice Ao25 t331.length co25] (by rfl) rfl rfl (by (try simp only [List.map_toArray, List.map_cons, List.map_nil]); first | done | rfl | (simp only [List.length_drop, List.length_take]; rfl)) ?_
    with_reducible refine (sizarref12_SameInts.calls k _ _ t328 _ _ t331 t334 _ ?side1 ?side2 ?side3 ?side4 A12.out).mono ?_
    (case side1 => repeat (first | exact (Kd.R_reads' HO330.out).2.2 | (with_reducible refine Kd.C_alloc ?_ _) | (with_reducible refine Kd.C_drewN ?_ _) | (with_reducible refine Kd.C_drew ?_)))
    (case side2 => exact (Kd.R_reads' HO330.out).2.1)
    (case side3 => repeat (first | exact (Kd.R_reads' HO333.out).2.2 | (with_reducible refine Kd.C_alloc ?_ _) | (with_reducible refine Kd.C_drewN ?_ _) | (with_reducible refine Kd.C_drew ?_)))
    (case side4 => exact (Kd.R_reads' HO333.out).2.1)
    rintro e w' ⟨rfl, ⟨nd, rfl⟩⟩
    refine ⟨_, rfl, ?_⟩
    refine hK.out _ _ ⟨(blk_cell BK318.out 0).trans rfl, (blk_cell BK318.out 1).trans rfl, (blk_cell BK318.out 2).trans rfl, (blk_cell BK318.out 3).trans rfl, (blk_cell BK318.out 4).trans rfl, (blk_cell BK318.out 5).trans rfl⟩ (fun hHeld => ?_)
    clear hK K
    refine norm_ (a' := ?_) ?_ ?_
    rotate_left
    ·show Act.put _ (some 19) _ = _
     simp only [Act.put, List.setIfInBounds_toArray, List.set_cons_zero, List.set_cons_succ, i64_w, i32_w]
     rfl
    refine pure_ (i := 15) (N := some 20) (v := ?_) (a' := ?_) #[true, true, true, true, true, true, true, true, true, true, true, true, true, true, true, true, false, false] rfl rfl (any_of HT_.out (by kernel_rfl)) (fun _ _ _ h => h) (Or.inl ⟨by rfl, ?_⟩) ?_ ?_
    rotate_left
    ·intro w'
     go_simp
     with_reducible rfl
    rotate_left
    ·simp only [Act.put, List.setIfInBounds_toArray, List.set_cons_zero, List.set_cons_succ, i64_w, i32_w]
     rfl
    refine pure_ (i := 16) (N := some 21) (v := ?_) (a' := ?_) #[true, true, true, true, true, true, true, true, true, true, true, true, true, true, true, true, true, false] rfl rfl (any_of HT_.out (by kernel_rfl)) (fun _ _ _ h => h) (Or.inl ⟨by rfl, ?_⟩) ?_ ?_
    rotate_left
    ·intro w'
     go_simp
     with_reducible rfl
    rotate_left
    ·simp only [Act.put, List.setIfInBounds_toArray, List.set_cons_zero, List.set_cons_succ, i64_w, i32_w]
     rfl
    refine pure_ (i := 17) (N := some 2) (v := ?_) (a' := ?_) #[true, true, true, true, true, true, true, true, true, true, true, true, true, true, true, true, true, true] rfl rfl (any_of HT_.out (by kernel_rfl)) (fun _ _ _ h => h) (Or.inl ⟨by rfl, ?_⟩) ?_ ?_
    rotate_left
    ·intro w'
     go_simp
     with_reducible rfl
    rotate_left
    ·simp only [Act.put, List.setIfInBounds_toArray, List.set_cons_zero, List.set_cons_succ, i64_w, i32_w]
     rfl
    refine done_ (done_of HT_.out (by kernel_rfl)) ?_
    try go_wp2
    go_ret
    exact ⟨by first | rfl | (simp [errW_none, errW_some] <;> rfl) | (simp [*, errW_none, errW_some] <;> rfl), by repeat (first | (with_reducible first | exact HB.out | apply below_alloc | apply pw_below_drewN | apply below_drew1 | refine below_set ?_ GE318.out) | exact HB.out)⟩
   ·replace c9 := Bool.eq_false_iff.mpr c9
    subst c9
    have H1 : (some false) = some r := by rw [if_neg (show ¬ (false = true) by decide)] at H; exact H
    clear H
    have H := H1
    clear H1
    obtain rfl := Option.some.inj H
    go_enter Tryd.func4, Tryd.ntmps4
    try go_wp2_with (first | ((with_reducible refine gate_dst (N := 1) rfl ?_); refine box_event ?hg (N := 1) ?hd (cs := #[.int .i64 a0_0, .int .i64 a0_1, .string a0_2, .int .i64 a0_3, .int .i64 a0_4, .slice A0_5 l0_5.length c0_5]) (t := 24) ?hr ?_; (case hd => rfl); (case hg => rfl); (case hr => first | (go_simp; done) | (go_simp; rfl)); intro gb318 hg w26 hbox hb; have n0_ := Aside0.mk (below_step (by repeat (first | (with_reducible first | exact HB.out | apply below_alloc | apply pw_below_drewN | apply below_drew1) | exact HB.out)) hb); have n1_ := Aside0.mk (hbox); have n2_ := Aside0.mk ((by rw [hg]; exact (below_size (by repeat (first | (with_reducible first | exact HB.out | apply below_alloc | apply pw_below_drewN | apply below_drew1) | exact HB.out))) : w.heap.size ≤ gb318)); have n3_ := Aside0.mk ((by rw [hg]; exact (below_size (by repeat (first | (with_reducible first | exact HB.out | apply below_alloc | apply pw_below_drewN | apply below_drew1) | exact HB.out))) : w.heap.size ≤ gb318)); clear HB; have HB := n0_; have BK318 := n1_; have GW318 := n2_; have GE318 := n3_; clear n0_ n1_ n2_ n3_; clear hb hbox hg) | ((with_reducible refine gate_callee (f := 10) rfl ?_); refine goesL_ (some 3) rfl rfl Tryd.func10 (by kernel_rfl) rfl #[] rfl (by (try simp only [List.map_toArray, List.map_cons, List.map_nil]); first | done | rfl | (simp only [List.length_drop, List.length_take]; rfl)) ?_; (with_reducible refine (sizarlaw12_sane.calls k  true _ A2.out ?sideK).mono ?_); (case sideK => exact HKT.out.below (by repeat (first | (with_reducible first | exact HB.out | apply below_alloc | apply pw_below_drewN | apply below_drew1 | refine below_set ?_ GE318.out) | exact HB.out))); rintro e w27 ⟨rfl, hb⟩; refine ⟨_, rfl, ?_⟩; have n0_ := Aside0.mk (blk_below (g := gb318) (o := .cells #[.int .i64 a0_0, .int .i64 a0_1, .string a0_2, .int .i64 a0_3, .int .i64 a0_4, .slice A0_5 l0_5.length c0_5] 24 (0, 0)) (by (with_reducible repeat (first | refine blk_drewN ?_ _ | refine blk_drew ?_ | refine blk_alloc ?_ _)); exact BK318.out) hb); have n1_ := Aside0.mk (below_step (by repeat (first | (with_reducible first | exact HB.out | apply below_alloc | apply pw_below_drewN | apply below_drew1 | refine below_set ?_ GE318.out) | exact HB.out)) hb); clear BK318; clear HB; have BK318 := n0_; have HB := n1_; clear n0_ n1_; (try clear hb); (try clear hb2); (try clear hk); (try clear hi)))
    have n0_ := Aside0.mk (blk_drew BK318.out)
    have n1_ := Aside0.mk (below_drew1 HB.out)
    clear BK318
    clear HB
    have BK318 := n0_
    have HB := n1_
    clear n0_ n1_
    refine start_ (n := 18) (S := fun w' => w'.cell? ⟨gb318, 0, none⟩ = some (.int .i64 a0_0) ∧ w'.cell? ⟨gb318, 1, none⟩ = some (.int .i64 a0_1) ∧ w'.cell? ⟨gb318, 2, none⟩ = some (.string a0_2) ∧ w'.cell? ⟨gb318, 3, none⟩ = some (.int .i64 a0_3) ∧ w'.cell? ⟨gb318, 4, none⟩ = some (.int .i64 a0_4) ∧ w'.cell? ⟨gb318, 5, none⟩ = some (.slice A0_5 l0_5.length c0_5)) (ds := []) #[false, false, false, false, false, false, false, false, false, false, false, false, false, false, false, false, false, false] (by kernel_rfl) rfl rfl ⟨(blk_cell BK318.out 0).trans rfl, (blk_cell BK318.out 1).trans rfl, (blk_cell BK318.out 2).trans rfl, (blk_cell BK318.out 3).trans rfl, (blk_cell BK318.out 4).trans rfl, (blk_cell BK318.out 5).trans rfl⟩ (fun hHeld => ?_); refine with_tabW sizarlaw12_RulesListsSpec.tab3 sizarlaw12_RulesListsSpec.bits3 (fun HT_ HW_ => ?_)
    generalize w27.drew = w28 at BK318 HB hHeld ⊢
    refine take_ (i := 0) (N := some 5) (v := ?_) (a' := ?_) #[true, false, false, false, false, false, false, false, false, false, false, false, false, false, false, false, false, false] rfl rfl (take_ofW HT_.out HW_.out (by kernel_rfl)) (fun _ _ _ h => h) (Or.inl ⟨by rfl, ?_⟩) hHeld ?_ ?_
    rotate_left
    ·rintro w' ⟨s0, s1, s2, s3, s4, s5⟩
     go_simp
     with_reducible rfl
    rotate_left
    ·simp only [Act.put, List.setIfInBounds_toArray, List.set_cons_zero, List.set_cons_succ, i64_w, i32_w]
     rfl
    refine one_ (i := 1) (N := some 6) #[true, true, false, false, false, false, false, false, false, false, false, false, false, false, false, false, false, false] rfl rfl (one_of HT_.out (by kernel_rfl)) (by decide) (fun K hK => ?_)
    refine goes_ Tryd.func11 (by kernel_rfl) rfl #[.agg #[.int .i64 a0_0, .int .i64 a0_1, .string a0_2, .int .i64 a0_3, .int .i64 a0_4, .slice A0_5 l0_5.length c0_5]] (by rfl) rfl rfl (by (try simp only [List.map_toArray, List.map_cons, List.map_nil]); first | done | rfl | (simp only [List.length_drop, List.length_take]; rfl)) ?_
    with_reducible refine (sizarref12_Few.calls k a0_0 a0_1 a0_2 a0_3 a0_4 _ _ l0_5 true _ ?side1 ?side2 A4.out).mono ?_
    (case side1 => repeat (first | exact (Kd.C_below HR0_5.out HB.out) | (with_reducible refine Kd.C_alloc ?_ _) | (with_reducible refine Kd.C_drewN ?_ _) | (with_reducible refine Kd.C_drew ?_)))
    (case side2 => exact HC0_5.out)
    rintro e w29 ⟨rfl, hb⟩
    refine ⟨_, rfl, ?_⟩
    have n0_ := Aside0.mk (blk_below (g := gb318) (o := .cells #[.int .i64 a0_0, .int .i64 a0_1, .string a0_2, .int .i64 a0_3, .int .i64 a0_4, .slice A0_5 l0_5.length c0_5] 24 (0, 0)) (by (with_reducible repeat (first | refine blk_drewN ?_ _ | refine blk_drew ?_ | refine blk_alloc ?_ _)); exact BK318.out) hb)
    have n1_ := Aside0.mk (below_step (by repeat (first | (with_reducible first | exact HB.out | apply below_alloc | apply pw_below_drewN | apply below_drew1 | refine below_set ?_ GE318.out) | exact HB.out)) hb)
    clear BK318
    clear HB
    have BK318 := n0_
    have HB := n1_
    clear n0_ n1_
    (try clear hb)
    (try clear hb2)
    (try clear hk)
    (try clear hi)
    refine hK.out _ _ ⟨(blk_cell BK318.out 0).trans rfl, (blk_cell BK318.out 1).trans rfl, (blk_cell BK318.out 2).trans rfl, (blk_cell BK318.out 3).trans rfl, (blk_cell BK318.out 4).trans rfl, (blk_cell BK318.out 5).trans rfl⟩ (fun hHeld => ?_)
    clear hK K
    refine norm_ (a' := ?_) ?_ ?_
    rotate_left
    ·show Act.put _ (some 6) _ = _
     simp only [Act.put, List.setIfInBounds_toArray, List.set_cons_zero, List.set_cons_succ, i64_w, i32_w]
     rfl
    refine pure_ (i := 2) (N := some 7) (v := ?_) (a' := ?_) #[true, true, true, false, false, false, false, false, false, false, false, false, false, false, false, false, false, false] rfl rfl (any_of HT_.out (by kernel_rfl)) (fun _ _ _ h => h) (Or.inl ⟨by rfl, ?_⟩) ?_ ?_
    rotate_left
    ·intro w'
     go_simp
     with_reducible rfl
    rotate_left
    ·simp only [Act.put, List.setIfInBounds_toArray, List.set_cons_zero, List.set_cons_succ, i64_w, i32_w]
     rfl
    refine pure_ (i := 3) (N := some 8) (v := ?_) (a' := ?_) #[true, true, true, true, false, false, false, false, false, false, false, false, false, false, false, false, false, false] rfl rfl (any_of HT_.out (by kernel_rfl)) (fun _ _ _ h => h) (Or.inl ⟨by rfl, ?_⟩) ?_ ?_
    rotate_left
    ·intro w'
     go_simp
     with_reducible rfl
    rotate_left
    ·simp only [Act.put, List.setIfInBounds_toArray, List.set_cons_zero, List.set_cons_succ, i64_w, i32_w]
     rfl
    refine take_ (i := 4) (N := some 9) (v := ?_) (a' := ?_) #[true, true, true, true, true, false, false, false, false, false, false, false, false, false, false, false, false, false] rfl rfl (take_ofW HT_.out HW_.out (by kernel_rfl)) (fun _ _ _ h => h) (Or.inl ⟨by rfl, ?_⟩) hHeld ?_ ?_
    rotate_left
    ·rintro w' ⟨s0, s1, s2, s3, s4, s5⟩
     go_simp
     with_reducible rfl
    rotate_left
    ·simp only [Act.put, List.setIfInBounds_toArray, List.set_cons_zero, List.set_cons_succ, i64_w, i32_w]
     rfl
    refine take_ (i := 6) (N := some 11) (v := ?_) (a' := ?_) #[true, true, true, true, true, false, true, false, false, false, false, false, false, false, false, false, false, false] rfl rfl (take_ofW HT_.out HW_.out (by kernel_rfl)) (fun _ _ _ h => h) (Or.inl ⟨by rfl, ?_⟩) hHeld ?_ ?_
    rotate_left
    ·rintro w' ⟨s0, s1, s2, s3, s4, s5⟩
     go_simp
     with_reducible rfl
    rotate_left
    ·simp only [Act.put, List.setIfInBounds_toArray, List.set_cons_zero, List.set_cons_succ, i64_w, i32_w]
     rfl
    refine one_ (i := 5) (N := some 10) #[true, true, true, true, true, true, true, false, false, false, false, false, false, false, false, false, false, false] rfl rfl (one_of HT_.out (by kernel_rfl)) (by decide) (fun K hK => ?_)
    refine goes_ Tryd.func15 (by kernel_rfl) rfl #[.agg #[.int .i64 a0_0, .int .i64 a0_1, .string a0_2, .int .i64 a0_3, .int .i64 a0_4, .slice A0_5 l0_5.length c0_5]] (by rfl) rfl rfl (by (try simp only [List.map_toArray, List.map_cons, List.map_nil]); first | done | rfl | (simp only [List.length_drop, List.length_take]; rfl)) ?_
    with_reducible refine (rules_Atoms.calls a0_0 a0_1 a0_2 a0_3 a0_4 _ _ l0_5 t321 _ ?side1 ?side2 A6.out).mono ?_
    (case side1 => repeat (first | exact (Kd.C_below HR0_5.out HB.out) | (with_reducible refine Kd.C_alloc ?_ _) | (with_reducible refine Kd.C_drewN ?_ _) | (with_reducible refine Kd.C_drew ?_)))
    (case side2 => exact HC0_5.out)
    rintro e w30 ⟨v322, rfl, ho0, hb⟩
    refine ⟨_, rfl, ?_⟩
    have n0_ := Aside0.mk (Kd.R_lower (Kd.R_newB ho0 (g := gb318) (o := .cells #[.int .i64 a0_0, .int .i64 a0_1, .string a0_2, .int .i64 a0_3, .int .i64 a0_4, .slice A0_5 l0_5.length c0_5] 24 (0, 0)) (by (with_reducible repeat (first | refine blk_drewN ?_ _ | refine blk_drew ?_ | refine blk_alloc ?_ _)); exact BK318.out)) (below_size (by repeat (first | (with_reducible first | exact HB.out | apply below_alloc | apply pw_below_drewN | apply below_drew1 | refine below_set ?_ GE318.out) | exact HB.out))))
    have n1_ := Aside0.mk (blk_below (g := gb318) (o := .cells #[.int .i64 a0_0, .int .i64 a0_1, .string a0_2, .int .i64 a0_3, .int .i64 a0_4, .slice A0_5 l0_5.length c0_5] 24 (0, 0)) (by (with_reducible repeat (first | refine blk_drewN ?_ _ | refine blk_drew ?_ | refine blk_alloc ?_ _)); exact BK318.out) hb)
    have n2_ := Aside0.mk (below_step (by repeat (first | (with_reducible first | exact HB.out | apply below_alloc | apply pw_below_drewN | apply below_drew1 | refine below_set ?_ GE318.out) | exact HB.out)) hb)
    clear BK318
    clear HB
    have HO323 := n0_
    have BK318 := n1_
    have HB := n2_
    clear n0_ n1_ n2_
    (try clear hb)
    (try clear hb2)
    (try clear hk)
    (try clear hi)
    (try clear ho0)
    refine hK.out _ _ ⟨(blk_cell BK318.out 0).trans rfl, (blk_cell BK318.out 1).trans rfl, (blk_cell BK318.out 2).trans rfl, (blk_cell BK318.out 3).trans rfl, (blk_cell BK318.out 4).trans rfl, (blk_cell BK318.out 5).trans rfl⟩ (fun hHeld => ?_)
    clear hK K
    refine norm_ (a' := ?_) ?_ ?_
    rotate_left
    ·show Act.put _ (some 10) _ = _
     simp only [Act.put, List.setIfInBounds_toArray, List.set_cons_zero, List.set_cons_succ, i64_w, i32_w]
     rfl
    refine one_ (i := 7) (N := some 12) #[true, true, true, true, true, true, true, true, false, false, false, false, false, false, false, false, false, false] rfl rfl (one_of HT_.out (by kernel_rfl)) (by decide) (fun K hK => ?_)
    refine goes_ Tryd.func16 (by kernel_rfl) rfl #[.agg #[.int .i64 a0_0, .int .i64 a0_1, .string a0_2, .int .i64 a0_3, .int .i64 a0_4, .slice A0_5 l0_5.length c0_5]] (by rfl) rfl rfl (by (try simp only [List.map_toArray, List.map_cons, List.map_nil]); first | done | rfl | (simp only [List.length_drop, List.length_take]; rfl)) ?_
    with_reducible refine (sizarref12_Atoms.calls k a0_0 a0_1 a0_2 a0_3 a0_4 _ _ l0_5 t324 _ ?side1 ?side2 A7.out).mono ?_
    (case side1 => repeat (first | exact (Kd.C_below HR0_5.out HB.out) | (with_reducible refine Kd.C_alloc ?_ _) | (with_reducible refine Kd.C_drewN ?_ _) | (with_reducible refine Kd.C_drew ?_)))
    (case side2 => exact HC0_5.out)
    rintro e w31 ⟨v325, rfl, ho0, hb⟩
    refine ⟨_, rfl, ?_⟩
    have n0_ := Aside0.mk (Kd.R_below (by (with_reducible repeat (first | apply Kd.R_alloc | apply Kd.R_drewN | apply Kd.R_drew)); exact HO323.out) hb)
    have n1_ := Aside0.mk ho0
    have n2_ := Aside0.mk (blk_below (g := gb318) (o := .cells #[.int .i64 a0_0, .int .i64 a0_1, .string a0_2, .int .i64 a0_3, .int .i64 a0_4, .slice A0_5 l0_5.length c0_5] 24 (0, 0)) (by (with_reducible repeat (first | refine blk_drewN ?_ _ | refine blk_drew ?_ | refine blk_alloc ?_ _)); exact BK318.out) hb)
    have n3_ := Aside0.mk (below_step (by repeat (first | (with_reducible first | exact HB.out | apply below_alloc | apply pw_below_drewN | apply below_drew1 | refine below_set ?_ GE318.out) | exact HB.out)) hb)
    clear HO323
    clear BK318
    clear HB
    have HO323 := n0_
    have HO326 := n1_
    have BK318 := n2_
    have HB := n3_
    clear n0_ n1_ n2_ n3_
    (try clear hb)
    (try clear hb2)
    (try clear hk)
    (try clear hi)
    (try clear ho0)
    obtain ⟨Ao32, co32, eo32⟩ := Kd.R_slice HO323.out
    (first | subst eo32 | (injection eo32 with f1_ f2_ f3_; have f4_ := f1_.symm; have f5_ := f3_.symm; clear f1_ f2_ f3_; subst f4_; subst f5_))
    obtain ⟨Ao33, co33, eo33⟩ := Kd.V_slice HO326.out
    (first | subst eo33 | (injection eo33 with f1_ f2_ f3_; have f4_ := f1_.symm; have f5_ := f3_.symm; clear f1_ f2_ f3_; subst f4_; subst f5_))
    refine hK.out _ _ ⟨(blk_cell BK318.out 0).trans rfl, (blk_cell BK318.out 1).trans rfl, (blk_cell BK318.out 2).trans rfl, (blk_cell BK318.out 3).trans rfl, (blk_cell BK318.out 4).trans rfl, (blk_cell BK318.out 5).trans rfl⟩ (fun hHeld => ?_)
    clear hK K
    refine norm_ (a' := ?_) ?_ ?_
    rotate_left
    ·show Act.put _ (some 12) _ = _
     simp only [Act.put, List.setIfInBounds_toArray, List.set_cons_zero, List.set_cons_succ, i64_w, i32_w]
     rfl
    refine one_ (i := 8) (N := some 13) #[true, true, true, true, true, true, true, true, true, false, false, false, false, false, false, false, false, false] rfl rfl (one_of HT_.out (by kernel_rfl)) (by decide) (fun K hK => ?_)
    refine goes_ Tryd.func14 (by kernel_rfl) rfl #[.slice Ao32 t321.length co32, .slice Ao33 t324.length co33] (by rfl) rfl rfl (by (try simp only [List.map_toArray, List.map_cons, List.map_nil]); first | done | rfl | (simp only [List.length_drop, List.length_take]; rfl)) ?_
    with_reducible refine (sizarref12_SameAtoms.calls k _ _ t321 _ _ t324 false _ ?side1 ?side2 ?side3 ?side4 A8.out).mono ?_
    (case side1 => repeat (first | exact (Kd.R_reads' HO323.out).2.2 | (with_reducible refine Kd.C_alloc ?_ _) | (with_reducible refine Kd.C_drewN ?_ _) | (with_reducible refine Kd.C_drew ?_)))
    (case side2 => exact (Kd.R_reads' HO323.out).2.1)
    (case side3 => repeat (first | exact (Kd.V_reads' HO326.out).2.2 | (with_reducible refine Kd.C_alloc ?_ _) | (with_reducible refine Kd.C_drewN ?_ _) | (with_reducible refine Kd.C_drew ?_)))
    (case side4 => exact (Kd.V_reads' HO326.out).2.1)
    rintro e w34 ⟨rfl, hb⟩
    refine ⟨_, rfl, ?_⟩
    have n0_ := Aside0.mk (Kd.R_below (by (with_reducible repeat (first | apply Kd.R_alloc | apply Kd.R_drewN | apply Kd.R_drew)); exact HO323.out) hb)
    have n1_ := Aside0.mk (Kd.V_below (by (with_reducible repeat (first | apply Kd.V_alloc | apply Kd.V_drewN | apply Kd.V_drew)); exact HO326.out) hb)
    have n2_ := Aside0.mk (blk_below (g := gb318) (o := .cells #[.int .i64 a0_0, .int .i64 a0_1, .string a0_2, .int .i64 a0_3, .int .i64 a0_4, .slice A0_5 l0_5.length c0_5] 24 (0, 0)) (by (with_reducible repeat (first | refine blk_drewN ?_ _ | refine blk_drew ?_ | refine blk_alloc ?_ _)); exact BK318.out) hb)
    have n3_ := Aside0.mk (below_step (by repeat (first | (with_reducible first | exact HB.out | apply below_alloc | apply pw_below_drewN | apply below_drew1 | refine below_set ?_ GE318.out) | exact HB.out)) hb)
    clear HO323
    clear HO326
    clear BK318
    clear HB
    have HO323 := n0_
    have HO326 := n1_
    have BK318 := n2_
    have HB := n3_
    clear n0_ n1_ n2_ n3_
    (try clear hb)
    (try clear hb2)
    (try clear hk)
    (try clear hi)
    refine hK.out _ _ ⟨(blk_cell BK318.out 0).trans rfl, (blk_cell BK318.out 1).trans rfl, (blk_cell BK318.out 2).trans rfl, (blk_cell BK318.out 3).trans rfl, (blk_cell BK318.out 4).trans rfl, (blk_cell BK318.out 5).trans rfl⟩ (fun hHeld => ?_)
    clear hK K
    refine norm_ (a' := ?_) ?_ ?_
    rotate_left
    ·show Act.put _ (some 13) _ = _
     simp only [Act.put, List.setIfInBounds_toArray, List.set_cons_zero, List.set_cons_succ, i64_w, i32_w]
     rfl
    refine pure_ (i := 9) (N := some 14) (v := ?_) (a' := ?_) #[true, true, true, true, true, true, true, true, true, true, false, false, false, false, false, false, false, false] rfl rfl (any_of HT_.out (by kernel_rfl)) (fun _ _ _ h => h) (Or.inl ⟨by rfl, ?_⟩) ?_ ?_
    rotate_left
    ·intro w'
     go_simp
     with_reducible rfl
    rotate_left
    ·simp only [Act.put, List.setIfInBounds_toArray, List.set_cons_zero, List.set_cons_succ, i64_w, i32_w]
     rfl
    refine pure_ (i := 10) (N := some 15) (v := undef) (a' := ?_) #[true, true, true, true, true, true, true, true, true, true, true, false, false, false, false, false, false, false] rfl rfl (any_of HT_.out (by kernel_rfl)) (fun _ _ _ h => h) (Or.inr ⟨by rfl, rfl⟩) ?_ ?_
    rotate_left
    ·simp only [Act.put, List.setIfInBounds_toArray, List.set_cons_zero, List.set_cons_succ, i64_w, i32_w]
     rfl
    refine pure_ (i := 11) (N := some 16) (v := undef) (a' := ?_) #[true, true, true, true, true, true, true, true, true, true, true, true, false, false, false, false, false, false] rfl rfl (any_of HT_.out (by kernel_rfl)) (fun _ _ _ h => h) (Or.inr ⟨by rfl, rfl⟩) ?_ ?_
    rotate_left
    ·simp only [Act.put, List.setIfInBounds_toArray, List.set_cons_zero, List.set_cons_succ, i64_w, i32_w]
     rfl
    refine pure_ (i := 12) (N := some 17) (v := undef) (a' := ?_) #[true, true, true, true, true, true, true, true, true, true, true, true, true, false, false, false, false, false] rfl rfl (any_of HT_.out (by kernel_rfl)) (fun _ _ _ h => h) (Or.inr ⟨by rfl, rfl⟩) ?_ ?_
    rotate_left
    ·simp only [Act.put, List.setIfInBounds_toArray, List.set_cons_zero, List.set_cons_succ, i64_w, i32_w]
     rfl
    refine pure_ (i := 13) (N := some 18) (v := undef) (a' := ?_) #[true, true, true, true, true, true, true, true, true, true, true, true, true, true, false, false, false, false] rfl rfl (any_of HT_.out (by kernel_rfl)) (fun _ _ _ h => h) (Or.inr ⟨by rfl, rfl⟩) ?_ ?_
    rotate_left
    ·simp only [Act.put, List.setIfInBounds_toArray, List.set_cons_zero, List.set_cons_succ, i64_w, i32_w]
     rfl
    refine pure_ (i := 14) (N := some 19) (v := undef) (a' := ?_) #[true, true, true, true, true, true, true, true, true, true, true, true, true, true, true, false, false, false] rfl rfl (any_of HT_.out (by kernel_rfl)) (fun _ _ _ h => h) (Or.inr ⟨by rfl, rfl⟩) ?_ ?_
    rotate_left
    ·simp only [Act.put, List.setIfInBounds_toArray, List.set_cons_zero, List.set_cons_succ, i64_w, i32_w]
     rfl
    refine pure_ (i := 15) (N := some 20) (v := ?_) (a' := ?_) #[true, true, true, true, true, true, true, true, true, true, true, true, true, true, true, true, false, false] rfl rfl (any_of HT_.out (by kernel_rfl)) (fun _ _ _ h => h) (Or.inl ⟨by rfl, ?_⟩) ?_ ?_
    rotate_left
    ·intro w'
     go_simp
     with_reducible rfl
    rotate_left
    ·simp only [Act.put, List.setIfInBounds_toArray, List.set_cons_zero, List.set_cons_succ, i64_w, i32_w]
     rfl
    refine pure_ (i := 16) (N := some 21) (v := ?_) (a' := ?_) #[true, true, true, true, true, true, true, true, true, true, true, true, true, true, true, true, true, false] rfl rfl (any_of HT_.out (by kernel_rfl)) (fun _ _ _ h => h) (Or.inl ⟨by rfl, ?_⟩) ?_ ?_
    rotate_left
    ·intro w'
     go_simp
     with_reducible rfl
    rotate_left
    ·simp only [Act.put, List.setIfInBounds_toArray, List.set_cons_zero, List.set_cons_succ, i64_w, i32_w]
     rfl
    refine pure_ (i := 17) (N := some 2) (v := ?_) (a' := ?_) #[true, true, true, true, true, true, true, true, true, true, true, true, true, true, true, true, true, true] rfl rfl (any_of HT_.out (by kernel_rfl)) (fun _ _ _ h => h) (Or.inl ⟨by rfl, ?_⟩) ?_ ?_
    rotate_left
    ·intro w'
     go_simp
     with_reducible rfl
    rotate_left
    ·simp only [Act.put, List.setIfInBounds_toArray, List.set_cons_zero, List.set_cons_succ, i64_w, i32_w]
     rfl
    refine done_ (done_of HT_.out (by kernel_rfl)) ?_
    try go_wp2
    go_ret
    exact ⟨by first | rfl | (simp [errW_none, errW_some] <;> rfl) | (simp [*, errW_none, errW_some] <;> rfl), by repeat (first | (with_reducible first | exact HB.out | apply below_alloc | apply pw_below_drewN | apply below_drew1 | refine below_set ?_ GE318.out) | exact HB.out)⟩
  ·replace c5 := Bool.eq_false_iff.mpr c5
   subst c5
   have H1 : (some true) = some r := by rw [if_neg (show ¬ (false = true) by decide)] at H; exact H
   clear H
   have H := H1
   clear H1
   obtain rfl := Option.some.inj H
   go_enter Tryd.func4, Tryd.ntmps4
   try go_wp2_with (first | ((with_reducible refine gate_dst (N := 1) rfl ?_); refine box_event ?hg (N := 1) ?hd (cs := #[.int .i64 a0_0, .int .i64 a0_1, .string a0_2, .int .i64 a0_3, .int .i64 a0_4, .slice A0_5 l0_5.length c0_5]) (t := 24) ?hr ?_; (case hd => rfl); (case hg => rfl); (case hr => first | (go_simp; done) | (go_simp; rfl)); intro gb318 hg w35 hbox hb; have n0_ := Aside0.mk (below_step (by repeat (first | (with_reducible first | exact HB.out | apply below_alloc | apply pw_below_drewN | apply below_drew1) | exact HB.out)) hb); have n1_ := Aside0.mk (hbox); have n2_ := Aside0.mk ((by rw [hg]; exact (below_size (by repeat (first | (with_reducible first | exact HB.out | apply below_alloc | apply pw_below_drewN | apply below_drew1) | exact HB.out))) : w.heap.size ≤ gb318)); have n3_ := Aside0.mk ((by rw [hg]; exact (below_size (by repeat (first | (with_reducible first | exact HB.out | apply below_alloc | apply pw_below_drewN | apply below_drew1) | exact HB.out))) : w.heap.size ≤ gb318)); clear HB; have HB := n0_; have BK318 := n1_; have GW318 := n2_; have GE318 := n3_; clear n0_ n1_ n2_ n3_; clear hb hbox hg) | ((with_reducible refine gate_callee (f := 10) rfl ?_); refine goesL_ (some 3) rfl rfl Tryd.func10 (by kernel_rfl) rfl #[] rfl (by (try simp only [List.map_toArray, List.map_cons, List.map_nil]); first | done | rfl | (simp only [List.length_drop, List.length_take]; rfl)) ?_; (with_reducible refine (sizarlaw12_sane.calls k  true _ A2.out ?sideK).mono ?_); (case sideK => exact HKT.out.below (by repeat (first | (with_reducible first | exact HB.out | apply below_alloc | apply pw_below_drewN | apply below_drew1 | refine below_set ?_ GE318.out) | exact HB.out))); rintro e w36 ⟨rfl, hb⟩; refine ⟨_, rfl, ?_⟩; have n0_ := Aside0.mk (blk_below (g := gb318) (o := .cells #[.int .i64 a0_0, .int .i64 a0_1, .string a0_2, .int .i64 a0_3, .int .i64 a0_4, .slice A0_5 l0_5.length c0_5] 24 (0, 0)) (by (with_reducible repeat (first | refine blk_drewN ?_ _ | refine blk_drew ?_ | refine blk_alloc ?_ _)); exact BK318.out) hb); have n1_ := Aside0.mk (below_step (by repeat (first | (with_reducible first | exact HB.out | apply below_alloc | apply pw_below_drewN | apply below_drew1 | refine below_set ?_ GE318.out) | exact HB.out)) hb); clear BK318; clear HB; have BK318 := n0_; have HB := n1_; clear n0_ n1_; (try clear hb); (try clear hb2); (try clear hk); (try clear hi)))
   have n0_ := Aside0.mk (blk_drew BK318.out)
   have n1_ := Aside0.mk (below_drew1 HB.out)
   clear BK318
   clear HB
   have BK318 := n0_
   have HB := n1_
   clear n0_ n1_
   refine start_ (n := 18) (S := fun w' => w'.cell? ⟨gb318, 0, none⟩ = some (.int .i64 a0_0) ∧ w'.cell? ⟨gb318, 1, none⟩ = some (.int .i64 a0_1) ∧ w'.cell? ⟨gb318, 2, none⟩ = some (.string a0_2) ∧ w'.cell? ⟨gb318, 3, none⟩ = some (.int .i64 a0_3) ∧ w'.cell? ⟨gb318, 4, none⟩ = some (.int .i64 a0_4) ∧ w'.cell? ⟨gb318, 5, none⟩ = some (.slice A0_5 l0_5.length c0_5)) (ds := []) #[false, false, false, false, false, false, false, false, false, false, false, false, false, false, false, false, false, false] (by kernel_rfl) rfl rfl ⟨(blk_cell BK318.out 0).trans rfl, (blk_cell BK318.out 1).trans rfl, (blk_cell BK318.out 2).trans rfl, (blk_cell BK318.out 3).trans rfl, (blk_cell BK318.out 4).trans rfl, (blk_cell BK318.out 5).trans rfl⟩ (fun hHeld => ?_); refine with_tabW sizarlaw12_RulesListsSpec.tab3 sizarlaw12_RulesListsSpec.bits3 (fun HT_ HW_ => ?_)
   generalize w36.drew = w37 at BK318 HB hHeld ⊢
   refine take_ (i := 0) (N := some 5) (v := ?_) (a' := ?_) #[true, false, false, false, false, false, false, false, false, false, false, false, false, false, false, false, false, false] rfl rfl (take_ofW HT_.out HW_.out (by kernel_rfl)) (fun _ _ _ h => h) (Or.inl ⟨by rfl, ?_⟩) hHeld ?_ ?_
   rotate_left
   ·rintro w' ⟨s0, s1, s2, s3, s4, s5⟩
    go_simp
    with_reducible rfl
   rotate_left
   ·simp only [Act.put, List.setIfInBounds_toArray, List.set_cons_zero, List.set_cons_succ, i64_w, i32_w]
    rfl
   refine one_ (i := 1) (N := some 6) #[true, true, false, false, false, false, false, false, false, false, false, false, false, false, false, false, false, false] rfl rfl (one_of HT_.out (by kernel_rfl)) (by decide) (fun K hK => ?_)
   refine goes_ Tryd.func11 (by kernel_rfl) rfl #[.agg #[.int .i64 a0_0, .int .i64 a0_1, .string a0_2, .int .i64 a0_3, .int .i64 a0_4, .slice A0_5 l0_5.length c0_5]] (by rfl) rfl rfl (by (try simp only [List.map_toArray, List.map_cons, List.map_nil]); first | done | rfl | (simp only [List.length_drop, List.length_take]; rfl)) ?_
   with_reducible refine (sizarref12_Few.calls k a0_0 a0_1 a0_2 a0_3 a0_4 _ _ l0_5 false _ ?side1 ?side2 A4.out).mono ?_
   (case side1 => repeat (first | exact (Kd.C_below HR0_5.out HB.out) | (with_reducible refine Kd.C_alloc ?_ _) | (with_reducible refine Kd.C_drewN ?_ _) | (with_reducible refine Kd.C_drew ?_)))
   (case side2 => exact HC0_5.out)
   rintro e w38 ⟨rfl, hb⟩
   refine ⟨_, rfl, ?_⟩
   have n0_ := Aside0.mk (blk_below (g := gb318) (o := .cells #[.int .i64 a0_0, .int .i64 a0_1, .string a0_2, .int .i64 a0_3, .int .i64 a0_4, .slice A0_5 l0_5.length c0_5] 24 (0, 0)) (by (with_reducible repeat (first | refine blk_drewN ?_ _ | refine blk_drew ?_ | refine blk_alloc ?_ _)); exact BK318.out) hb)
   have n1_ := Aside0.mk (below_step (by repeat (first | (with_reducible first | exact HB.out | apply below_alloc | apply pw_below_drewN | apply below_drew1 | refine below_set ?_ GE318.out) | exact HB.out)) hb)
   clear BK318
   clear HB
   have BK318 := n0_
   have HB := n1_
   clear n0_ n1_
   (try clear hb)
   (try clear hb2)
   (try clear hk)
   (try clear hi)
   refine hK.out _ _ ⟨(blk_cell BK318.out 0).trans rfl, (blk_cell BK318.out 1).trans rfl, (blk_cell BK318.out 2).trans rfl, (blk_cell BK318.out 3).trans rfl, (blk_cell BK318.out 4).trans rfl, (blk_cell BK318.out 5).trans rfl⟩ (fun hHeld => ?_)
   clear hK K
   refine norm_ (a' := ?_) ?_ ?_
   rotate_left
   ·show Act.put _ (some 6) _ = _
    simp only [Act.put, List.setIfInBounds_toArray, List.set_cons_zero, List.set_cons_succ, i64_w, i32_w]
    rfl
   refine pure_ (i := 2) (N := some 7) (v := ?_) (a' := ?_) #[true, true, true, false, false, false, false, false, false, false, false, false, false, false, false, false, false, false] rfl rfl (any_of HT_.out (by kernel_rfl)) (fun _ _ _ h => h) (Or.inl ⟨by rfl, ?_⟩) ?_ ?_
   rotate_left
   ·intro w'
    go_simp
    with_reducible rfl
   rotate_left
   ·simp only [Act.put, List.setIfInBounds_toArray, List.set_cons_zero, List.set_cons_succ, i64_w, i32_w]
    rfl
   refine pure_ (i := 3) (N := some 8) (v := ?_) (a' := ?_) #[true, true, true, true, false, false, false, false, false, false, false, false, false, false, false, false, false, false] rfl rfl (any_of HT_.out (by kernel_rfl)) (fun _ _ _ h => h) (Or.inl ⟨by rfl, ?_⟩) ?_ ?_
   rotate_left
   ·intro w'
    go_simp
    with_reducible rfl
   rotate_left
   ·simp only [Act.put, List.setIfInBounds_toArray, List.set_cons_zero, List.set_cons_succ, i64_w, i32_w]
    rfl
   refine pure_ (i := 4) (N := some 9) (v := undef) (a' := ?_) #[true, true, true, true, true, false, false, false, false, false, false, false, false, false, false, false, false, false] rfl rfl (any_of HT_.out (by kernel_rfl)) (fun _ _ _ h => h) (Or.inr ⟨by rfl, rfl⟩) ?_ ?_
   rotate_left
   ·simp only [Act.put, List.setIfInBounds_toArray, List.set_cons_zero, List.set_cons_succ, i64_w, i32_w]
    rfl
   refine pure_ (i := 5) (N := some 10) (v := undef) (a' := ?_) #[true, true, true, true, true, true, false, false, false, false, false, false, false, false, false, false, false, false] rfl rfl (any_of HT_.out (by kernel_rfl)) (fun _ _ _ h => h) (Or.inr ⟨by rfl, rfl⟩) ?_ ?_
   rotate_left
   ·simp only [Act.put, List.setIfInBounds_toArray, List.set_cons_zero, List.set_cons_succ, i64_w, i32_w]
    rfl
   refine pure_ (i := 6) (N := some 11) (v := undef) (a' := ?_) #[true, true, true, true, true, true, true, false, false, false, false, false, false, false, false, false, false, false] rfl rfl (any_of HT_.out (by kernel_rfl)) (fun _ _ _ h => h) (Or.inr ⟨by rfl, rfl⟩) ?_ ?_
   rotate_left
   ·simp only [Act.put, List.setIfInBounds_toArray, List.set_cons_zero, List.set_cons_succ, i64_w, i32_w]
    rfl
   refine pure_ (i := 7) (N := some 12) (v := undef) (a' := ?_) #[true, true, true, true, true, true, true, true, false, false, false, false, false, false, false, false, false, false] rfl rfl (any_of HT_.out (by kernel_rfl)) (fun _ _ _ h => h) (Or.inr ⟨by rfl, rfl⟩) ?_ ?_
   rotate_left
   ·simp only [Act.put, List.setIfInBounds_toArray, List.set_cons_zero, List.set_cons_succ, i64_w, i32_w]
    rfl
   refine pure_ (i := 8) (N := some 13) (v := undef) (a' := ?_) #[true, true, true, true, true, true, true, true, true, false, false, false, false, false, false, false, false, false] rfl rfl (any_of HT_.out (by kernel_rfl)) (fun _ _ _ h => h) (Or.inr ⟨by rfl, rfl⟩) ?_ ?_
   rotate_left
   ·simp only [Act.put, List.setIfInBounds_toArray, List.set_cons_zero, List.set_cons_succ, i64_w, i32_w]
    rfl
   refine pure_ (i := 9) (N := some 14) (v := undef) (a' := ?_) #[true, true, true, true, true, true, true, true, true, true, false, false, false, false, false, false, false, false] rfl rfl (any_of HT_.out (by kernel_rfl)) (fun _ _ _ h => h) (Or.inr ⟨by rfl, rfl⟩) ?_ ?_
   rotate_left
   ·simp only [Act.put, List.setIfInBounds_toArray, List.set_cons_zero, List.set_cons_succ, i64_w, i32_w]
    rfl
   refine pure_ (i := 10) (N := some 15) (v := undef) (a' := ?_) #[true, true, true, true, true, true, true, true, true, true, true, false, false, false, false, false, false, false] rfl rfl (any_of HT_.out (by kernel_rfl)) (fun _ _ _ h => h) (Or.inr ⟨by rfl, rfl⟩) ?_ ?_
   rotate_left
   ·simp only [Act.put, List.setIfInBounds_toArray, List.set_cons_zero, List.set_cons_succ, i64_w, i32_w]
    rfl
   refine pure_ (i := 11) (N := some 16) (v := undef) (a' := ?_) #[true, true, true, true, true, true, true, true, true, true, true, true, false, false, false, false, false, false] rfl rfl (any_of HT_.out (by kernel_rfl)) (fun _ _ _ h => h) (Or.inr ⟨by rfl, rfl⟩) ?_ ?_
   rotate_left
   ·simp only [Act.put, List.setIfInBounds_toArray, List.set_cons_zero, List.set_cons_succ, i64_w, i32_w]
    rfl
   refine pure_ (i := 12) (N := some 17) (v := undef) (a' := ?_) #[true, true, true, true, true, true, true, true, true, true, true, true, true, false, false, false, false, false] rfl rfl (any_of HT_.out (by kernel_rfl)) (fun _ _ _ h => h) (Or.inr ⟨by rfl, rfl⟩) ?_ ?_
   rotate_left
   ·simp only [Act.put, List.setIfInBounds_toArray, List.set_cons_zero, List.set_cons_succ, i64_w, i32_w]
    rfl
   refine pure_ (i := 13) (N := some 18) (v := undef) (a' := ?_) #[true, true, true, true, true, true, true, true, true, true, true, true, true, true, false, false, false, false] rfl rfl (any_of HT_.out (by kernel_rfl)) (fun _ _ _ h => h) (Or.inr ⟨by rfl, rfl⟩) ?_ ?_
   rotate_left
   ·simp only [Act.put, List.setIfInBounds_toArray, List.set_cons_zero, List.set_cons_succ, i64_w, i32_w]
    rfl
   refine pure_ (i := 14) (N := some 19) (v := undef) (a' := ?_) #[true, true, true, true, true, true, true, true, true, true, true, true, true, true, true, false, false, false] rfl rfl (any_of HT_.out (by kernel_rfl)) (fun _ _ _ h => h) (Or.inr ⟨by rfl, rfl⟩) ?_ ?_
   rotate_left
   ·simp only [Act.put, List.setIfInBounds_toArray, List.set_cons_zero, List.set_cons_succ, i64_w, i32_w]
    rfl
   refine pure_ (i := 15) (N := some 20) (v := undef) (a' := ?_) #[true, true, true, true, true, true, true, true, true, true, true, true, true, true, true, true, false, false] rfl rfl (any_of HT_.out (by kernel_rfl)) (fun _ _ _ h => h) (Or.inr ⟨by rfl, rfl⟩) ?_ ?_
   rotate_left
   ·simp only [Act.put, List.setIfInBounds_toArray, List.set_cons_zero, List.set_cons_succ, i64_w, i32_w]
    rfl
   refine pure_ (i := 16) (N := some 21) (v := ?_) (a' := ?_) #[true, true, true, true, true, true, true, true, true, true, true, true, true, true, true, true, true, false] rfl rfl (any_of HT_.out (by kernel_rfl)) (fun _ _ _ h => h) (Or.inl ⟨by rfl, ?_⟩) ?_ ?_
   rotate_left
   ·intro w'
    go_simp
    with_reducible rfl
   rotate_left
   ·simp only [Act.put, List.setIfInBounds_toArray, List.set_cons_zero, List.set_cons_succ, i64_w, i32_w]
    rfl
   refine pure_ (i := 17) (N := some 2) (v := ?_) (a' := ?_) #[true, true, true, true, true, true, true, true, true, true, true, true, true, true, true, true, true, true] rfl rfl (any_of HT_.out (by kernel_rfl)) (fun _ _ _ h => h) (Or.inl ⟨by rfl, ?_⟩) ?_ ?_
   rotate_left
   ·intro w'
    go_simp
    with_reducible rfl
   rotate_left
   ·simp only [Act.put, List.setIfInBounds_toArray, List.set_cons_zero, List.set_cons_succ, i64_w, i32_w]
    rfl
   refine done_ (done_of HT_.out (by kernel_rfl)) ?_
   try go_wp2
   go_ret
   exact ⟨by first | rfl | (simp [errW_none, errW_some] <;> rfl) | (simp [*, errW_none, errW_some] <;> rfl), by repeat (first | (with_reducible first | exact HB.out | apply below_alloc | apply pw_below_drewN | apply below_drew1 | refine below_set ?_ GE318.out) | exact HB.out)⟩
 ·replace c3 := Bool.eq_false_iff.mpr c3
  subst c3
  have H1 : (some false) = some r := by rw [if_neg (show ¬ (false = true) by decide)] at H; exact H
  clear H
  have H := H1
  clear H1
  obtain rfl := Option.some.inj H
  go_enter Tryd.func4, Tryd.ntmps4
  go_wp2_with (first | ((with_reducible refine gate_dst (N := 1) rfl ?_); refine box_event ?hg (N := 1) ?hd (cs := #[.int .i64 a0_0, .int .i64 a0_1, .string a0_2, .int .i64 a0_3, .int .i64 a0_4, .slice A0_5 l0_5.length c0_5]) (t := 24) ?hr ?_; (case hd => rfl); (case hg => rfl); (case hr => first | (go_simp; done) | (go_simp; rfl)); intro gb318 hg w39 hbox hb; have n0_ := Aside0.mk (below_step (by repeat (first | (with_reducible first | exact HB.out | apply below_alloc | apply pw_below_drewN | apply below_drew1) | exact HB.out)) hb); have n1_ := Aside0.mk (hbox); have n2_ := Aside0.mk ((by rw [hg]; exact (below_size (by repeat (first | (with_reducible first | exact HB.out | apply below_alloc | apply pw_below_drewN | apply below_drew1) | exact HB.out))) : w.heap.size ≤ gb318)); have n3_ := Aside0.mk ((by rw [hg]; exact (below_size (by repeat (first | (with_reducible first | exact HB.out | apply below_alloc | apply pw_below_drewN | apply below_drew1) | exact HB.out))) : w.heap.size ≤ gb318)); clear HB; have HB := n0_; have BK318 := n1_; have GW318 := n2_; have GE318 := n3_; clear n0_ n1_ n2_ n3_; clear hb hbox hg) | ((with_reducible refine gate_callee (f := 10) rfl ?_); refine goesL_ (some 3) rfl rfl Tryd.func10 (by kernel_rfl) rfl #[] rfl (by (try simp only [List.map_toArray, List.map_cons, List.map_nil]); first | done | rfl | (simp only [List.length_drop, List.length_take]; rfl)) ?_; (with_reducible refine (sizarlaw12_sane.calls k  false _ A2.out ?sideK).mono ?_); (case sideK => exact HKT.out.below (by repeat (first | (with_reducible first | exact HB.out | apply below_alloc | apply pw_below_drewN | apply below_drew1 | refine below_set ?_ GE318.out) | exact HB.out))); rintro e w40 ⟨rfl, hb⟩; refine ⟨_, rfl, ?_⟩; have n0_ := Aside0.mk (blk_below (g := gb318) (o := .cells #[.int .i64 a0_0, .int .i64 a0_1, .string a0_2, .int .i64 a0_3, .int .i64 a0_4, .slice A0_5 l0_5.length c0_5] 24 (0, 0)) (by (with_reducible repeat (first | refine blk_drewN ?_ _ | refine blk_drew ?_ | refine blk_alloc ?_ _)); exact BK318.out) hb); have n1_ := Aside0.mk (below_step (by repeat (first | (with_reducible first | exact HB.out | apply below_alloc | apply pw_below_drewN | apply below_drew1 | refine below_set ?_ GE318.out) | exact HB.out)) hb); clear BK318; clear HB; have BK318 := n0_; have HB := n1_; clear n0_ n1_; (try clear hb); (try clear hb2); (try clear hk); (try clear hi)))
  go_ret
  exact ⟨by first | rfl | (simp [errW_none, errW_some] <;> rfl) | (simp [*, errW_none, errW_some] <;> rfl), by repeat (first | (with_reducible first | exact HB.out | apply below_alloc | apply pw_below_drewN | apply below_drew1 | refine below_set ?_ GE318.out) | exact HB.out)⟩
end Go.Proofs.YtabocfninjankaaDoor.P
namespace Go.Proofs.YtabocfninjankaaDoor.P
open Go.RowKit Go.Maps Go.Proofs.YtabocfninjankaaDoorW.PrintWords Go.Proofs.YtabocfninjankaaDoorW.PrintLast Go.Proofs.YtabocfninjankaaDoorW.PrintMore
set_option linter.unusedVariables false
set_option linter.unusedSimpArgs false
theorem mem_putA (x a : A4) : ∀ l, x ∈ putA l a ↔ x = a ∨ x ∈ l
 | [] => by simp [putA]
 | y :: ys => by
  unfold putA
  split
  ·rw [List.mem_cons, mem_putA x a ys, List.mem_cons]
   constructor
   ·rintro (h | h | h)
    ·exact .inr (.inl h)
    ·exact .inl h
    ·exact .inr (.inr h)
   ·rintro (h | h | h)
    ·exact .inr (.inl h)
    ·exact .inl h
    ·exact .inr (.inr h)
  ·split
   ·rename_i h
    subst h
    simp
   ·simp
theorem sorted_putA (a : A4) : ∀ l : List A4, l.Pairwise LtA → (putA l a).Pairwise LtA
 | [], _ => by simp [putA]
 | y :: ys, h => by
  obtain ⟨h1, h2⟩ := List.pairwise_cons.1 h
  unfold putA
  split
  ·rename_i hlt
   refine List.pairwise_cons.2 ⟨fun z hz => ?_, sorted_putA a ys h2⟩
   rcases (mem_putA z a ys).1 hz with rfl | hz
   ·exact hlt
   ·exact h1 z hz
  ·split
   ·exact h
   ·rename_i hlt hne
    have hay : LtA a y := by
     by_cases h3 : LtA a y
     ·exact h3
     ·exact absurd (LtA.total y a hlt h3) hne
    refine List.pairwise_cons.2 ⟨fun z hz => ?_, h⟩
    rcases List.mem_cons.1 hz with rfl | hz
    ·exact hay
    ·exact hay.trans (h1 z hz)
theorem mem_foldA (x : A4) : ∀ (ys acc : List A4), x ∈ ys.foldl putA acc ↔ x ∈ acc ∨ x ∈ ys
 | [], acc => by simp
 | y :: ys, acc => by
  rw [List.foldl_cons, mem_foldA x ys, mem_putA, List.mem_cons]
  constructor
  ·rintro ((h | h) | h)
   ·exact .inr (.inl h)
   ·exact .inl h
   ·exact .inr (.inr h)
  ·rintro (h | h | h)
   ·exact .inl (.inr h)
   ·exact .inl (.inl h)
   ·exact .inr h
theorem sorted_foldA : ∀ (ys acc : List A4), acc.Pairwise LtA → (ys.foldl putA acc).Pairwise LtA
 | [], acc, h => h
 | y :: ys, acc, h => sorted_foldA ys _ (sorted_putA y acc h)
theorem sorted_raL : ∀ (ks : List S24) (acc : List A4), acc.Pairwise LtA → (raL acc ks).Pairwise LtA
 | [], acc, h => by simpa [raL] using h
 | k :: ks, acc, h => by
  simp only [raL]
  exact sorted_raL ks _ (sorted_foldA _ _ h)
theorem sorted_raR (r : S24) : (raR r).Pairwise LtA := by
 rw [raR_eq]
 refine sorted_raL _ _ ?_
 split <;> simp
theorem atomsOf_append (xs ys : List (Int × S24)) : atomsOf (xs ++ ys) = atomsOf xs ++ atomsOf ys := by simp [atomsOf]
mutual
theorem mem_raR (d : Int) (x : A4) : ∀ r : S24, x ∈ raR r ↔ x ∈ atomsOf (preR d r)
 | ⟨a, b, c, n, e, ks⟩ => by
  have ih := mem_raL (wrap64 (d + 1)) x ks (if 5 ≤ a ∧ a ≤ 9 then [⟨a, b, n, e⟩] else [])
  simp only [raR, preR]
  rw [ih]
  have h1 : atomsOf ((d, (⟨a, b, c, n, e, ks⟩ : S24)) :: preL (wrap64 (d + 1)) ks) = (if 5 ≤ a ∧ a ≤ 9 then [(⟨a, b, n, e⟩ : A4)] else []) ++ atomsOf (preL (wrap64 (d + 1)) ks) := by
   unfold atomsOf isA atomOf
   by_cases h : 5 ≤ a ∧ a ≤ 9
   ·rw [if_pos h]; simp [h]
   ·rw [if_neg h, List.filter_cons_of_neg (by simp; omega)]; rfl
  rw [h1, List.mem_append]
theorem mem_raL (d : Int) (x : A4) : ∀ (ks : List S24) (acc : List A4), x ∈ raL acc ks ↔ x ∈ acc ∨ x ∈ atomsOf (preL d ks)
 | [], acc => by simp [raL, preL, atomsOf]
 | k :: ks, acc => by
  have h1 := mem_raR d x k
  have h2 := mem_raL d x ks ((raR k).foldl putA acc)
  simp only [raL, preL]
  rw [h2, mem_foldA, h1, atomsOf_append, List.mem_append, or_assoc]
end
theorem LtA.asymm {x y : A4} (h : LtA x y) : ¬ LtA y x := fun k => LtA.irrefl x (h.trans k)
theorem sorted_nodup {l : List A4} (h : l.Pairwise LtA) : l.Nodup := h.imp (fun {x y} hl e => by subst e; exact LtA.irrefl _ hl)
theorem atoms_same (r : S24) : sortA (dd (atomsOf (preR 1 r))) = raR r := by
 have hs := sorted_raR r
 have hp : (sortA (dd (atomsOf (preR 1 r)))).Perm (raR r) := (List.mergeSort_perm _ _).trans ((List.perm_ext_iff_of_nodup (nodup_dd _) (sorted_nodup hs)).2 fun a => by rw [mem_dd, mem_raR 1])
 have tr : ∀ a b c : A4, (!ltOf cfA b a) = true → (!ltOf cfA c b) = true → (!ltOf cfA c a) = true := fun a b c h1 h2 => by
  simp only [Bool.not_eq_true'] at *
  exact swoA.ntrans c b a h2 h1
 have tot : ∀ a b : A4, ((!ltOf cfA b a) || (!ltOf cfA a b)) = true := fun a b => by
  rw [ltOf_cfA, ltOf_cfA]
  by_cases h1 : LtA b a
  ·simp [h1, h1.asymm]
  ·simp [h1]
 refine List.Perm.eq_of_pairwise (le := fun a b => (!ltOf cfA b a) = true) (fun a b _ _ h1 h2 => ?_) (List.pairwise_mergeSort tr tot _) (hs.imp fun {a b} h => ?_) hp
 ·simp only [Bool.not_eq_true'] at h1 h2
  exact cfA_sep a b h2 h1
 ·rw [ltOf_cfA]
  simp [h.asymm]
theorem mem_putI (x a : Int) : ∀ l, x ∈ putI l a ↔ x = a ∨ x ∈ l
 | [] => by simp [putI]
 | y :: ys => by
  unfold putI
  split
  ·rw [List.mem_cons, mem_putI x a ys, List.mem_cons]
   constructor
   ·rintro (h | h | h)
    ·exact .inr (.inl h)
    ·exact .inl h
    ·exact .inr (.inr h)
   ·rintro (h | h | h)
    ·exact .inr (.inl h)
    ·exact .inl h
    ·exact .inr (.inr h)
  ·split
   ·rename_i h
    subst h
    simp
   ·simp
theorem sorted_putI (a : Int) : ∀ l : List Int, l.Pairwise (· < ·) → (putI l a).Pairwise (· < ·)
 | [], _ => by simp [putI]
 | y :: ys, h => by
  obtain ⟨h1, h2⟩ := List.pairwise_cons.1 h
  unfold putI
  split
  ·rename_i hlt
   refine List.pairwise_cons.2 ⟨fun z hz => ?_, sorted_putI a ys h2⟩
   rcases (mem_putI z a ys).1 hz with rfl | hz
   ·exact hlt
   ·exact h1 z hz
  ·split
   ·exact h
   ·rename_i hlt hne
    refine List.pairwise_cons.2 ⟨fun z hz => ?_, h⟩
    rcases List.mem_cons.1 hz with rfl | hz
    ·omega
    ·have := h1 z hz; omega
theorem rcF_gen : ∀ (l : List A4) (acc : List Int), acc.Pairwise (· < ·) → (l.foldl (fun acc a => if isCA a = true then putI acc a.c else acc) acc).Pairwise (· < ·) ∧ ∀ x, x ∈ l.foldl (fun acc a => if isCA a = true then putI acc a.c else acc) acc ↔ x ∈ acc ∨ ∃ a ∈ l, isCA a = true ∧ a.c = x
 | [], acc, h => ⟨h, fun x => by simp⟩
 | a :: l, acc, h => by
  rw [List.foldl_cons]
  by_cases q : isCA a = true
  ·rw [if_pos q]
   obtain ⟨h1, h2⟩ := rcF_gen l _ (sorted_putI a.c acc h)
   refine ⟨h1, fun x => ?_⟩
   rw [h2 x, mem_putI]
   constructor
   ·rintro ((h | h) | ⟨b, hb, h3, h4⟩)
    ·exact .inr ⟨a, by simp, q, h.symm⟩
    ·exact .inl h
    ·exact .inr ⟨b, by simp [hb], h3, h4⟩
   ·rintro (h | ⟨b, hb, h3, h4⟩)
    ·exact .inl (.inr h)
    ·rcases List.mem_cons.1 hb with rfl | hb
     ·exact .inl (.inl h4.symm)
     ·exact .inr ⟨b, hb, h3, h4⟩
  ·rw [if_neg q]
   obtain ⟨h1, h2⟩ := rcF_gen l acc h
   refine ⟨h1, fun x => ?_⟩
   rw [h2 x]
   constructor
   ·rintro (h | ⟨b, hb, h3, h4⟩)
    ·exact .inl h
    ·exact .inr ⟨b, by simp [hb], h3, h4⟩
   ·rintro (h | ⟨b, hb, h3, h4⟩)
    ·exact .inl h
    ·rcases List.mem_cons.1 hb with rfl | hb
     ·exact absurd h3 q
     ·exact .inr ⟨b, hb, h3, h4⟩
theorem courses_same (r : S24) : (intKeys (corAll (preR 1 r))).mergeSort leI = rcF (raR r) := by
 obtain ⟨hs, hm⟩ := rcF_gen (raR r) [] List.Pairwise.nil
 have hn : (rcF (raR r)).Nodup := hs.imp (fun {x y} h e => by omega)
 have hp : (coursesOf r).Perm (rcF (raR r)) := (List.perm_ext_iff_of_nodup (courses_nodup r) hn).2 fun x => by
  rw [courses_mem]
  unfold rcF
  rw [hm x]
  simp only [List.not_mem_nil, false_or]
  constructor
  ·rintro ⟨p, hp, h1, h2⟩
   obtain ⟨q, hq, rfl⟩ := List.mem_map.1 hp
   refine ⟨atomOf q.2, (mem_raR 1 _ r).2 (List.mem_map.2 ⟨q, List.mem_filter.2 ⟨hq, ?_⟩, rfl⟩), h1, h2⟩
   unfold isC at h1
   unfold isA
   simp only [Bool.or_eq_true, beq_iff_eq] at h1
   simp only [Bool.and_eq_true, decide_eq_true_eq]
   omega
  ·rintro ⟨a, ha, h1, h2⟩
   obtain ⟨q, hq, rfl⟩ := List.mem_map.1 ((mem_raR 1 a r).1 ha)
   exact ⟨q.2, List.mem_map.2 ⟨q, (List.mem_filter.1 hq).1, rfl⟩, h1, h2⟩
 have tr : ∀ a b c : Int, leI a b = true → leI b c = true → leI a c = true := fun a b c h1 h2 => by unfold leI at *; simp only [decide_eq_true_eq] at *; omega
 have tot : ∀ a b : Int, (leI a b || leI b a) = true := fun a b => by unfold leI; simp; omega
 refine List.Perm.eq_of_pairwise (le := fun a b => leI a b = true) (fun a b _ _ h1 h2 => ?_) (List.pairwise_mergeSort tr tot _) (hs.imp fun {a b} h => ?_) hp
 ·unfold leI at h1 h2; simp only [decide_eq_true_eq] at h1 h2; omega
 ·unfold leI; simp only [decide_eq_true_eq]; omega
theorem same_ints (l : List Int) (hl : l.length ≤ 1000000000) : ∀ (m k i : Nat), i + m = l.length → m < k → sizarref12_SameInts.l0 k l l (i : Int) = some true
 | m, 0, i, hm, hk => absurd hk (by omega)
 | 0, k + 1, i, hm, hk => by simp only [sizarref12_SameInts.l0]; rw [if_neg (by omega)]
 | m + 1, k + 1, i, hm, hk => by
  simp only [sizarref12_SameInts.l0]
  rw [if_pos (by omega), if_pos (by omega), if_pos (by omega), if_pos trivial, w64 i (by omega)]
  exact same_ints l hl m k (i + 1) (by omega) (by omega)
theorem same_self (a b : Int) (c : ByteArray) (n d : Int) (l : List S24) : sizarref12_SameAtom.f a b c n d l a b c n d l = some true := by unfold sizarref12_SameAtom.f; simp
theorem same_atoms (l : List S24) (hl : l.length ≤ 1000000000) : ∀ (m k i : Nat), i + m = l.length → m < k → sizarref12_SameAtoms.l0 k l l (i : Int) = some true
 | m, 0, i, hm, hk => absurd hk (by omega)
 | 0, k + 1, i, hm, hk => by simp only [sizarref12_SameAtoms.l0]; rw [if_neg (by omega)]
 | m + 1, k + 1, i, hm, hk => by
  simp only [sizarref12_SameAtoms.l0]
  rw [if_pos (by omega), if_pos (by omega), if_pos (by omega), same_self, Option.bind_some, if_pos rfl, if_pos trivial, if_pos trivial, w64 i (by omega)]
  exact same_atoms l hl m k (i + 1) (by omega) (by omega)
/-- Few, where the parts can be counted: their count. -/
theorem few_cnt (r : S24) (ho : okR r) (hc : cntR r ≤ 1048576) : Ev (fun q => sizarref12_Few.f q r.f0 r.f1 r.f2 r.f3 r.f4 r.f5) (decide (depR r ≤ 40) && decide (cntR r ≤ 300)) := by
 have h1 := depth_ev _ r (Nat.lt_succ_self _) ho hc
 have h2 := parts_ev _ r (Nat.lt_succ_self _) ho hc
 refine Ev.bind h1 (c := fun q t => if t ≤ 40 then ((sizarref12_Parts.f q r.f0 r.f1 r.f2 r.f3 r.f4 r.f5).bind fun t => some (decide (t ≤ 300))) else some false) ?_
 by_cases h40 : depR r ≤ 40
 ·refine (Ev.bind h2 (c := fun q t => some (decide (t ≤ 300))) (b := decide (depR r ≤ 40) && decide (cntR r ≤ 300)) (Ev.now fun q => ?_)).congr fun q => by rw [if_pos (by omega)]
  simp only [h40, decide_true, Bool.true_and]
  congr 1
  rw [decide_eq_decide]
  omega
 ·exact Ev.now fun q => by rw [if_neg (by omega)]; simp [h40]
theorem RulesListsSpec_pure (r : S24) (ho : okR r ∧ cntR r ≤ 1048576) : ∃ k, sizarlaw12_RulesListsSpec.f k r.f0 r.f1 r.f2 r.f3 r.f4 r.f5 = some true := by
 have hf := few_cnt r ho.1 ho.2
 have h := Ev.bind sane_ev (c := fun k t => if t = true then ((sizarref12_Few.f k r.f0 r.f1 r.f2 r.f3 r.f4 r.f5).bind fun t320 => (if t320 = true then ((rules_Atoms.f r.f0 r.f1 r.f2 r.f3 r.f4 r.f5).bind fun t321 => ((sizarref12_Atoms.f k r.f0 r.f1 r.f2 r.f3 r.f4 r.f5).bind fun t324 => ((sizarref12_SameAtoms.f k t321 t324).bind fun t327 => (if t327 = true then ((rules_Courses.f r.f0 r.f1 r.f2 r.f3 r.f4 r.f5).bind fun t328 => ((sizarref12_Courses.f k r.f0 r.f1 r.f2 r.f3 r.f4 r.f5).bind fun t331 => ((sizarref12_SameInts.f k t328 t331).bind fun t334 => (some t334)))) else (some false))))) else (some true))) else (some false)) (b := true)
  ((Ev.bind hf (c := fun k t320 => if t320 = true then ((rules_Atoms.f r.f0 r.f1 r.f2 r.f3 r.f4 r.f5).bind fun t321 => ((sizarref12_Atoms.f k r.f0 r.f1 r.f2 r.f3 r.f4 r.f5).bind fun t324 => ((sizarref12_SameAtoms.f k t321 t324).bind fun t327 => (if t327 = true then ((rules_Courses.f r.f0 r.f1 r.f2 r.f3 r.f4 r.f5).bind fun t328 => ((sizarref12_Courses.f k r.f0 r.f1 r.f2 r.f3 r.f4 r.f5).bind fun t331 => ((sizarref12_SameInts.f k t328 t331).bind fun t334 => (some t334)))) else (some false))))) else (some true)) (b := true) ?_).congr fun k => by rw [if_pos rfl])
 ·exact Ev.get h
 ·by_cases hq : (decide (depR r ≤ 40) && decide (cntR r ≤ 300)) = true
  ·rw [hq]
   have hc3 : cntR r ≤ 300 := by simp only [Bool.and_eq_true, decide_eq_true_eq] at hq; exact hq.2
   have hl : (preR 1 r).length ≤ 100000 := by rw [pre_len]; omega
   have ha := atoms_f ho.1 hl
   have hb := courses_f ho.1 hl
   rw [atoms_same] at ha
   rw [courses_same] at hb
   have ha2 : ∀ k, sizarref12_Atoms.f k r.f0 r.f1 r.f2 r.f3 r.f4 r.f5 = some ((raR r).map ruleOf) := fun k => by
    unfold sizarref12_Atoms.f
    rw [if_pos (by cases r; exact ho.2)]
    cases r
    rfl
   have hb2 : ∀ k, sizarref12_Courses.f k r.f0 r.f1 r.f2 r.f3 r.f4 r.f5 = some (rcF (raR r)) := fun k => by
    unfold sizarref12_Courses.f
    rw [if_pos (by cases r; exact ho.2)]
    cases r
    rfl
   have hn1 := raR_len r
   have hn2 := rcF_len (raR r) (raR r).length (Nat.le_refl _)
   rw [List.take_length] at hn2
   have e1 : ∀ k, (raR r).length + 1 ≤ k → sizarref12_SameAtoms.f k ((raR r).map ruleOf) ((raR r).map ruleOf) = some true := fun k hk => by
    unfold sizarref12_SameAtoms.f
    rw [if_pos rfl]
    exact same_atoms _ (by rw [List.length_map]; omega) _ k 0 (Nat.zero_add _) (by rw [List.length_map]; omega)
   have e2 : ∀ k, (rcF (raR r)).length + 1 ≤ k → sizarref12_SameInts.f k (rcF (raR r)) (rcF (raR r)) = some true := fun k hk => by
    unfold sizarref12_SameInts.f
    rw [if_pos rfl]
    exact same_ints _ (by omega) _ k 0 (Nat.zero_add _) (by omega)
   refine ⟨(raR r).length + (rcF (raR r)).length + 1, fun k hk => ?_⟩
   show (if true = true then _ else _) = some true
   rw [if_pos rfl, ha, Option.bind_some, ha2, Option.bind_some, e1 k (by omega), Option.bind_some, if_pos rfl, hb, Option.bind_some, hb2, Option.bind_some, e2 k (by omega)]
   rfl
  ·have hq' : (decide (depR r ≤ 40) && decide (cntR r ≤ 300)) = false := by simpa using hq
   rw [hq']
   exact Ev.now fun k => by rw [if_neg (by simp)]
end Go.Proofs.YtabocfninjankaaDoor.P
namespace Go.Proofs.YtabocfninjankaaDoor.rulesListsSpec
open Go.ChangeShapes Go.WideShapes Go.ChangeAt Go.RowKit
open Go.Proofs.YtabocfninjankaaDoor.P
set_option linter.unusedVariables false
theorem own : ownKnob Tryd.prog.godebug = none := by kernel_rfl
theorem laidOut : laidOutB Tryd.prog = true := by kernel_rfl
abbrev laid : List (String × DataW Unit) := [("sizar/rules.kinds", Rows.laid_sizar_rules_kinds)]
set_option maxRecDepth 100000 in
theorem door_met (os : Os) (args : Array Value) : laidMetH Tryd.prog laid ((World.doorLaid Tryd.prog 600 os).forCall (fun _ _ => 0) ⟨#[], args, []⟩).memory :=
  laidMetH_of_parts3 (fuel := 8) (laidMet_of_run' 8 (by kernel_rfl) (by kernel_rfl)) (by kernel_rfl) (by kernel_rfl)
set_option maxRecDepth 100000 in
set_option maxHeartbeats 1000000 in
theorem lifted (os : Os) (started : os.Started) (H : Type) (enc : TypeId × Value → H) :
    ReturnsInHanded {} Tryd.checked os 4 .any (fun w args => ((Rows.OpenSpec.upto Rows.rulesListsSpecSpec).pre enc Tryd.prog Tryd.f4 [] false w args ∧ laidMetH Tryd.prog laid w) ∧ sizedMet enc Tryd.prog Tryd.f4 (Rows.OpenSpec.upto Rows.rulesListsSpecSpec) false w args)
      (Rows.rulesListsSpecSpec.post enc Tryd.prog Tryd.f4 false true false false) := by
  refine returns_upto (C := Tryd.checked) (X := fun w _ => laidMetH Tryd.prog laid w) (fun _ _ _ hh h => h.of_heap hh) own started (by kernel_rfl) Tryd.func4
    (witness_upto (enc := enc) (C := Tryd.checked) (os := os) (X := fun w _ => laidMetH Tryd.prog laid w) false (World.doorLaid Tryd.prog 600 os) #[.agg #[.int .i64 0, .int .i64 0, .string ⟨#[]⟩, .int .i64 0, .int .i64 0, .slice none 0 0]] 8 rfl (World.shaped_of_RefB (by kernel_rfl) (by kernel_rfl)) (by kernel_rfl) (by kernel_rfl) (by kernel_rfl) (door_met os _)) ?_
  intro W base args ds gs before hval0 hW hcnd hsz0 hbk hL _
  have hsz : (DataW.weightsEach Tryd.prog (Tryd.f4.params.toList ++ Rows.rulesListsSpecSpec.plain.varTypes Tryd.prog) (ds ++ gs)).all (· ≤ reachBytes) = true := hsz0
  have hval : ∀ (j : Nat) t v, Tryd.f4.params[j]? = some t → args[j]? = some v → Value.okWide Tryd.prog W .any base t v := hval0
  have hW' := hW
  obtain ⟨p, q, hA0, hV, rfl, hfz, hnd⟩ := hW
  have hA : DataW.TrodAll enc Tryd.prog W 0 (fun _ => true) true Tryd.f4.params.toList args.toList ds p := hA0
  rw [Tryd.params4] at hA hval hsz
  obtain ⟨v0, vs0, d0, ds0, p0, q0, hargs, rfl, rfl, h0, r0⟩ := trodAll_cons hA
  obtain ⟨rfl, rfl, rfl⟩ := trodAll_nil r0
  obtain rfl : args = #[v0] := by cases args; simp_all
  obtain ⟨rfl, rfl⟩ := trodVars_none hV
  have k0 := h0
  have lt0 : ∀ x ∈ p0, x.block < W.heap.size := by obtain ⟨m, hm⟩ := k0; exact DataW.trod_lt m _ _ _ hm
  have lg0 : light Tryd.prog 24 d0 := light_each _ _ hsz 0 _ _ rfl rfl
  obtain ⟨fuel0, hf0⟩ := h0
  obtain ⟨cs0, rfl, hcs0⟩ := okWide_struct Tryd.underlying24 (hval 0 24 v0 rfl rfl)
  have hbk0 : Rows.uptoBulk d0 ≤ 1048576 := Nat.le_trans (bulk_mem (by simp)) hbk
  obtain ⟨x0, K0, g0⟩ := opn24U hf0 lg0 hbk0
  obtain ⟨A0, c0, e0, l0, r0r⟩ := k24_open K0
  replace e0 : cs0.toList = (#[.int .i64 x0.f0, .int .i64 x0.f1, .string x0.f2, .int .i64 x0.f3, .int .i64 x0.f4, .slice A0 x0.f5.length c0] : Array Value).toList := e0
  obtain rfl := Array.toList_inj.1 e0
  have hKT := of_laid hL
  clear hA0 hval0 hsz0 hsz
  obtain ⟨k, hk⟩ := RulesListsSpec_pure x0 g0
  refine (sizarlaw12_RulesListsSpec.calls k x0.f0 x0.f1 x0.f2 x0.f3 x0.f4 A0 c0 x0.f5 true W r0r l0 hk hKT).mono fun e W' ⟨he, bel⟩ => ?_
  subst he
  exact ⟨_, rfl, _, _, _, [], _, [], hW', trodAll_mk1 (shut_bool Tryd.underlying4 _), (trodAll_cons_mk (Below.trod laidOut (by kernel_rfl) (of_decide_eq_true (by kernel_rfl)) k0 bel lt0) trodAll_mk0), rfl, bel.frame _, fun h => by cases h⟩
theorem over : Rows.rulesListsSpecUptoRow.holds Tryd.pinned (Rows.OpenSpec.upto Rows.rulesListsSpecSpec) :=
  OpenClaim.holds_of_cond 4 Tryd.f4 rfl rfl rfl rfl rfl rfl rfl ⟨rfl, rfl, rfl, rfl, rfl⟩ rfl rfl rfl rfl rfl (by kernel_rfl) Tryd.func4 (by kernel_rfl)
    (of_decide_eq_true (by kernel_rfl)) (by unfold Func.isWrapper; first | (rw [if_pos (by decide +kernel)]; kernel_rfl) | (rw [if_neg (by decide +kernel)]; exact ⟨rfl, rfl⟩))
    (fun os started H enc _ _ => lifted os started H enc)
theorem card : Rows.RulesListsSpecUptoCardSaid :=
  Claim7.holds_tied_plain_at .later [] [.funcs] true (true, "2fadb4b9a838f57294a20d8f5ec735aff9896364a9ddfdfb30d191a5aaac5261") false
    over (fun _ h => by cases h) (by kernel_rfl) (fun _ h => by cases h) rulesListsSpecUpto_row_tie rfl ⟨rfl, rfl⟩ (by kernel_rfl) rfl
    (fun f fn hf hfn => by
      obtain rfl : f = 4 := Option.some.inj ((show Tryd.prog.funcNamed "sizar/sizarlaw12.RulesListsSpec" = some 4 by kernel_rfl).symm.trans hf) |>.symm
      obtain rfl : fn = Tryd.f4 := (Option.some.inj (Tryd.func4.symm.trans hfn)).symm
      exact ⟨by kernel_rfl, fun j t ht => by
        rw [Tryd.params4] at ht
        have hm : t ∈ [24] := by simpa using Array.mem_of_getElem? ht
        have hall : ([24].all fun u => !Tryd.prog.wantsStandIn u) = true := by kernel_rfl
        exact (show Tryd.prog.wantsStandIn t = false by simpa using List.all_eq_true.1 hall t hm)⟩)
    (by kernel_rfl)
end Go.Proofs.YtabocfninjankaaDoor.rulesListsSpec
namespace Go.Proofs.YtabocfninjankaaDoor
/-- The tied card, under a short name, for the claim. -/
theorem rulesListsSpec_holds : Rows.RulesListsSpecUptoCardSaid := rulesListsSpec.card
end Go.Proofs.YtabocfninjankaaDoor
