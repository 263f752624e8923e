/- The law SubRules and its tied card: for every input it returns true, and its arguments read as they did. Conditions: those of each theorem's own statement. -/
import Derived.Test.YtcljgfpcdlnlkaaDoorJoinC
import Derived.Test.YtcljgfpcdlnlkaaDoorJoinD
import Derived.Test.YtcljgfpcdlnlkaaDoorJoinE
import Derived.Test.YtcljgfpcdlnlkaaDoorTie
import Derived.Test.YtcljgfpcdlnlkaaDoorClosedA
import Derived.Test.YtcljgfpcdlnlkaaDoorClosedB
import Derived.Test.YtcljgfpcdlnlkaaDoorClosedC
import Derived.SevenTiedAt
namespace Go.Proofs.YtcljgfpcdlnlkaaDoor.Q
open Go.RowKit Go.Proofs.YtcljgfpcdlnlkaaDoorW.PrintWords Mp
/-- Has s t's key i, with something that may stand there? -/
def keyB (s t : S37) (R : Rel) (i : Nat) : Bool := (List.range s.f3.length).any fun k => decide (s.f3.getD k ByteArray.empty = t.f3.getD i ByteArray.empty) && R (rd s.f4 (k : Int), rd t.f4 (i : Int))
def oneB (st : Bool) (s t : S37) (R : Rel) : Bool :=
  if s.f0 = 1 ∨ t.f0 = 1 then decide (s.f0 = t.f0) || !st
  else if s.f0 ≠ t.f0 ∨ s.f1 ≠ t.f1 ∨ s.f2 ≠ t.f2 then false
  else ((List.range t.f3.length).all fun i => keyB s t R i) && (!decide (s.f0 = 9) || R (rd s.f4 0, rd t.f4 0))
def holdsL (st : Bool) (g : List S37) (a b : Int) (R : Rel) : Bool := (membersL g a).all fun s => (decide ((rd_T37 g s).f0 = 9) && R (rd (rd_T37 g s).f4 0, b)) || (membersL g b).any fun k => oneB st (rd_T37 g s) (rd_T37 g k) R
theorem size_nil {s : ByteArray} (h : ¬ 0 < s.size) : s = ⟨#[]⟩ := by
  obtain ⟨d⟩ := s
  have : d.size = 0 := by simp only [ByteArray.size] at h; omega
  rw [Array.size_eq_zero_iff] at this
  rw [this]
theorem keyB_iff {s t : S37} {R : Rel} (hk : s.f3.Nodup) (i : Nat) : keyB s t R i = true ↔ 0 ≤ keyAt s.f3 (t.f3.getD i ByteArray.empty) ∧ R (rd s.f4 (keyAt s.f3 (t.f3.getD i ByteArray.empty)), rd t.f4 (i : Int)) = true := by
  unfold keyB
  rw [List.any_eq_true]
  constructor
  · rintro ⟨k, hk1, hk2⟩
    simp only [Bool.and_eq_true, decide_eq_true_eq] at hk2
    have := keyAt_nodup hk (List.mem_range.1 hk1)
    rw [hk2.1] at this
    rw [this]
    exact ⟨by omega, hk2.2⟩
  · rintro ⟨h1, h2⟩
    obtain ⟨k, hk1, hk2, hk3⟩ := keyAt_at h1
    refine ⟨k, List.mem_range.2 hk2, ?_⟩
    rw [hk1] at h2
    rw [hk3, h2]
    simp
theorem one_does {st : Bool} {g : List S37} {s t : S37} {R : Rel} (hs : mayB g s = true) (ht : mayB g t = true) (ks : s.f3.Nodup) (hs8 : s.f0 ≠ 8) (_ht8 : t.f0 ≠ 8) : oneB st s t R = doesB st s t R := by
  have fs := may_fine hs hs8
  have ps := may_parts hs
  have pt := may_parts ht
  simp only [headB, Bool.or_eq_false_iff, Bool.and_eq_false_iff, decide_eq_false_iff_not, Classical.not_not, ne_eq] at ps pt
  obtain ⟨⟨⟨_, s1⟩, s2⟩, s3⟩ := ps
  obtain ⟨⟨⟨_, t1⟩, t2⟩, t3⟩ := pt
  unfold oneB doesB
  by_cases h1 : s.f0 = 1 ∨ t.f0 = 1
  · rw [if_pos h1, if_pos h1, Bool.or_comm]
  rw [if_neg h1, if_neg h1]
  by_cases he : s.f0 = t.f0
  · rw [decide_eq_true he, Bool.true_and]
    by_cases h5 : s.f0 = 5
    · rw [if_pos h5]
      have e1 : s.f1 = t.f1 := by omega
      have e3 : ¬ 0 < t.f3.length := by rcases t3 with h | h <;> first | exact h | omega
      by_cases e2 : s.f2 = t.f2
      · rw [if_neg (by rintro (h | h | h) <;> first | exact h he | exact h e1 | exact h e2), decide_eq_true e2, show t.f3.length = 0 by omega, decide_eq_false (show ¬ s.f0 = 9 by omega)]
        rfl
      · rw [if_pos (.inr (.inr e2)), decide_eq_false e2]
    · have e2 : s.f2 = t.f2 := by
        rw [size_nil (s := s.f2) (by rcases s2 with h | h <;> first | exact h | exact absurd h h5), size_nil (s := t.f2) (by rcases t2 with h | h <;> first | exact h | omega)]
      rw [if_neg h5]
      by_cases h7 : s.f0 = 7
      · rw [if_pos h7]
        have e1 : s.f1 = t.f1 := by omega
        rw [if_neg (by rintro (h | h | h) <;> first | exact h he | exact h e1 | exact h e2), decide_eq_false (show ¬ s.f0 = 9 by omega), Bool.eq_iff_iff, recordB_iff, Bool.not_false, Bool.true_or, Bool.and_true, List.all_eq_true]
        simp only [List.mem_range, keyB_iff ks]
      · rw [if_neg h7]
        have e3 : t.f3.length = 0 := by rcases t3 with h | h <;> first | omega | omega
        by_cases h9 : s.f0 = 9
        · rw [if_pos h9]
          unfold variableB
          by_cases e1 : s.f1 = t.f1
          · rw [if_neg (by rintro (h | h | h) <;> first | exact h he | exact h e1 | exact h e2), decide_eq_true e1, e3, decide_eq_true h9]
            rfl
          · rw [if_pos (.inr (.inl e1)), decide_eq_false e1]
            rfl
        · rw [if_neg h9]
          have e1 : s.f1 = t.f1 := by omega
          rw [if_neg (by rintro (h | h | h) <;> first | exact h he | exact h e1 | exact h e2), e3, decide_eq_false h9]
          rfl
  · rw [if_pos (.inl he), decide_eq_false he]
    rfl
theorem holdsL_eq {st : Bool} {g : List S37} {a b : Int} {R : Rel} (hv : Valid g) (hk : ∀ x ∈ g, x.f3.Nodup) (hp : InG g (a, b)) : holdsL st g a b R = holdsB st g (a, b) R := by
  rw [Bool.eq_iff_iff, holdsB_iff]
  unfold holdsL
  rw [List.all_eq_true]
  refine forall_congr' fun s => forall_congr' fun hs => ?_
  have hsi := (hv.members hp.1 hp.2.1).1 s hs
  have hms := hv.may _ (rd_in hsi.1 hsi.2.1)
  simp only [Bool.or_eq_true, Bool.and_eq_true, decide_eq_true_eq, List.any_eq_true]
  constructor
  · rintro (h | ⟨k, hk1, hk2⟩)
    · exact pick_of_bound h.1 h.2
    · have hki := (hv.members hp.2.2.1 hp.2.2.2).1 k hk1
      rw [one_does hms (hv.may _ (rd_in hki.1 hki.2.1)) (rd37_keys hk s) hsi.2.2 hki.2.2] at hk2
      exact pick_of_does hk1 hk2
  · intro h
    rcases pick_or h with ⟨k, hk1, hk2⟩ | h
    · have hki := (hv.members hp.2.2.1 hp.2.2.2).1 k hk1
      rw [← one_does hms (hv.may _ (rd_in hki.1 hki.2.1)) (rd37_keys hk s) hsi.2.2 hki.2.2] at hk2
      exact .inr ⟨k, hk1, hk2⟩
    · exact .inl h
end Go.Proofs.YtcljgfpcdlnlkaaDoor.Q
namespace Go.Proofs.YtcljgfpcdlnlkaaDoor.Q
open Go.RowKit Go.Proofs.YtcljgfpcdlnlkaaDoorW.PrintWords Mp
theorem tab_int {w : World} {A : Option Addr} {n : Nat} {M : List (List Bool)} (h : Kd.C kRow w A n M) (hs : Sq n M) {x y : Int} (hx : 0 ≤ x ∧ x < n) (hy : 0 ≤ y ∧ y < n) : ∃ ad bd c, A = some ad ∧ w.cell? (ad.add x.toNat) = some (.slice (some bd) n c) ∧ w.cell? (bd.add y.toNat) = some (.bool (relT n M (x, y))) := by
  obtain ⟨ad, bd, c, e, h1, h2⟩ := tab_cell h hs x.toNat y.toNat (by omega) (by omega)
  refine ⟨ad, bd, c, e, h1, ?_⟩
  rw [h2]
  unfold relT
  rw [decide_eq_true hx.1, decide_eq_true hx.2, decide_eq_true hy.1, decide_eq_true hy.2]
  rfl
/-- The first k of s's keys that stand for t's key i. -/
def keyP (s t : S37) (R : Rel) (i k : Nat) : Bool := (List.range k).any fun k => decide (s.f3.getD k ByteArray.empty = t.f3.getD i ByteArray.empty) && R (rd s.f4 (k : Int), rd t.f4 (i : Int))
theorem keyP_step (s t : S37) (R : Rel) (i k : Nat) : keyP s t R i (k + 1) = (keyP s t R i k || (decide (s.f3.getD k ByteArray.empty = t.f3.getD i ByteArray.empty) && R (rd s.f4 (k : Int), rd t.f4 (i : Int)))) := by
  unfold keyP
  rw [List.range_succ, List.any_append]
  simp
set_option maxRecDepth 100000 in
set_option maxHeartbeats 2000000 in
theorem one_calls (w : World) (B : Option Addr) (b n : Nat) (M : List (List Bool)) (st : Bool) (s t : S37) (A3 B3 A4 B4 : Option Addr) (a3 b3 a4 b4 : Nat)
    (hM : Kd.C kRow w B n M) (hq : Sq n M) (h3 : Kd.C Kd.string w A3 s.f3.length s.f3) (h4 : Kd.C (Kd.int .i64) w A4 s.f4.length s.f4) (k3 : Kd.C Kd.string w B3 t.f3.length t.f3) (k4 : Kd.C (Kd.int .i64) w B4 t.f4.length t.f4)
    (ls : s.f3.length ≤ s.f4.length) (lt : t.f3.length ≤ t.f4.length) (vs : s.f0 = 9 → 1 ≤ s.f4.length) (vt : t.f0 = 9 → 1 ≤ t.f4.length) (is : ∀ k ∈ s.f4, 0 ≤ k ∧ k < n) (it : ∀ k ∈ t.f4, 0 ≤ k ∧ k < n) :
    Calls Tryd.prog 78 #[nodeV s A3 a3 A4 a4, nodeV t B3 b3 B4 b4, .slice B n b, .bool st] w fun e w' => e = .returned (.bool (oneB st s t (relT n M))) ∧ Below w.heap.size w w' := by
  unfold nodeV
  have hbW : Below w.heap.size w ((w.alloc (.cells #[.int .i64 s.f0, .int .i64 s.f1, .string s.f2, .slice A3 s.f3.length a3, .slice A4 s.f4.length a4] 37)).alloc (.cells #[.int .i64 t.f0, .int .i64 t.f1, .string t.f2, .slice B3 t.f3.length b3, .slice B4 t.f4.length b4] 37)) := ((Below.refl _ _).alloc (Nat.le_refl _) _).alloc (by simp) _
  have HM := Lib.hid (Kd.C_below hM hbW)
  have H3 := Lib.hid (Kd.C_below h3 hbW)
  have H4 := Lib.hid (Kd.C_below h4 hbW)
  have K3 := Lib.hid (Kd.C_below k3 hbW)
  have K4 := Lib.hid (Kd.C_below k4 hbW)
  have HbW := Lib.hid hbW
  have HQ := Lib.hid hq
  have HIs := Lib.hid is
  have HIt := Lib.hid it
  have HVs := Lib.hid vs
  have HVt := Lib.hid vt
  have bs := h3.2.1
  have bt := k3.2.1
  have p0 : ((w.alloc (.cells #[.int .i64 s.f0, .int .i64 s.f1, .string s.f2, .slice A3 s.f3.length a3, .slice A4 s.f4.length a4] 37)).alloc (.cells #[.int .i64 t.f0, .int .i64 t.f1, .string t.f2, .slice B3 t.f3.length b3, .slice B4 t.f4.length b4] 37)).cell? ⟨w.heap.size, 0, none⟩ = some (.int .i64 s.f0) := cell_alloc _ (by simp)
  have p1 : ((w.alloc (.cells #[.int .i64 s.f0, .int .i64 s.f1, .string s.f2, .slice A3 s.f3.length a3, .slice A4 s.f4.length a4] 37)).alloc (.cells #[.int .i64 t.f0, .int .i64 t.f1, .string t.f2, .slice B3 t.f3.length b3, .slice B4 t.f4.length b4] 37)).cell? ⟨w.heap.size, 1, none⟩ = some (.int .i64 s.f1) := cell_alloc _ (by simp)
  have p2 : ((w.alloc (.cells #[.int .i64 s.f0, .int .i64 s.f1, .string s.f2, .slice A3 s.f3.length a3, .slice A4 s.f4.length a4] 37)).alloc (.cells #[.int .i64 t.f0, .int .i64 t.f1, .string t.f2, .slice B3 t.f3.length b3, .slice B4 t.f4.length b4] 37)).cell? ⟨w.heap.size, 2, none⟩ = some (.string s.f2) := cell_alloc _ (by simp)
  have p3 : ((w.alloc (.cells #[.int .i64 s.f0, .int .i64 s.f1, .string s.f2, .slice A3 s.f3.length a3, .slice A4 s.f4.length a4] 37)).alloc (.cells #[.int .i64 t.f0, .int .i64 t.f1, .string t.f2, .slice B3 t.f3.length b3, .slice B4 t.f4.length b4] 37)).cell? ⟨w.heap.size, 3, none⟩ = some (.slice A3 s.f3.length a3) := cell_alloc _ (by simp)
  have p4 : ((w.alloc (.cells #[.int .i64 s.f0, .int .i64 s.f1, .string s.f2, .slice A3 s.f3.length a3, .slice A4 s.f4.length a4] 37)).alloc (.cells #[.int .i64 t.f0, .int .i64 t.f1, .string t.f2, .slice B3 t.f3.length b3, .slice B4 t.f4.length b4] 37)).cell? ⟨w.heap.size, 4, none⟩ = some (.slice A4 s.f4.length a4) := cell_alloc _ (by simp)
  have q0 : ((w.alloc (.cells #[.int .i64 s.f0, .int .i64 s.f1, .string s.f2, .slice A3 s.f3.length a3, .slice A4 s.f4.length a4] 37)).alloc (.cells #[.int .i64 t.f0, .int .i64 t.f1, .string t.f2, .slice B3 t.f3.length b3, .slice B4 t.f4.length b4] 37)).cell? ⟨w.heap.size + 1, 0, none⟩ = some (.int .i64 t.f0) := by simp
  have q1 : ((w.alloc (.cells #[.int .i64 s.f0, .int .i64 s.f1, .string s.f2, .slice A3 s.f3.length a3, .slice A4 s.f4.length a4] 37)).alloc (.cells #[.int .i64 t.f0, .int .i64 t.f1, .string t.f2, .slice B3 t.f3.length b3, .slice B4 t.f4.length b4] 37)).cell? ⟨w.heap.size + 1, 1, none⟩ = some (.int .i64 t.f1) := by simp
  have q2 : ((w.alloc (.cells #[.int .i64 s.f0, .int .i64 s.f1, .string s.f2, .slice A3 s.f3.length a3, .slice A4 s.f4.length a4] 37)).alloc (.cells #[.int .i64 t.f0, .int .i64 t.f1, .string t.f2, .slice B3 t.f3.length b3, .slice B4 t.f4.length b4] 37)).cell? ⟨w.heap.size + 1, 2, none⟩ = some (.string t.f2) := by simp
  have q3 : ((w.alloc (.cells #[.int .i64 s.f0, .int .i64 s.f1, .string s.f2, .slice A3 s.f3.length a3, .slice A4 s.f4.length a4] 37)).alloc (.cells #[.int .i64 t.f0, .int .i64 t.f1, .string t.f2, .slice B3 t.f3.length b3, .slice B4 t.f4.length b4] 37)).cell? ⟨w.heap.size + 1, 3, none⟩ = some (.slice B3 t.f3.length b3) := by simp
  have q4 : ((w.alloc (.cells #[.int .i64 s.f0, .int .i64 s.f1, .string s.f2, .slice A3 s.f3.length a3, .slice A4 s.f4.length a4] 37)).alloc (.cells #[.int .i64 t.f0, .int .i64 t.f1, .string t.f2, .slice B3 t.f3.length b3, .slice B4 t.f4.length b4] 37)).cell? ⟨w.heap.size + 1, 4, none⟩ = some (.slice B4 t.f4.length b4) := by simp
  clear hM hq h3 h4 k3 k4 hbW is it vs vt
  go_enter Tryd.func78, Tryd.ntmps78
  cases d1 : (s.f0 == 1) with
  | true =>
    have E1 := Lib.hid (show s.f0 = 1 by simpa using d1)
    cases d3 : (s.f0 == t.f0) with
    | true =>
      have HO := Lib.hid (show oneB st s t (relT n M) = true by
        have : s.f0 = t.f0 := by simpa using d3
        unfold oneB; rw [if_pos (.inl E1.out), decide_eq_true this]; rfl)
      go_wp2
      go_ret
      exact ⟨by rw [HO.out]; rfl, HbW.out⟩
    | false =>
      have HO := Lib.hid (show oneB st s t (relT n M) = !st by
        have : ¬ s.f0 = t.f0 := by simpa using d3
        unfold oneB; rw [if_pos (.inl E1.out), decide_eq_false this]; rfl)
      go_wp2
      go_ret
      exact ⟨by rw [HO.out]; rfl, HbW.out⟩
  | false =>
    have E1 := Lib.hid (show ¬ s.f0 = 1 by simpa using d1)
    cases d2 : (t.f0 == 1) with
    | true =>
      have E2 := Lib.hid (show t.f0 = 1 by simpa using d2)
      cases d3 : (s.f0 == t.f0) with
      | true =>
        have : s.f0 = t.f0 := by simpa using d3
        exact absurd (this.trans E2.out) E1.out
      | false =>
        have HO := Lib.hid (show oneB st s t (relT n M) = !st by
          have : ¬ s.f0 = t.f0 := by simpa using d3
          unfold oneB; rw [if_pos (.inr E2.out), decide_eq_false this]; rfl)
        go_wp2
        go_ret
        exact ⟨by rw [HO.out]; rfl, HbW.out⟩
    | false =>
      have E2 := Lib.hid (show ¬ t.f0 = 1 by simpa using d2)
      have hno : ¬ (s.f0 = 1 ∨ t.f0 = 1) := by rintro (h | h); exact E1.out h; exact E2.out h
      cases d3 : (s.f0 != t.f0) with
      | true =>
        have HO := Lib.hid (show oneB st s t (relT n M) = false by
          have : s.f0 ≠ t.f0 := by simpa using d3
          unfold oneB; rw [if_neg hno, if_pos (.inl this)])
        clear hno
        go_wp2
        go_ret
        exact ⟨by rw [HO.out]; rfl, HbW.out⟩
      | false =>
        cases d4 : (s.f1 != t.f1) with
        | true =>
          have HO := Lib.hid (show oneB st s t (relT n M) = false by
            have : s.f1 ≠ t.f1 := by simpa using d4
            unfold oneB; rw [if_neg hno, if_pos (.inr (.inl this))])
          clear hno
          go_wp2
          go_ret
          exact ⟨by rw [HO.out]; rfl, HbW.out⟩
        | false =>
          cases d5 : (s.f2.toList == t.f2.toList) with
          | false =>
            have HO := Lib.hid (show oneB st s t (relT n M) = false by
              have : s.f2 ≠ t.f2 := by rw [str_eq] at d5; exact of_decide_eq_false d5
              unfold oneB; rw [if_neg hno, if_pos (.inr (.inr this))])
            clear hno
            go_wp2
            go_ret
            exact ⟨by rw [HO.out]; rfl, HbW.out⟩
          | true =>
            have HO := Lib.hid (show oneB st s t (relT n M) = (((List.range t.f3.length).all fun i => keyB s t (relT n M) i) && (!decide (s.f0 = 9) || relT n M (rd s.f4 0, rd t.f4 0))) by
              have h1 : s.f0 = t.f0 := by simpa using d3
              have h2 : s.f1 = t.f1 := by simpa using d4
              have h3 : s.f2 = t.f2 := by rw [str_eq] at d5; exact of_decide_eq_true d5
              unfold oneB; rw [if_neg hno, if_neg (by rintro (h | h | h); exact h h1; exact h h2; exact h h3)])
            have E3 := Lib.hid (show s.f0 = t.f0 by simpa using d3)
            clear hno
            go_wp2
            generalize ((w.alloc (.cells #[.int .i64 s.f0, .int .i64 s.f1, .string s.f2, .slice A3 s.f3.length a3, .slice A4 s.f4.length a4] 37)).alloc (.cells #[.int .i64 t.f0, .int .i64 t.f1, .string t.f2, .slice B3 t.f3.length b3, .slice B4 t.f4.length b4] 37)) = w0 at *
            go_loopw [9] (fun s9 W => ∃ i : Nat, i ≤ t.f3.length ∧ s9 = .int .i64 i ∧ Hid (Below w0.heap.size w0 W ∧ ∀ j, j < i → keyB s t (relT n M) j = true)) (fun s9 _ => t.f3.length - (intOf s9).toNat)
            case atStart => exact ⟨0, Nat.zero_le _, rfl, Lib.hid ⟨Below.refl _ _, fun j hj => absurd hj (by omega)⟩⟩
            case round =>
              obtain ⟨i, hi, rfl, HI⟩ := hrel
              have p0' := (HI.out.1.cell (World.block_lt_of_cell? w0 _ p0)).trans p0
              have q0' := (HI.out.1.cell (World.block_lt_of_cell? w0 _ q0)).trans q0
              have p1' := (HI.out.1.cell (World.block_lt_of_cell? w0 _ p1)).trans p1
              have q1' := (HI.out.1.cell (World.block_lt_of_cell? w0 _ q1)).trans q1
              have p2' := (HI.out.1.cell (World.block_lt_of_cell? w0 _ p2)).trans p2
              have q2' := (HI.out.1.cell (World.block_lt_of_cell? w0 _ q2)).trans q2
              have p3' := (HI.out.1.cell (World.block_lt_of_cell? w0 _ p3)).trans p3
              have q3' := (HI.out.1.cell (World.block_lt_of_cell? w0 _ q3)).trans q3
              have p4' := (HI.out.1.cell (World.block_lt_of_cell? w0 _ p4)).trans p4
              have q4' := (HI.out.1.cell (World.block_lt_of_cell? w0 _ q4)).trans q4
              by_cases hlti : i < t.f3.length
              · obtain ⟨w1, hw1⟩ : ∃ w1, w1 = wr := ⟨_, rfl⟩
                subst hw1
                have HI1 := Lib.hid HI.out.1
                go_wp2
                go_loopw [10, 11] (fun s10 s11 W => ∃ k : Nat, k ≤ s.f3.length ∧ s11 = .int .i64 k ∧ s10 = .bool (keyP s t (relT n M) i k) ∧ Hid (Below w0.heap.size w0 W)) (fun _ s11 _ => s.f3.length - (intOf s11).toNat)
                case atStart => exact ⟨0, Nat.zero_le _, rfl, rfl, HI1⟩
                case round =>
                  obtain ⟨k, hk, rfl, rfl, HJ⟩ := hrel
                  have p0'' := (HJ.out.cell (World.block_lt_of_cell? w0 _ p0)).trans p0
                  have q0'' := (HJ.out.cell (World.block_lt_of_cell? w0 _ q0)).trans q0
                  have p1'' := (HJ.out.cell (World.block_lt_of_cell? w0 _ p1)).trans p1
                  have q1'' := (HJ.out.cell (World.block_lt_of_cell? w0 _ q1)).trans q1
                  have p2'' := (HJ.out.cell (World.block_lt_of_cell? w0 _ p2)).trans p2
                  have q2'' := (HJ.out.cell (World.block_lt_of_cell? w0 _ q2)).trans q2
                  have p3'' := (HJ.out.cell (World.block_lt_of_cell? w0 _ p3)).trans p3
                  have q3'' := (HJ.out.cell (World.block_lt_of_cell? w0 _ q3)).trans q3
                  have p4'' := (HJ.out.cell (World.block_lt_of_cell? w0 _ p4)).trans p4
                  have q4'' := (HJ.out.cell (World.block_lt_of_cell? w0 _ q4)).trans q4
                  by_cases hltk : k < s.f3.length
                  · have HP := Lib.hid (keyP_step s t (relT n M) i k)
                    cases hp : keyP s t (relT n M) i k with
                    | true =>
                      have HP2 := Lib.hid (show keyP s t (relT n M) i (k + 1) = true by rw [HP.out, hp]; rfl)
                      clear hp
                      go_wp2
                      go_quiet (fail)
                      go_wp2
                      go_roundw
                      case rel => exact ⟨k + 1, by omega, by go_num, by rw [HP2.out], Lib.hid (below_drewN HJ.out _)⟩
                      case measure => simp [intOf]; omega
                    | false =>
                      obtain ⟨u3, rfl, z3⟩ := str_cell (Kd.C_below H3.out HJ.out) k hltk
                      obtain ⟨v3, rfl, y3⟩ := str_cell (Kd.C_below K3.out HJ.out) i hlti
                      cases he : ((s.f3.getD k ByteArray.empty).toList == (t.f3.getD i ByteArray.empty).toList) with
                      | false =>
                        have HP2 := Lib.hid (show keyP s t (relT n M) i (k + 1) = false by
                          have : ¬ s.f3.getD k ByteArray.empty = t.f3.getD i ByteArray.empty := by rw [str_eq] at he; exact of_decide_eq_false he
                          rw [HP.out, hp, decide_eq_false this]; rfl)
                        clear hp
                        generalize s.f3.getD k ByteArray.empty = S1 at *
                        generalize t.f3.getD i ByteArray.empty = S2 at *
                        go_wp2
                        go_quiet (fail)
                        go_wp2
                        go_roundw
                        case rel => exact ⟨k + 1, by omega, by go_num, by rw [HP2.out], Lib.hid (below_drewN HJ.out _)⟩
                        case measure => simp [intOf]; omega
                      | true =>
                        have lk : k < s.f4.length := by omega
                        have li : i < t.f4.length := by omega
                        obtain ⟨u4, rfl, z4⟩ := int_cell (Kd.C_below H4.out HJ.out) k lk
                        obtain ⟨v4, rfl, y4⟩ := int_cell (Kd.C_below K4.out HJ.out) i li
                        have r1 := HIs.out _ (rd_memI (l := s.f4) (i := (k : Int)) (by omega) (by omega))
                        have r2 := HIt.out _ (rd_memI (l := t.f4) (i := (i : Int)) (by omega) (by omega))
                        obtain ⟨bd, re, rc, rfl, z5, z6⟩ := tab_int (Kd.C_below HM.out HJ.out) HQ.out r1 r2
                        have HP2 := Lib.hid (show keyP s t (relT n M) i (k + 1) = relT n M (rd s.f4 (k : Int), rd t.f4 (i : Int)) by
                          have : s.f3.getD k ByteArray.empty = t.f3.getD i ByteArray.empty := by rw [str_eq] at he; exact of_decide_eq_true he
                          rw [HP.out, hp, decide_eq_true this]; rfl)
                        clear hp
                        generalize s.f3.getD k ByteArray.empty = S1 at *
                        generalize t.f3.getD i ByteArray.empty = S2 at *
                        generalize rd s.f4 (k : Int) = x1 at *
                        generalize rd t.f4 (i : Int) = x2 at *
                        have i1 := r1.1
                        have i2 := r1.2
                        have i3 := r2.1
                        have i4 := r2.2
                        clear r1 r2
                        go_wp2
                        go_quiet (fail)
                        go_wp2
                        go_roundw
                        case rel => exact ⟨k + 1, by omega, by go_num, by rw [HP2.out], Lib.hid (below_drewN HJ.out _)⟩
                        case measure => simp [intOf]; omega
                  · obtain rfl : k = s.f3.length := by omega
                    cases hp : keyP s t (relT n M) i s.f3.length with
                    | false =>
                      have HF := Lib.hid (show oneB st s t (relT n M) = false by
                        rw [HO.out, List.all_eq_false.2 ⟨i, List.mem_range.2 hlti, by rw [show keyB s t (relT n M) i = false from hp]; exact Bool.false_ne_true⟩]; rfl)
                      clear hp
                      go_wp2
                      go_ret
                      exact ⟨by rw [HF.out]; rfl, HbW.out.trans (HJ.out.mono HbW.out.size)⟩
                    | true =>
                      have HK := Lib.hid (show keyB s t (relT n M) i = true from hp)
                      clear hp
                      go_wp2
                      go_roundw
                      case rel => exact ⟨i + 1, by omega, by go_num, Lib.hid ⟨HJ.out, fun j hj => if h : j = i then by rw [h]; exact HK.out else HI.out.2 j (by omega)⟩⟩
                      case measure => simp [intOf]; omega
              · obtain rfl : i = t.f3.length := by omega
                have HA := Lib.hid (show ((List.range t.f3.length).all fun i => keyB s t (relT n M) i) = true from List.all_eq_true.2 fun j hj => HI.out.2 j (List.mem_range.1 hj))
                have HBw := Lib.hid (HbW.out.trans (HI.out.1.mono HbW.out.size))
                cases d9 : (s.f0 != 9) with
                | true =>
                  have HF := Lib.hid (show oneB st s t (relT n M) = true by
                    have : ¬ s.f0 = 9 := by simpa using d9
                    rw [HO.out, HA.out, decide_eq_false this]; rfl)
                  go_wp2
                  go_quiet (fail)
                  go_wp2
                  go_ret
                  exact ⟨by rw [HF.out]; rfl, below_drewN HBw.out _⟩
                | false =>
                  have E9 : s.f0 = 9 := by simpa using d9
                  have l1 := HVs.out E9
                  have l2 := HVt.out (E3.out.symm.trans E9)
                  obtain ⟨u4, rfl, z4⟩ := int_cell (Kd.C_below H4.out HI.out.1) 0 (by omega)
                  obtain ⟨v4, rfl, y4⟩ := int_cell (Kd.C_below K4.out HI.out.1) 0 (by omega)
                  have r1 := HIs.out _ (rd_memI (l := s.f4) (i := ((0 : Nat) : Int)) (by omega) (by omega))
                  have r2 := HIt.out _ (rd_memI (l := t.f4) (i := ((0 : Nat) : Int)) (by omega) (by omega))
                  obtain ⟨bd, re, rc, rfl, z5, z6⟩ := tab_int (Kd.C_below HM.out HI.out.1) HQ.out r1 r2
                  have HF := Lib.hid (show oneB st s t (relT n M) = relT n M (rd s.f4 ((0 : Nat) : Int), rd t.f4 ((0 : Nat) : Int)) by
                    rw [HO.out, HA.out, decide_eq_true E9]; rfl)
                  rw [Addr.add_zero'] at z4 y4
                  generalize rd s.f4 ((0 : Nat) : Int) = x1 at *
                  generalize rd t.f4 ((0 : Nat) : Int) = x2 at *
                  have i1 := r1.1
                  have i2 := r1.2
                  have i3 := r2.1
                  have i4 := r2.2
                  have l1' : 0 < s.f4.length := by omega
                  have l2' : 0 < t.f4.length := by omega
                  clear r1 r2 E9
                  go_wp2
                  go_quiet (fail)
                  go_wp2
                  go_ret
                  exact ⟨by rw [HF.out]; rfl, below_drewN HBw.out _⟩
end Go.Proofs.YtcljgfpcdlnlkaaDoor.Q
namespace Go.Proofs.YtcljgfpcdlnlkaaDoor.Q
open Go.RowKit Go.Proofs.YtcljgfpcdlnlkaaDoorW.PrintWords Mp
theorem may_keys_len {g : List S37} {x : S37} (h : mayB g x = true) : x.f3.length ≤ x.f4.length := by
  by_cases h0 : 0 < x.f3.length
  · have hh := may_parts h
    simp only [headB, Bool.or_eq_false_iff, Bool.and_eq_false_iff, decide_eq_false_iff_not, Classical.not_not, ne_eq] at hh
    have h7 : x.f0 = 7 := by rcases hh.2 with h | h; exact absurd h0 h; exact h
    have := (may_fine h (by omega)).recs h7
    omega
  · omega
/-- Does one of the first k of some do? -/
def memP (st : Bool) (g : List S37) (s : S37) (l : List Int) (R : Rel) (k : Nat) : Bool := (List.range k).any fun (j : Nat) => oneB st s (rd_T37 g (rd l (j : Int))) R
theorem memP_step (st : Bool) (g : List S37) (s : S37) (l : List Int) (R : Rel) (k : Nat) : memP st g s l R (k + 1) = (memP st g s l R k || oneB st s (rd_T37 g (rd l (k : Int))) R) := by
  unfold memP
  rw [List.range_succ, List.any_append]
  simp
theorem any_rd (l : List Int) (f : Int → Bool) : ((List.range l.length).any fun (j : Nat) => f (rd l (j : Int))) = l.any f := by
  rw [Bool.eq_iff_iff, List.any_eq_true, List.any_eq_true]
  constructor
  · rintro ⟨j, hj, h⟩
    exact ⟨_, rd_memI (by omega) (by have := List.mem_range.1 hj; omega), h⟩
  · rintro ⟨x, hx, h⟩
    obtain ⟨j, hj, rfl⟩ := List.getElem_of_mem hx
    refine ⟨j, List.mem_range.2 hj, ?_⟩
    unfold rd
    rw [Int.toNat_natCast, List.getD_eq_getElem?_getD, List.getElem?_eq_getElem hj]
    exact h
theorem all_rd {l : List Int} {f : Int → Bool} (h : ∀ j : Nat, j < l.length → f (rd l (j : Int)) = true) : l.all f = true := by
  rw [List.all_eq_true]
  intro x hx
  obtain ⟨j, hj, rfl⟩ := List.getElem_of_mem hx
  have := h j hj
  unfold rd at this
  rwa [Int.toNat_natCast, List.getD_eq_getElem?_getD, List.getElem?_eq_getElem hj] at this
def doneB (st : Bool) (g : List S37) (b : Int) (R : Rel) (s : Int) : Bool := (decide ((rd_T37 g s).f0 = 9) && R (rd (rd_T37 g s).f4 0, b)) || (membersL g b).any fun k => oneB st (rd_T37 g s) (rd_T37 g k) R
set_option maxRecDepth 100000 in
set_option maxHeartbeats 2000000 in
theorem holds38_calls (w : World) (A : Option Addr) (c : Nat) (g : List S37) (B : Option Addr) (bb : Nat) (M : List (List Bool)) (a b : Int) (st : Bool) (hv : Valid g) (hg : Kd.C k37 w A g.length g) (hM : Kd.C kRow w B g.length M) (hq : Sq g.length M) (hp : InG g (a, b)) :
    Calls Tryd.prog 38 #[.slice A g.length c, .slice B g.length bb, .int .i64 a, .int .i64 b, .bool st] w fun e w' => e = .returned (.bool (holdsL st g a b (relT g.length M))) ∧ Below w.heap.size w w' := by
  have hp0 : 0 ≤ a := hp.1
  have hp1 : a < g.length := hp.2.1
  have hp2 : 0 ≤ b := hp.2.2.1
  have hp3 : b < g.length := hp.2.2.2
  have hfa := (hv.small hp0 hp1).2
  have hfb := (hv.small hp2 hp3).2
  have HMa := Lib.hid (hv.members hp0 hp1)
  have HMb := Lib.hid (hv.members hp2 hp3)
  have HC1 := Lib.hid (members_calls A c g a w hg (by omega))
  have HG := Lib.hid hg
  have HM := Lib.hid hM
  have HQ := Lib.hid hq
  have HV := Lib.hid hv
  have hgl := hv.len
  clear hg hM hq hp hv
  go_enter Tryd.func38, Tryd.ntmps38
  go_wp2_with fail
  refine HC1.out.mono ?_
  clear HC1
  rintro e w1 ⟨va, rfl, hra, hb1⟩
  have HC2 := Lib.hid (members_calls A c g b w1 (Kd.C_below HG.out hb1) (by omega))
  have Hb1 := Lib.hid hb1
  have HRa := Lib.hid hra
  clear hb1 hra hfa hfb
  go_wp2_with fail
  refine HC2.out.mono ?_
  clear HC2
  rintro e w2 ⟨vb, rfl, hrb, hb2⟩
  have Hb2 := Lib.hid (Hb1.out.trans (hb2.mono Hb1.out.size))
  obtain ⟨Ba, ca, rfl, _, hCa⟩ := Kd.R_reads HRa.out
  obtain ⟨Bb, cb, rfl, _, hCb⟩ := Kd.R_reads hrb
  have HXa := Lib.hid (Kd.C_below hCa hb2)
  have HXb := Lib.hid hCb
  replace HG := Lib.hid (Kd.C_below HG.out Hb2.out)
  replace HM := Lib.hid (Kd.C_below HM.out Hb2.out)
  have HH := Lib.hid (show holdsL st g a b (relT g.length M) = (membersL g a).all (doneB st g b (relT g.length M)) from rfl)
  have HD := Lib.hid (show ∀ s, doneB st g b (relT g.length M) s = ((decide ((rd_T37 g s).f0 = 9) && relT g.length M (rd (rd_T37 g s).f4 0, b)) || memP st g (rd_T37 g s) (membersL g b) (relT g.length M) (membersL g b).length) from fun s => by
    unfold doneB memP
    rw [any_rd (membersL g b) (fun k => oneB st (rd_T37 g s) (rd_T37 g k) (relT g.length M))])
  have hla := HMa.out.2
  have hlb := HMb.out.2
  clear hrb hb2 hCa hCb HRa Hb1
  generalize membersL g a = la at *
  generalize membersL g b = lb at *
  go_wp2
  go_loopw [13] (fun s13 W => ∃ k : Nat, k ≤ lb.length ∧ s13 = .int .i64 k ∧ Hid (W = w2)) (fun s13 _ => lb.length - (intOf s13).toNat)
  case atStart => exact ⟨0, Nat.zero_le _, rfl, Lib.hid (by simp)⟩
  case round =>
    obtain ⟨k, hk, rfl, HI⟩ := hrel
    have hww := HI.out.symm
    subst hww
    by_cases hlt : k < lb.length
    · obtain ⟨u, rfl, z⟩ := int_cell HXb.out k hlt
      have hr := HMb.out.1 _ (rd_memI (l := lb) (i := (k : Int)) (by omega) (by omega))
      generalize rd lb (k : Int) = x at z hr
      have dx1 : decide (x < 0) = false := decide_eq_false (by omega)
      have dx2 : decide ((g.length : Int) ≤ x) = false := decide_eq_false (by omega)
      clear hr
      go_wp2
      go_roundw
      case rel => exact ⟨k + 1, by omega, by go_num, Lib.hid (by simp)⟩
      case measure => simp [intOf]; omega
    · obtain rfl : k = lb.length := by omega
      clear HI
      go_wp2
      go_loopw [14] (fun s14 W => ∃ i : Nat, i ≤ la.length ∧ s14 = .int .i64 i ∧ Hid (Below w2.heap.size w2 W ∧ ∀ j : Nat, j < i → doneB st g b (relT g.length M) (rd la (j : Int)) = true)) (fun s14 _ => la.length - (intOf s14).toNat)
      case atStart => exact ⟨0, Nat.zero_le _, rfl, Lib.hid ⟨Below.refl _ _, fun j hj => absurd hj (by omega)⟩⟩
      case round =>
        obtain ⟨i, hi, rfl, HI⟩ := hrel
        by_cases hlti : i < la.length
        · obtain ⟨u, rfl, z⟩ := int_cell (Kd.C_below HXa.out HI.out.1) i hlti
          have hr := HMa.out.1 _ (rd_memI (l := la) (i := (i : Int)) (by omega) (by omega))
          have HDi := Lib.hid (HD.out (rd la (i : Int)))
          have HDj := Lib.hid (show ∀ v, doneB st g b (relT g.length M) (rd la (i : Int)) = v → (v = true → ∀ j : Nat, j < i + 1 → doneB st g b (relT g.length M) (rd la (j : Int)) = true) ∧ (v = false → holdsL st g a b (relT g.length M) = false) from fun v hv => ⟨fun e j hj => if h : j = i then by rw [h, hv]; exact e else HI.out.2 j (by omega), fun e => by
            rw [HH.out, List.all_eq_false]
            exact ⟨_, rd_memI (l := la) (i := (i : Int)) (by omega) (by omega), by rw [hv, e]; exact Bool.false_ne_true⟩⟩)
          have HIb := Lib.hid HI.out.1
          generalize rd la (i : Int) = s0 at z hr HDi HDj
          have i0 := hr.1
          have i1 := hr.2.1
          have HF := Lib.hid (HV.out.fine hr.1 hr.2.1 hr.2.2)
          have HMy := Lib.hid (HV.out.may _ (rd_in hr.1 hr.2.1))
          have HIn := Lib.hid (HV.out.inside hr.1 hr.2.1)
          obtain ⟨ad, S3, c3, S4, c4, rfl, z0, z1, z2, z3, z4, _, hs3, _, hs4⟩ := at_T37 (Kd.C_below HG.out HI.out.1) s0 hr.1 hr.2.1
          have HS3 := Lib.hid hs3
          have HS4 := Lib.hid hs4
          generalize rd_T37 g s0 = s at *
          clear hr hs3 hs4 HI
          obtain ⟨w3, hw3⟩ : ∃ w3, w3 = wr := ⟨_, rfl⟩
          subst hw3
          cases d9 : (s.f0 == 9) with
          | false =>
            have HQ0 := Lib.hid (show doneB st g b (relT g.length M) s0 = (false || memP st g s lb (relT g.length M) lb.length) by
              have : ¬ s.f0 = 9 := by simpa using d9
              rw [HDi.out, decide_eq_false this]; rfl)
            have hba : Below w3.heap.size w3 (w3.alloc (.cells #[.int .i64 s.f0, .int .i64 s.f1, .string s.f2, .slice S3 s.f3.length c3, .slice S4 s.f4.length c4] 37)) := (Below.refl _ _).alloc (Nat.le_refl _) _
            have n0 : (w3.alloc (.cells #[.int .i64 s.f0, .int .i64 s.f1, .string s.f2, .slice S3 s.f3.length c3, .slice S4 s.f4.length c4] 37)).cell? ⟨w3.heap.size, 0, none⟩ = some (.int .i64 s.f0) := by simp
            have n1 : (w3.alloc (.cells #[.int .i64 s.f0, .int .i64 s.f1, .string s.f2, .slice S3 s.f3.length c3, .slice S4 s.f4.length c4] 37)).cell? ⟨w3.heap.size, 1, none⟩ = some (.int .i64 s.f1) := by simp
            have n2 : (w3.alloc (.cells #[.int .i64 s.f0, .int .i64 s.f1, .string s.f2, .slice S3 s.f3.length c3, .slice S4 s.f4.length c4] 37)).cell? ⟨w3.heap.size, 2, none⟩ = some (.string s.f2) := by simp
            have n3 : (w3.alloc (.cells #[.int .i64 s.f0, .int .i64 s.f1, .string s.f2, .slice S3 s.f3.length c3, .slice S4 s.f4.length c4] 37)).cell? ⟨w3.heap.size, 3, none⟩ = some (.slice S3 s.f3.length c3) := by simp
            have n4 : (w3.alloc (.cells #[.int .i64 s.f0, .int .i64 s.f1, .string s.f2, .slice S3 s.f3.length c3, .slice S4 s.f4.length c4] 37)).cell? ⟨w3.heap.size, 4, none⟩ = some (.slice S4 s.f4.length c4) := by simp
            have Hba := Lib.hid hba
            have Hbb := Lib.hid (HIb.out.trans (hba.mono HIb.out.size))
            clear hba
            go_wp2
            clear z z0 z1 z2 z3 z4
            generalize (w3.alloc (.cells #[.int .i64 s.f0, .int .i64 s.f1, .string s.f2, .slice S3 s.f3.length c3, .slice S4 s.f4.length c4] 37)) = wa at *
            go_loopw [16, 17] (fun s16 s17 W => ∃ k : Nat, k ≤ lb.length ∧ s17 = .int .i64 k ∧ s16 = .bool (false || memP st g s lb (relT g.length M) k) ∧ Hid (Below wa.heap.size wa W)) (fun _ s17 _ => lb.length - (intOf s17).toNat)
            case atStart => exact ⟨0, Nat.zero_le _, rfl, by simp [memP], Lib.hid (Below.refl _ _)⟩
            case round =>
              obtain ⟨k, hk, rfl, rfl, HJ⟩ := hrel
              have HJb := Lib.hid (Hbb.out.trans (HJ.out.mono Hbb.out.size))
              have m0 := (HJ.out.cell (World.block_lt_of_cell? wa _ n0)).trans n0
              have m1 := (HJ.out.cell (World.block_lt_of_cell? wa _ n1)).trans n1
              have m2 := (HJ.out.cell (World.block_lt_of_cell? wa _ n2)).trans n2
              have m3 := (HJ.out.cell (World.block_lt_of_cell? wa _ n3)).trans n3
              have m4 := (HJ.out.cell (World.block_lt_of_cell? wa _ n4)).trans n4
              by_cases hltk : k < lb.length
              · have HP := Lib.hid (memP_step st g s lb (relT g.length M) k)
                cases hv1 : (false || memP st g s lb (relT g.length M) k) with
                | true =>
                  have HP2 := Lib.hid (show (false || memP st g s lb (relT g.length M) (k + 1)) = true by rw [HP.out, ← Bool.or_assoc, hv1]; rfl)
                  clear hv1
                  go_wp2
                  go_quiet (fail)
                  go_wp2
                  go_roundw
                  case rel => exact ⟨k + 1, by omega, by go_num, by rw [HP2.out], Lib.hid (below_drewN HJ.out _)⟩
                  case measure => simp [intOf]; omega
                | false =>
                  obtain ⟨v, rfl, y0⟩ := int_cell (Kd.C_below HXb.out HJb.out) k hltk
                  have hr := HMb.out.1 _ (rd_memI (l := lb) (i := (k : Int)) (by omega) (by omega))
                  have HP2 := Lib.hid (show (false || memP st g s lb (relT g.length M) (k + 1)) = oneB st s (rd_T37 g (rd lb (k : Int))) (relT g.length M) by rw [HP.out, ← Bool.or_assoc, hv1]; rfl)
                  generalize rd lb (k : Int) = t0 at y0 hr HP2
                  have j0 := hr.1
                  have j1 := hr.2.1
                  have HFt := Lib.hid (HV.out.fine hr.1 hr.2.1 hr.2.2)
                  have HMt := Lib.hid (HV.out.may _ (rd_in hr.1 hr.2.1))
                  have HIt := Lib.hid (HV.out.inside hr.1 hr.2.1)
                  obtain ⟨ad2, T3, d3, T4, d4, eA, x0, x1, x2, x3, x4, _, ht3, _, ht4⟩ := at_T37 (Kd.C_below HG.out HJb.out) t0 hr.1 hr.2.1
                  obtain rfl := Option.some.inj eA
                  have HT3 := Lib.hid ht3
                  have HT4 := Lib.hid ht4
                  generalize rd_T37 g t0 = t at *
                  clear hr ht3 ht4 eA hv1
                  go_wp2
                  have hbd : Below wr.heap.size wr wr.drew := below_drewN (Below.refl _ _) 1
                  have hb3 : Below w3.heap.size w3 wr.drew := (Hba.out.trans (HJ.out.mono Hba.out.size)).trans (hbd.mono (Nat.le_trans Hba.out.size HJ.out.size))
                  have hc := one_calls wr.drew B bb g.length M st s t S3 T3 S4 T4 c3 d3 c4 d4 (Kd.C_below HM.out (HJb.out.trans (hbd.mono HJb.out.size))) HQ.out (Kd.C_below HS3.out hb3) (Kd.C_below HS4.out hb3) (Kd.C_below HT3.out hbd) (Kd.C_below HT4.out hbd) (may_keys_len HMy.out) (may_keys_len HMt.out) (fun h => by rw [HF.out.vars h]; omega) (fun h => by rw [HFt.out.vars h]; omega) HIn.out HIt.out
                  unfold nodeV at hc
                  have HOne := Lib.hid hc
                  have HJd := Lib.hid (HJ.out.trans (hbd.mono HJ.out.size))
                  clear hc hbd hb3
                  refine wp_region_still_tail 12 (by kernel_rfl) (by kernel_rfl) ?_
                  simp only [List.take_succ_cons, List.take_zero, List.drop_succ_cons, List.drop_zero]
                  change wpStill _ _ wr.drew _ _ _
                  repeat still_step
                  try refine wpStill_nil ?_
                  change wpList _ _ _ _ _ wr.drew
                  go_wp2_with fail
                  refine HOne.out.mono ?_
                  clear HOne
                  rintro e w5 ⟨rfl, hb5⟩
                  have HJ5 := Lib.hid (HJd.out.trans (hb5.mono HJd.out.size))
                  clear hb5
                  go_wp2
                  go_roundw
                  case rel => exact ⟨k + 1, by omega, by go_num, by rw [HP2.out], HJ5⟩
                  case measure => simp [intOf]; omega
              · obtain rfl : k = lb.length := by omega
                cases hv1 : (false || memP st g s lb (relT g.length M) lb.length) with
                | false =>
                  have HO := Lib.hid ((HDj.out false (HQ0.out.trans hv1)).2 rfl)
                  clear hv1
                  go_wp2
                  go_ret
                  exact ⟨by rw [HO.out]; rfl, Hb2.out.trans (HJb.out.mono Hb2.out.size)⟩
                | true =>
                  have HO := Lib.hid ((HDj.out true (HQ0.out.trans hv1)).1 rfl)
                  clear hv1
                  go_wp2
                  go_roundw
                  case rel => exact ⟨i + 1, by omega, by go_num, Lib.hid ⟨HJb.out, HO.out⟩⟩
                  case measure => simp [intOf]; omega
          | true =>
            have e9 : s.f0 = 9 := by simpa using d9
            have l1 : 0 < s.f4.length := by rw [HF.out.vars e9]; decide
            obtain ⟨u4, rfl, z5⟩ := int_cell HS4.out 0 l1
            have r1 := HIn.out _ (rd_memI (l := s.f4) (i := ((0 : Nat) : Int)) (by omega) (by omega))
            obtain ⟨bd, re, rc, rfl, z6, z7⟩ := tab_int (Kd.C_below HM.out HIb.out) HQ.out (x := rd s.f4 ((0 : Nat) : Int)) (y := b) r1 ⟨hp2, hp3⟩
            have HQ0 := Lib.hid (show doneB st g b (relT g.length M) s0 = (relT g.length M (rd s.f4 ((0 : Nat) : Int), b) || memP st g s lb (relT g.length M) lb.length) by
              rw [HDi.out, decide_eq_true e9]; rfl)
            rw [Addr.add_zero'] at z5
            have r1a := r1.1
            have r1b := r1.2
            generalize rd s.f4 ((0 : Nat) : Int) = x9 at *
            clear r1 e9
            have z5a : (w3.alloc (.cells #[.int .i64 s.f0, .int .i64 s.f1, .string s.f2, .slice S3 s.f3.length c3, .slice (some u4) s.f4.length c4] 37)).cell? u4 = some (.int .i64 x9) := cell_alloc _ z5
            have z6a : (w3.alloc (.cells #[.int .i64 s.f0, .int .i64 s.f1, .string s.f2, .slice S3 s.f3.length c3, .slice (some u4) s.f4.length c4] 37)).cell? (bd.add x9.toNat) = some (.slice (some re) g.length rc) := cell_alloc _ z6
            have z7a : (w3.alloc (.cells #[.int .i64 s.f0, .int .i64 s.f1, .string s.f2, .slice S3 s.f3.length c3, .slice (some u4) s.f4.length c4] 37)).cell? (re.add b.toNat) = some (.bool (relT g.length M (x9, b))) := cell_alloc _ z7
            have hba : Below w3.heap.size w3 (w3.alloc (.cells #[.int .i64 s.f0, .int .i64 s.f1, .string s.f2, .slice S3 s.f3.length c3, .slice (some u4) s.f4.length c4] 37)) := (Below.refl _ _).alloc (Nat.le_refl _) _
            have n0 : (w3.alloc (.cells #[.int .i64 s.f0, .int .i64 s.f1, .string s.f2, .slice S3 s.f3.length c3, .slice (some u4) s.f4.length c4] 37)).cell? ⟨w3.heap.size, 0, none⟩ = some (.int .i64 s.f0) := by simp
            have n1 : (w3.alloc (.cells #[.int .i64 s.f0, .int .i64 s.f1, .string s.f2, .slice S3 s.f3.length c3, .slice (some u4) s.f4.length c4] 37)).cell? ⟨w3.heap.size, 1, none⟩ = some (.int .i64 s.f1) := by simp
            have n2 : (w3.alloc (.cells #[.int .i64 s.f0, .int .i64 s.f1, .string s.f2, .slice S3 s.f3.length c3, .slice (some u4) s.f4.length c4] 37)).cell? ⟨w3.heap.size, 2, none⟩ = some (.string s.f2) := by simp
            have n3 : (w3.alloc (.cells #[.int .i64 s.f0, .int .i64 s.f1, .string s.f2, .slice S3 s.f3.length c3, .slice (some u4) s.f4.length c4] 37)).cell? ⟨w3.heap.size, 3, none⟩ = some (.slice S3 s.f3.length c3) := by simp
            have n4 : (w3.alloc (.cells #[.int .i64 s.f0, .int .i64 s.f1, .string s.f2, .slice S3 s.f3.length c3, .slice (some u4) s.f4.length c4] 37)).cell? ⟨w3.heap.size, 4, none⟩ = some (.slice (some u4) s.f4.length c4) := by simp
            have Hba := Lib.hid hba
            have Hbb := Lib.hid (HIb.out.trans (hba.mono HIb.out.size))
            clear hba
            go_wp2
            clear z z0 z1 z2 z3 z4
            generalize (w3.alloc (.cells #[.int .i64 s.f0, .int .i64 s.f1, .string s.f2, .slice S3 s.f3.length c3, .slice (some u4) s.f4.length c4] 37)) = wa at *
            go_loopw [16, 17] (fun s16 s17 W => ∃ k : Nat, k ≤ lb.length ∧ s17 = .int .i64 k ∧ s16 = .bool (relT g.length M (x9, b) || memP st g s lb (relT g.length M) k) ∧ Hid (Below wa.heap.size wa W)) (fun _ s17 _ => lb.length - (intOf s17).toNat)
            case atStart => exact ⟨0, Nat.zero_le _, rfl, by simp [memP], Lib.hid (Below.refl _ _)⟩
            case round =>
              obtain ⟨k, hk, rfl, rfl, HJ⟩ := hrel
              have HJb := Lib.hid (Hbb.out.trans (HJ.out.mono Hbb.out.size))
              have m0 := (HJ.out.cell (World.block_lt_of_cell? wa _ n0)).trans n0
              have m1 := (HJ.out.cell (World.block_lt_of_cell? wa _ n1)).trans n1
              have m2 := (HJ.out.cell (World.block_lt_of_cell? wa _ n2)).trans n2
              have m3 := (HJ.out.cell (World.block_lt_of_cell? wa _ n3)).trans n3
              have m4 := (HJ.out.cell (World.block_lt_of_cell? wa _ n4)).trans n4
              by_cases hltk : k < lb.length
              · have HP := Lib.hid (memP_step st g s lb (relT g.length M) k)
                cases hv1 : (relT g.length M (x9, b) || memP st g s lb (relT g.length M) k) with
                | true =>
                  have HP2 := Lib.hid (show (relT g.length M (x9, b) || memP st g s lb (relT g.length M) (k + 1)) = true by rw [HP.out, ← Bool.or_assoc, hv1]; rfl)
                  clear hv1
                  go_wp2
                  go_quiet (fail)
                  go_wp2
                  go_roundw
                  case rel => exact ⟨k + 1, by omega, by go_num, by rw [HP2.out], Lib.hid (below_drewN HJ.out _)⟩
                  case measure => simp [intOf]; omega
                | false =>
                  obtain ⟨v, rfl, y0⟩ := int_cell (Kd.C_below HXb.out HJb.out) k hltk
                  have hr := HMb.out.1 _ (rd_memI (l := lb) (i := (k : Int)) (by omega) (by omega))
                  have HP2 := Lib.hid (show (relT g.length M (x9, b) || memP st g s lb (relT g.length M) (k + 1)) = oneB st s (rd_T37 g (rd lb (k : Int))) (relT g.length M) by rw [HP.out, ← Bool.or_assoc, hv1]; rfl)
                  generalize rd lb (k : Int) = t0 at y0 hr HP2
                  have j0 := hr.1
                  have j1 := hr.2.1
                  have HFt := Lib.hid (HV.out.fine hr.1 hr.2.1 hr.2.2)
                  have HMt := Lib.hid (HV.out.may _ (rd_in hr.1 hr.2.1))
                  have HIt := Lib.hid (HV.out.inside hr.1 hr.2.1)
                  obtain ⟨ad2, T3, d3, T4, d4, eA, x0, x1, x2, x3, x4, _, ht3, _, ht4⟩ := at_T37 (Kd.C_below HG.out HJb.out) t0 hr.1 hr.2.1
                  obtain rfl := Option.some.inj eA
                  have HT3 := Lib.hid ht3
                  have HT4 := Lib.hid ht4
                  generalize rd_T37 g t0 = t at *
                  clear hr ht3 ht4 eA hv1
                  go_wp2
                  have hbd : Below wr.heap.size wr wr.drew := below_drewN (Below.refl _ _) 1
                  have hb3 : Below w3.heap.size w3 wr.drew := (Hba.out.trans (HJ.out.mono Hba.out.size)).trans (hbd.mono (Nat.le_trans Hba.out.size HJ.out.size))
                  have hc := one_calls wr.drew (some bd) bb g.length M st s t S3 T3 (some u4) T4 c3 d3 c4 d4 (Kd.C_below HM.out (HJb.out.trans (hbd.mono HJb.out.size))) HQ.out (Kd.C_below HS3.out hb3) (Kd.C_below HS4.out hb3) (Kd.C_below HT3.out hbd) (Kd.C_below HT4.out hbd) (may_keys_len HMy.out) (may_keys_len HMt.out) (fun h => by rw [HF.out.vars h]; omega) (fun h => by rw [HFt.out.vars h]; omega) HIn.out HIt.out
                  unfold nodeV at hc
                  have HOne := Lib.hid hc
                  have HJd := Lib.hid (HJ.out.trans (hbd.mono HJ.out.size))
                  clear hc hbd hb3
                  refine wp_region_still_tail 12 (by kernel_rfl) (by kernel_rfl) ?_
                  simp only [List.take_succ_cons, List.take_zero, List.drop_succ_cons, List.drop_zero]
                  change wpStill _ _ wr.drew _ _ _
                  repeat still_step
                  try refine wpStill_nil ?_
                  change wpList _ _ _ _ _ wr.drew
                  go_wp2_with fail
                  refine HOne.out.mono ?_
                  clear HOne
                  rintro e w5 ⟨rfl, hb5⟩
                  have HJ5 := Lib.hid (HJd.out.trans (hb5.mono HJd.out.size))
                  clear hb5
                  go_wp2
                  go_roundw
                  case rel => exact ⟨k + 1, by omega, by go_num, by rw [HP2.out], HJ5⟩
                  case measure => simp [intOf]; omega
              · obtain rfl : k = lb.length := by omega
                cases hv1 : (relT g.length M (x9, b) || memP st g s lb (relT g.length M) lb.length) with
                | false =>
                  have HO := Lib.hid ((HDj.out false (HQ0.out.trans hv1)).2 rfl)
                  clear hv1
                  go_wp2
                  go_ret
                  exact ⟨by rw [HO.out]; rfl, Hb2.out.trans (HJb.out.mono Hb2.out.size)⟩
                | true =>
                  have HO := Lib.hid ((HDj.out true (HQ0.out.trans hv1)).1 rfl)
                  clear hv1
                  go_wp2
                  go_roundw
                  case rel => exact ⟨i + 1, by omega, by go_num, Lib.hid ⟨HJb.out, HO.out⟩⟩
                  case measure => simp [intOf]; omega
        · obtain rfl : i = la.length := by omega
          have HO := Lib.hid (show holdsL st g a b (relT g.length M) = true from HH.out.trans (all_rd HI.out.2))
          go_wp2
          go_ret
          exact ⟨by rw [HO.out]; rfl, Hb2.out.trans (HI.out.1.mono Hb2.out.size)⟩
end Go.Proofs.YtcljgfpcdlnlkaaDoor.Q
namespace Go.Proofs.YtcljgfpcdlnlkaaDoor.Q
open Go.RowKit Go.Proofs.YtcljgfpcdlnlkaaDoorW.PrintWords Mp
/-- A row of n bools, a block of its own. -/
structure RowAt (w : World) (g n : Nat) (r : List Bool) : Prop where
  blk : ∃ cells, w.heap[g]? = some (.cells cells 4 (0, 0)) ∧ cells.size = n ∧ ∀ j, j < n → cells[j]? = some (.bool (r.getD j false))
  len : r.length = n
theorem RowAt.lt {w : World} {g n : Nat} {r : List Bool} (h : RowAt w g n r) : g < w.heap.size := by
  obtain ⟨cells, hb, _⟩ := h.blk
  exact (Array.getElem?_eq_some_iff.1 hb).1
theorem RowAt.keep {w w' : World} {g n : Nat} {r : List Bool} (h : RowAt w g n r) (hb : w'.heap[g]? = w.heap[g]?) : RowAt w' g n r := by
  obtain ⟨cells, h1, h2, h3⟩ := h.blk
  exact ⟨⟨cells, hb.trans h1, h2, h3⟩, h.len⟩
theorem RowAt.cell {w : World} {g n : Nat} {r : List Bool} (h : RowAt w g n r) (j : Nat) (hj : j < n) : w.cell? ⟨g, j, none⟩ = some (.bool (r.getD j false)) := by
  obtain ⟨cells, h1, _, h3⟩ := h.blk
  unfold World.cell?
  rw [show w.heap[(⟨g, j, none⟩ : Addr).block]? = some (.cells cells 4 (0, 0)) from h1]
  exact h3 j hj
theorem RowAt.frozen {w : World} {g n : Nat} {r : List Bool} (h : RowAt w g n r) (j : Nat) : w.frozen? ⟨g, j, none⟩ = false := by
  obtain ⟨cells, h1, _⟩ := h.blk
  exact blk_frozen h1 j
theorem RowAt.C {w : World} {g n : Nat} {r : List Bool} (h : RowAt w g n r) (hn : n ≤ 9223372036854775807) : Kd.C Kd.bool w (some ⟨g, 0, none⟩) r.length r := by
  refine ⟨rfl, by rw [h.len]; exact hn, fun _ => ⟨_, rfl, fun j p hj => ⟨[.bool p], rfl, rfl, fun i u hu => ?_⟩⟩⟩
  match i, hu with
  | 0, hu =>
    have hjl := (List.getElem?_eq_some_iff.1 hj).1
    simp only [List.getElem?_cons_zero, Option.some.injEq] at hu
    subst hu
    rw [show (j * Kd.bool.sz + 0) = j from by show j * 1 + 0 = j; omega, Addr.add_lit, Nat.zero_add, h.cell j (by rw [← h.len]; exact hjl), List.getD_eq_getElem?_getD, hj]
    rfl
  | i + 1, hu => simp at hu
theorem RowAt.set {w : World} {g n : Nat} {r : List Bool} (h : RowAt w g n r) (j : Nat) (v : Bool) : RowAt (w.setCell ⟨g, j, none⟩ (.bool v)) g n (r.set j v) := by
  obtain ⟨cells, h1, h2, h3⟩ := h.blk
  refine ⟨⟨cells.setIfInBounds j (.bool v), ?_, by simp [h2], fun i hi => ?_⟩, by rw [List.length_set]; exact h.len⟩
  · exact heap_setCell_same w g j cells 4 (.bool v) h1
  · have hl := h.len
    rw [Array.getElem?_setIfInBounds, List.getD_eq_getElem?_getD, List.getElem?_set]
    by_cases e : j = i
    · subst e
      rw [if_pos rfl, if_pos rfl, if_pos (by omega), if_pos (by omega)]
      rfl
    · rw [if_neg e, if_neg e, h3 i hi, List.getD_eq_getElem?_getD]
/-- 'make([]bool, n)' makes a row. -/
theorem RowAt.made (w : World) (n : Nat) (z : Bool) : RowAt (w.alloc (.cells (Array.replicate n (.bool z)) 4)) w.heap.size n (List.replicate n z) := by
  refine ⟨⟨_, Array.getElem?_push_size, by simp, fun j hj => ?_⟩, by simp⟩
  simp [hj, List.getD_eq_getElem?_getD]
/-- The first k rows of a table of n. -/
structure MatAt (w : World) (ad : Addr) (n k : Nat) (rb : Nat → Nat) (M : List (List Bool)) : Prop where
  out : ∀ i, i < k → w.cell? (ad.add i) = some (.slice (some ⟨rb i, 0, none⟩) n n)
  row : ∀ i, i < k → RowAt w (rb i) n (M.getD i [])
  ne : ∀ i, i < k → rb i ≠ ad.block
  inj : ∀ i j, i < k → j < k → rb i = rb j → i = j
  len : M.length = k
theorem MatAt.sq {w : World} {ad : Addr} {n : Nat} {rb : Nat → Nat} {M : List (List Bool)} (h : MatAt w ad n n rb M) : Sq n M := ⟨h.len, fun i hi => (h.row i hi).len⟩
theorem MatAt.C {w : World} {ad : Addr} {n : Nat} {rb : Nat → Nat} {M : List (List Bool)} (h : MatAt w ad n n rb M) (hn : n ≤ 9223372036854775807) : Kd.C kRow w (some ad) n M := by
  refine ⟨h.len, hn, fun _ => ⟨ad, rfl, fun j p hj => ?_⟩⟩
  have hjl := (List.getElem?_eq_some_iff.1 hj).1
  rw [h.len] at hjl
  have hp : M.getD j [] = p := by rw [List.getD_eq_getElem?_getD, hj]; rfl
  have hr := h.row j hjl
  rw [hp] at hr
  refine ⟨[.slice (some ⟨rb j, 0, none⟩) p.length n], rfl, ⟨_, _, rfl, by rw [hr.len]; exact Nat.le_refl _, hr.C hn⟩, fun i u hu => ?_⟩
  match i, hu with
  | 0, hu =>
    simp only [List.getElem?_cons_zero, Option.some.injEq] at hu
    subst hu
    rw [show (j * kRow.sz + 0) = j from by show j * 1 + 0 = j; omega, h.out j hjl, hr.len]
  | i + 1, hu => simp at hu
theorem MatAt.keep {w w' : World} {ad : Addr} {n k : Nat} {rb : Nat → Nat} {M : List (List Bool)} (h : MatAt w ad n k rb M) (ha : ad.block < w.heap.size) (hb : ∀ b, b < w.heap.size → w'.heap[b]? = w.heap[b]?) : MatAt w' ad n k rb M :=
  ⟨fun i hi => by
    have := h.out i hi
    have hbk : (ad.add i).block = ad.block := by unfold Addr.add; split <;> rfl
    rw [← this]
    unfold World.cell?
    rw [hb _ (by rw [hbk]; exact ha)], fun i hi => (h.row i hi).keep (hb _ (h.row i hi).lt), h.ne, h.inj, h.len⟩
theorem MatAt.below {w w' : World} {ad : Addr} {n k : Nat} {rb : Nat → Nat} {M : List (List Bool)} (h : MatAt w ad n k rb M) (ha : ad.block < w.heap.size) (hb : Below w.heap.size w w') : MatAt w' ad n k rb M := h.keep ha (fun b hlt => hb.block b hlt)
/-- One cell is written. -/
theorem MatAt.set {w : World} {ad : Addr} {n k : Nat} {rb : Nat → Nat} {M : List (List Bool)} (h : MatAt w ad n k rb M) (a b : Nat) (ha : a < k) (v : Bool) : MatAt (w.setCell ⟨rb a, b, none⟩ (.bool v)) ad n k rb (M.set a ((M.getD a []).set b v)) := by
  have hbk : ∀ i, (ad.add i).block = ad.block := fun i => by unfold Addr.add; split <;> rfl
  refine ⟨fun i hi => ?_, fun i hi => ?_, h.ne, h.inj, by rw [List.length_set]; exact h.len⟩
  · rw [← h.out i hi]
    unfold World.cell?
    rw [Below.heap_setCell _ _ _ _ (by rw [hbk]; exact (h.ne a ha).symm)]
  · rw [getD_set _ _ _ _ _ (by rw [h.len]; exact ha)]
    by_cases e : i = a
    · subst e
      rw [if_pos rfl]
      exact (h.row i hi).set b v
    · rw [if_neg e]
      exact (h.row i hi).keep (Below.heap_setCell _ _ _ _ (fun he => e (h.inj i a hi ha he)))
theorem MatAt.nil (w : World) (ad : Addr) (n : Nat) (rb : Nat → Nat) : MatAt w ad n 0 rb [] := ⟨fun i hi => absurd hi (by omega), fun i hi => absurd hi (by omega), fun i hi => absurd hi (by omega), fun i j hi => absurd hi (by omega), rfl⟩
/-- One more row. -/
theorem MatAt.snoc {w : World} {ad : Addr} {n k : Nat} {rb : Nat → Nat} {M : List (List Bool)} (h : MatAt w ad n k rb M) {g : Nat} {r : List Bool} (hr : RowAt w g n r) (ho : w.cell? (ad.add k) = some (.slice (some ⟨g, 0, none⟩) n n)) (hg : g ≠ ad.block) (hf : ∀ i, i < k → rb i ≠ g) :
    MatAt w ad n (k + 1) (fun i => if i = k then g else rb i) (M ++ [r]) := by
  have hl := h.len
  have hget : ∀ i, i < k → (M ++ [r]).getD i [] = M.getD i [] := fun i hi => by rw [List.getD_eq_getElem?_getD, List.getD_eq_getElem?_getD, List.getElem?_append_left (by omega)]
  refine ⟨fun i hi => ?_, fun i hi => ?_, fun i hi => ?_, fun i j hi hj he => ?_, by simp [hl]⟩
  · by_cases e : i = k
    · subst e; simp only [if_true]; exact ho
    · simp only [e, if_false]; exact h.out i (by omega)
  · by_cases e : i = k
    · subst e
      simp only [if_true]
      rw [show (M ++ [r]).getD i [] = r by rw [List.getD_eq_getElem?_getD, List.getElem?_append_right (by omega), hl, Nat.sub_self]; rfl]
      exact hr
    · simp only [e, if_false]; rw [hget i (by omega)]; exact h.row i (by omega)
  · by_cases e : i = k
    · simp only [e, if_true]; exact hg
    · simp only [e, if_false]; exact h.ne i (by omega)
  · by_cases e1 : i = k <;> by_cases e2 : j = k
    · omega
    · simp only [e1, e2, if_true, if_false] at he
      exact absurd he.symm (hf j (by omega))
    · simp only [e1, e2, if_true, if_false] at he
      exact absurd he (hf i (by omega))
    · simp only [e1, e2, if_false] at he
      exact h.inj i j (by omega) (by omega) he
end Go.Proofs.YtcljgfpcdlnlkaaDoor.Q
namespace Go.Proofs.YtcljgfpcdlnlkaaDoor.Q
open Go.RowKit Go.Proofs.YtcljgfpcdlnlkaaDoorW.PrintWords Mp
/-- A block of n cells that hold slices. -/
structure OutAt (W : World) (O n k : Nat) (rb : Nat → Nat) : Prop where
  blk : ∃ cells, W.heap[O]? = some (.cells cells 45 (0, 0)) ∧ cells.size = n ∧ ∀ i, i < k → cells[i]? = some (.slice (some ⟨rb i, 0, none⟩) n n)
theorem OutAt.keep {W W' : World} {O n k : Nat} {rb : Nat → Nat} (h : OutAt W O n k rb) (hb : W'.heap[O]? = W.heap[O]?) : OutAt W' O n k rb := by
  obtain ⟨cells, h1, h2, h3⟩ := h.blk
  exact ⟨cells, hb.trans h1, h2, h3⟩
theorem OutAt.lt {W : World} {O n k : Nat} {rb : Nat → Nat} (h : OutAt W O n k rb) : O < W.heap.size := by
  obtain ⟨cells, hb, _⟩ := h.blk
  exact (Array.getElem?_eq_some_iff.1 hb).1
theorem OutAt.has {W : World} {O n k : Nat} {rb : Nat → Nat} (h : OutAt W O n k rb) (i : Nat) (hi : i < n) : ∃ v, W.cell? ⟨O, i, none⟩ = some v := by
  obtain ⟨cells, h1, h2, _⟩ := h.blk
  refine ⟨cells[i]'(by omega), ?_⟩
  unfold World.cell?
  rw [show W.heap[(⟨O, i, none⟩ : Addr).block]? = some (.cells cells 45 (0, 0)) from h1]
  show cells[i]? = _
  exact Array.getElem?_eq_getElem (by omega)
theorem OutAt.frozen {W : World} {O n k : Nat} {rb : Nat → Nat} (h : OutAt W O n k rb) (i : Nat) : W.frozen? ⟨O, i, none⟩ = false := by
  obtain ⟨cells, h1, _⟩ := h.blk
  exact blk_frozen h1 i
theorem OutAt.cell {W : World} {O n k : Nat} {rb : Nat → Nat} (h : OutAt W O n k rb) (i : Nat) (hi : i < k) : W.cell? ⟨O, i, none⟩ = some (.slice (some ⟨rb i, 0, none⟩) n n) := by
  obtain ⟨cells, h1, _, h3⟩ := h.blk
  unfold World.cell?
  rw [show W.heap[(⟨O, i, none⟩ : Addr).block]? = some (.cells cells 45 (0, 0)) from h1]
  exact h3 i hi
theorem OutAt.put {W : World} {O n k : Nat} {rb : Nat → Nat} (h : OutAt W O n k rb) (hk : k < n) (g : Nat) : OutAt (W.setCell ⟨O, k, none⟩ (.slice (some ⟨g, 0, none⟩) n n)) O n (k + 1) (fun i => if i = k then g else rb i) := by
  obtain ⟨cells, h1, h2, h3⟩ := h.blk
  refine ⟨cells.setIfInBounds k (.slice (some ⟨g, 0, none⟩) n n), heap_setCell_same W O k cells 45 _ h1, by simp [h2], fun i hi => ?_⟩
  rw [Array.getElem?_setIfInBounds]
  by_cases e : k = i
  · subst e
    rw [if_pos rfl, if_pos (by omega), if_pos rfl]
  · rw [if_neg e, h3 i (by omega), if_neg (fun he => e he.symm)]
/-- The first k rows, in the block O. -/
structure RowsAt (W : World) (O n k : Nat) (rb : Nat → Nat) (M : List (List Bool)) : Prop where
  out : OutAt W O n k rb
  row : ∀ i, i < k → RowAt W (rb i) n (M.getD i [])
  ne : ∀ i, i < k → rb i ≠ O
  inj : ∀ i j, i < k → j < k → rb i = rb j → i = j
  len : M.length = k
theorem RowsAt.mat {W : World} {O n k : Nat} {rb : Nat → Nat} {M : List (List Bool)} (h : RowsAt W O n k rb M) : MatAt W ⟨O, 0, none⟩ n k rb M :=
  ⟨fun i hi => by rw [Addr.add_lit, Nat.zero_add]; exact h.out.cell i hi, h.row, h.ne, h.inj, h.len⟩
theorem RowsAt.keep {W W' : World} {O n k : Nat} {rb : Nat → Nat} {M : List (List Bool)} (h : RowsAt W O n k rb M) (hb : ∀ b, b < W.heap.size → W'.heap[b]? = W.heap[b]?) : RowsAt W' O n k rb M :=
  ⟨h.out.keep (hb _ h.out.lt), fun i hi => (h.row i hi).keep (hb _ (h.row i hi).lt), h.ne, h.inj, h.len⟩
/-- 'make([][]bool, n)'. -/
theorem make_rows (w : World) (n : Nat) (hn : n ≤ 4000000) (rb : Nat → Nat) : ∃ w', (Instr.makeSlice 41 (.int .i64 (n : Int)) (.int .i64 (n : Int))).run Tryd.prog w = .ok (.slice (some ⟨w.heap.size, 0, none⟩) n n) w' ∧ OutAt w' w.heap.size n 0 rb ∧ Below w.heap.size w w' ∧ w'.heap.size = w.heap.size + 1 := by
  obtain ⟨i0, hi, hzz⟩ := Option.map_eq_some_iff.1 info45
  simp only [Prod.mk.injEq] at hzz
  obtain ⟨hz0, hz1, hz2⟩ := hzz
  have hr := run_make (P := Tryd.prog) w 41 45 i0 _ Tryd.underlying41 hi hz0 .i64 .i64 (n : Int) (n : Int) (by omega) (by omega) (by rw [hz2]; omega) (by omega)
  rw [hz1] at hr
  refine ⟨_, hr, ⟨_, Array.getElem?_push_size, ?_, fun i hi => absurd hi (by omega)⟩, (Below.refl _ _).alloc (Nat.le_refl _) _, by simp⟩
  simp [size_madeCells]
theorem make_row (w : World) (n : Nat) (hn : n ≤ 4000000) : ∃ w', (Instr.makeSlice 45 (.int .i64 (n : Int)) (.int .i64 (n : Int))).run Tryd.prog w = .ok (.slice (some ⟨w.heap.size, 0, none⟩) n n) w' ∧ RowAt w' w.heap.size n (List.replicate n false) ∧ Below w.heap.size w w' ∧ w'.heap.size = w.heap.size + 1 := by
  obtain ⟨i0, hi, hzz⟩ := Option.map_eq_some_iff.1 info4
  simp only [Prod.mk.injEq] at hzz
  obtain ⟨hz0, hz1, hz2⟩ := hzz
  have hr := run_make (P := Tryd.prog) w 45 4 i0 _ Tryd.underlying45 hi hz0 .i64 .i64 (n : Int) (n : Int) (by omega) (by omega) (by rw [hz2]; omega) (by omega)
  rw [hz1] at hr
  refine ⟨_, hr, ⟨⟨_, Array.getElem?_push_size, ?_, fun j hj => ?_⟩, by simp⟩, (Below.refl _ _).alloc (Nat.le_refl _) _, by simp⟩
  · simp [size_madeCells]
  · rw [show (Value.bool false).cells = #[Value.bool false] from rfl, ← Array.getElem?_toList, toList_madeCells_one]
    simp [hj, List.getD_eq_getElem?_getD]
/-- RowsAt, while one is filled: the first j of row k are true. -/
structure Fill (W : World) (O n k j : Nat) (rb : Nat → Nat) (g : Nat) : Prop where
  rows : RowsAt W O n k rb (List.replicate k (List.replicate n true))
  out : OutAt W O n (k + 1) (fun i => if i = k then g else rb i)
  row : ∃ r, RowAt W g n r ∧ ∀ i, i < j → r.getD i false = true
  ne : g ≠ O
  new : ∀ i, i < k → rb i ≠ g
theorem getD_rep {α : Type} {n i : Nat} {x d : α} (h : i < n) : (List.replicate n x).getD i d = x := by
  rw [List.getD_eq_getElem?_getD, List.getElem?_replicate, if_pos h]; rfl
theorem OutAt.less {W : World} {O n k : Nat} {rb rb' : Nat → Nat} (h : OutAt W O n (k + 1) rb') (e : ∀ i, i < k → rb' i = rb i) : OutAt W O n k rb := by
  obtain ⟨cells, h1, h2, h3⟩ := h.blk
  exact ⟨cells, h1, h2, fun i hi => by rw [h3 i (by omega), e i hi]⟩
theorem RowsAt.put {W : World} {O n k : Nat} {rb : Nat → Nat} {M : List (List Bool)} (h : RowsAt W O n k rb M) (a b : Nat) (ha : a < k) (v : Bool) : RowsAt (W.setCell ⟨rb a, b, none⟩ (.bool v)) O n k rb (M.set a ((M.getD a []).set b v)) := by
  refine ⟨h.out.keep (Below.heap_setCell _ _ _ _ (h.ne a ha).symm), fun i hi => ?_, h.ne, h.inj, by rw [List.length_set]; exact h.len⟩
  rw [getD_set _ _ _ _ _ (by rw [h.len]; exact ha)]
  by_cases e : i = a
  · subst e
    rw [if_pos rfl]
    exact (h.row i hi).set b v
  · rw [if_neg e]
    exact (h.row i hi).keep (Below.heap_setCell _ _ _ _ (fun he => e (h.inj i a hi ha he)))
theorem RowsAt.below {W W' : World} {O n k : Nat} {rb : Nat → Nat} {M : List (List Bool)} (h : RowsAt W O n k rb M) (hb : Below W.heap.size W W') : RowsAt W' O n k rb M := h.keep (fun b hlt => hb.block b hlt)
theorem RowsAt.cellT {W : World} {O n k : Nat} {rb : Nat → Nat} {M : List (List Bool)} (h : RowsAt W O n k rb M) (i j : Nat) (hi : i < k) (hj : j < n) : W.cell? ⟨O, i, none⟩ = some (.slice (some ⟨rb i, 0, none⟩) n n) ∧ W.cell? ⟨rb i, j, none⟩ = some (.bool (getT M i j)) ∧ W.frozen? ⟨rb i, j, none⟩ = false := ⟨h.out.cell i hi, (h.row i hi).cell j hj, (h.row i hi).frozen j⟩
/-- A new row is laid into the table. -/
theorem Fill.start {W W' : World} {O n k : Nat} {rb : Nat → Nat} {g : Nat} (h : RowsAt W O n k rb (List.replicate k (List.replicate n true))) (hk : k < n) (hb : Below W.heap.size W W') (hg : g = W.heap.size) (hr : RowAt W' g n (List.replicate n false)) : Fill (W'.setCell ⟨O, k, none⟩ (.slice (some ⟨g, 0, none⟩) n n)) O n k 0 rb g := by
  have hO : O < W.heap.size := h.out.lt
  have hoth : ∀ b, b ≠ O → (W'.setCell ⟨O, k, none⟩ (.slice (some ⟨g, 0, none⟩) n n)).heap[b]? = W'.heap[b]? := fun b hb => Below.heap_setCell _ _ _ _ hb
  have h1 := (h.below hb).out.put hk g
  refine ⟨⟨h1.less (fun i hi => by rw [if_neg (by omega)]), fun i hi => ((h.below hb).row i hi).keep (hoth _ (h.ne i hi)), h.ne, h.inj, h.len⟩, h1, ⟨_, hr.keep (hoth _ (by omega)), fun i hi => absurd hi (by omega)⟩, by omega, fun i hi => by have := (h.row i hi).lt; omega⟩
theorem Fill.write {W : World} {O n k j : Nat} {rb : Nat → Nat} {g : Nat} (h : Fill W O n k j rb g) (hj : j < n) : Fill (W.setCell ⟨g, j, none⟩ (.bool true)) O n k (j + 1) rb g := by
  obtain ⟨r, hr, ht⟩ := h.row
  have hother : ∀ b, b ≠ g → (W.setCell ⟨g, j, none⟩ (.bool true)).heap[b]? = W.heap[b]? := fun b hb => Below.heap_setCell _ _ _ _ hb
  refine ⟨⟨h.rows.out.keep (hother _ h.ne.symm), fun i hi => (h.rows.row i hi).keep (hother _ (h.new i hi)), h.rows.ne, h.rows.inj, h.rows.len⟩, h.out.keep (hother _ h.ne.symm), ⟨_, hr.set j true, fun i hi => ?_⟩, h.ne, h.new⟩
  by_cases e : i = j
  · subst e
    rw [getD_set _ _ _ _ _ (by rw [hr.len]; exact hj), if_pos rfl]
  · rw [List.getD_eq_getElem?_getD, List.getElem?_set, if_neg (fun he => e he.symm), ← List.getD_eq_getElem?_getD]
    exact ht i (by omega)
theorem Fill.done {W : World} {O n k : Nat} {rb : Nat → Nat} {g : Nat} (h : Fill W O n k n rb g) : RowsAt W O n (k + 1) (fun i => if i = k then g else rb i) (List.replicate (k + 1) (List.replicate n true)) := by
  obtain ⟨r, hr, ht⟩ := h.row
  have hrr : r = List.replicate n true := by
    refine List.ext_getElem (by rw [hr.len, List.length_replicate]) fun i h1 h2 => ?_
    have := ht i (by rw [← hr.len]; exact h1)
    rw [List.getD_eq_getElem?_getD, List.getElem?_eq_getElem h1] at this
    rw [List.getElem_replicate]
    exact this
  rw [hrr] at hr
  refine ⟨h.out, fun i hi => ?_, fun i hi => ?_, fun i j hi hj he => ?_, by simp⟩
  · rw [getD_rep hi]
    by_cases e : i = k
    · simp only [e, if_true]; exact hr
    · simp only [e, if_false]
      have := h.rows.row i (by omega)
      rwa [getD_rep (show i < k by omega)] at this
  · by_cases e : i = k
    · simp only [e, if_true]; exact h.ne
    · simp only [e, if_false]; exact h.rows.ne i (by omega)
  · by_cases e1 : i = k <;> by_cases e2 : j = k
    · omega
    · simp only [e1, e2, if_true, if_false] at he
      exact absurd he.symm (h.new j (by omega))
    · simp only [e1, e2, if_true, if_false] at he
      exact absurd he (h.new i (by omega))
    · simp only [e1, e2, if_false] at he
      exact h.rows.inj i j (by omega) (by omega) he
/-- All that is in a table holds, as far as the table says. -/
def AllHold (st : Bool) (g : List S37) (M : List (List Bool)) : Prop := ∀ i j : Nat, i < g.length → j < g.length → getT M i j = true → holdsB st g ((i : Int), (j : Int)) (relT g.length M) = true
/-- A pass over a table that was M0, come to (i, j). -/
structure Pass (st : Bool) (g : List S37) (W : World) (O : Nat) (M0 : List (List Bool)) (i j : Nat) (mo : Bool) (rb : Nat → Nat) (M : List (List Bool)) : Prop where
  rows : RowsAt W O g.length g.length rb M
  fix : Fix st g M
  same : mo = false → M = M0 ∧ ∀ a b : Nat, a < g.length → b < g.length → (a < i ∨ (a = i ∧ b < j)) → getT M a b = true → holdsB st g ((a : Int), (b : Int)) (relT g.length M) = true
  less : mo = true → cntT M < cntT M0
theorem Pass.next {st : Bool} {g : List S37} {W W' : World} {O : Nat} {M0 : List (List Bool)} {i j : Nat} {mo : Bool} {rb : Nat → Nat} {M : List (List Bool)} (h : Pass st g W O M0 i j mo rb M) (hb : Below W.heap.size W W') (hx : getT M i j = true → holdsB st g ((i : Int), (j : Int)) (relT g.length M) = true) : Pass st g W' O M0 i (j + 1) mo rb M :=
  ⟨h.rows.below hb, h.fix, fun e => ⟨(h.same e).1, fun a b ha hb hab hg => by
    by_cases he : a = i ∧ b = j
    · obtain ⟨rfl, rfl⟩ := he
      exact hx hg
    · exact (h.same e).2 a b ha hb (by omega) hg⟩, h.less⟩
theorem Pass.take {st : Bool} {g : List S37} {W W' : World} {O : Nat} {M0 : List (List Bool)} {i j : Nat} {mo : Bool} {rb : Nat → Nat} {M : List (List Bool)} (h : Pass st g W O M0 i j mo rb M) (hv : Valid g) (hb : Below W.heap.size W W') (hi : i < g.length) (hj : j < g.length) (ht : getT M i j = true) (hx : holdsB st g ((i : Int), (j : Int)) (relT g.length M) = false) : Pass st g (W'.setCell ⟨rb i, j, none⟩ (.bool false)) O M0 i (j + 1) true rb (setT M i j) :=
  ⟨(h.rows.below hb).put i j hi false, h.fix.step hv hi hj hx, fun e => (by cases e), fun _ => by
    have h1 := cntT_set ht
    cases mo with
    | true => have := h.less rfl; omega
    | false => have := (h.same rfl).1; rw [this] at h1 ⊢; exact h1⟩
theorem Pass.row {st : Bool} {g : List S37} {W : World} {O : Nat} {M0 : List (List Bool)} {i : Nat} {mo : Bool} {rb : Nat → Nat} {M : List (List Bool)} (h : Pass st g W O M0 i g.length mo rb M) : Pass st g W O M0 (i + 1) 0 mo rb M :=
  ⟨h.rows, h.fix, fun e => ⟨(h.same e).1, fun a b ha hb hab hg => (h.same e).2 a b ha hb (by omega) hg⟩, h.less⟩
end Go.Proofs.YtcljgfpcdlnlkaaDoor.Q
namespace Go.Proofs.YtcljgfpcdlnlkaaDoor.Q
open Go.RowKit Go.Proofs.YtcljgfpcdlnlkaaDoorW.PrintWords Mp
set_option maxRecDepth 100000 in
set_option maxHeartbeats 1000000 in
theorem rules_walk (w : World) (A : Option Addr) (c : Nat) (l : List S119) (st : Bool) (hk : KeysIn w) (hl : Kd.C k119 w A l.length l) (hc : l.length ≤ c) :
    Calls Tryd.prog 7 #[.slice A l.length c, .bool st] w fun e w' => e = .returned (.bool true) ∧ Below w.heap.size w w' := by
  have HKw := Lib.hid hk
  have HMd := Lib.hid (made_calls A c l true w hl hc)
  clear hk hl hc
  go_enter Tryd.func7, Tryd.ntmps7
  go_wp2_with fail
  refine HMd.out.mono ?_
  clear HMd
  rintro e w1 ⟨v, g, rfl, hR, hgl, hM, hb⟩
  have HB1 := Lib.hid hb
  have hlen : g.length ≤ 14 := by omega
  have HS := Lib.hid (made_short hM)
  have HKs := Lib.hid (made_keys hM)
  have hck := made_check hM (by omega)
  have HV := Lib.hid (valid_of_check hck)
  obtain ⟨A1, c1, rfl, hc1, hC1⟩ := Kd.R_reads hR
  have HAll := Lib.hid (all_told w1 A1 c1 g st hck (HKw.out.below hb) hC1 HS.out)
  have HC1 := Lib.hid hC1
  clear hb hgl hM hR hC1 hc1 hck
  go_wp2_with fail
  refine HAll.out.mono ?_
  clear HAll
  rintro e w2 ⟨B, bb, Mt, rfl, hM2, hT, hb2⟩
  have HB2 := Lib.hid (HB1.out.trans (hb2.mono HB1.out.size))
  have HC2 := Lib.hid (Kd.C_below HC1.out hb2)
  have HM2 := Lib.hid hM2
  have HT := Lib.hid hT
  clear hb2 hM2 hT HC1 HB1
  obtain ⟨w3, hmk, hO3, hb3, hs3⟩ := make_rows w2 g.length (by omega) (fun _ => 0)
  have Hb3 := Lib.hid hb3
  have HR0 := Lib.hid (show RowsAt w3 w2.heap.size g.length 0 (fun _ => 0) (List.replicate 0 (List.replicate g.length true)) from ⟨hO3, fun i hi => absurd hi (by omega), fun i hi => absurd hi (by omega), fun i j hi => absurd hi (by omega), rfl⟩)
  have HO := Lib.hid (Nat.le_refl w2.heap.size)
  clear hb3 hO3 hs3
  go_wp2
  clear hmk
  obtain ⟨O, hOe⟩ : ∃ O, O = w2.heap.size := ⟨_, rfl⟩
  rw [← hOe] at HR0 ⊢
  have hOle : w2.heap.size ≤ O := by omega
  clear hOe
  go_loopw [9] (fun s9 W => ∃ k : Nat, k ≤ g.length ∧ s9 = .int .i64 k ∧ Hid (∃ rb, RowsAt W O g.length k rb (List.replicate k (List.replicate g.length true)) ∧ (∀ i, i < k → w2.heap.size ≤ rb i) ∧ Below w2.heap.size w2 W)) (fun s9 _ => g.length - (intOf s9).toNat)
  case atStart => exact ⟨0, Nat.zero_le _, rfl, Lib.hid ⟨_, HR0.out, fun i hi => absurd hi (by omega), Hb3.out⟩⟩
  case round =>
    obtain ⟨k, hk, rfl, HI⟩ := hrel
    by_cases hlt : k < g.length
    · obtain ⟨rb, hRw, hlo, hB⟩ := HI.out
      have HLo := Lib.hid hlo
      obtain ⟨bd, R1, d1, rfl, p1, _⟩ := tab_row (Kd.C_below HM2.out hB) k hlt
      rw [HT.out.sq.row k hlt] at p1
      obtain ⟨w4, hmk, hrow4, hb4, hs4⟩ := make_row wr g.length (by omega)
      obtain ⟨v0, hv0⟩ := (hRw.out.keep (hb4.block _ hRw.out.lt)).has k hlt
      have hf0 := (hRw.out.keep (hb4.block _ hRw.out.lt)).frozen k
      have HF := Lib.hid (Fill.start hRw hlt hb4 rfl hrow4)
      have HBf := Lib.hid (show Below w2.heap.size w2 (w4.setCell ⟨O, k, none⟩ (.slice (some ⟨wr.heap.size, 0, none⟩) g.length g.length)) from (hB.trans (hb4.mono hB.size)).setCell hOle _)
      have hgle : w2.heap.size ≤ wr.heap.size := hB.size
      clear hRw hB hrow4 hb4 hs4 HI hlo
      go_wp2
      clear hmk hv0 hf0 p1
      obtain ⟨gb, hgb⟩ : ∃ gb, gb = wr.heap.size := ⟨_, rfl⟩
      rw [← hgb] at HF HBf hgle ⊢
      clear hgb
      go_loopw [10] (fun s10 W => ∃ j : Nat, j ≤ g.length ∧ s10 = .int .i64 j ∧ Hid (Fill W O g.length k j rb gb ∧ Below w2.heap.size w2 W)) (fun s10 _ => g.length - (intOf s10).toNat)
      case atStart => exact ⟨0, Nat.zero_le _, rfl, Lib.hid ⟨HF.out, HBf.out⟩⟩
      case round =>
        obtain ⟨j, hj, rfl, HJ⟩ := hrel
        by_cases hltj : j < g.length
        · obtain ⟨r, hr, _⟩ := HJ.out.1.row
          have z1 := HJ.out.1.out.cell k (by omega)
          rw [if_pos rfl] at z1
          have z2 := hr.cell j hltj
          have z3 := hr.frozen j
          clear hr
          go_wp2
          go_roundw
          case rel => exact ⟨j + 1, by omega, by go_num, Lib.hid ⟨HJ.out.1.write hltj, HJ.out.2.setCell hgle _⟩⟩
          case measure => simp [intOf]; omega
        · obtain rfl : j = g.length := by omega
          go_wp2
          go_roundw
          case rel => exact ⟨k + 1, by omega, by go_num, Lib.hid ⟨_, HJ.out.1.done, fun i hi => by
            by_cases e : i = k
            · rw [if_pos e]; exact hgle
            · rw [if_neg e]; exact HLo.out i (by omega), HJ.out.2⟩⟩
          case measure => simp [intOf]; omega
    · obtain rfl : k = g.length := by omega
      obtain ⟨rb0, hRw, hlo, hB⟩ := HI.out
      have HP0 := Lib.hid hRw
      have HLo := Lib.hid hlo
      have HB0 := Lib.hid hB
      clear hRw hlo hB HI HR0 Hb3 HO
      go_wp2
      go_loopg [11] (cntT (List.replicate g.length (List.replicate g.length true)) + 1) (fun fuel s11 W => ∃ mo : Bool, s11 = .bool mo ∧ Hid (∃ M, RowsAt W O g.length g.length rb0 M ∧ Fix st g M ∧ Below w2.heap.size w2 W ∧ cntT M + (if mo = true then 1 else 0) ≤ fuel ∧ (mo = false → AllHold st g M)))
      case atStart => exact ⟨true, rfl, Lib.hid ⟨_, HP0.out, Fix.full st g, HB0.out, by simp, fun e => by cases e⟩⟩
      case round =>
        obtain ⟨mo, rfl, HI⟩ := hrel
        obtain ⟨M0, hRw, hFx, hB, hfu, hall⟩ := HI.out
        have HRw := Lib.hid hRw
        have HFx := Lib.hid hFx
        have HB := Lib.hid hB
        have HFu := Lib.hid hfu
        have HAl := Lib.hid hall
        clear hRw hFx hB hfu hall HI
        cases mo with
        | true =>
          go_wp2
          go_loopw [11, 12] (fun s11 s12 W => ∃ i : Nat, ∃ mo : Bool, i ≤ g.length ∧ s12 = .int .i64 i ∧ s11 = .bool mo ∧ Hid (∃ M, Pass st g W O M0 i 0 mo rb0 M ∧ Below w2.heap.size w2 W)) (fun _ s12 _ => g.length - (intOf s12).toNat)
          case atStart => exact ⟨0, false, Nat.zero_le _, rfl, rfl, Lib.hid ⟨M0, ⟨HRw.out, HFx.out, fun _ => ⟨rfl, fun a b ha hb hab => by omega⟩, fun e => by cases e⟩, HB.out⟩⟩
          case round =>
            obtain ⟨i, mo, hi, rfl, rfl, HJ⟩ := hrel
            by_cases hlti : i < g.length
            · go_wp2
              go_loopw [11, 13] (fun s11 s13 W => ∃ j : Nat, ∃ mo : Bool, j ≤ g.length ∧ s13 = .int .i64 j ∧ s11 = .bool mo ∧ Hid (∃ M, Pass st g W O M0 i j mo rb0 M ∧ Below w2.heap.size w2 W)) (fun _ s13 _ => g.length - (intOf s13).toNat)
              case atStart => exact ⟨0, mo, Nat.zero_le _, rfl, rfl, HJ⟩
              case round =>
                clear HJ
                obtain ⟨j, mo2, hj, rfl, rfl, HJ⟩ := hrel
                obtain ⟨M, hP, hB⟩ := HJ.out
                have HP := Lib.hid hP
                have HBw := Lib.hid hB
                clear hP hB HJ
                by_cases hltj : j < g.length
                · obtain ⟨z1, z2, z3⟩ := HP.out.rows.cellT i j hlti hltj
                  cases hx : getT M i j with
                  | false =>
                    rw [hx] at z2
                    have HN := Lib.hid (HP.out.next (Below.refl _ _) (fun e => by rw [hx] at e; cases e))
                    clear hx
                    go_wp2
                    go_roundw
                    case rel => exact ⟨j + 1, mo2, by omega, by go_num, rfl, Lib.hid ⟨M, HN.out, HBw.out⟩⟩
                    case measure => simp [intOf]; omega
                  | true =>
                    rw [hx] at z2
                    have Hx := Lib.hid hx
                    have hin : InG g ((i : Int), (j : Int)) := ⟨by simp only; omega, by simp only; omega, by simp only; omega, by simp only; omega⟩
                    have HHo := Lib.hid (holds38_calls wr A1 c1 g (some ⟨O, 0, none⟩) g.length M i j st HV.out (Kd.C_below HC2.out HBw.out) (HP.out.rows.mat.C (by omega)) HP.out.rows.mat.sq hin)
                    rw [holdsL_eq HV.out HKs.out hin] at HHo
                    have HQ := Lib.hid (show ∀ q, holdsB st g ((i : Int), (j : Int)) (relT g.length M) = q → holdsB st g ((i : Int), (j : Int)) (relT g.length M) = q from fun q h => h)
                    clear hx hin
                    cases hq : holdsB st g ((i : Int), (j : Int)) (relT g.length M) with
                    | true =>
                      rw [hq] at HHo
                      have Hq := Lib.hid hq
                      clear hq HQ
                      go_wp2_with fail
                      refine HHo.out.mono ?_
                      clear HHo
                      rintro e w5 ⟨rfl, hb5⟩
                      have HN := Lib.hid (HP.out.next hb5 (fun _ => Hq.out))
                      have HB5 := Lib.hid (HBw.out.trans (hb5.mono HBw.out.size))
                      clear hb5
                      go_wp2
                      go_roundw
                      case rel => exact ⟨j + 1, mo2, by omega, by go_num, rfl, Lib.hid ⟨M, HN.out, HB5.out⟩⟩
                      case measure => simp [intOf]; omega
                    | false =>
                      rw [hq] at HHo
                      have Hq := Lib.hid hq
                      clear hq HQ
                      go_wp2_with fail
                      refine HHo.out.mono ?_
                      clear HHo
                      rintro e w5 ⟨rfl, hb5⟩
                      have HN := Lib.hid (HP.out.take HV.out hb5 hlti hltj Hx.out Hq.out)
                      obtain ⟨y1, y2, y3⟩ := (HP.out.rows.below hb5).cellT i j hlti hltj
                      have HB5 := Lib.hid (show Below w2.heap.size w2 (w5.setCell ⟨rb0 i, j, none⟩ (.bool false)) from (HBw.out.trans (hb5.mono HBw.out.size)).setCell (HLo.out i hlti) _)
                      clear hb5 z1 z2 z3
                      go_wp2
                      go_roundw
                      case rel => exact ⟨j + 1, true, by omega, by go_num, rfl, Lib.hid ⟨_, HN.out, HB5.out⟩⟩
                      case measure => simp [intOf]; omega
                · obtain rfl : j = g.length := by omega
                  go_wp2
                  go_roundw
                  case rel => exact ⟨i + 1, mo2, by omega, by go_num, rfl, Lib.hid ⟨M, HP.out.row, HBw.out⟩⟩
                  case measure => simp [intOf]; omega
            · obtain rfl : i = g.length := by omega
              obtain ⟨M, hP, hB⟩ := HJ.out
              have HP := Lib.hid hP
              have HBw := Lib.hid hB
              clear hP hB HJ
              go_wp2
              go_roundg (cntT M + (if mo = true then 1 else 0))
              case measure =>
                have hf := HFu.out
                cases mo with
                | true => have := HP.out.less rfl; simp at hf ⊢; omega
                | false => have := (HP.out.same rfl).1; subst this; simp at hf ⊢; omega
              case rel => exact ⟨mo, rfl, Lib.hid ⟨M, HP.out.rows, HP.out.fix, HBw.out, Nat.le_refl _, fun e a b ha hb hg => (HP.out.same e).2 a b ha hb (by omega) hg⟩⟩
        | false =>
          have HMe := Lib.hid (HFx.out.done (HAl.out rfl))
          obtain ⟨w7, hw7⟩ : ∃ w7, w7 = wr := ⟨_, rfl⟩
          subst hw7
          clear HFx HFu HAl HP0 HB0
          go_wp2
          go_loopw [14] (fun s14 W => ∃ i : Nat, i ≤ g.length ∧ s14 = .int .i64 i ∧ Hid (Below w7.heap.size w7 W)) (fun s14 _ => g.length - (intOf s14).toNat)
          case atStart => exact ⟨0, Nat.zero_le _, rfl, Lib.hid (Below.refl _ _)⟩
          case round =>
            obtain ⟨i, hi, rfl, HJ⟩ := hrel
            by_cases hlti : i < g.length
            · go_wp2
              go_loopw [15] (fun s15 W => ∃ j : Nat, j ≤ g.length ∧ s15 = .int .i64 j ∧ Hid (Below w7.heap.size w7 W)) (fun s15 _ => g.length - (intOf s15).toNat)
              case atStart => exact ⟨0, Nat.zero_le _, rfl, HJ⟩
              case round =>
                clear HJ
                obtain ⟨j, hj, rfl, HJ⟩ := hrel
                by_cases hltj : j < g.length
                · obtain ⟨z1, z2, _⟩ := (HRw.out.below HJ.out).cellT i j hlti hltj
                  have HMw := Lib.hid (Kd.C_below HM2.out (HB.out.trans (HJ.out.mono HB.out.size)))
                  obtain ⟨bd, be, bc, rfl, y1, y2⟩ := tab_cell HMw.out HT.out.sq i j hlti hltj
                  rw [HT.out.get i j hlti hltj] at y2
                  rw [HMe.out, getT_table hlti hltj] at z2
                  have hin : InG g ((i : Int), (j : Int)) := ⟨by simp only; omega, by simp only; omega, by simp only; omega, by simp only; omega⟩
                  have HCg := Lib.hid (Kd.C_below HC2.out (HB.out.trans (HJ.out.mono HB.out.size)))
                  cases hx : standsB st g ((i : Int), (j : Int)) with
                  | false =>
                    rw [hx] at y2 z2
                    clear hx hin
                    go_wp2
                    go_quiet (fail)
                    go_wp2
                    go_roundw
                    case rel => exact ⟨j + 1, by omega, by go_num, Lib.hid (below_drewN HJ.out _)⟩
                    case measure => simp [intOf]; omega
                  | true =>
                    have hbd : Below wr.heap.size wr wr.drew := below_drewN (Below.refl _ _) 1
                    have hc := holds38_calls wr.drew A1 c1 g (some bd) bb Mt i j st HV.out (Kd.C_below HCg.out hbd) (Kd.C_below HMw.out hbd) HT.out.sq hin
                    rw [holdsL_eq HV.out HKs.out hin, holdsB_alike HV.out (R := relT g.length Mt) (S := standsB st g) (fun q hq => by
                      obtain ⟨x, y⟩ := q
                      obtain ⟨h0, h1, h2, h3⟩ := hq
                      simp only at h0 h1 h2 h3
                      obtain ⟨x, rfl⟩ : ∃ k : Nat, x = (k : Int) := ⟨x.toNat, by omega⟩
                      obtain ⟨y, rfl⟩ : ∃ k : Nat, y = (k : Int) := ⟨y.toNat, by omega⟩
                      rw [relT_nat (by omega) (by omega)]
                      exact HT.out.get x y (by omega) (by omega)) hin, ← stands_fix, hx] at hc
                    have HHo := Lib.hid hc
                    have HJd := Lib.hid (HJ.out.trans (hbd.mono HJ.out.size))
                    rw [hx] at y2 z2
                    clear hc hbd hin hx
                    go_wp2
                    refine wp_region_still_tail 29 (by kernel_rfl) (by kernel_rfl) ?_
                    simp only [List.take_succ_cons, List.take_zero, List.drop_succ_cons, List.drop_zero]
                    change wpStill _ _ wr.drew _ _ _
                    repeat still_step
                    try refine wpStill_nil ?_
                    change wpList _ _ _ _ _ wr.drew
                    go_wp2_with fail
                    refine HHo.out.mono ?_
                    clear HHo
                    rintro e w8 ⟨rfl, hb8⟩
                    have HJ8 := Lib.hid (HJd.out.trans (hb8.mono HJd.out.size))
                    clear hb8
                    go_wp2
                    go_roundw
                    case rel => exact ⟨j + 1, by omega, by go_num, HJ8⟩
                    case measure => simp [intOf]; omega
                · obtain rfl : j = g.length := by omega
                  go_wp2
                  go_roundw
                  case rel => exact ⟨i + 1, by omega, by go_num, HJ⟩
                  case measure => simp [intOf]; omega
            · obtain rfl : i = g.length := by omega
              have HB9 := Lib.hid (HB2.out.trans ((HB.out.trans (HJ.out.mono HB.out.size)).mono HB2.out.size))
              have HWk := Lib.hid (works_calls wr (HKw.out.below HB9.out))
              go_wp2_with fail
              refine HWk.out.mono ?_
              rintro e w9 ⟨rfl, hb9⟩
              have HB10 := Lib.hid (HB9.out.trans (hb9.mono HB9.out.size))
              clear hb9
              go_wp2
              go_ret
              exact ⟨rfl, HB10.out⟩
end Go.Proofs.YtcljgfpcdlnlkaaDoor.Q
namespace Go.Proofs.YtcljgfpcdlnlkaaDoor.Q
open Go.ChangeShapes Go.WideShapes Go.ChangeAt Go.RowKit Go.Proofs.YtcljgfpcdlnlkaaDoorW.PrintWords
set_option maxRecDepth 100000 in
theorem subRules_lifted (os : Os) (started : os.Started) (H : Type) (enc : TypeId × Value → H) :
    ReturnsInHanded {} Tryd.checked os 7 .any (fun w args => (Rows.subRulesSpec.pre enc Tryd.prog Tryd.f7 [] false w args ∧ laidMetH Tryd.prog laidKeys w) ∧ sizedMet enc Tryd.prog Tryd.f7 (OpenSpec.ofChange Rows.subRulesSpec) false w args)
      (Rows.subRulesSpec.post enc Tryd.prog Tryd.f7 false true false false) := by
  refine returnsInHanded_of_change_and (C := Tryd.checked) (X := fun w _ => laidMetH Tryd.prog laidKeys w) (fun _ _ _ hh h => h.of_heap hh) own started (by kernel_rfl) Tryd.func7
    (ChangeSpec.witness_shaped (enc := enc) (C := Tryd.checked) (os := os) (X := fun w _ => laidMetH Tryd.prog laidKeys w) false (World.doorLaid Tryd.prog 400 os) #[.slice none 0 0, .bool false] 8 rfl (World.shaped_of_RefB (by kernel_rfl) (by kernel_rfl)) (by kernel_rfl) (by kernel_rfl) (by kernel_rfl) (door_met os _)) ?_
  intro W base args ds gs before hval0 hW _ _ hL _
  have hval : ∀ (j : Nat) t v, Tryd.f7.params[j]? = some t → args[j]? = some v → Value.okWide Tryd.prog W .any base t v := hval0
  have hW' := hW
  obtain ⟨p, q, hA0, hV, rfl, hfz, hnd⟩ := hW
  have hA : DataW.TrodAll enc Tryd.prog W 0 (fun _ => true) true Tryd.f7.params.toList args.toList ds p := hA0
  rw [Tryd.params7] at hA hval
  obtain ⟨v0, vs0, d0, ds0, p0, q0, hargs, rfl, rfl, h0, r0⟩ := trodAll_cons hA
  obtain ⟨v1, vs1, d1, ds1, p1, q1, rfl, rfl, rfl, h1, r1⟩ := trodAll_cons r0
  obtain ⟨rfl, rfl, rfl⟩ := trodAll_nil r1
  obtain rfl : args = #[v0, v1] := by cases args; simp_all
  obtain ⟨rfl, rfl⟩ := trodVars_none hV
  have k0 := h0
  have lt0 : ∀ x ∈ p0, x.block < W.heap.size := by obtain ⟨m, hm⟩ := k0; exact DataW.trod_lt m _ _ _ hm
  obtain ⟨a0, len0, cap0, rfl⟩ := okWide_slice Tryd.underlying30 (hval 0 30 v0 rfl rfl)
  obtain ⟨l0, hl0, hc0, hC0⟩ : ∃ xs, xs.length = len0 ∧ len0 ≤ cap0 ∧ Kd.C k119 W a0 len0 xs := by
    obtain ⟨fuel, hf⟩ := h0
    obtain ⟨A, len, cap, xs, hcs, e1, _, e3, e4⟩ := open_kd k119 Tryd.underlying30 (by kernel_rfl) open_row93 hf
    simp [Value.cells] at hcs
    obtain ⟨rfl, rfl, rfl⟩ := hcs
    exact ⟨xs, e3, e1, e4⟩
  subst hl0
  have k1 := h1
  have lt1 : ∀ x ∈ p1, x.block < W.heap.size := by obtain ⟨m, hm⟩ := k1; exact DataW.trod_lt m _ _ _ hm
  obtain ⟨x1, rfl, _⟩ := open_bool Tryd.underlying4 (hval 1 4 v1 rfl rfl) h1
  clear hA0 hval0
  refine (rules_walk W a0 cap0 l0 x1 (keys_of hL) hC0 hc0).mono fun e W' ⟨he, bel⟩ => ?_
  subst he
  exact ⟨_, rfl, _, _, _, [], _, [], hW', trodAll_mk1 (shut_bool Tryd.underlying4 _), (trodAll_cons_mk (Below.trod laidOut (by kernel_rfl) (of_decide_eq_true (by kernel_rfl)) k0 bel lt0) (trodAll_cons_mk (Below.trod laidOut (by kernel_rfl) (of_decide_eq_true (by kernel_rfl)) k1 bel lt1) trodAll_mk0)), rfl, bel.frame _, fun h => by cases h⟩
theorem subRules_inPlace : (Rows.subRulesRow.inPlace == Tryd.prog.inPlace 7) = true := by kernel_rfl
theorem subRules_unfollowed : (Rows.subRulesRow.unfollowed == Tryd.prog.unfollowed 7) = true := by kernel_rfl
theorem subRules_recurses : (Rows.subRulesRow.recurses == Tryd.prog.recurses 7) = true := by kernel_rfl
theorem subRules_named : (Rows.subRulesRow.named == Tryd.prog.varsNamed 7) = true := by kernel_rfl
theorem subRules_wf : OpenClaim.wf (OpenSpec.ofChange Rows.subRulesSpec) Rows.subRulesRow = true := by kernel_rfl
theorem subRules_closed : joinedFacts Tryd.prog 7 Tryd.f7 Rows.subRulesSpec Rows.subRulesRow = true :=
  joined_of subRules_wf fact_laidOut fact_mapsRowed (by kernel_rfl) (by kernel_rfl) (by kernel_rfl) fact_stops (by kernel_rfl) fact_stopKnobs subRules_inPlace subRules_unfollowed subRules_recurses subRules_named (by kernel_rfl) (by kernel_rfl) (by kernel_rfl) (by kernel_rfl) (by kernel_rfl) (by kernel_rfl) (by kernel_rfl) (by kernel_rfl) (by kernel_rfl) fact_plainKeys (by kernel_rfl) fact_stopsHeard fact_mayEnter fact_lifted fact_make (by kernel_rfl) (by kernel_rfl) (by kernel_rfl) (by kernel_rfl)
theorem subRules_func : Tryd.prog.funcNamed "armillary/armillarylaw08.SubRules" = some 7 := by kernel_rfl
theorem subRules_plain : Tryd.f7.isWrapper Tryd.prog Rows.subRulesRow.wrapper Rows.subRulesRow.mainSum := by unfold Func.isWrapper; first | (rw [if_pos (by decide +kernel)]; kernel_rfl) | (rw [if_neg (by decide +kernel)]; exact ⟨rfl, rfl⟩)
theorem subRules_over : Rows.SubRulesSaid :=
  OpenClaim.holds_of_wide 7 Tryd.f7 rfl rfl rfl rfl rfl rfl rfl ⟨rfl, rfl, rfl, rfl, rfl⟩ rfl rfl rfl rfl rfl subRules_func Tryd.func7 subRules_closed
    (of_decide_eq_true (by kernel_rfl)) subRules_plain
    (fun os started H enc _ => subRules_lifted os started H enc)
theorem subRules_wft : Rows.subRulesRow.wfByText (OpenSpec.ofChange Rows.subRulesSpec) = true := by kernel_rfl
theorem subRules_goes : false = Rows.subRulesRow.goesBy Tryd.pinned.checked.prog := by kernel_rfl
theorem subRules_holds : Rows.SubRulesCardSaid :=
  Claim7.holds_tied_plain_at .later [] [.data] true (true, "b7f390f4ac617f6fa05530b730e12d26db561aeaf8ebef656134171ed864906e") false
    subRules_over (fun _ h => by cases h) subRules_wft (fun _ h => by cases h) subRules_row_tie rfl ⟨rfl, rfl⟩ fact_mainIs rfl
    (fun f fn hf hfn => by
      obtain rfl : f = 7 := Option.some.inj (subRules_func.symm.trans hf) |>.symm
      obtain rfl : fn = Tryd.f7 := (Option.some.inj (Tryd.func7.symm.trans hfn)).symm
      exact ⟨fact_looks, fun j t ht => by
        rw [Tryd.params7] at ht
        have hm : t ∈ [30, 4] := by simpa using Array.mem_of_getElem? ht
        have hall : ([30, 4].all fun u => !Tryd.prog.wantsStandIn u) = true := by kernel_rfl
        exact (show Tryd.prog.wantsStandIn t = false by simpa using List.all_eq_true.1 hall t hm)⟩)
    subRules_goes
#print axioms subRules_holds
end Go.Proofs.YtcljgfpcdlnlkaaDoor.Q
