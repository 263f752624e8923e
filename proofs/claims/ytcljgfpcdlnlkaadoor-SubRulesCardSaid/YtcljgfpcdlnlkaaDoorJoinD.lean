/- law08: made, and what a made graph is. Conditions: those of each theorem's own statement. -/
import Derived.Test.YtcljgfpcdlnlkaaDoorJoinC
namespace Go.Proofs.YtcljgfpcdlnlkaaDoor.Q
open Go.RowKit Go.Proofs.YtcljgfpcdlnlkaaDoorW.PrintWords Mp
/-- A number, brought to be from 0 to below n. -/
def bringI (i n : Int) : Int := if i.tmod n < 0 then i.tmod n + n else i.tmod n
theorem bring_in {i n : Int} (hn : 0 < n) : 0 ≤ bringI i n ∧ bringI i n < n := by
  have h1 := Int.tmod_lt_of_pos i hn
  have h2 : -n < i.tmod n := by
    have := Int.lt_tmod_of_pos i hn
    omega
  unfold bringI
  split <;> omega
set_option maxRecDepth 100000 in
set_option maxHeartbeats 400000 in
theorem bring_calls (i n : Int) (w : World) (hn : 0 < n) (hn2 : n ≤ 9223372036854775807) : Calls Tryd.prog 24 #[.int .i64 i, .int .i64 n] w fun e w' => e = .returned (.int .i64 (bringI i n)) ∧ w' = w := by
  have h1 := Int.tmod_lt_of_pos i hn
  have h2 : -n < i.tmod n := by
    have := Int.lt_tmod_of_pos i hn
    omega
  have w1 : IntKind.i64.wrap (i.tmod n) = i.tmod n := by rw [IntKind.wrap_i64]; omega
  have n0 : ¬ n = 0 := by omega
  by_cases hneg : i.tmod n < 0
  · have d1 : decide (i.tmod n < 0) = true := decide_eq_true hneg
    have w2 : IntKind.i64.wrap (i.tmod n + n) = i.tmod n + n := by rw [IntKind.wrap_i64]; omega
    have HB := Lib.hid (show bringI i n = i.tmod n + n from if_pos hneg)
    clear h1 h2 hneg
    go_enter Tryd.func24, Tryd.ntmps24
    go_wp2
    go_ret
    exact ⟨by rw [HB.out]; rfl, rfl⟩
  · have d1 : decide (i.tmod n < 0) = false := decide_eq_false hneg
    have HB := Lib.hid (show bringI i n = i.tmod n from if_neg hneg)
    clear h1 h2 hneg
    go_enter Tryd.func24, Tryd.ntmps24
    go_wp2
    go_ret
    exact ⟨by rw [HB.out]; rfl, rfl⟩
/-- Two to four places below n. -/
structure SomeOk (n : Int) (l : List Int) : Prop where
  two : 2 ≤ l.length
  four : l.length ≤ 4
  inn : ∀ x ∈ l, 0 ≤ x ∧ x < n
set_option maxRecDepth 100000 in
set_option maxHeartbeats 400000 in
theorem some_calls (A : Option Addr) (c : Nat) (l : List Int) (n : Int) (w : World) (hn : 0 < n) (hn2 : n ≤ 9223372036854775807) (hl : Kd.C (Kd.int .i64) w A l.length l) :
    Calls Tryd.prog 70 #[.slice A l.length c, .int .i64 n] w fun e w' => ∃ v r, e = .returned v ∧ Kd.R (Kd.int .i64) 3 w' w.heap.size (fun _ => True) v r ∧ SomeOk n r ∧ Below w.heap.size w w' := by
  have HL := Lib.hid hl
  have hl63 := hl.2.1
  clear hl
  go_enter Tryd.func70, Tryd.ntmps70
  go_wp2
  go_loopw [5, 6] (fun s5 s6 W => ∃ k : Nat, k ≤ l.length ∧ k ≤ 4 ∧ s6 = .int .i64 k ∧ Hid (∃ r, Kd.R (Kd.int .i64) 3 W w.heap.size (fun _ => True) s5 r ∧ Below w.heap.size w W ∧ r.length = k ∧ ∀ x ∈ r, 0 ≤ x ∧ x < n)) (fun _ s6 _ => 4 - (intOf s6).toNat)
  case atStart => exact ⟨0, Nat.zero_le _, Nat.zero_le _, rfl, Lib.hid ⟨[], Kd.R_nil _ _ _ _ _, Below.refl _ _, rfl, fun x hx => by cases hx⟩⟩
  case round =>
    obtain ⟨k, hk, hk4, rfl, HI⟩ := hrel
    by_cases hlt : k < l.length
    · by_cases h4 : k < 4
      · obtain ⟨r, hR, hB, hr, hin⟩ := HI.out
        have HR := Lib.hid hR
        have HB := Lib.hid hB
        have HIn := Lib.hid hin
        have HLen := Lib.hid hr
        obtain ⟨ad, rfl, hc⟩ := int_cell (Kd.C_below HL.out hB) k hlt
        have HBr := Lib.hid (bring_calls (rd l k) n wr hn hn2)
        have hsz := hB.size
        have hBi := Lib.hid (bring_in (i := rd l k) hn)
        have htl : (r.length + 1) * 8 ≤ 140737488355328 := by omega
        clear HI hR hB hr hin
        go_wp2_with fail
        refine HBr.out.mono ?_
        rintro e w' ⟨rfl, hww⟩
        replace hww := hww.symm
        subst hww
        generalize bringI (rd l k) n = q at hBi ⊢
        go_wp2_with (at_builtin; refine Kd.R_append (Kd.int .i64) (w0 := w) w.heap.size rfl (.tmp 17) (.tmp 24) 23 3 (.int .i64 0) 8 rfl Tryd.underlying23 info3 rfl (by decide) (by omega) _ r q [.int .i64 q] (fun _ => True) (fun _ => False) rfl rfl rfl (fun _ hk => hk.elim) (fun _ _ => trivial) HR.out HB.out hsz htl ?_; intro v1 wA hR4 hB4 _ _; have HR4 := Lib.hid hR4; have HB4 := Lib.hid hB4; clear hR4 hB4)
        go_roundw
        case rel => exact ⟨k + 1, by omega, by omega, by go_num, Lib.hid ⟨_, HR4.out, HB4.out, by rw [List.length_append, HLen.out]; rfl, fun x hx => by
          rcases List.mem_append.1 hx with h | h
          · exact HIn.out x h
          · rw [List.mem_singleton.1 h]; exact hBi.out⟩⟩
        case measure => simp [intOf]; omega
      · obtain rfl : k = 4 := by omega
        have d4 : decide ((4 : Int) < (l.length : Int)) = true := by simp; omega
        go_wp2
        go_loopg [5] 2 (fun k s5 W => Hid (∃ r, Kd.R (Kd.int .i64) 3 W w.heap.size (fun _ => True) s5 r ∧ Below w.heap.size w W ∧ 2 - r.length ≤ k ∧ r.length ≤ 4 ∧ ∀ x ∈ r, 0 ≤ x ∧ x < n))
        case atStart => obtain ⟨r, h1, h2, h3, h4⟩ := HI.out; exact Lib.hid ⟨r, h1, h2, by omega, by omega, h4⟩
        case round =>
          obtain ⟨r, hR, hB, hk2, hr4, hin⟩ := hrel.out
          obtain ⟨AL, cL, he, hcL, _⟩ := Kd.R_reads hR
          subst he
          have HR := Lib.hid hR
          have HB := Lib.hid hB
          have HIn := Lib.hid hin
          have HK2 := Lib.hid hk2
          have hsz := hB.size
          have htl : (r.length + 1) * 8 ≤ 140737488355328 := by omega
          clear HI hR hB hin hrel hk2
          by_cases h2 : r.length < 2
          · have d2 : decide ((r.length : Int) < 2) = true := by simp; omega
            go_wp2_with (at_builtin; refine Kd.R_append (Kd.int .i64) (w0 := w) w.heap.size rfl (.tmp 29) (.tmp 30) 23 3 (.int .i64 0) 8 rfl Tryd.underlying23 info3 rfl (by decide) (by omega) _ r 0 [.int .i64 0] (fun _ => True) (fun _ => False) rfl rfl rfl (fun _ hk => hk.elim) (fun _ _ => trivial) HR.out HB.out hsz htl ?_; intro v1 wA hR4 hB4 _ _; have HR4 := Lib.hid hR4; have HB4 := Lib.hid hB4; clear hR4 hB4)
            go_roundg (2 - (r.length + 1))
            case measure => have := HK2.out; omega
            case rel => exact Lib.hid ⟨_, HR4.out, HB4.out, by simp, by simp; omega, fun x hx => by
              rcases List.mem_append.1 hx with h | h
              · exact HIn.out x h
              · rw [List.mem_singleton.1 h]; exact ⟨Int.le_refl _, hn⟩⟩
          · have d2 : decide ((r.length : Int) < 2) = false := by simp; omega
            go_wp2
            go_ret
            exact ⟨_, r, rfl, HR.out, ⟨by omega, hr4, HIn.out⟩, HB.out⟩
    · have hkl : k = l.length := by omega
      have dk : decide ((k : Int) < (l.length : Int)) = false := by simp; omega
      clear hkl
      go_wp2
      go_loopg [5] 2 (fun k s5 W => Hid (∃ r, Kd.R (Kd.int .i64) 3 W w.heap.size (fun _ => True) s5 r ∧ Below w.heap.size w W ∧ 2 - r.length ≤ k ∧ r.length ≤ 4 ∧ ∀ x ∈ r, 0 ≤ x ∧ x < n))
      case atStart => obtain ⟨r, h1, h2, h3, h4⟩ := HI.out; exact Lib.hid ⟨r, h1, h2, by omega, by omega, h4⟩
      case round =>
        obtain ⟨r, hR, hB, hk2, hr4, hin⟩ := hrel.out
        obtain ⟨AL, cL, he, hcL, _⟩ := Kd.R_reads hR
        subst he
        have HR := Lib.hid hR
        have HB := Lib.hid hB
        have HIn := Lib.hid hin
        have HK2 := Lib.hid hk2
        have hsz := hB.size
        have htl : (r.length + 1) * 8 ≤ 140737488355328 := by omega
        clear HI hR hB hin hrel hk2
        by_cases h2 : r.length < 2
        · have d2 : decide ((r.length : Int) < 2) = true := by simp; omega
          go_wp2_with (at_builtin; refine Kd.R_append (Kd.int .i64) (w0 := w) w.heap.size rfl (.tmp 29) (.tmp 30) 23 3 (.int .i64 0) 8 rfl Tryd.underlying23 info3 rfl (by decide) (by omega) _ r 0 [.int .i64 0] (fun _ => True) (fun _ => False) rfl rfl rfl (fun _ hk => hk.elim) (fun _ _ => trivial) HR.out HB.out hsz htl ?_; intro v1 wA hR4 hB4 _ _; have HR4 := Lib.hid hR4; have HB4 := Lib.hid hB4; clear hR4 hB4)
          go_roundg (2 - (r.length + 1))
          case measure => have := HK2.out; omega
          case rel => exact Lib.hid ⟨_, HR4.out, HB4.out, by simp, by simp; omega, fun x hx => by
            rcases List.mem_append.1 hx with h | h
            · exact HIn.out x h
            · rw [List.mem_singleton.1 h]; exact ⟨Int.le_refl _, hn⟩⟩
        · have d2 : decide ((r.length : Int) < 2) = false := by simp; omega
          go_wp2
          go_ret
          exact ⟨_, r, rfl, HR.out, ⟨by omega, hr4, HIn.out⟩, HB.out⟩
end Go.Proofs.YtcljgfpcdlnlkaaDoor.Q
namespace Go.Proofs.YtcljgfpcdlnlkaaDoor.Q
open Go.RowKit Go.Proofs.YtcljgfpcdlnlkaaDoorW.PrintWords Mp
/-- Each once, in order. -/
structure OnceOk (l r : List Int) : Prop where
  dist : distinctB r = true
  sub : ∀ x ∈ r, x ∈ l
  sup : ∀ x ∈ l, x ∈ r
  len : r.length ≤ l.length
theorem distinct_snoc {r : List Int} {x : Int} (h : distinctB r = true) (hx : x ∉ r) : distinctB (r ++ [x]) = true := by
  induction r with
  | nil => rfl
  | cons y r ih =>
    simp only [distinctB, Bool.and_eq_true, Bool.not_eq_true', List.cons_append] at h ⊢
    refine ⟨?_, ih h.2 (fun e => hx (List.mem_cons_of_mem _ e))⟩
    have h1 := h.1
    have hne : y ≠ x := fun e => hx (by rw [e]; exact List.mem_cons_self)
    simp_all
theorem take_mem {l : List Int} {k : Nat} (hk : k < l.length) {x : Int} : x ∈ l.take (k + 1) ↔ x ∈ l.take k ∨ x = rd l k := by
  rw [← rd_take hk, List.mem_append, List.mem_singleton]
set_option maxRecDepth 100000 in
set_option maxHeartbeats 1000000 in
theorem once_calls (A : Option Addr) (c : Nat) (l : List Int) (w : World) (hl : Kd.C (Kd.int .i64) w A l.length l) (hl2 : l.length ≤ 4000000) :
    Calls Tryd.prog 40 #[.slice A l.length c] w fun e w' => ∃ v r, e = .returned v ∧ Kd.R (Kd.int .i64) 3 w' w.heap.size (fun _ => True) v r ∧ OnceOk l r ∧ Below w.heap.size w w' := by
  have HL := Lib.hid hl
  clear hl
  go_enter Tryd.func40, Tryd.ntmps40
  go_wp2
  go_loopw [3, 4] (fun s3 s4 W => ∃ k : Nat, k ≤ l.length ∧ s4 = .int .i64 k ∧ Hid (∃ r, Kd.R (Kd.int .i64) 3 W w.heap.size (fun _ => True) s3 r ∧ Below w.heap.size w W ∧ OnceOk (l.take k) r)) (fun _ s4 _ => l.length - (intOf s4).toNat)
  case atStart => exact ⟨0, Nat.zero_le _, rfl, Lib.hid ⟨[], Kd.R_nil _ _ _ _ _, Below.refl _ _, ⟨rfl, fun x hx => (by cases hx), fun x hx => (by simp at hx), by simp⟩⟩⟩
  case round =>
    obtain ⟨k, hk, rfl, HI⟩ := hrel
    obtain ⟨r, hR, hB, hO⟩ := HI.out
    obtain ⟨AL, cL, he, hcL, _⟩ := Kd.R_reads hR
    subst he
    have HR := Lib.hid hR
    have HB := Lib.hid hB
    have HO := Lib.hid hO
    have hrl : r.length ≤ k := by have := hO.len; rw [List.length_take] at this; omega
    clear HI hR hB hO
    by_cases hlt : k < l.length
    · obtain ⟨ad, rfl, hc⟩ := int_cell (Kd.C_below HL.out HB.out) k hlt
      obtain ⟨x, hx⟩ : ∃ x, x = rd l k := ⟨_, rfl⟩
      rw [← hx] at hc
      have HX := Lib.hid hx
      clear hx
      obtain ⟨w1, hw1⟩ : ∃ w1, w1 = wr := ⟨_, rfl⟩
      subst hw1
      go_wp2
      go_loopw [5, 6] (fun s5 s6 W => ∃ j : Nat, j ≤ r.length ∧ s6 = .int .i64 j ∧ ∃ b : Bool, s5 = .bool b ∧ Hid (∃ n, W = w1.drewN n) ∧ Hid (b = (r.take j).any fun y => decide (y = x))) (fun _ s6 _ => r.length - (intOf s6).toNat)
      case atStart => exact ⟨0, Nat.zero_le _, rfl, false, rfl, Lib.hid ⟨0, rfl⟩, Lib.hid rfl⟩
      case round =>
        obtain ⟨j, hj, rfl, b, rfl, HW, HBl⟩ := hrel
        obtain ⟨m, hm⟩ := HW.out
        subst hm
        clear HW
        by_cases hjt : j < r.length
        · obtain ⟨ar, har, hcr⟩ := int_cell (Kd.R_reads' HR.out).2.2 j hjt
          subst har
          have hstep : (r.take (j + 1)).any (fun y => decide (y = x)) = (b || decide (rd r j = x)) := by
            rw [← rd_take hjt, List.any_append, ← HBl.out]; simp
          have HSt := Lib.hid hstep
          clear hstep HBl
          cases b with
          | true =>
            go_wp2
            go_quiet (fail)
            go_wp2
            go_roundw
            case rel => exact ⟨j + 1, by omega, by go_num, _, rfl, Lib.hid ⟨_, rfl⟩, Lib.hid (by rw [HSt.out]; rfl)⟩
            case measure => simp [intOf]; omega
          | false =>
            go_wp2
            go_quiet (fail)
            go_wp2
            go_roundw
            case rel => exact ⟨j + 1, by omega, by go_num, _, rfl, Lib.hid ⟨_, rfl⟩, Lib.hid (by rw [HSt.out, Bool.false_or]; rfl)⟩
            case measure => simp [intOf]; omega
        · obtain rfl : j = r.length := by omega
          have HR2 := Lib.hid (show Kd.R (Kd.int .i64) 3 (w1.drewN m) w.heap.size (fun _ => True) (.slice AL r.length cL) r from Kd.R_step HR.out (fun _ _ _ => rfl))
          have HB2 := Lib.hid (below_drewN HB.out m)
          have hcm : (w1.drewN m).cell? (ad.add k) = some (.int .i64 x) := hc
          have HAny := Lib.hid (show b = decide (x ∈ r) from by
            have := HBl.out
            rw [List.take_length] at this
            rw [this, Bool.eq_iff_iff, List.any_eq_true, decide_eq_true_eq]
            exact ⟨fun ⟨y, hy, he⟩ => by rw [← of_decide_eq_true he]; exact hy, fun h => ⟨x, h, decide_eq_true rfl⟩⟩)
          clear HBl hc
          generalize w1.drewN m = wm at HR2 HB2 hcm ⊢
          cases b with
          | true =>
            have hin : x ∈ r := by have := HAny.out; simpa using this.symm
            have HO2 := Lib.hid (show OnceOk (l.take (k + 1)) r from ⟨HO.out.dist, fun y hy => (take_mem hlt).2 (.inl (HO.out.sub y hy)), fun y hy => by
              rcases (take_mem hlt).1 hy with h | h
              · exact HO.out.sup y h
              · rw [h, ← HX.out]; exact hin, by rw [List.length_take]; omega⟩)
            clear hin
            go_wp2
            go_roundw
            case rel => exact ⟨k + 1, by omega, by go_num, Lib.hid ⟨r, HR2.out, HB2.out, HO2.out⟩⟩
            case measure => simp [intOf]; omega
          | false =>
            have hin : x ∉ r := by have := HAny.out; simpa using this.symm
            have HO2 := Lib.hid (show OnceOk (l.take (k + 1)) (r ++ [x]) from ⟨distinct_snoc HO.out.dist hin, fun y hy => by
              rcases List.mem_append.1 hy with h | h
              · exact (take_mem hlt).2 (.inl (HO.out.sub y h))
              · exact (take_mem hlt).2 (.inr (by rw [List.mem_singleton.1 h, HX.out])), fun y hy => by
              rcases (take_mem hlt).1 hy with h | h
              · exact List.mem_append_left _ (HO.out.sup y h)
              · rw [h, ← HX.out]; simp, by rw [List.length_take, List.length_append]; simp; omega⟩)
            have hsz := HB2.out.size
            have htl : (r.length + 1) * 8 ≤ 140737488355328 := by omega
            clear hin
            go_wp2_with (at_builtin; refine Kd.R_append (Kd.int .i64) (w0 := w) w.heap.size rfl (.tmp 33) (.tmp 38) 23 3 (.int .i64 0) 8 rfl Tryd.underlying23 info3 rfl (by decide) (by omega) _ r x [.int .i64 x] (fun _ => True) (fun _ => False) rfl rfl rfl (fun _ hk => hk.elim) (fun _ _ => trivial) HR2.out HB2.out hsz htl ?_; intro v1 wA hR4 hB4 _ _; have HR4 := Lib.hid hR4; have HB4 := Lib.hid hB4; clear hR4 hB4)
            go_roundw
            case rel => exact ⟨k + 1, by omega, by go_num, Lib.hid ⟨_, HR4.out, HB4.out, HO2.out⟩⟩
            case measure => simp [intOf]; omega
    · obtain rfl : k = l.length := by omega
      have HO2 := Lib.hid (show OnceOk l r from by have := HO.out; rwa [List.take_length] at this)
      go_wp2
      go_ret
      exact ⟨_, r, rfl, HR.out, HO2.out, HB.out⟩
end Go.Proofs.YtcljgfpcdlnlkaaDoor.Q
namespace Go.Proofs.YtcljgfpcdlnlkaaDoor.Q
open Go.RowKit Go.Proofs.YtcljgfpcdlnlkaaDoorW.PrintWords Go.Proofs.YtcljgfpcdlnlkaaDoorW.PrintLast Mp
/-- What a made graph's node may be. -/
def NodeOk (dyn : Bool) (n plain : Int) (i : Nat) (x : S37) : Prop :=
  (∃ k : Int, 1 ≤ k ∧ k ≤ 4 ∧ (dyn = true ∨ k ≠ 1) ∧ x = ⟨k, 0, ⟨#[]⟩, [], []⟩) ∨
  (∃ s, (s = kA ∨ s = kB) ∧ x = ⟨5, 0, s, [], []⟩) ∨
  (∃ m a : Int, 0 ≤ m ∧ m < 2 ∧ 0 ≤ a ∧ a < n ∧ x = ⟨9, m, ⟨#[]⟩, [], [a]⟩) ∨
  (∃ L : List Int, L.length ≤ 2 ∧ (∀ a ∈ L, 0 ≤ a ∧ a < n) ∧ x = ⟨7, 0, ⟨#[]⟩, [kA, kB, kC3].take L.length, L⟩) ∨
  (∃ L : List Int, plain ≤ i ∧ 2 ≤ L.length ∧ L.length ≤ 4 ∧ distinctB L = true ∧ (∀ a ∈ L, 0 ≤ a ∧ a < plain) ∧ x = ⟨8, 0, ⟨#[]⟩, [], L⟩)
def plainOf (n : Int) : Int := (2 * n + 2) / 3
structure MadeOk (dyn : Bool) (n : Int) (g : List S37) : Prop where
  node : ∀ i : Nat, i < g.length → NodeOk dyn n (plainOf n) i (rd_T37 g i)
theorem rd_snoc {g : List S37} {x : S37} (i : Nat) (hi : i < (g ++ [x]).length) : (i < g.length ∧ rd_T37 (g ++ [x]) i = rd_T37 g i) ∨ (i = g.length ∧ rd_T37 (g ++ [x]) i = x) := by
  unfold rd_T37
  rw [Int.toNat_natCast]
  simp only [List.length_append, List.length_singleton] at hi
  by_cases h : i < g.length
  · refine .inl ⟨h, ?_⟩
    simp [List.getD_eq_getElem?_getD, List.getElem?_append_left h]
  · obtain rfl : i = g.length := by omega
    exact .inr ⟨rfl, by simp [List.getD_eq_getElem?_getD]⟩
theorem MadeOk.snoc {dyn : Bool} {n : Int} {g : List S37} {x : S37} (h : MadeOk dyn n g) (hx : NodeOk dyn n (plainOf n) g.length x) : MadeOk dyn n (g ++ [x]) := ⟨fun i hi => by
  rcases rd_snoc i hi with ⟨h1, h2⟩ | ⟨h1, h2⟩
  · rw [h2]; exact h.node i h1
  · rw [h2, h1]; exact hx⟩
theorem M_ints {W : World} {base wb : Nat} (hb : base ≤ wb) (k m : Int) (s : ByteArray) {v4 : Value} {L : List Int} (h : (Kd.int .i64).R 3 W wb (fun _ => True) v4 L) : k37.M W base (fun b => wb ≤ b) ⟨k, m, s, [], L⟩ [.int .i64 k, .int .i64 m, .string s, .slice none 0 0, v4] :=
  k37_mkM W base _ ⟨k, m, s, [], L⟩ (v3 := .slice none 0 0) (Kd.R_nil _ _ _ _ _) (Kd.R_lower (Kd.R_mono (Kd.R_bound h) (fun _ h => h.2.1)) hb)
theorem M_rec {W : World} {base wb : Nat} (hb : base ≤ wb) {v3 v4 : Value} {ks : List ByteArray} {L : List Int} (h3 : Kd.string.R 9 W wb (fun _ => True) v3 ks) (h : (Kd.int .i64).R 3 W wb (fun _ => True) v4 L) : k37.M W base (fun b => wb ≤ b) ⟨7, 0, ⟨#[]⟩, ks, L⟩ [.int .i64 7, .int .i64 0, .string ⟨#[]⟩, v3, v4] :=
  k37_mkM W base _ ⟨7, 0, ⟨#[]⟩, ks, L⟩ (Kd.R_lower (Kd.R_mono (Kd.R_bound h3) (fun _ h => h.2.1)) hb) (Kd.R_lower (Kd.R_mono (Kd.R_bound h) (fun _ h => h.2.1)) hb)
theorem node_low {dyn : Bool} {n plain : Int} {i : Nat} {x : S37} (h : NodeOk dyn n plain i x) (hi : (i : Int) < plain) : x.f0 ≠ 8 := by
  rcases h with ⟨k, _, hk, _, rfl⟩ | ⟨s, _, rfl⟩ | ⟨m, a, _, _, _, _, rfl⟩ | ⟨L, _, _, rfl⟩ | ⟨L, hp, _⟩
  · show k ≠ 8; omega
  · show (5 : Int) ≠ 8; decide
  · show (9 : Int) ≠ 8; decide
  · show (7 : Int) ≠ 8; decide
  · omega
theorem node_union {dyn : Bool} {n plain : Int} {i : Nat} {x : S37} (h : NodeOk dyn n plain i x) (h8 : x.f0 = 8) : ∀ a ∈ x.f4, 0 ≤ a ∧ a < plain := by
  rcases h with ⟨k, _, hk, _, rfl⟩ | ⟨s, _, rfl⟩ | ⟨m, a, _, _, _, _, rfl⟩ | ⟨L, _, _, rfl⟩ | ⟨L, hp, _, _, _, hin, rfl⟩
  · have : k = 8 := h8; omega
  · exact absurd (show (5 : Int) = 8 from h8) (by decide)
  · exact absurd (show (9 : Int) = 8 from h8) (by decide)
  · exact absurd (show (7 : Int) = 8 from h8) (by decide)
  · exact hin
set_option maxRecDepth 100000 in
set_option maxHeartbeats 2000000 in
theorem made_calls (A : Option Addr) (c : Nat) (l : List S119) (dyn : Bool) (w : World) (hl : Kd.C k119 w A l.length l) (hc : l.length ≤ c) :
    Calls Tryd.prog 23 #[.slice A l.length c, .bool dyn] w fun e w' => ∃ v g, e = .returned v ∧ Kd.R k37 37 w' w.heap.size (fun _ => True) v g ∧ g.length = min l.length 14 ∧ MadeOk dyn g.length g ∧ Below w.heap.size w w' := by
  have HL := Lib.hid hl
  have hl63 := hl.2.1
  obtain ⟨n, hn⟩ : ∃ n : Nat, n = min l.length 14 := ⟨_, rfl⟩
  have hn14 : n ≤ 14 := by omega
  have hnl : n ≤ l.length := by omega
  have HN := Lib.hid hn
  clear hl
  have hmn : (if (14 : Int) < (l.length : Int) then (14 : Int) else (l.length : Int)) = n := by split <;> omega
  clear hn
  obtain ⟨P, hP⟩ : ∃ P : Int, P = (2 * n + 2) / 3 := ⟨_, rfl⟩
  have hP0 : 0 < n → 0 < P := fun _ => by omega
  have hPn : P ≤ n := by omega
  have hP00 : 0 ≤ P := by omega
  go_enter Tryd.func23, Tryd.ntmps23
  go_wp2
  rw [← hP]
  have HP := Lib.hid (show plainOf n = P from hP.symm)
  clear hP hmn hl63
  go_loopw [6, 7] (fun s6 s7 W => ∃ k : Nat, k ≤ n ∧ s7 = .int .i64 k ∧ Hid (∃ g, Kd.R k37 37 W w.heap.size (fun _ => True) s6 g ∧ g.length = k ∧ MadeOk dyn n g ∧ Below w.heap.size w W)) (fun _ s7 _ => n - (intOf s7).toNat)
  case atStart => exact ⟨0, Nat.zero_le _, rfl, Lib.hid ⟨[], Kd.R_nil _ _ _ _ _, rfl, ⟨fun i hi => absurd hi (by simp)⟩, Below.refl _ _⟩⟩
  case round =>
    obtain ⟨k, hk, rfl, HI⟩ := hrel
    by_cases hlt : k < n
    · obtain ⟨g, hR, hgl, hM, hB⟩ := HI.out
      have HR := Lib.hid hR
      have HGl := Lib.hid hgl
      have HM := Lib.hid hM
      have HB := Lib.hid hB
      clear HI hR hgl hM hB
      have h0 := at_T119 (Kd.C_below HL.out HB.out) k (by omega) (by omega)
      rw [Int.toNat_natCast] at h0
      obtain ⟨ad, A2, c2, rfl, k0, k1, k2, hl2, hC2⟩ := h0
      obtain ⟨x, hx⟩ : ∃ x, x = rd_T119 l k := ⟨_, rfl⟩
      rw [← hx] at k0 k1 k2 hl2 hC2
      clear hx
      have hn0 : (0 : Int) < n := by omega
      have hbA : Below wr.heap.size wr (wr.alloc (.cells #[.int .i64 x.f0, .int .i64 x.f1, .slice A2 x.f2.length c2] 93)) := (Below.refl _ _).alloc (Nat.le_refl _) _
      have HbA := Lib.hid hbA
      have HC2 := Lib.hid (Kd.C_below hC2 hbA)
      have HSm := Lib.hid (some_calls A2 c2 x.f2 n _ hn0 (by omega) HC2.out)
      have q0 : (wr.alloc (.cells #[.int .i64 x.f0, .int .i64 x.f1, .slice A2 x.f2.length c2] 93)).cell? ⟨wr.heap.size, 0, none⟩ = some (.int .i64 x.f0) := by simp
      have q1 : (wr.alloc (.cells #[.int .i64 x.f0, .int .i64 x.f1, .slice A2 x.f2.length c2] 93)).cell? ⟨wr.heap.size, 1, none⟩ = some (.int .i64 x.f1) := by simp
      have q2 : (wr.alloc (.cells #[.int .i64 x.f0, .int .i64 x.f1, .slice A2 x.f2.length c2] 93)).cell? ⟨wr.heap.size, 2, none⟩ = some (.slice A2 x.f2.length c2) := by simp
      clear hbA hC2
      go_wp2_with fail
      refine HSm.out.mono ?_
      clear HSm
      generalize wr.alloc (.cells #[.int .i64 x.f0, .int .i64 x.f1, .slice A2 x.f2.length c2] 93) = wA at HbA HC2 q0 q1 q2
      rintro e w2 ⟨v9, r9, rfl, hR9, hO9, hB9⟩
      obtain ⟨A9, c9, he9, hc9, _⟩ := Kd.R_reads hR9
      subst he9
      have HR9 := Lib.hid (Kd.R_lower hR9 HbA.out.size)
      have HO9 := Lib.hid hO9
      have HB2 := Lib.hid (HbA.out.trans (hB9.mono HbA.out.size))
      have s0 := (hB9.cell (World.block_lt_of_cell? _ _ q0)).trans q0
      have s1 := (hB9.cell (World.block_lt_of_cell? _ _ q1)).trans q1
      have s2 := (hB9.cell (World.block_lt_of_cell? _ _ q2)).trans q2
      have HC3 := Lib.hid (Kd.C_below HC2.out hB9)
      clear hR9 hO9 hB9 HbA HC2 q0 q1 q2
      by_cases hge : P ≤ (k : Int)
      · have dg : decide (P ≤ (k : Int)) = true := decide_eq_true hge
        have HS2 := Lib.hid (some_calls A2 c2 x.f2 P w2 (hP0 (by omega)) (by omega) HC3.out)
        go_wp2_with fail
        refine HS2.out.mono ?_
        clear HS2
        rintro e w3 ⟨v45, r45, rfl, hR45, hO45, hB45⟩
        obtain ⟨A45, c45, he45, hc45, _⟩ := Kd.R_reads hR45
        subst he45
        have HOn := Lib.hid (once_calls A45 c45 r45 w3 (Kd.R_reads' hR45).2.2 (by have := hO45.four; omega))
        have HO45 := Lib.hid hO45
        have HB3 := Lib.hid (HB2.out.trans (hB45.mono HB2.out.size))
        have hw3 := hB45.size
        have HB45 := Lib.hid hB45
        clear hR45 hO45 hB45
        go_wp2_with fail
        refine HOn.out.mono ?_
        clear HOn
        rintro e w4 ⟨v10, r10, rfl, hR10, hO10, hB10⟩
        obtain ⟨A10, c10, he10, hc10, _⟩ := Kd.R_reads hR10
        subst he10
        have hown := fun b (hb : wr.heap.size ≤ b) => (show True ∧ some b ≠ _ from ⟨trivial, fun he => by have := ((Kd.R_bound HR.out).1 b he.symm).2.2.1; omega⟩)
        have htl : (g.length + 1) * 80 ≤ 140737488355328 := by have := HGl.out; omega
        by_cases h2 : 2 ≤ r10.length
        · have d2 : decide ((2 : Int) ≤ (r10.length : Int)) = true := by simp; omega
          have hb4 := HB3.out.trans (hB10.mono HB3.out.size)
          have HMn := Lib.hid (M_ints (W := w4) (base := w.heap.size) HB.out.size 8 0 ⟨#[]⟩ (Kd.R_lower hR10 HB3.out.size))
          have HRc := Lib.hid (Kd.R_step HR.out (fun b _ hb => hb4.block b hb))
          have HBc := Lib.hid (HB.out.trans (hb4.mono HB.out.size))
          have hsz := HBc.out.size
          have HNo := Lib.hid (show NodeOk dyn n (plainOf n) g.length ⟨8, 0, ⟨#[]⟩, [], r10⟩ from .inr (.inr (.inr (.inr ⟨r10, by rw [HP.out, HGl.out]; exact hge, h2, by have := hO10.len; have := HO45.out.four; omega, hO10.dist, fun a ha => by rw [HP.out]; exact HO45.out.inn a (hO10.sub a ha), rfl⟩))))
          clear hR10 hO10 hB10 hb4
          go_wp2_with (at_builtin; refine Kd.R_append k37 (w0 := w) w.heap.size rfl (.tmp 50) (.tmp 53) 22 37 (.agg #[.int .i64 0, .int .i64 0, .string ⟨#[]⟩, .slice none 0 0, .slice none 0 0]) 80 rfl Tryd.underlying22 info37 rfl (by decide) (by omega) _ g ⟨8, 0, ⟨#[]⟩, [], r10⟩ [.int .i64 8, .int .i64 0, .string ⟨#[]⟩, .slice none 0 0, .slice A10 r10.length c10] (fun _ => True) (fun b => wr.heap.size ≤ b) rfl rfl HMn.out hown (fun _ _ => trivial) HRc.out HBc.out hsz htl ?_; intro v1 wZ hR4 hB4 _ _; have HR4 := Lib.hid hR4; have HB4 := Lib.hid hB4; clear hR4 hB4)
          go_roundw
          case rel => exact ⟨k + 1, by omega, by go_num, Lib.hid ⟨_, HR4.out, by rw [List.length_append, HGl.out]; rfl, HM.out.snoc HNo.out, HB4.out⟩⟩
          case measure => simp [intOf]; omega
        · have d2 : decide ((2 : Int) ≤ (r10.length : Int)) = false := by simp; omega
          have h24 := HB45.out.trans (hB10.mono HB45.out.size)
          replace s0 := (h24.cell (World.block_lt_of_cell? _ _ s0)).trans s0
          replace s1 := (h24.cell (World.block_lt_of_cell? _ _ s1)).trans s1
          replace s2 := (h24.cell (World.block_lt_of_cell? _ _ s2)).trans s2
          obtain ⟨wc, hwc⟩ : ∃ wc, wc = w4 := ⟨_, rfl⟩
          subst hwc
          have HBx := Lib.hid (HB2.out.trans (h24.mono HB2.out.size))
          have HR9c := Lib.hid (Kd.R_step HR9.out (fun b _ hb => h24.block b hb))
          clear h24 hR10 hO10 hB10 HB45 HB3 HB2 HR9
          have HBr := Lib.hid (bring_calls x.f0 7 wc (by omega) (by omega))
          have hq := bring_in (i := x.f0) (n := 7) (by omega)
          have HRc := Lib.hid (Kd.R_step HR.out (fun b _ hb => HBx.out.block b hb))
          have HBc := Lib.hid (HB.out.trans (HBx.out.mono HB.out.size))
          have hsz := HBc.out.size
          go_wp2_with fail
          refine HBr.out.mono ?_
          clear HBr
          rintro e w' ⟨rfl, hww⟩
          replace hww := hww.symm
          subst hww
          generalize bringI x.f0 7 = q at hq ⊢
          by_cases q0 : q = 0
          · subst q0
            clear hq
            have HBr := Lib.hid (bring_calls x.f1 4 wc (by omega) (by omega))
            have hr := bring_in (i := x.f1) (n := 4) (by omega)
            go_wp2_with fail
            refine HBr.out.mono ?_
            clear HBr
            rintro e w' ⟨rfl, hww⟩
            replace hww := hww.symm
            subst hww
            generalize bringI x.f1 4 = r at hr ⊢
            obtain ⟨r0, r4⟩ := hr
            by_cases hr0 : r = 0
            · subst hr0
              cases dyn with
              | true =>
                have HMn := Lib.hid (M_ints (W := wc) (base := w.heap.size) HB.out.size (1) 0 ⟨#[]⟩ (Kd.R_nil (Kd.int .i64) 3 wc wr.heap.size (fun _ => True)))
                have HNo := Lib.hid (show NodeOk true n (plainOf n) g.length ⟨1, 0, ⟨#[]⟩, [], []⟩ from .inl ⟨1, by omega, by omega, .inl rfl, rfl⟩)
                go_wp2_with (at_builtin; refine Kd.R_append k37 (w0 := w) w.heap.size rfl (.tmp 78) (.tmp 81) 22 37 (.agg #[.int .i64 0, .int .i64 0, .string ⟨#[]⟩, .slice none 0 0, .slice none 0 0]) 80 rfl Tryd.underlying22 info37 rfl (by decide) (by omega) _ g ⟨1, 0, ⟨#[]⟩, [], []⟩ [.int .i64 (1), .int .i64 0, .string ⟨#[]⟩, .slice none 0 0, .slice none 0 0] (fun _ => True) (fun b => wr.heap.size ≤ b) rfl rfl HMn.out hown (fun _ _ => trivial) HRc.out HBc.out hsz htl ?_; intro v1 wZ hR4 hB4 _ _; have HR4 := Lib.hid hR4; have HB4 := Lib.hid hB4; clear hR4 hB4)
                go_roundw
                case rel => exact ⟨k + 1, by omega, by go_num, Lib.hid ⟨_, HR4.out, by rw [List.length_append, HGl.out]; rfl, HM.out.snoc HNo.out, HB4.out⟩⟩
                case measure => simp [intOf]; omega
              | false =>
                have HMn := Lib.hid (M_ints (W := wc) (base := w.heap.size) HB.out.size (4) 0 ⟨#[]⟩ (Kd.R_nil (Kd.int .i64) 3 wc wr.heap.size (fun _ => True)))
                have HNo := Lib.hid (show NodeOk false n (plainOf n) g.length ⟨4, 0, ⟨#[]⟩, [], []⟩ from .inl ⟨4, by omega, by omega, .inr (by omega), rfl⟩)
                go_wp2_with (at_builtin; refine Kd.R_append k37 (w0 := w) w.heap.size rfl (.tmp 78) (.tmp 81) 22 37 (.agg #[.int .i64 0, .int .i64 0, .string ⟨#[]⟩, .slice none 0 0, .slice none 0 0]) 80 rfl Tryd.underlying22 info37 rfl (by decide) (by omega) _ g ⟨4, 0, ⟨#[]⟩, [], []⟩ [.int .i64 (4), .int .i64 0, .string ⟨#[]⟩, .slice none 0 0, .slice none 0 0] (fun _ => True) (fun b => wr.heap.size ≤ b) rfl rfl HMn.out hown (fun _ _ => trivial) HRc.out HBc.out hsz htl ?_; intro v1 wZ hR4 hB4 _ _; have HR4 := Lib.hid hR4; have HB4 := Lib.hid hB4; clear hR4 hB4)
                go_roundw
                case rel => exact ⟨k + 1, by omega, by go_num, Lib.hid ⟨_, HR4.out, by rw [List.length_append, HGl.out]; rfl, HM.out.snoc HNo.out, HB4.out⟩⟩
                case measure => simp [intOf]; omega
            · have wr1 : IntKind.i64.wrap (1 + r) = 1 + r := by rw [IntKind.wrap_i64]; omega
              have dr : ((1 + r) == 1) = false := by simp; omega
              have dr2 : (r == 0) = false := by simp [hr0]
              have HMn := Lib.hid (M_ints (W := wc) (base := w.heap.size) HB.out.size (1 + r) 0 ⟨#[]⟩ (Kd.R_nil (Kd.int .i64) 3 wc wr.heap.size (fun _ => True)))
              have HNo := Lib.hid (show NodeOk dyn n (plainOf n) g.length ⟨1 + r, 0, ⟨#[]⟩, [], []⟩ from .inl ⟨1 + r, by omega, by omega, .inr (by omega), rfl⟩)
              go_wp2_with (at_builtin; refine Kd.R_append k37 (w0 := w) w.heap.size rfl (.tmp 78) (.tmp 81) 22 37 (.agg #[.int .i64 0, .int .i64 0, .string ⟨#[]⟩, .slice none 0 0, .slice none 0 0]) 80 rfl Tryd.underlying22 info37 rfl (by decide) (by omega) _ g ⟨1 + r, 0, ⟨#[]⟩, [], []⟩ [.int .i64 (1 + r), .int .i64 0, .string ⟨#[]⟩, .slice none 0 0, .slice none 0 0] (fun _ => True) (fun b => wr.heap.size ≤ b) rfl rfl HMn.out hown (fun _ _ => trivial) HRc.out HBc.out hsz htl ?_; intro v1 wZ hR4 hB4 _ _; have HR4 := Lib.hid hR4; have HB4 := Lib.hid hB4; clear hR4 hB4)
              go_roundw
              case rel => exact ⟨k + 1, by omega, by go_num, Lib.hid ⟨_, HR4.out, by rw [List.length_append, HGl.out]; rfl, HM.out.snoc HNo.out, HB4.out⟩⟩
              case measure => simp [intOf]; omega
          by_cases q1 : q = 1
          · subst q1
            clear hq q0
            have hbT : Below wr.heap.size wr (wc.alloc (.cells #[.string ⟨#[97]⟩, .string ⟨#[98]⟩] 9)) := HBx.out.alloc HBx.out.size _
            have HRt := Lib.hid (Kd.R_step HR.out (fun b _ hb => hbT.block b hb))
            have HBt := Lib.hid (HB.out.trans (hbT.mono HB.out.size))
            have hszt := HBt.out.size
            have HBr := Lib.hid (bring_calls x.f1 2 (wc.alloc (.cells #[.string ⟨#[97]⟩, .string ⟨#[98]⟩] 9)) (by omega) (by omega))
            have hr := bring_in (i := x.f1) (n := 2) (by omega)
            have t0 : (wc.alloc (.cells #[.string ⟨#[97]⟩, .string ⟨#[98]⟩] 9)).cell? ⟨wc.heap.size, 0, none⟩ = some (.string ⟨#[97]⟩) := by simp
            have t1 : (wc.alloc (.cells #[.string ⟨#[97]⟩, .string ⟨#[98]⟩] 9)).cell? ⟨wc.heap.size, 1, none⟩ = some (.string ⟨#[98]⟩) := by simp
            have s1t : (wc.alloc (.cells #[.string ⟨#[97]⟩, .string ⟨#[98]⟩] 9)).cell? ⟨wr.heap.size, 1, none⟩ = some (.int .i64 x.f1) := cell_alloc _ s1
            clear hbT
            go_wp2_with fail
            refine HBr.out.mono ?_
            clear HBr
            generalize wc.alloc (.cells #[.string ⟨#[97]⟩, .string ⟨#[98]⟩] 9) = wt at HRt HBt hszt t0 t1 s1t
            rintro e w' ⟨rfl, hww⟩
            replace hww := hww.symm
            subst hww
            generalize bringI x.f1 2 = r at hr ⊢
            by_cases hr0 : r = 0
            · subst hr0
              clear hr
              have HMn := Lib.hid (M_ints (W := wt) (base := w.heap.size) HB.out.size 5 0 ⟨#[97]⟩ (Kd.R_nil (Kd.int .i64) 3 wt wr.heap.size (fun _ => True)))
              have HNo := Lib.hid (show NodeOk dyn n (plainOf n) g.length ⟨5, 0, ⟨#[97]⟩, [], []⟩ from .inr (.inl ⟨⟨#[97]⟩, .inl rfl, rfl⟩))
              go_wp2_with (at_builtin; refine Kd.R_append k37 (w0 := w) w.heap.size rfl (.tmp 85) (.tmp 93) 22 37 (.agg #[.int .i64 0, .int .i64 0, .string ⟨#[]⟩, .slice none 0 0, .slice none 0 0]) 80 rfl Tryd.underlying22 info37 rfl (by decide) (by omega) _ g ⟨5, 0, ⟨#[97]⟩, [], []⟩ [.int .i64 5, .int .i64 0, .string ⟨#[97]⟩, .slice none 0 0, .slice none 0 0] (fun _ => True) (fun b => wr.heap.size ≤ b) rfl rfl HMn.out hown (fun _ _ => trivial) HRt.out HBt.out hszt htl ?_; intro v1 wZ hR4 hB4 _ _; have HR4 := Lib.hid hR4; have HB4 := Lib.hid hB4; clear hR4 hB4)
              go_roundw
              case rel => exact ⟨k + 1, by omega, by go_num, Lib.hid ⟨_, HR4.out, by rw [List.length_append, HGl.out]; rfl, HM.out.snoc HNo.out, HB4.out⟩⟩
              case measure => simp [intOf]; omega
            · obtain rfl : r = 1 := by omega
              clear hr hr0
              have HMn := Lib.hid (M_ints (W := wt) (base := w.heap.size) HB.out.size 5 0 ⟨#[98]⟩ (Kd.R_nil (Kd.int .i64) 3 wt wr.heap.size (fun _ => True)))
              have HNo := Lib.hid (show NodeOk dyn n (plainOf n) g.length ⟨5, 0, ⟨#[98]⟩, [], []⟩ from .inr (.inl ⟨⟨#[98]⟩, .inr rfl, rfl⟩))
              go_wp2_with (at_builtin; refine Kd.R_append k37 (w0 := w) w.heap.size rfl (.tmp 85) (.tmp 93) 22 37 (.agg #[.int .i64 0, .int .i64 0, .string ⟨#[]⟩, .slice none 0 0, .slice none 0 0]) 80 rfl Tryd.underlying22 info37 rfl (by decide) (by omega) _ g ⟨5, 0, ⟨#[98]⟩, [], []⟩ [.int .i64 5, .int .i64 0, .string ⟨#[98]⟩, .slice none 0 0, .slice none 0 0] (fun _ => True) (fun b => wr.heap.size ≤ b) rfl rfl HMn.out hown (fun _ _ => trivial) HRt.out HBt.out hszt htl ?_; intro v1 wZ hR4 hB4 _ _; have HR4 := Lib.hid hR4; have HB4 := Lib.hid hB4; clear hR4 hB4)
              go_roundw
              case rel => exact ⟨k + 1, by omega, by go_num, Lib.hid ⟨_, HR4.out, by rw [List.length_append, HGl.out]; rfl, HM.out.snoc HNo.out, HB4.out⟩⟩
              case measure => simp [intOf]; omega
          by_cases q2 : q = 2
          · subst q2
            clear hq q0 q1
            have hlen9 := HO9.out.two
            have hlenA : 1 ≤ c9 := by omega
            have hlenC : (1 : Int) ≤ (c9 : Int) := by omega
            have hlenD : ¬ ((c9 : Int) < 1) := by omega
            have hin9 := HO9.out.inn (rd r9 (0 : Nat)) (rd_memI (by omega) (by omega))
            have htk : r9.take 1 = [rd r9 (0 : Nat)] := by rw [← rd_take (b := 0) (by omega)]; rfl
            have HR1 := Lib.hid (Kd.R_take (m := 1) HR9c.out (by omega))
            rw [htk] at HR1
            generalize rd r9 ((0 : Nat) : Int) = y at HR1 hin9
            have HIn := Lib.hid hin9
            have HBrx := Lib.hid (fun W => bring_calls x.f1 2 W (by omega) (by omega))
            have hr := bring_in (i := x.f1) (n := 2) (by omega)
            clear htk hin9
            go_wp2
            refine start_ (n := 10) (S := fun w' => w'.cell? ⟨wr.heap.size, 1, none⟩ = some (.int .i64 x.f1)) (ds := [3, 7, 8]) #[false, false, false, false, false, false, false, false, false, false] (by kernel_rfl) rfl rfl s1 (fun hHeld => ?_)
            have HbD := Lib.hid (show Below wr.heap.size wr wc.drew from below_drewN HBx.out 1)
            have HRc1 := Lib.hid (show Kd.R (Kd.int .i64) 3 wc.drew _ _ _ _ from Kd.R_step HR1.out (fun _ _ _ => rfl))
            clear HR1
            generalize wc.drew = w1 at *
            refine pure_ (i := 0) (N := some 97) (v := ?_) (a' := ?_) #[true, false, false, false, false, false, false, false, false, false] rfl rfl (by kernel_rfl) (fun _ _ _ h => h) (Or.inl ⟨by rfl, ?_⟩) ?_ ?_
            rotate_left
            · intro w'
              go_simp
              with_reducible rfl
            rotate_left
            · simp only [Act.put, List.setIfInBounds_toArray, List.set_cons_zero, List.set_cons_succ]
              rfl
            refine pure_ (i := 1) (N := some 98) (v := ?_) (a' := ?_) #[true, true, false, false, false, false, false, false, false, false] rfl rfl (by kernel_rfl) (fun _ _ _ h => h) (Or.inl ⟨by rfl, ?_⟩) ?_ ?_
            rotate_left
            · intro w'
              go_simp
              with_reducible rfl
            rotate_left
            · simp only [Act.put, List.setIfInBounds_toArray, List.set_cons_zero, List.set_cons_succ]
              rfl
            refine pure_ (i := 4) (N := some 101) (v := ?_) (a' := ?_) #[true, true, false, false, true, false, false, false, false, false] rfl rfl (by kernel_rfl) (fun _ _ _ h => h) (Or.inl ⟨by rfl, ?_⟩) ?_ ?_
            rotate_left
            · intro w'
              go_simp
              with_reducible rfl
            rotate_left
            · simp only [Act.put, List.setIfInBounds_toArray, List.set_cons_zero, List.set_cons_succ]
              rfl
            refine pure_ (i := 5) (N := some 102) (v := ?_) (a' := ?_) #[true, true, false, false, true, true, false, false, false, false] rfl rfl (by kernel_rfl) (fun _ _ _ h => h) (Or.inl ⟨by rfl, ?_⟩) ?_ ?_
            rotate_left
            · intro w'
              go_simp
              with_reducible rfl
            rotate_left
            · simp only [Act.put, List.setIfInBounds_toArray, List.set_cons_zero, List.set_cons_succ]
              rfl
            refine take_ (i := 2) (N := some 99) (v := ?_) (a' := ?_) #[true, true, true, false, true, true, false, false, false, false] rfl rfl (by kernel_rfl) (fun _ _ _ h => h) (Or.inl ⟨by rfl, ?_⟩) hHeld ?_ ?_
            rotate_left
            · rintro w' s0
              go_simp
              with_reducible rfl
            rotate_left
            · simp only [Act.put, List.setIfInBounds_toArray, List.set_cons_zero, List.set_cons_succ]
              rfl
            refine last_ (i := 3) (N := some 100) #[true, true, true, true, true, true, false, false, false, false] rfl rfl (by kernel_rfl) (by decide) (fun K hK => ?_)
            refine goes_ Tryd.func24 (by kernel_rfl) rfl #[.int .i64 x.f1, .int .i64 2] (by rfl) rfl rfl (by simp only [List.map_toArray, List.map_cons, List.map_nil]; rfl) ?_
            refine (HBrx.out w1).mono ?_
            clear HBrx
            rintro e w' ⟨rfl, hww⟩
            replace hww := hww.symm
            subst hww
            refine ⟨_, rfl, hK.out _ _ ?_⟩
            clear hK K
            generalize bringI x.f1 2 = r at hr ⊢
            refine norm_ (a' := ?_) ?_ ?_
            rotate_left
            · show Act.put _ (some 100) _ = _
              simp only [Act.put, List.setIfInBounds_toArray, List.set_cons_zero, List.set_cons_succ]
              rfl
            refine pure_ (i := 6) (N := some 103) (v := ?_) (a' := ?_) #[true, true, true, true, true, true, true, false, false, false] rfl rfl (by kernel_rfl) (fun _ _ _ h => h) (Or.inl ⟨by rfl, ?_⟩) ?_ ?_
            rotate_left
            · intro w'
              go_simp
              with_reducible rfl
            rotate_left
            · simp only [Act.put, List.setIfInBounds_toArray, List.set_cons_zero, List.set_cons_succ]
              rfl
            have HMn := Lib.hid (M_ints (W := w1) (base := w.heap.size) HB.out.size 9 r ⟨#[]⟩ HRc1.out)
            have HRd := Lib.hid (Kd.R_step HR.out (fun b _ hb => HbD.out.block b hb))
            have HBd := Lib.hid (HB.out.trans (HbD.out.mono HB.out.size))
            have hszd := HBd.out.size
            have HNo := Lib.hid (show NodeOk dyn n (plainOf n) g.length ⟨9, r, ⟨#[]⟩, [], [y]⟩ from .inr (.inr (.inl ⟨r, y, hr.1, hr.2, HIn.out.1, HIn.out.2, rfl⟩)))
            refine last_ (i := 7) (N := some 104) #[true, true, true, true, true, true, true, true, false, false] rfl rfl (by kernel_rfl) (by decide) (fun K hK => ?_)
            refine value_ (w1 := ?_) (v := ?_) (by rfl) rfl ?_ ?_
            rotate_left 2
            · go_simp
              constructor
              · rfl
              · rfl
            refine hK.out _ _ ?_
            clear hK K
            refine norm_ (a' := ?_) ?_ ?_
            rotate_left
            · show Act.put _ (some 104) _ = _
              simp only [Act.put, List.setIfInBounds_toArray, List.set_cons_zero, List.set_cons_succ]
              rfl
            refine last_ (i := 8) (N := some 105) #[true, true, true, true, true, true, true, true, true, false] rfl rfl (by kernel_rfl) (by decide) (fun K hK => ?_)
            refine Kd.R_append_step k37 (w0 := w) w.heap.size (by rfl) (.tmp 97) (.tmp 104) 22 37 (.agg #[.int .i64 0, .int .i64 0, .string ⟨#[]⟩, .slice none 0 0, .slice none 0 0]) 80 rfl Tryd.underlying22 info37 rfl (by decide) (by omega) _ g ⟨9, r, ⟨#[]⟩, [], [y]⟩ [.int .i64 9, .int .i64 r, .string ⟨#[]⟩, .slice none 0 0, .slice A9 1 c9] (fun _ => True) (fun b => wr.heap.size ≤ b) rfl rfl HMn.out hown (fun _ _ => trivial) HRd.out HBd.out hszd htl ?_
            intro v1 wZ hR4 hB4 _ _
            have HR4 := Lib.hid hR4
            have HB4 := Lib.hid hB4
            clear hR4 hB4
            refine hK.out _ _ ?_
            clear hK K
            refine norm_ (a' := ?_) ?_ ?_
            rotate_left
            · show Act.put _ (some 105) _ = _
              simp only [Act.put, List.setIfInBounds_toArray, List.set_cons_zero, List.set_cons_succ]
              rfl
            refine pure_ (i := 9) (N := some 6) (v := ?_) (a' := ?_) #[true, true, true, true, true, true, true, true, true, true] rfl rfl (by kernel_rfl) (fun _ _ _ h => h) (Or.inl ⟨by rfl, ?_⟩) ?_ ?_
            rotate_left
            · intro w'
              go_simp
              with_reducible rfl
            rotate_left
            · simp only [Act.put, List.setIfInBounds_toArray, List.set_cons_zero, List.set_cons_succ]
              rfl
            refine done_ (by kernel_rfl) ?_
            go_wp2
            go_roundw
            case rel => exact ⟨k + 1, by omega, by go_num, Lib.hid ⟨_, HR4.out, by rw [List.length_append, HGl.out]; rfl, HM.out.snoc HNo.out, HB4.out⟩⟩
            case measure => simp [intOf]; omega
          by_cases q3 : q = 3
          · subst q3
            clear hq q0 q1 q2
            have hlen9 := HO9.out.two
            obtain ⟨a9, ha9, hc9'⟩ := int_cell (Kd.R_reads' HR9c.out).2.2 0 (by omega)
            subst ha9
            obtain ⟨b9, hb9, hd9'⟩ := int_cell (Kd.R_reads' HR9c.out).2.2 1 (by omega)
            obtain rfl := Option.some.inj hb9
            have hin9 := HO9.out.inn (rd r9 (0 : Nat)) (rd_memI (by omega) (by omega))
            have hin9' := HO9.out.inn (rd r9 (1 : Nat)) (rd_memI (by omega) (by omega))
            generalize rd r9 ((0 : Nat) : Int) = y at hc9' hin9
            generalize rd r9 ((1 : Nat) : Int) = z at hd9' hin9'
            replace hd9' : wc.cell? ⟨a9.block, a9.off + 1, none⟩ = some (.int .i64 z) := by have h := hd9'; rw [show (1 : Nat) = 0 + 1 from rfl, Addr.add_succ'] at h; exact h
            replace hc9' : wc.cell? a9 = some (.int .i64 y) := by have h := hc9'; rwa [Addr.add_zero'] at h
            have hlenA : 0 < r9.length := by omega
            have hlenB : 1 < r9.length := by omega
            have hlenC : (1 : Int) < (r9.length : Int) := by omega
            have hlenD : ¬ ((r9.length : Int) ≤ 1) := by omega
            have hlenE : ¬ (r9.length ≤ 1) := by omega
            go_wp2
            refine start_ (n := 12) (S := fun w' => w'.cell? a9 = some (.int .i64 y) ∧ w'.cell? ⟨a9.block, a9.off + 1, none⟩ = some (.int .i64 z)) (ds := [7, 8, 9, 10]) #[false, false, false, false, false, false, false, false, false, false, false, false] (by kernel_rfl) rfl rfl ⟨hc9', hd9'⟩ (fun hHeld => ?_)
            have hbD : Below wr.heap.size wr wc.drew := below_drewN HBx.out 1
            have HbD := Lib.hid hbD
            have HRe := Lib.hid (rec_calls (wc.drew.alloc (.cells #[.int .i64 y, .int .i64 z] 3)) (some ⟨wc.drew.heap.size, 0, none⟩) 2 2 (by omega))
            clear hbD
            generalize wc.drew = w1 at *
            refine pure_ (i := 0) (N := some 108) (v := ?_) (a' := ?_) #[true, false, false, false, false, false, false, false, false, false, false, false] rfl rfl (by kernel_rfl) (fun _ _ _ h => h) (Or.inl ⟨by rfl, ?_⟩) ?_ ?_
            rotate_left
            · intro w'
              go_simp
              with_reducible rfl
            rotate_left
            · simp only [Act.put, List.setIfInBounds_toArray, List.set_cons_zero, List.set_cons_succ]
              rfl
            refine pure_ (i := 1) (N := some 109) (v := ?_) (a' := ?_) #[true, true, false, false, false, false, false, false, false, false, false, false] rfl rfl (by kernel_rfl) (fun _ _ _ h => h) (Or.inl ⟨by rfl, ?_⟩) ?_ ?_
            rotate_left
            · intro w'
              go_simp
              with_reducible rfl
            rotate_left
            · simp only [Act.put, List.setIfInBounds_toArray, List.set_cons_zero, List.set_cons_succ]
              rfl
            refine pure_ (i := 2) (N := some 110) (v := ?_) (a' := ?_) #[true, true, true, false, false, false, false, false, false, false, false, false] rfl rfl (by kernel_rfl) (fun _ _ _ h => h) (Or.inl ⟨by rfl, ?_⟩) ?_ ?_
            rotate_left
            · intro w'
              go_simp
              with_reducible rfl
            rotate_left
            · simp only [Act.put, List.setIfInBounds_toArray, List.set_cons_zero, List.set_cons_succ]
              rfl
            refine pure_ (i := 4) (N := some 112) (v := ?_) (a' := ?_) #[true, true, true, false, true, false, false, false, false, false, false, false] rfl rfl (by kernel_rfl) (fun _ _ _ h => h) (Or.inl ⟨by rfl, ?_⟩) ?_ ?_
            rotate_left
            · intro w'
              go_simp
              with_reducible rfl
            rotate_left
            · simp only [Act.put, List.setIfInBounds_toArray, List.set_cons_zero, List.set_cons_succ]
              rfl
            refine pure_ (i := 5) (N := some 113) (v := ?_) (a' := ?_) #[true, true, true, false, true, true, false, false, false, false, false, false] rfl rfl (by kernel_rfl) (fun _ _ _ h => h) (Or.inl ⟨by rfl, ?_⟩) ?_ ?_
            rotate_left
            · intro w'
              go_simp
              with_reducible rfl
            rotate_left
            · simp only [Act.put, List.setIfInBounds_toArray, List.set_cons_zero, List.set_cons_succ]
              rfl
            refine take_ (i := 3) (N := some 111) (v := ?_) (a' := ?_) #[true, true, true, true, true, true, false, false, false, false, false, false] rfl rfl (by kernel_rfl) (fun _ _ _ h => h) (Or.inl ⟨by rfl, ?_⟩) hHeld ?_ ?_
            rotate_left
            · rintro w' ⟨s0, s1⟩
              go_simp
              with_reducible rfl
            rotate_left
            · simp only [Act.put, List.setIfInBounds_toArray, List.set_cons_zero, List.set_cons_succ]
              rfl
            refine take_ (i := 6) (N := some 114) (v := ?_) (a' := ?_) #[true, true, true, true, true, true, true, false, false, false, false, false] rfl rfl (by kernel_rfl) (fun _ _ _ h => h) (Or.inl ⟨by rfl, ?_⟩) hHeld ?_ ?_
            rotate_left
            · rintro w' ⟨s0, s1⟩
              go_simp
              with_reducible rfl
            rotate_left
            · simp only [Act.put, List.setIfInBounds_toArray, List.set_cons_zero, List.set_cons_succ]
              rfl
            refine last_ (i := 7) (N := some 115) #[true, true, true, true, true, true, true, true, false, false, false, false] rfl rfl (by kernel_rfl) (by decide) (fun K hK => ?_)
            refine value_ (w1 := ?_) (v := ?_) (by rfl) rfl ?_ ?_
            rotate_left 2
            · go_simp
              constructor
              · rfl
              · rfl
            refine hK.out _ _ ?_
            clear hK K
            refine norm_ (a' := ?_) ?_ ?_
            rotate_left
            · show Act.put _ (some 115) _ = _
              simp only [Act.put, List.setIfInBounds_toArray, List.set_cons_zero, List.set_cons_succ]
              rfl
            refine last_ (i := 8) (N := some 116) #[true, true, true, true, true, true, true, true, true, false, false, false] rfl rfl (by kernel_rfl) (by decide) (fun K hK => ?_)
            refine goes_ Tryd.func39 (by kernel_rfl) rfl #[.slice (some ⟨w1.heap.size, 0, none⟩) 2 2] (by rfl) rfl rfl (by simp only [List.map_toArray, List.map_cons, List.map_nil]; rfl) ?_
            refine HRe.out.mono ?_
            clear HRe
            rintro e wd ⟨b3, rfl, hR3, hB3⟩
            refine ⟨_, rfl, hK.out _ _ ?_⟩
            clear hK K
            have hbI : Below wr.heap.size wr (w1.alloc (.cells #[.int .i64 y, .int .i64 z] 3)) := HbD.out.alloc HbD.out.size _
            have hbd := hbI.trans (hB3.mono hbI.size)
            have hRI := Kd.R_step (Kd.R_lower (R_two w1 y z) HbD.out.size) (w1 := wd) (fun b _ hb => hB3.block b hb)
            have HMn := Lib.hid (M_rec (W := wd) (base := w.heap.size) HB.out.size (Kd.R_lower hR3 hbI.size) hRI)
            have HRd := Lib.hid (Kd.R_step HR.out (fun b _ hb => hbd.block b hb))
            have HBd := Lib.hid (HB.out.trans (hbd.mono HB.out.size))
            have hszd := HBd.out.size
            have HNo := Lib.hid (show NodeOk dyn n (plainOf n) g.length ⟨7, 0, ⟨#[]⟩, [kA, kB, kC3].take 2, [y, z]⟩ from .inr (.inr (.inr (.inl ⟨[y, z], by simp, fun a ha => by
              rcases List.mem_cons.1 ha with h | h
              · rw [h]; exact hin9
              · rw [List.mem_singleton.1 h]; exact hin9', rfl⟩))))
            clear hR3 hB3 hbd hRI hbI
            refine norm_ (a' := ?_) ?_ ?_
            rotate_left
            · show Act.put _ (some 116) _ = _
              simp only [Act.put, List.setIfInBounds_toArray, List.set_cons_zero, List.set_cons_succ]
              rfl
            refine last_ (i := 9) (N := some 117) #[true, true, true, true, true, true, true, true, true, true, false, false] rfl rfl (by kernel_rfl) (by decide) (fun K hK => ?_)
            refine value_ (w1 := ?_) (v := ?_) (by rfl) rfl ?_ ?_
            rotate_left 2
            · go_simp
              constructor
              · rfl
              · rfl
            refine hK.out _ _ ?_
            clear hK K
            refine norm_ (a' := ?_) ?_ ?_
            rotate_left
            · show Act.put _ (some 117) _ = _
              simp only [Act.put, List.setIfInBounds_toArray, List.set_cons_zero, List.set_cons_succ]
              rfl
            refine last_ (i := 10) (N := some 118) #[true, true, true, true, true, true, true, true, true, true, true, false] rfl rfl (by kernel_rfl) (by decide) (fun K hK => ?_)
            refine Kd.R_append_step k37 (w0 := w) w.heap.size (by rfl) (.tmp 108) (.tmp 117) 22 37 (.agg #[.int .i64 0, .int .i64 0, .string ⟨#[]⟩, .slice none 0 0, .slice none 0 0]) 80 rfl Tryd.underlying22 info37 rfl (by decide) (by omega) _ g ⟨7, 0, ⟨#[]⟩, [kA, kB, kC3].take 2, [y, z]⟩ [.int .i64 7, .int .i64 0, .string ⟨#[]⟩, .slice (some ⟨b3, 0, none⟩) 2 3, .slice (some ⟨w1.heap.size, 0, none⟩) 2 2] (fun _ => True) (fun b => wr.heap.size ≤ b) rfl rfl HMn.out hown (fun _ _ => trivial) HRd.out HBd.out hszd htl ?_
            intro v1 wZ hR4 hB4 _ _
            have HR4 := Lib.hid hR4
            have HB4 := Lib.hid hB4
            clear hR4 hB4
            refine hK.out _ _ ?_
            clear hK K
            refine norm_ (a' := ?_) ?_ ?_
            rotate_left
            · show Act.put _ (some 118) _ = _
              simp only [Act.put, List.setIfInBounds_toArray, List.set_cons_zero, List.set_cons_succ]
              rfl
            refine pure_ (i := 11) (N := some 6) (v := ?_) (a' := ?_) #[true, true, true, true, true, true, true, true, true, true, true, true] rfl rfl (by kernel_rfl) (fun _ _ _ h => h) (Or.inl ⟨by rfl, ?_⟩) ?_ ?_
            rotate_left
            · intro w'
              go_simp
              with_reducible rfl
            rotate_left
            · simp only [Act.put, List.setIfInBounds_toArray, List.set_cons_zero, List.set_cons_succ]
              rfl
            refine done_ (by kernel_rfl) ?_
            go_wp2
            go_roundw
            case rel => exact ⟨k + 1, by omega, by go_num, Lib.hid ⟨_, HR4.out, by rw [List.length_append, HGl.out]; rfl, HM.out.snoc HNo.out, HB4.out⟩⟩
            case measure => simp [intOf]; omega
          by_cases q4 : q = 4
          · subst q4
            clear hq q0 q1 q2 q3
            have HRe := Lib.hid (rec_calls wc none 0 0 (by omega))
            go_wp2_with fail
            refine HRe.out.mono ?_
            clear HRe
            rintro e wd ⟨b3, rfl, hR3, hB3⟩
            have hbd := HBx.out.trans (hB3.mono HBx.out.size)
            have HMn := Lib.hid (M_rec (W := wd) (base := w.heap.size) HB.out.size (Kd.R_lower hR3 HBx.out.size) (Kd.R_nil (Kd.int .i64) 3 wd wr.heap.size (fun _ => True)))
            have HRd := Lib.hid (Kd.R_step HR.out (fun b _ hb => hbd.block b hb))
            have HBd := Lib.hid (HB.out.trans (hbd.mono HB.out.size))
            have hszd := HBd.out.size
            have HNo := Lib.hid (show NodeOk dyn n (plainOf n) g.length ⟨7, 0, ⟨#[]⟩, [kA, kB, kC3].take 0, []⟩ from .inr (.inr (.inr (.inl ⟨[], by simp, fun a ha => (by cases ha), rfl⟩))))
            clear hR3 hB3 hbd
            go_wp2_with (at_builtin; refine Kd.R_append k37 (w0 := w) w.heap.size rfl (.tmp 121) (.tmp 123) 22 37 (.agg #[.int .i64 0, .int .i64 0, .string ⟨#[]⟩, .slice none 0 0, .slice none 0 0]) 80 rfl Tryd.underlying22 info37 rfl (by decide) (by omega) _ g ⟨7, 0, ⟨#[]⟩, [kA, kB, kC3].take 0, []⟩ [.int .i64 7, .int .i64 0, .string ⟨#[]⟩, .slice (some ⟨b3, 0, none⟩) 0 3, .slice none 0 0] (fun _ => True) (fun b => wr.heap.size ≤ b) rfl rfl HMn.out hown (fun _ _ => trivial) HRd.out HBd.out hszd htl ?_; intro v1 wZ hR4 hB4 _ _; have HR4 := Lib.hid hR4; have HB4 := Lib.hid hB4; clear hR4 hB4)
            go_roundw
            case rel => exact ⟨k + 1, by omega, by go_num, Lib.hid ⟨_, HR4.out, by rw [List.length_append, HGl.out]; rfl, HM.out.snoc HNo.out, HB4.out⟩⟩
            case measure => simp [intOf]; omega
          · have dq0 : (q == 0) = false := by simp [q0]
            have dq1 : (q == 1) = false := by simp [q1]
            have dq2 : (q == 2) = false := by simp [q2]
            have dq3 : (q == 3) = false := by simp [q3]
            have dq4 : (q == 4) = false := by simp [q4]
            clear q0 q1 q2 q3 q4 hq
            obtain ⟨a9, ha9, hc9'⟩ := int_cell0 (Kd.R_reads' HR9c.out).2.2 (by have := HO9.out.two; omega)
            subst ha9
            have hin9 := HO9.out.inn (rd r9 0) (rd_memI (by omega) (by have := HO9.out.two; omega))
            generalize rd r9 0 = y at hc9' hin9
            have hlen9 : 0 < r9.length := by have := HO9.out.two; omega
            have HRe := Lib.hid (rec_calls (wc.alloc (.cells #[.int .i64 y] 3)) (some ⟨wc.heap.size, 0, none⟩) 1 1 (by omega))
            go_wp2_with fail
            refine HRe.out.mono ?_
            clear HRe
            rintro e wd ⟨b3, rfl, hR3, hB3⟩
            have hbI : Below wr.heap.size wr (wc.alloc (.cells #[.int .i64 y] 3)) := HBx.out.alloc HBx.out.size _
            have hbd := hbI.trans (hB3.mono hbI.size)
            have hRI := Kd.R_step (Kd.R_lower (R_one wc y) HBx.out.size) (w1 := wd) (fun b _ hb => hB3.block b hb)
            have HMn := Lib.hid (M_rec (W := wd) (base := w.heap.size) HB.out.size (Kd.R_lower hR3 hbI.size) hRI)
            have HRd := Lib.hid (Kd.R_step HR.out (fun b _ hb => hbd.block b hb))
            have HBd := Lib.hid (HB.out.trans (hbd.mono HB.out.size))
            have hszd := HBd.out.size
            have HNo := Lib.hid (show NodeOk dyn n (plainOf n) g.length ⟨7, 0, ⟨#[]⟩, [kA, kB, kC3].take 1, [y]⟩ from .inr (.inr (.inr (.inl ⟨[y], by simp, fun a ha => by rw [List.mem_singleton.1 ha]; exact hin9, rfl⟩))))
            clear hR3 hB3 hbd hRI hbI
            go_wp2_with (at_builtin; refine Kd.R_append k37 (w0 := w) w.heap.size rfl (.tmp 58) (.tmp 64) 22 37 (.agg #[.int .i64 0, .int .i64 0, .string ⟨#[]⟩, .slice none 0 0, .slice none 0 0]) 80 rfl Tryd.underlying22 info37 rfl (by decide) (by omega) _ g ⟨7, 0, ⟨#[]⟩, [kA, kB, kC3].take 1, [y]⟩ [.int .i64 7, .int .i64 0, .string ⟨#[]⟩, .slice (some ⟨b3, 0, none⟩) 1 3, .slice (some ⟨wc.heap.size, 0, none⟩) 1 1] (fun _ => True) (fun b => wr.heap.size ≤ b) rfl rfl HMn.out hown (fun _ _ => trivial) HRd.out HBd.out hszd htl ?_; intro v1 wZ hR4 hB4 _ _; have HR4 := Lib.hid hR4; have HB4 := Lib.hid hB4; clear hR4 hB4)
            go_roundw
            case rel => exact ⟨k + 1, by omega, by go_num, Lib.hid ⟨_, HR4.out, by rw [List.length_append, HGl.out]; rfl, HM.out.snoc HNo.out, HB4.out⟩⟩
            case measure => simp [intOf]; omega
      · have dg : decide (P ≤ (k : Int)) = false := decide_eq_false hge
        have hown := fun b (hb : wr.heap.size ≤ b) => (show True ∧ some b ≠ _ from ⟨trivial, fun he => by have := ((Kd.R_bound HR.out).1 b he.symm).2.2.1; omega⟩)
        have htl : (g.length + 1) * 80 ≤ 140737488355328 := by have := HGl.out; omega
        obtain ⟨wc, hwc⟩ : ∃ wc, wc = w2 := ⟨_, rfl⟩
        subst hwc
        have HBx := Lib.hid HB2.out
        have HR9c := Lib.hid HR9.out
        have HBr := Lib.hid (bring_calls x.f0 7 wc (by omega) (by omega))
        have hq := bring_in (i := x.f0) (n := 7) (by omega)
        have HRc := Lib.hid (Kd.R_step HR.out (fun b _ hb => HBx.out.block b hb))
        have HBc := Lib.hid (HB.out.trans (HBx.out.mono HB.out.size))
        have hsz := HBc.out.size
        go_wp2_with fail
        refine HBr.out.mono ?_
        clear HBr
        rintro e w' ⟨rfl, hww⟩
        replace hww := hww.symm
        subst hww
        generalize bringI x.f0 7 = q at hq ⊢
        by_cases q0 : q = 0
        · subst q0
          clear hq
          have HBr := Lib.hid (bring_calls x.f1 4 wc (by omega) (by omega))
          have hr := bring_in (i := x.f1) (n := 4) (by omega)
          go_wp2_with fail
          refine HBr.out.mono ?_
          clear HBr
          rintro e w' ⟨rfl, hww⟩
          replace hww := hww.symm
          subst hww
          generalize bringI x.f1 4 = r at hr ⊢
          obtain ⟨r0, r4⟩ := hr
          by_cases hr0 : r = 0
          · subst hr0
            cases dyn with
            | true =>
              have HMn := Lib.hid (M_ints (W := wc) (base := w.heap.size) HB.out.size (1) 0 ⟨#[]⟩ (Kd.R_nil (Kd.int .i64) 3 wc wr.heap.size (fun _ => True)))
              have HNo := Lib.hid (show NodeOk true n (plainOf n) g.length ⟨1, 0, ⟨#[]⟩, [], []⟩ from .inl ⟨1, by omega, by omega, .inl rfl, rfl⟩)
              go_wp2_with (at_builtin; refine Kd.R_append k37 (w0 := w) w.heap.size rfl (.tmp 78) (.tmp 81) 22 37 (.agg #[.int .i64 0, .int .i64 0, .string ⟨#[]⟩, .slice none 0 0, .slice none 0 0]) 80 rfl Tryd.underlying22 info37 rfl (by decide) (by omega) _ g ⟨1, 0, ⟨#[]⟩, [], []⟩ [.int .i64 (1), .int .i64 0, .string ⟨#[]⟩, .slice none 0 0, .slice none 0 0] (fun _ => True) (fun b => wr.heap.size ≤ b) rfl rfl HMn.out hown (fun _ _ => trivial) HRc.out HBc.out hsz htl ?_; intro v1 wZ hR4 hB4 _ _; have HR4 := Lib.hid hR4; have HB4 := Lib.hid hB4; clear hR4 hB4)
              go_roundw
              case rel => exact ⟨k + 1, by omega, by go_num, Lib.hid ⟨_, HR4.out, by rw [List.length_append, HGl.out]; rfl, HM.out.snoc HNo.out, HB4.out⟩⟩
              case measure => simp [intOf]; omega
            | false =>
              have HMn := Lib.hid (M_ints (W := wc) (base := w.heap.size) HB.out.size (4) 0 ⟨#[]⟩ (Kd.R_nil (Kd.int .i64) 3 wc wr.heap.size (fun _ => True)))
              have HNo := Lib.hid (show NodeOk false n (plainOf n) g.length ⟨4, 0, ⟨#[]⟩, [], []⟩ from .inl ⟨4, by omega, by omega, .inr (by omega), rfl⟩)
              go_wp2_with (at_builtin; refine Kd.R_append k37 (w0 := w) w.heap.size rfl (.tmp 78) (.tmp 81) 22 37 (.agg #[.int .i64 0, .int .i64 0, .string ⟨#[]⟩, .slice none 0 0, .slice none 0 0]) 80 rfl Tryd.underlying22 info37 rfl (by decide) (by omega) _ g ⟨4, 0, ⟨#[]⟩, [], []⟩ [.int .i64 (4), .int .i64 0, .string ⟨#[]⟩, .slice none 0 0, .slice none 0 0] (fun _ => True) (fun b => wr.heap.size ≤ b) rfl rfl HMn.out hown (fun _ _ => trivial) HRc.out HBc.out hsz htl ?_; intro v1 wZ hR4 hB4 _ _; have HR4 := Lib.hid hR4; have HB4 := Lib.hid hB4; clear hR4 hB4)
              go_roundw
              case rel => exact ⟨k + 1, by omega, by go_num, Lib.hid ⟨_, HR4.out, by rw [List.length_append, HGl.out]; rfl, HM.out.snoc HNo.out, HB4.out⟩⟩
              case measure => simp [intOf]; omega
          · have wr1 : IntKind.i64.wrap (1 + r) = 1 + r := by rw [IntKind.wrap_i64]; omega
            have dr : ((1 + r) == 1) = false := by simp; omega
            have dr2 : (r == 0) = false := by simp [hr0]
            have HMn := Lib.hid (M_ints (W := wc) (base := w.heap.size) HB.out.size (1 + r) 0 ⟨#[]⟩ (Kd.R_nil (Kd.int .i64) 3 wc wr.heap.size (fun _ => True)))
            have HNo := Lib.hid (show NodeOk dyn n (plainOf n) g.length ⟨1 + r, 0, ⟨#[]⟩, [], []⟩ from .inl ⟨1 + r, by omega, by omega, .inr (by omega), rfl⟩)
            go_wp2_with (at_builtin; refine Kd.R_append k37 (w0 := w) w.heap.size rfl (.tmp 78) (.tmp 81) 22 37 (.agg #[.int .i64 0, .int .i64 0, .string ⟨#[]⟩, .slice none 0 0, .slice none 0 0]) 80 rfl Tryd.underlying22 info37 rfl (by decide) (by omega) _ g ⟨1 + r, 0, ⟨#[]⟩, [], []⟩ [.int .i64 (1 + r), .int .i64 0, .string ⟨#[]⟩, .slice none 0 0, .slice none 0 0] (fun _ => True) (fun b => wr.heap.size ≤ b) rfl rfl HMn.out hown (fun _ _ => trivial) HRc.out HBc.out hsz htl ?_; intro v1 wZ hR4 hB4 _ _; have HR4 := Lib.hid hR4; have HB4 := Lib.hid hB4; clear hR4 hB4)
            go_roundw
            case rel => exact ⟨k + 1, by omega, by go_num, Lib.hid ⟨_, HR4.out, by rw [List.length_append, HGl.out]; rfl, HM.out.snoc HNo.out, HB4.out⟩⟩
            case measure => simp [intOf]; omega
        by_cases q1 : q = 1
        · subst q1
          clear hq q0
          have hbT : Below wr.heap.size wr (wc.alloc (.cells #[.string ⟨#[97]⟩, .string ⟨#[98]⟩] 9)) := HBx.out.alloc HBx.out.size _
          have HRt := Lib.hid (Kd.R_step HR.out (fun b _ hb => hbT.block b hb))
          have HBt := Lib.hid (HB.out.trans (hbT.mono HB.out.size))
          have hszt := HBt.out.size
          have HBr := Lib.hid (bring_calls x.f1 2 (wc.alloc (.cells #[.string ⟨#[97]⟩, .string ⟨#[98]⟩] 9)) (by omega) (by omega))
          have hr := bring_in (i := x.f1) (n := 2) (by omega)
          have t0 : (wc.alloc (.cells #[.string ⟨#[97]⟩, .string ⟨#[98]⟩] 9)).cell? ⟨wc.heap.size, 0, none⟩ = some (.string ⟨#[97]⟩) := by simp
          have t1 : (wc.alloc (.cells #[.string ⟨#[97]⟩, .string ⟨#[98]⟩] 9)).cell? ⟨wc.heap.size, 1, none⟩ = some (.string ⟨#[98]⟩) := by simp
          have s1t : (wc.alloc (.cells #[.string ⟨#[97]⟩, .string ⟨#[98]⟩] 9)).cell? ⟨wr.heap.size, 1, none⟩ = some (.int .i64 x.f1) := cell_alloc _ s1
          clear hbT
          go_wp2_with fail
          refine HBr.out.mono ?_
          clear HBr
          generalize wc.alloc (.cells #[.string ⟨#[97]⟩, .string ⟨#[98]⟩] 9) = wt at HRt HBt hszt t0 t1 s1t
          rintro e w' ⟨rfl, hww⟩
          replace hww := hww.symm
          subst hww
          generalize bringI x.f1 2 = r at hr ⊢
          by_cases hr0 : r = 0
          · subst hr0
            clear hr
            have HMn := Lib.hid (M_ints (W := wt) (base := w.heap.size) HB.out.size 5 0 ⟨#[97]⟩ (Kd.R_nil (Kd.int .i64) 3 wt wr.heap.size (fun _ => True)))
            have HNo := Lib.hid (show NodeOk dyn n (plainOf n) g.length ⟨5, 0, ⟨#[97]⟩, [], []⟩ from .inr (.inl ⟨⟨#[97]⟩, .inl rfl, rfl⟩))
            go_wp2_with (at_builtin; refine Kd.R_append k37 (w0 := w) w.heap.size rfl (.tmp 85) (.tmp 93) 22 37 (.agg #[.int .i64 0, .int .i64 0, .string ⟨#[]⟩, .slice none 0 0, .slice none 0 0]) 80 rfl Tryd.underlying22 info37 rfl (by decide) (by omega) _ g ⟨5, 0, ⟨#[97]⟩, [], []⟩ [.int .i64 5, .int .i64 0, .string ⟨#[97]⟩, .slice none 0 0, .slice none 0 0] (fun _ => True) (fun b => wr.heap.size ≤ b) rfl rfl HMn.out hown (fun _ _ => trivial) HRt.out HBt.out hszt htl ?_; intro v1 wZ hR4 hB4 _ _; have HR4 := Lib.hid hR4; have HB4 := Lib.hid hB4; clear hR4 hB4)
            go_roundw
            case rel => exact ⟨k + 1, by omega, by go_num, Lib.hid ⟨_, HR4.out, by rw [List.length_append, HGl.out]; rfl, HM.out.snoc HNo.out, HB4.out⟩⟩
            case measure => simp [intOf]; omega
          · obtain rfl : r = 1 := by omega
            clear hr hr0
            have HMn := Lib.hid (M_ints (W := wt) (base := w.heap.size) HB.out.size 5 0 ⟨#[98]⟩ (Kd.R_nil (Kd.int .i64) 3 wt wr.heap.size (fun _ => True)))
            have HNo := Lib.hid (show NodeOk dyn n (plainOf n) g.length ⟨5, 0, ⟨#[98]⟩, [], []⟩ from .inr (.inl ⟨⟨#[98]⟩, .inr rfl, rfl⟩))
            go_wp2_with (at_builtin; refine Kd.R_append k37 (w0 := w) w.heap.size rfl (.tmp 85) (.tmp 93) 22 37 (.agg #[.int .i64 0, .int .i64 0, .string ⟨#[]⟩, .slice none 0 0, .slice none 0 0]) 80 rfl Tryd.underlying22 info37 rfl (by decide) (by omega) _ g ⟨5, 0, ⟨#[98]⟩, [], []⟩ [.int .i64 5, .int .i64 0, .string ⟨#[98]⟩, .slice none 0 0, .slice none 0 0] (fun _ => True) (fun b => wr.heap.size ≤ b) rfl rfl HMn.out hown (fun _ _ => trivial) HRt.out HBt.out hszt htl ?_; intro v1 wZ hR4 hB4 _ _; have HR4 := Lib.hid hR4; have HB4 := Lib.hid hB4; clear hR4 hB4)
            go_roundw
            case rel => exact ⟨k + 1, by omega, by go_num, Lib.hid ⟨_, HR4.out, by rw [List.length_append, HGl.out]; rfl, HM.out.snoc HNo.out, HB4.out⟩⟩
            case measure => simp [intOf]; omega
        by_cases q2 : q = 2
        · subst q2
          clear hq q0 q1
          have hlen9 := HO9.out.two
          have hlenA : 1 ≤ c9 := by omega
          have hlenC : (1 : Int) ≤ (c9 : Int) := by omega
          have hlenD : ¬ ((c9 : Int) < 1) := by omega
          have hin9 := HO9.out.inn (rd r9 (0 : Nat)) (rd_memI (by omega) (by omega))
          have htk : r9.take 1 = [rd r9 (0 : Nat)] := by rw [← rd_take (b := 0) (by omega)]; rfl
          have HR1 := Lib.hid (Kd.R_take (m := 1) HR9c.out (by omega))
          rw [htk] at HR1
          generalize rd r9 ((0 : Nat) : Int) = y at HR1 hin9
          have HIn := Lib.hid hin9
          have HBrx := Lib.hid (fun W => bring_calls x.f1 2 W (by omega) (by omega))
          have hr := bring_in (i := x.f1) (n := 2) (by omega)
          clear htk hin9
          go_wp2
          refine start_ (n := 10) (S := fun w' => w'.cell? ⟨wr.heap.size, 1, none⟩ = some (.int .i64 x.f1)) (ds := [3, 7, 8]) #[false, false, false, false, false, false, false, false, false, false] (by kernel_rfl) rfl rfl s1 (fun hHeld => ?_)
          have HbD := Lib.hid (show Below wr.heap.size wr wc.drew from below_drewN HBx.out 1)
          have HRc1 := Lib.hid (show Kd.R (Kd.int .i64) 3 wc.drew _ _ _ _ from Kd.R_step HR1.out (fun _ _ _ => rfl))
          clear HR1
          generalize wc.drew = w1 at *
          refine pure_ (i := 0) (N := some 97) (v := ?_) (a' := ?_) #[true, false, false, false, false, false, false, false, false, false] rfl rfl (by kernel_rfl) (fun _ _ _ h => h) (Or.inl ⟨by rfl, ?_⟩) ?_ ?_
          rotate_left
          · intro w'
            go_simp
            with_reducible rfl
          rotate_left
          · simp only [Act.put, List.setIfInBounds_toArray, List.set_cons_zero, List.set_cons_succ]
            rfl
          refine pure_ (i := 1) (N := some 98) (v := ?_) (a' := ?_) #[true, true, false, false, false, false, false, false, false, false] rfl rfl (by kernel_rfl) (fun _ _ _ h => h) (Or.inl ⟨by rfl, ?_⟩) ?_ ?_
          rotate_left
          · intro w'
            go_simp
            with_reducible rfl
          rotate_left
          · simp only [Act.put, List.setIfInBounds_toArray, List.set_cons_zero, List.set_cons_succ]
            rfl
          refine pure_ (i := 4) (N := some 101) (v := ?_) (a' := ?_) #[true, true, false, false, true, false, false, false, false, false] rfl rfl (by kernel_rfl) (fun _ _ _ h => h) (Or.inl ⟨by rfl, ?_⟩) ?_ ?_
          rotate_left
          · intro w'
            go_simp
            with_reducible rfl
          rotate_left
          · simp only [Act.put, List.setIfInBounds_toArray, List.set_cons_zero, List.set_cons_succ]
            rfl
          refine pure_ (i := 5) (N := some 102) (v := ?_) (a' := ?_) #[true, true, false, false, true, true, false, false, false, false] rfl rfl (by kernel_rfl) (fun _ _ _ h => h) (Or.inl ⟨by rfl, ?_⟩) ?_ ?_
          rotate_left
          · intro w'
            go_simp
            with_reducible rfl
          rotate_left
          · simp only [Act.put, List.setIfInBounds_toArray, List.set_cons_zero, List.set_cons_succ]
            rfl
          refine take_ (i := 2) (N := some 99) (v := ?_) (a' := ?_) #[true, true, true, false, true, true, false, false, false, false] rfl rfl (by kernel_rfl) (fun _ _ _ h => h) (Or.inl ⟨by rfl, ?_⟩) hHeld ?_ ?_
          rotate_left
          · rintro w' s0
            go_simp
            with_reducible rfl
          rotate_left
          · simp only [Act.put, List.setIfInBounds_toArray, List.set_cons_zero, List.set_cons_succ]
            rfl
          refine last_ (i := 3) (N := some 100) #[true, true, true, true, true, true, false, false, false, false] rfl rfl (by kernel_rfl) (by decide) (fun K hK => ?_)
          refine goes_ Tryd.func24 (by kernel_rfl) rfl #[.int .i64 x.f1, .int .i64 2] (by rfl) rfl rfl (by simp only [List.map_toArray, List.map_cons, List.map_nil]; rfl) ?_
          refine (HBrx.out w1).mono ?_
          clear HBrx
          rintro e w' ⟨rfl, hww⟩
          replace hww := hww.symm
          subst hww
          refine ⟨_, rfl, hK.out _ _ ?_⟩
          clear hK K
          generalize bringI x.f1 2 = r at hr ⊢
          refine norm_ (a' := ?_) ?_ ?_
          rotate_left
          · show Act.put _ (some 100) _ = _
            simp only [Act.put, List.setIfInBounds_toArray, List.set_cons_zero, List.set_cons_succ]
            rfl
          refine pure_ (i := 6) (N := some 103) (v := ?_) (a' := ?_) #[true, true, true, true, true, true, true, false, false, false] rfl rfl (by kernel_rfl) (fun _ _ _ h => h) (Or.inl ⟨by rfl, ?_⟩) ?_ ?_
          rotate_left
          · intro w'
            go_simp
            with_reducible rfl
          rotate_left
          · simp only [Act.put, List.setIfInBounds_toArray, List.set_cons_zero, List.set_cons_succ]
            rfl
          have HMn := Lib.hid (M_ints (W := w1) (base := w.heap.size) HB.out.size 9 r ⟨#[]⟩ HRc1.out)
          have HRd := Lib.hid (Kd.R_step HR.out (fun b _ hb => HbD.out.block b hb))
          have HBd := Lib.hid (HB.out.trans (HbD.out.mono HB.out.size))
          have hszd := HBd.out.size
          have HNo := Lib.hid (show NodeOk dyn n (plainOf n) g.length ⟨9, r, ⟨#[]⟩, [], [y]⟩ from .inr (.inr (.inl ⟨r, y, hr.1, hr.2, HIn.out.1, HIn.out.2, rfl⟩)))
          refine last_ (i := 7) (N := some 104) #[true, true, true, true, true, true, true, true, false, false] rfl rfl (by kernel_rfl) (by decide) (fun K hK => ?_)
          refine value_ (w1 := ?_) (v := ?_) (by rfl) rfl ?_ ?_
          rotate_left 2
          · go_simp
            constructor
            · rfl
            · rfl
          refine hK.out _ _ ?_
          clear hK K
          refine norm_ (a' := ?_) ?_ ?_
          rotate_left
          · show Act.put _ (some 104) _ = _
            simp only [Act.put, List.setIfInBounds_toArray, List.set_cons_zero, List.set_cons_succ]
            rfl
          refine last_ (i := 8) (N := some 105) #[true, true, true, true, true, true, true, true, true, false] rfl rfl (by kernel_rfl) (by decide) (fun K hK => ?_)
          refine Kd.R_append_step k37 (w0 := w) w.heap.size (by rfl) (.tmp 97) (.tmp 104) 22 37 (.agg #[.int .i64 0, .int .i64 0, .string ⟨#[]⟩, .slice none 0 0, .slice none 0 0]) 80 rfl Tryd.underlying22 info37 rfl (by decide) (by omega) _ g ⟨9, r, ⟨#[]⟩, [], [y]⟩ [.int .i64 9, .int .i64 r, .string ⟨#[]⟩, .slice none 0 0, .slice A9 1 c9] (fun _ => True) (fun b => wr.heap.size ≤ b) rfl rfl HMn.out hown (fun _ _ => trivial) HRd.out HBd.out hszd htl ?_
          intro v1 wZ hR4 hB4 _ _
          have HR4 := Lib.hid hR4
          have HB4 := Lib.hid hB4
          clear hR4 hB4
          refine hK.out _ _ ?_
          clear hK K
          refine norm_ (a' := ?_) ?_ ?_
          rotate_left
          · show Act.put _ (some 105) _ = _
            simp only [Act.put, List.setIfInBounds_toArray, List.set_cons_zero, List.set_cons_succ]
            rfl
          refine pure_ (i := 9) (N := some 6) (v := ?_) (a' := ?_) #[true, true, true, true, true, true, true, true, true, true] rfl rfl (by kernel_rfl) (fun _ _ _ h => h) (Or.inl ⟨by rfl, ?_⟩) ?_ ?_
          rotate_left
          · intro w'
            go_simp
            with_reducible rfl
          rotate_left
          · simp only [Act.put, List.setIfInBounds_toArray, List.set_cons_zero, List.set_cons_succ]
            rfl
          refine done_ (by kernel_rfl) ?_
          go_wp2
          go_roundw
          case rel => exact ⟨k + 1, by omega, by go_num, Lib.hid ⟨_, HR4.out, by rw [List.length_append, HGl.out]; rfl, HM.out.snoc HNo.out, HB4.out⟩⟩
          case measure => simp [intOf]; omega
        by_cases q3 : q = 3
        · subst q3
          clear hq q0 q1 q2
          have hlen9 := HO9.out.two
          obtain ⟨a9, ha9, hc9'⟩ := int_cell (Kd.R_reads' HR9c.out).2.2 0 (by omega)
          subst ha9
          obtain ⟨b9, hb9, hd9'⟩ := int_cell (Kd.R_reads' HR9c.out).2.2 1 (by omega)
          obtain rfl := Option.some.inj hb9
          have hin9 := HO9.out.inn (rd r9 (0 : Nat)) (rd_memI (by omega) (by omega))
          have hin9' := HO9.out.inn (rd r9 (1 : Nat)) (rd_memI (by omega) (by omega))
          generalize rd r9 ((0 : Nat) : Int) = y at hc9' hin9
          generalize rd r9 ((1 : Nat) : Int) = z at hd9' hin9'
          replace hd9' : wc.cell? ⟨a9.block, a9.off + 1, none⟩ = some (.int .i64 z) := by have h := hd9'; rw [show (1 : Nat) = 0 + 1 from rfl, Addr.add_succ'] at h; exact h
          replace hc9' : wc.cell? a9 = some (.int .i64 y) := by have h := hc9'; rwa [Addr.add_zero'] at h
          have hlenA : 0 < r9.length := by omega
          have hlenB : 1 < r9.length := by omega
          have hlenC : (1 : Int) < (r9.length : Int) := by omega
          have hlenD : ¬ ((r9.length : Int) ≤ 1) := by omega
          have hlenE : ¬ (r9.length ≤ 1) := by omega
          go_wp2
          refine start_ (n := 12) (S := fun w' => w'.cell? a9 = some (.int .i64 y) ∧ w'.cell? ⟨a9.block, a9.off + 1, none⟩ = some (.int .i64 z)) (ds := [7, 8, 9, 10]) #[false, false, false, false, false, false, false, false, false, false, false, false] (by kernel_rfl) rfl rfl ⟨hc9', hd9'⟩ (fun hHeld => ?_)
          have hbD : Below wr.heap.size wr wc.drew := below_drewN HBx.out 1
          have HbD := Lib.hid hbD
          have HRe := Lib.hid (rec_calls (wc.drew.alloc (.cells #[.int .i64 y, .int .i64 z] 3)) (some ⟨wc.drew.heap.size, 0, none⟩) 2 2 (by omega))
          clear hbD
          generalize wc.drew = w1 at *
          refine pure_ (i := 0) (N := some 108) (v := ?_) (a' := ?_) #[true, false, false, false, false, false, false, false, false, false, false, false] rfl rfl (by kernel_rfl) (fun _ _ _ h => h) (Or.inl ⟨by rfl, ?_⟩) ?_ ?_
          rotate_left
          · intro w'
            go_simp
            with_reducible rfl
          rotate_left
          · simp only [Act.put, List.setIfInBounds_toArray, List.set_cons_zero, List.set_cons_succ]
            rfl
          refine pure_ (i := 1) (N := some 109) (v := ?_) (a' := ?_) #[true, true, false, false, false, false, false, false, false, false, false, false] rfl rfl (by kernel_rfl) (fun _ _ _ h => h) (Or.inl ⟨by rfl, ?_⟩) ?_ ?_
          rotate_left
          · intro w'
            go_simp
            with_reducible rfl
          rotate_left
          · simp only [Act.put, List.setIfInBounds_toArray, List.set_cons_zero, List.set_cons_succ]
            rfl
          refine pure_ (i := 2) (N := some 110) (v := ?_) (a' := ?_) #[true, true, true, false, false, false, false, false, false, false, false, false] rfl rfl (by kernel_rfl) (fun _ _ _ h => h) (Or.inl ⟨by rfl, ?_⟩) ?_ ?_
          rotate_left
          · intro w'
            go_simp
            with_reducible rfl
          rotate_left
          · simp only [Act.put, List.setIfInBounds_toArray, List.set_cons_zero, List.set_cons_succ]
            rfl
          refine pure_ (i := 4) (N := some 112) (v := ?_) (a' := ?_) #[true, true, true, false, true, false, false, false, false, false, false, false] rfl rfl (by kernel_rfl) (fun _ _ _ h => h) (Or.inl ⟨by rfl, ?_⟩) ?_ ?_
          rotate_left
          · intro w'
            go_simp
            with_reducible rfl
          rotate_left
          · simp only [Act.put, List.setIfInBounds_toArray, List.set_cons_zero, List.set_cons_succ]
            rfl
          refine pure_ (i := 5) (N := some 113) (v := ?_) (a' := ?_) #[true, true, true, false, true, true, false, false, false, false, false, false] rfl rfl (by kernel_rfl) (fun _ _ _ h => h) (Or.inl ⟨by rfl, ?_⟩) ?_ ?_
          rotate_left
          · intro w'
            go_simp
            with_reducible rfl
          rotate_left
          · simp only [Act.put, List.setIfInBounds_toArray, List.set_cons_zero, List.set_cons_succ]
            rfl
          refine take_ (i := 3) (N := some 111) (v := ?_) (a' := ?_) #[true, true, true, true, true, true, false, false, false, false, false, false] rfl rfl (by kernel_rfl) (fun _ _ _ h => h) (Or.inl ⟨by rfl, ?_⟩) hHeld ?_ ?_
          rotate_left
          · rintro w' ⟨s0, s1⟩
            go_simp
            with_reducible rfl
          rotate_left
          · simp only [Act.put, List.setIfInBounds_toArray, List.set_cons_zero, List.set_cons_succ]
            rfl
          refine take_ (i := 6) (N := some 114) (v := ?_) (a' := ?_) #[true, true, true, true, true, true, true, false, false, false, false, false] rfl rfl (by kernel_rfl) (fun _ _ _ h => h) (Or.inl ⟨by rfl, ?_⟩) hHeld ?_ ?_
          rotate_left
          · rintro w' ⟨s0, s1⟩
            go_simp
            with_reducible rfl
          rotate_left
          · simp only [Act.put, List.setIfInBounds_toArray, List.set_cons_zero, List.set_cons_succ]
            rfl
          refine last_ (i := 7) (N := some 115) #[true, true, true, true, true, true, true, true, false, false, false, false] rfl rfl (by kernel_rfl) (by decide) (fun K hK => ?_)
          refine value_ (w1 := ?_) (v := ?_) (by rfl) rfl ?_ ?_
          rotate_left 2
          · go_simp
            constructor
            · rfl
            · rfl
          refine hK.out _ _ ?_
          clear hK K
          refine norm_ (a' := ?_) ?_ ?_
          rotate_left
          · show Act.put _ (some 115) _ = _
            simp only [Act.put, List.setIfInBounds_toArray, List.set_cons_zero, List.set_cons_succ]
            rfl
          refine last_ (i := 8) (N := some 116) #[true, true, true, true, true, true, true, true, true, false, false, false] rfl rfl (by kernel_rfl) (by decide) (fun K hK => ?_)
          refine goes_ Tryd.func39 (by kernel_rfl) rfl #[.slice (some ⟨w1.heap.size, 0, none⟩) 2 2] (by rfl) rfl rfl (by simp only [List.map_toArray, List.map_cons, List.map_nil]; rfl) ?_
          refine HRe.out.mono ?_
          clear HRe
          rintro e wd ⟨b3, rfl, hR3, hB3⟩
          refine ⟨_, rfl, hK.out _ _ ?_⟩
          clear hK K
          have hbI : Below wr.heap.size wr (w1.alloc (.cells #[.int .i64 y, .int .i64 z] 3)) := HbD.out.alloc HbD.out.size _
          have hbd := hbI.trans (hB3.mono hbI.size)
          have hRI := Kd.R_step (Kd.R_lower (R_two w1 y z) HbD.out.size) (w1 := wd) (fun b _ hb => hB3.block b hb)
          have HMn := Lib.hid (M_rec (W := wd) (base := w.heap.size) HB.out.size (Kd.R_lower hR3 hbI.size) hRI)
          have HRd := Lib.hid (Kd.R_step HR.out (fun b _ hb => hbd.block b hb))
          have HBd := Lib.hid (HB.out.trans (hbd.mono HB.out.size))
          have hszd := HBd.out.size
          have HNo := Lib.hid (show NodeOk dyn n (plainOf n) g.length ⟨7, 0, ⟨#[]⟩, [kA, kB, kC3].take 2, [y, z]⟩ from .inr (.inr (.inr (.inl ⟨[y, z], by simp, fun a ha => by
            rcases List.mem_cons.1 ha with h | h
            · rw [h]; exact hin9
            · rw [List.mem_singleton.1 h]; exact hin9', rfl⟩))))
          clear hR3 hB3 hbd hRI hbI
          refine norm_ (a' := ?_) ?_ ?_
          rotate_left
          · show Act.put _ (some 116) _ = _
            simp only [Act.put, List.setIfInBounds_toArray, List.set_cons_zero, List.set_cons_succ]
            rfl
          refine last_ (i := 9) (N := some 117) #[true, true, true, true, true, true, true, true, true, true, false, false] rfl rfl (by kernel_rfl) (by decide) (fun K hK => ?_)
          refine value_ (w1 := ?_) (v := ?_) (by rfl) rfl ?_ ?_
          rotate_left 2
          · go_simp
            constructor
            · rfl
            · rfl
          refine hK.out _ _ ?_
          clear hK K
          refine norm_ (a' := ?_) ?_ ?_
          rotate_left
          · show Act.put _ (some 117) _ = _
            simp only [Act.put, List.setIfInBounds_toArray, List.set_cons_zero, List.set_cons_succ]
            rfl
          refine last_ (i := 10) (N := some 118) #[true, true, true, true, true, true, true, true, true, true, true, false] rfl rfl (by kernel_rfl) (by decide) (fun K hK => ?_)
          refine Kd.R_append_step k37 (w0 := w) w.heap.size (by rfl) (.tmp 108) (.tmp 117) 22 37 (.agg #[.int .i64 0, .int .i64 0, .string ⟨#[]⟩, .slice none 0 0, .slice none 0 0]) 80 rfl Tryd.underlying22 info37 rfl (by decide) (by omega) _ g ⟨7, 0, ⟨#[]⟩, [kA, kB, kC3].take 2, [y, z]⟩ [.int .i64 7, .int .i64 0, .string ⟨#[]⟩, .slice (some ⟨b3, 0, none⟩) 2 3, .slice (some ⟨w1.heap.size, 0, none⟩) 2 2] (fun _ => True) (fun b => wr.heap.size ≤ b) rfl rfl HMn.out hown (fun _ _ => trivial) HRd.out HBd.out hszd htl ?_
          intro v1 wZ hR4 hB4 _ _
          have HR4 := Lib.hid hR4
          have HB4 := Lib.hid hB4
          clear hR4 hB4
          refine hK.out _ _ ?_
          clear hK K
          refine norm_ (a' := ?_) ?_ ?_
          rotate_left
          · show Act.put _ (some 118) _ = _
            simp only [Act.put, List.setIfInBounds_toArray, List.set_cons_zero, List.set_cons_succ]
            rfl
          refine pure_ (i := 11) (N := some 6) (v := ?_) (a' := ?_) #[true, true, true, true, true, true, true, true, true, true, true, true] rfl rfl (by kernel_rfl) (fun _ _ _ h => h) (Or.inl ⟨by rfl, ?_⟩) ?_ ?_
          rotate_left
          · intro w'
            go_simp
            with_reducible rfl
          rotate_left
          · simp only [Act.put, List.setIfInBounds_toArray, List.set_cons_zero, List.set_cons_succ]
            rfl
          refine done_ (by kernel_rfl) ?_
          go_wp2
          go_roundw
          case rel => exact ⟨k + 1, by omega, by go_num, Lib.hid ⟨_, HR4.out, by rw [List.length_append, HGl.out]; rfl, HM.out.snoc HNo.out, HB4.out⟩⟩
          case measure => simp [intOf]; omega
        by_cases q4 : q = 4
        · subst q4
          clear hq q0 q1 q2 q3
          have HRe := Lib.hid (rec_calls wc none 0 0 (by omega))
          go_wp2_with fail
          refine HRe.out.mono ?_
          clear HRe
          rintro e wd ⟨b3, rfl, hR3, hB3⟩
          have hbd := HBx.out.trans (hB3.mono HBx.out.size)
          have HMn := Lib.hid (M_rec (W := wd) (base := w.heap.size) HB.out.size (Kd.R_lower hR3 HBx.out.size) (Kd.R_nil (Kd.int .i64) 3 wd wr.heap.size (fun _ => True)))
          have HRd := Lib.hid (Kd.R_step HR.out (fun b _ hb => hbd.block b hb))
          have HBd := Lib.hid (HB.out.trans (hbd.mono HB.out.size))
          have hszd := HBd.out.size
          have HNo := Lib.hid (show NodeOk dyn n (plainOf n) g.length ⟨7, 0, ⟨#[]⟩, [kA, kB, kC3].take 0, []⟩ from .inr (.inr (.inr (.inl ⟨[], by simp, fun a ha => (by cases ha), rfl⟩))))
          clear hR3 hB3 hbd
          go_wp2_with (at_builtin; refine Kd.R_append k37 (w0 := w) w.heap.size rfl (.tmp 121) (.tmp 123) 22 37 (.agg #[.int .i64 0, .int .i64 0, .string ⟨#[]⟩, .slice none 0 0, .slice none 0 0]) 80 rfl Tryd.underlying22 info37 rfl (by decide) (by omega) _ g ⟨7, 0, ⟨#[]⟩, [kA, kB, kC3].take 0, []⟩ [.int .i64 7, .int .i64 0, .string ⟨#[]⟩, .slice (some ⟨b3, 0, none⟩) 0 3, .slice none 0 0] (fun _ => True) (fun b => wr.heap.size ≤ b) rfl rfl HMn.out hown (fun _ _ => trivial) HRd.out HBd.out hszd htl ?_; intro v1 wZ hR4 hB4 _ _; have HR4 := Lib.hid hR4; have HB4 := Lib.hid hB4; clear hR4 hB4)
          go_roundw
          case rel => exact ⟨k + 1, by omega, by go_num, Lib.hid ⟨_, HR4.out, by rw [List.length_append, HGl.out]; rfl, HM.out.snoc HNo.out, HB4.out⟩⟩
          case measure => simp [intOf]; omega
        · have dq0 : (q == 0) = false := by simp [q0]
          have dq1 : (q == 1) = false := by simp [q1]
          have dq2 : (q == 2) = false := by simp [q2]
          have dq3 : (q == 3) = false := by simp [q3]
          have dq4 : (q == 4) = false := by simp [q4]
          clear q0 q1 q2 q3 q4 hq
          obtain ⟨a9, ha9, hc9'⟩ := int_cell0 (Kd.R_reads' HR9c.out).2.2 (by have := HO9.out.two; omega)
          subst ha9
          have hin9 := HO9.out.inn (rd r9 0) (rd_memI (by omega) (by have := HO9.out.two; omega))
          generalize rd r9 0 = y at hc9' hin9
          have hlen9 : 0 < r9.length := by have := HO9.out.two; omega
          have HRe := Lib.hid (rec_calls (wc.alloc (.cells #[.int .i64 y] 3)) (some ⟨wc.heap.size, 0, none⟩) 1 1 (by omega))
          go_wp2_with fail
          refine HRe.out.mono ?_
          clear HRe
          rintro e wd ⟨b3, rfl, hR3, hB3⟩
          have hbI : Below wr.heap.size wr (wc.alloc (.cells #[.int .i64 y] 3)) := HBx.out.alloc HBx.out.size _
          have hbd := hbI.trans (hB3.mono hbI.size)
          have hRI := Kd.R_step (Kd.R_lower (R_one wc y) HBx.out.size) (w1 := wd) (fun b _ hb => hB3.block b hb)
          have HMn := Lib.hid (M_rec (W := wd) (base := w.heap.size) HB.out.size (Kd.R_lower hR3 hbI.size) hRI)
          have HRd := Lib.hid (Kd.R_step HR.out (fun b _ hb => hbd.block b hb))
          have HBd := Lib.hid (HB.out.trans (hbd.mono HB.out.size))
          have hszd := HBd.out.size
          have HNo := Lib.hid (show NodeOk dyn n (plainOf n) g.length ⟨7, 0, ⟨#[]⟩, [kA, kB, kC3].take 1, [y]⟩ from .inr (.inr (.inr (.inl ⟨[y], by simp, fun a ha => by rw [List.mem_singleton.1 ha]; exact hin9, rfl⟩))))
          clear hR3 hB3 hbd hRI hbI
          go_wp2_with (at_builtin; refine Kd.R_append k37 (w0 := w) w.heap.size rfl (.tmp 58) (.tmp 64) 22 37 (.agg #[.int .i64 0, .int .i64 0, .string ⟨#[]⟩, .slice none 0 0, .slice none 0 0]) 80 rfl Tryd.underlying22 info37 rfl (by decide) (by omega) _ g ⟨7, 0, ⟨#[]⟩, [kA, kB, kC3].take 1, [y]⟩ [.int .i64 7, .int .i64 0, .string ⟨#[]⟩, .slice (some ⟨b3, 0, none⟩) 1 3, .slice (some ⟨wc.heap.size, 0, none⟩) 1 1] (fun _ => True) (fun b => wr.heap.size ≤ b) rfl rfl HMn.out hown (fun _ _ => trivial) HRd.out HBd.out hszd htl ?_; intro v1 wZ hR4 hB4 _ _; have HR4 := Lib.hid hR4; have HB4 := Lib.hid hB4; clear hR4 hB4)
          go_roundw
          case rel => exact ⟨k + 1, by omega, by go_num, Lib.hid ⟨_, HR4.out, by rw [List.length_append, HGl.out]; rfl, HM.out.snoc HNo.out, HB4.out⟩⟩
          case measure => simp [intOf]; omega
    · obtain rfl : k = n := by omega
      obtain ⟨g, hR, hgl, hM, hB⟩ := HI.out
      obtain ⟨AG, cG, hG, hcG, hCG⟩ := Kd.R_reads hR
      subst hG
      have HR := Lib.hid hR
      have HM := Lib.hid hM
      have HB := Lib.hid hB
      have HCG := Lib.hid hCG
      have HN2 := Lib.hid (show g.length = min l.length 14 from by rw [hgl]; exact HN.out)
      clear HI hR hM hB hCG
      obtain ⟨Pn, hPn2⟩ : ∃ Pn : Nat, P = Pn := ⟨P.toNat, by omega⟩
      subst hPn2
      obtain ⟨wq, hwq⟩ : ∃ wq, wq = wr := ⟨_, rfl⟩
      subst hwq
      go_wp2
      go_loopw [12] (fun s12 W => ∃ i : Nat, Pn ≤ i ∧ i ≤ g.length ∧ s12 = .int .i64 i ∧ Hid (W = wq)) (fun s12 _ => g.length - (intOf s12).toNat)
      case atStart => exact ⟨Pn, Nat.le_refl _, by omega, rfl, Lib.hid rfl⟩
      case round =>
        obtain ⟨i, hPi, hig, rfl, HW⟩ := hrel
        have hww := HW.out
        subst hww
        clear HW
        by_cases hit : i < g.length
        · obtain ⟨aG, A3, c3, A4, c4, rfl, n0, _, _, _, n4, _, _, hl4, g4⟩ := at_node HCG.out i hit
          have HC4 := Lib.hid g4
          have HNode := Lib.hid (HM.out.node i hit)
          obtain ⟨y, hy⟩ : ∃ y, y = rd_T37 g i := ⟨_, rfl⟩
          rw [← hy] at n0 n4 hl4 HC4 HNode
          clear g4 hy
          go_wp2
          go_loopw [13] (fun s13 W => ∃ j : Nat, j ≤ y.f4.length ∧ s13 = .int .i64 j ∧ Hid (W = wr)) (fun s13 _ => y.f4.length - (intOf s13).toNat)
          case atStart => exact ⟨0, Nat.zero_le _, rfl, Lib.hid rfl⟩
          case round =>
            obtain ⟨j, hj, rfl, HW⟩ := hrel
            have hlim := HC4.out.2.1
            have hww := HW.out
            subst hww
            clear HW
            by_cases hjt : j < y.f4.length
            · have dj : decide ((j : Int) < (y.f4.length : Int)) = true := by simp; omega
              by_cases h8 : y.f0 = 8
              · have n8 : (y.f0 == 8) = true := by simp [h8]
                obtain ⟨a4, rfl, hz⟩ := int_cell HC4.out j hjt
                have hin := node_union HNode.out h8 (rd y.f4 j) (rd_memI (by omega) (by omega))
                rw [HP.out] at hin
                obtain ⟨z, hzz⟩ : ∃ z : Nat, rd y.f4 j = z := ⟨(rd y.f4 j).toNat, by omega⟩
                rw [hzz] at hz hin
                obtain ⟨aG', _, _, _, _, hae, m0, _⟩ := at_node HCG.out z (by omega)
                obtain rfl := Option.some.inj hae
                have hz8 : ((rd_T37 g z).f0 == 8) = false := by
                  have := node_low (HM.out.node z (by omega)) (by rw [HP.out]; omega)
                  simp [this]
                have hzl : z < g.length := by omega
                have hzd : decide ((z : Int) < (g.length : Int)) = true := by simp; omega
                clear hin hzz h8
                go_wp2
                go_roundw
                case rel => exact ⟨j + 1, by omega, by go_num, Lib.hid (by simp)⟩
                case measure => simp [intOf]; omega
              · have n8 : (y.f0 == 8) = false := by simp [h8]
                clear h8
                go_wp2
                go_roundw
                case rel => exact ⟨i + 1, by omega, by omega, by go_num, Lib.hid (by simp)⟩
                case measure => simp [intOf]; omega
            · have dj : decide ((j : Int) < (y.f4.length : Int)) = false := by simp; omega
              go_wp2
              go_roundw
              case rel => exact ⟨i + 1, by omega, by omega, by go_num, Lib.hid (by simp)⟩
              case measure => simp [intOf]; omega
        · obtain rfl : i = g.length := by omega
          go_wp2
          go_ret
          exact ⟨_, g, rfl, HR.out, HN2.out, by rw [hgl]; exact HM.out, HB.out⟩
end Go.Proofs.YtcljgfpcdlnlkaaDoor.Q
namespace Go.Proofs.YtcljgfpcdlnlkaaDoor.Q
open Go.RowKit Go.Proofs.YtcljgfpcdlnlkaaDoorW.PrintWords Mp
theorem name_kA : isNameB kA = true := by decide +kernel
theorem name_kB : isNameB kB = true := by decide +kernel
theorem name_kC3 : isNameB kC3 = true := by decide +kernel
theorem outs_in {n : Nat} {L : List Int} (h : ∀ a ∈ L, 0 ≤ a ∧ a < n) : L.any (outB n) = false := by
  rw [List.any_eq_false]
  intro a ha
  have := h a ha
  simp only [outB, Bool.or_eq_true, decide_eq_true_eq]
  omega
theorem rec_keys {L : List Int} (h : L.length ≤ 2) : [kA, kB, kC3].take L.length = [] ∧ L.length = 0 ∨ [kA, kB, kC3].take L.length = [kA] ∧ L.length = 1 ∨ [kA, kB, kC3].take L.length = [kA, kB] ∧ L.length = 2 := by
  match L, h with
  | [], _ => exact .inl ⟨rfl, rfl⟩
  | [_], _ => exact .inr (.inl ⟨rfl, rfl⟩)
  | [_, _], _ => exact .inr (.inr ⟨rfl, rfl⟩)
theorem node_may {dyn : Bool} {plain : Int} {g : List S37} {i : Nat} {x : S37} (hp : plain ≤ g.length) (hlow : ∀ a : Int, 0 ≤ a → a < plain → (rd_T37 g a).f0 ≠ 8) (h : NodeOk dyn g.length plain i x) : mayB g x = true := by
  rcases h with ⟨k, h1, h4, _, rfl⟩ | ⟨s, hs, rfl⟩ | ⟨m, a, hm0, hm2, ha0, han, rfl⟩ | ⟨L, hL, hin, rfl⟩ | ⟨L, _, h2, _, hd, hin, rfl⟩
  · have hh : headB g.length ⟨k, 0, ⟨#[]⟩, [], []⟩ = false := by simp [headB, ByteArray.size]
    unfold mayB
    rw [hh, if_neg (by decide), if_pos (show k = 1 ∨ k = 2 ∨ k = 3 ∨ k = 4 by omega)]
    rfl
  · have hh : headB g.length ⟨5, 0, s, [], []⟩ = false := by simp [headB]
    have hn : isNameB s = true := by rcases hs with rfl | rfl <;> first | exact name_kA | exact name_kB
    unfold mayB
    rw [hh, if_neg (by decide), if_neg (show ¬ ((5 : Int) = 1 ∨ (5 : Int) = 2 ∨ (5 : Int) = 3 ∨ (5 : Int) = 4) by decide), if_pos rfl]
    simp [hn]
  · have hh : headB g.length ⟨9, m, ⟨#[]⟩, [], [a]⟩ = false := by
      unfold headB
      rw [outs_in (L := [a]) (fun b hb => by rw [List.mem_singleton.1 hb]; exact ⟨ha0, han⟩)]
      simp [ByteArray.size]
    unfold mayB
    rw [hh, if_neg (by decide), if_neg (show ¬ ((9 : Int) = 1 ∨ (9 : Int) = 2 ∨ (9 : Int) = 3 ∨ (9 : Int) = 4) by decide), if_neg (show ¬ (9 : Int) = 5 by decide), if_neg (show ¬ (9 : Int) = 7 by decide), if_neg (show ¬ (9 : Int) = 8 by decide), if_pos rfl]
    simp only [Bool.and_eq_true, decide_eq_true_eq, List.length_singleton, and_true]
    omega
  · have hh : headB g.length ⟨7, 0, ⟨#[]⟩, [kA, kB, kC3].take L.length, L⟩ = false := by
      unfold headB
      rw [outs_in hin]
      simp [ByteArray.size]
    unfold mayB
    rw [hh, if_neg (by decide), if_neg (show ¬ ((7 : Int) = 1 ∨ (7 : Int) = 2 ∨ (7 : Int) = 3 ∨ (7 : Int) = 4) by decide), if_neg (show ¬ (7 : Int) = 5 by decide), if_pos rfl]
    rcases rec_keys hL with ⟨h1, h2⟩ | ⟨h1, h2⟩ | ⟨h1, h2⟩
    all_goals
      simp only [h2]
    · decide
    · rw [show [kA, kB, kC3].take 1 = [kA] from rfl, show ([kA].any fun s => !isNameB s) = false by simp [name_kA]]; decide +kernel
    · rw [show [kA, kB, kC3].take 2 = [kA, kB] from rfl, show ([kA, kB].any fun s => !isNameB s) = false by simp [name_kA, name_kB]]; decide +kernel
  · have hh : headB g.length ⟨8, 0, ⟨#[]⟩, [], L⟩ = false := by
      unfold headB
      rw [outs_in (fun a ha => ⟨(hin a ha).1, by have := (hin a ha).2; omega⟩)]
      simp [ByteArray.size]
    unfold mayB
    rw [hh, if_neg (by decide), if_neg (show ¬ ((8 : Int) = 1 ∨ (8 : Int) = 2 ∨ (8 : Int) = 3 ∨ (8 : Int) = 4) by decide), if_neg (show ¬ (8 : Int) = 5 by decide), if_neg (show ¬ (8 : Int) = 7 by decide), if_pos rfl]
    simp only [Bool.and_eq_true, List.all_eq_true, decide_eq_true_eq]
    exact ⟨⟨fun a ha => hlow a (hin a ha).1 (hin a ha).2, h2⟩, hd⟩
theorem rd37_nat {g : List S37} {a : Int} (h0 : 0 ≤ a) : rd_T37 g a = rd_T37 g ((a.toNat : Nat) : Int) := by rw [Int.toNat_of_nonneg h0]
theorem mem_rd37 {g : List S37} {x : S37} (hx : x ∈ g) : ∃ i : Nat, i < g.length ∧ rd_T37 g i = x := by
  obtain ⟨i, hi, rfl⟩ := List.getElem_of_mem hx
  exact ⟨i, hi, rd_get g i hi⟩
theorem made_low {dyn : Bool} {g : List S37} (h : MadeOk dyn g.length g) : ∀ a : Int, 0 ≤ a → a < plainOf g.length → (rd_T37 g a).f0 ≠ 8 := by
  intro a h0 h1
  rw [rd37_nat h0]
  exact node_low (h.node a.toNat (by unfold plainOf at h1; omega)) (by omega)
theorem made_may {dyn : Bool} {g : List S37} (h : MadeOk dyn g.length g) : ∀ x ∈ g, mayB g x = true := by
  intro x hx
  obtain ⟨i, hi, rfl⟩ := mem_rd37 hx
  exact node_may (by unfold plainOf; omega) (made_low h) (h.node i hi)
theorem made_check {dyn : Bool} {g : List S37} (h : MadeOk dyn g.length g) (hl : g.length ≤ 2000) : checkP g = 0 := by
  unfold checkP
  rw [if_neg (by omega), if_pos (List.all_eq_true.2 (made_may h))]
theorem node_short {dyn : Bool} {n plain : Int} {i : Nat} {x : S37} (h : NodeOk dyn n plain i x) : x.f3.length ≤ 2 ∧ x.f4.length ≤ 4 := by
  rcases h with ⟨k, h1, h4, _, rfl⟩ | ⟨s, hs, rfl⟩ | ⟨m, a, hm0, hm2, ha0, han, rfl⟩ | ⟨L, hL, hin, rfl⟩ | ⟨L, _, h2, h4, hd, hin, rfl⟩
  · simp
  · simp
  · simp
  · simp only [List.length_take]; omega
  · simp only [List.length_nil]; omega
theorem made_four {dyn : Bool} {n : Int} {g : List S37} (h : MadeOk dyn n g) {a : Int} (h0 : 0 ≤ a) (h1 : a < g.length) : (rd_T37 g a).f3.length ≤ 2 ∧ (rd_T37 g a).f4.length ≤ 4 := by
  rw [rd37_nat h0]
  exact node_short (h.node a.toNat (by omega))
theorem made_members {dyn : Bool} {n : Int} {g : List S37} (h : MadeOk dyn n g) (b : Int) : (membersL g b).length ≤ 4 := by
  unfold membersL
  split
  · simp
  · split
    · exact (made_four h (by omega) (by omega)).2
    · simp
theorem made_short {dyn : Bool} {n : Int} {g : List S37} (h : MadeOk dyn n g) : ∀ x ∈ g, x.f3.length ≤ 9223372036854775807 ∧ x.f4.length ≤ 9223372036854775807 := by
  intro x hx
  obtain ⟨i, hi, rfl⟩ := mem_rd37 hx
  have := node_short (h.node i hi)
  omega
theorem node_keys {dyn : Bool} {n plain : Int} {i : Nat} {x : S37} (h : NodeOk dyn n plain i x) : x.f3.Nodup := by
  rcases h with ⟨k, h1, h4, _, rfl⟩ | ⟨s, hs, rfl⟩ | ⟨m, a, hm0, hm2, ha0, han, rfl⟩ | ⟨L, hL, hin, rfl⟩ | ⟨L, _, h2, h4, hd, hin, rfl⟩
  · simp
  · simp
  · simp
  · exact List.Nodup.sublist (List.take_sublist _ _) (by decide +kernel)
  · simp
theorem made_keys {dyn : Bool} {n : Int} {g : List S37} (h : MadeOk dyn n g) : ∀ x ∈ g, x.f3.Nodup := by
  intro x hx
  obtain ⟨i, hi, rfl⟩ := mem_rd37 hx
  exact node_keys (h.node i hi)
end Go.Proofs.YtcljgfpcdlnlkaaDoor.Q
