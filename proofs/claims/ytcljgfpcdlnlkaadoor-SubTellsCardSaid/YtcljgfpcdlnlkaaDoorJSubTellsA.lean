/- The functions that SubTells reaches, as functions of what they are given, part 1. Conditions: those of each theorem's own statement. -/
import Derived.Test.YtcljgfpcdlnlkaaDoorQ0
import Derived.Lib.Hide
import Derived.Maps.RangeRun
import Derived.Laws.StructEq
import Derived.Below
import Derived.WalkKit
import Derived.Deep.Draws
import Derived.WalkLawsBesides
import Derived.BigQuiet
import Derived.WalkSpells
import Derived.StillTailTactics
import Derived.Laws.EntriesVeiled
import Derived.Carry
namespace Go.Proofs.YtcljgfpcdlnlkaaDoor.Q
open Go.RowKit Go.Proofs.YtcljgfpcdlnlkaaDoorW.PrintWords Go.Proofs.YtcljgfpcdlnlkaaDoorW.PrintLast
def EntersAt (g : Nat) : Prop := ∀ (args : Array Value) (w : World), (callFunc g args).run Tryd.prog w = .ok (.enter g args) w
theorem cell_alloc {w : World} {p : Addr} {v : Value} (o : Obj) (h : w.cell? p = some v) : (w.alloc o).cell? p = some v := (World.cell?_of_block (w := w) (Below.heap_alloc w o p.block (World.block_lt_of_cell? w p h))).trans h
theorem enters_at {f : Nat} {fn : Func} (hf : Tryd.prog.funcs[f]? = some fn) (hname : (fn.name == "runtime.NumGoroutine") = false) (hb : fn.body.isSome = true) : EntersAt f := enters_ hf hname hb

set_option maxRecDepth 100000 in
set_option maxHeartbeats 400000 in
theorem idx111 (A : Option Addr) (n c g : Nat) (lb : Array Value) (cv : Nat → Value) (I J : Nat → World → Prop) (w : World) (hn : n ≤ 9223372036854775807) (he : EntersAt g) (h0 : I 0 w)
    (hc : ∀ i W, I i W → i < n → ∃ ad, A = some ad ∧ W.cell? (ad.add i) = some (cv i))
    (hf : ∀ i W, i < n → I i W → Calls Tryd.prog g (#[cv i] ++ lb) W fun e W' => (e = .returned (.bool true) ∧ J i W') ∨ (e = .returned (.bool false) ∧ I (i + 1) W')) :
    Calls Tryd.prog 111 #[.slice A n c, .func (.func g) #[] lb] w fun e w' => (∃ i, i < n ∧ e = .returned (.int .i64 i) ∧ J i w') ∨ (e = .returned (.int .i64 (-1)) ∧ I n w') := by
  have HF := Lib.hid hf
  have HC := Lib.hid hc
  have H0 := Lib.hid h0
  clear hf hc h0
  unfold EntersAt at he
  go_enter Tryd.func111, Tryd.ntmps111
  go_wp2
  go_loopw [8] (fun i W => ∃ k : Nat, k ≤ n ∧ i = .int .i64 k ∧ Hid (I k W)) (fun i _ => n - (intOf i).toNat)
  case atStart => exact ⟨0, Nat.zero_le _, rfl, H0⟩
  case round =>
    obtain ⟨k, hk, rfl, HI⟩ := hrel
    by_cases hlt : k < n
    · obtain ⟨ad, rfl, hcell⟩ := HC.out k wr HI.out hlt
      go_wp2_with fail
      refine (HF.out k wr hlt HI.out).mono ?_
      rintro e W' (⟨rfl, hJ⟩ | ⟨rfl, hI⟩)
      · have HJ := Lib.hid hJ
        clear hJ
        go_wp2
        go_ret
        exact .inl ⟨k, hlt, rfl, HJ.out⟩
      · have HI2 := Lib.hid hI
        clear hI
        go_wp2
        go_roundw
        case rel => exact ⟨k + 1, by omega, by go_num, HI2⟩
        case measure => simp [intOf]; omega
    · obtain rfl : k = n := by omega
      go_wp2
      go_ret
      exact .inr ⟨rfl, HI.out⟩
set_option maxRecDepth 100000 in
theorem has65 (A : Option Addr) (n c g : Nat) (lb : Array Value) (cv : Nat → Value) (I J : Nat → World → Prop) (w : World) (hn : n ≤ 9223372036854775807) (he : EntersAt g) (h0 : I 0 w)
    (hc : ∀ i W, I i W → i < n → ∃ ad, A = some ad ∧ W.cell? (ad.add i) = some (cv i))
    (hf : ∀ i W, i < n → I i W → Calls Tryd.prog g (#[cv i] ++ lb) W fun e W' => (e = .returned (.bool true) ∧ J i W') ∨ (e = .returned (.bool false) ∧ I (i + 1) W')) :
    Calls Tryd.prog 65 #[.slice A n c, .func (.func g) #[] lb] w fun e w' => (∃ i, i < n ∧ e = .returned (.bool true) ∧ J i w') ∨ (e = .returned (.bool false) ∧ I n w') := by
  have HF := Lib.hid hf
  have HC := Lib.hid hc
  have H0 := Lib.hid h0
  have HE := Lib.hid he
  clear hf hc h0 he
  go_enter Tryd.func65, Tryd.ntmps65
  go_wp2_with fail
  refine (idx111 A n c g lb cv I J w hn HE.out H0.out HC.out HF.out).mono ?_
  rintro e W' (⟨i, hi, rfl, hJ⟩ | ⟨rfl, hI⟩)
  · have HJ := Lib.hid hJ
    clear hJ
    go_wp2
    go_ret
    exact .inl ⟨i, hi, rfl, HJ.out⟩
  · have HI := Lib.hid hI
    clear hI
    go_wp2
    go_ret
    exact .inr ⟨rfl, HI.out⟩

set_option maxRecDepth 100000 in
set_option maxHeartbeats 400000 in
theorem idx150 (A : Option Addr) (n c g : Nat) (lb : Array Value) (cv : Nat → Value) (I J : Nat → World → Prop) (w : World) (hn : n ≤ 9223372036854775807) (he : EntersAt g) (h0 : I 0 w)
    (hc : ∀ i W, I i W → i < n → ∃ ad, A = some ad ∧ W.cell? (ad.add i) = some (cv i))
    (hf : ∀ i W, i < n → I i W → Calls Tryd.prog g (#[cv i] ++ lb) W fun e W' => (e = .returned (.bool true) ∧ J i W') ∨ (e = .returned (.bool false) ∧ I (i + 1) W')) :
    Calls Tryd.prog 150 #[.slice A n c, .func (.func g) #[] lb] w fun e w' => (∃ i, i < n ∧ e = .returned (.int .i64 i) ∧ J i w') ∨ (e = .returned (.int .i64 (-1)) ∧ I n w') := by
  have HF := Lib.hid hf
  have HC := Lib.hid hc
  have H0 := Lib.hid h0
  clear hf hc h0
  unfold EntersAt at he
  go_enter Tryd.func150, Tryd.ntmps150
  go_wp2
  go_loopw [8] (fun i W => ∃ k : Nat, k ≤ n ∧ i = .int .i64 k ∧ Hid (I k W)) (fun i _ => n - (intOf i).toNat)
  case atStart => exact ⟨0, Nat.zero_le _, rfl, H0⟩
  case round =>
    obtain ⟨k, hk, rfl, HI⟩ := hrel
    by_cases hlt : k < n
    · obtain ⟨ad, rfl, hcell⟩ := HC.out k wr HI.out hlt
      go_wp2_with fail
      refine (HF.out k wr hlt HI.out).mono ?_
      rintro e W' (⟨rfl, hJ⟩ | ⟨rfl, hI⟩)
      · have HJ := Lib.hid hJ
        clear hJ
        go_wp2
        go_ret
        exact .inl ⟨k, hlt, rfl, HJ.out⟩
      · have HI2 := Lib.hid hI
        clear hI
        go_wp2
        go_roundw
        case rel => exact ⟨k + 1, by omega, by go_num, HI2⟩
        case measure => simp [intOf]; omega
    · obtain rfl : k = n := by omega
      go_wp2
      go_ret
      exact .inr ⟨rfl, HI.out⟩
set_option maxRecDepth 100000 in
theorem has123 (A : Option Addr) (n c g : Nat) (lb : Array Value) (cv : Nat → Value) (I J : Nat → World → Prop) (w : World) (hn : n ≤ 9223372036854775807) (he : EntersAt g) (h0 : I 0 w)
    (hc : ∀ i W, I i W → i < n → ∃ ad, A = some ad ∧ W.cell? (ad.add i) = some (cv i))
    (hf : ∀ i W, i < n → I i W → Calls Tryd.prog g (#[cv i] ++ lb) W fun e W' => (e = .returned (.bool true) ∧ J i W') ∨ (e = .returned (.bool false) ∧ I (i + 1) W')) :
    Calls Tryd.prog 123 #[.slice A n c, .func (.func g) #[] lb] w fun e w' => (∃ i, i < n ∧ e = .returned (.bool true) ∧ J i w') ∨ (e = .returned (.bool false) ∧ I n w') := by
  have HF := Lib.hid hf
  have HC := Lib.hid hc
  have H0 := Lib.hid h0
  have HE := Lib.hid he
  clear hf hc h0 he
  go_enter Tryd.func123, Tryd.ntmps123
  go_wp2_with fail
  refine (idx150 A n c g lb cv I J w hn HE.out H0.out HC.out HF.out).mono ?_
  rintro e W' (⟨i, hi, rfl, hJ⟩ | ⟨rfl, hI⟩)
  · have HJ := Lib.hid hJ
    clear hJ
    go_wp2
    go_ret
    exact .inl ⟨i, hi, rfl, HJ.out⟩
  · have HI := Lib.hid hI
    clear hI
    go_wp2
    go_ret
    exact .inr ⟨rfl, HI.out⟩

set_option maxRecDepth 100000 in
set_option maxHeartbeats 400000 in
theorem idx202 (A : Option Addr) (n c g : Nat) (lb : Array Value) (cv : Nat → Value) (I J : Nat → World → Prop) (w : World) (hn : n ≤ 9223372036854775807) (he : EntersAt g) (h0 : I 0 w)
    (hc : ∀ i W, I i W → i < n → ∃ ad, A = some ad ∧ W.cell? (ad.add i) = some (cv i))
    (hf : ∀ i W, i < n → I i W → Calls Tryd.prog g (#[cv i] ++ lb) W fun e W' => (e = .returned (.bool true) ∧ J i W') ∨ (e = .returned (.bool false) ∧ I (i + 1) W')) :
    Calls Tryd.prog 202 #[.slice A n c, .func (.func g) #[] lb] w fun e w' => (∃ i, i < n ∧ e = .returned (.int .i64 i) ∧ J i w') ∨ (e = .returned (.int .i64 (-1)) ∧ I n w') := by
  have HF := Lib.hid hf
  have HC := Lib.hid hc
  have H0 := Lib.hid h0
  clear hf hc h0
  unfold EntersAt at he
  go_enter Tryd.func202, Tryd.ntmps202
  go_wp2
  go_loopw [8] (fun i W => ∃ k : Nat, k ≤ n ∧ i = .int .i64 k ∧ Hid (I k W)) (fun i _ => n - (intOf i).toNat)
  case atStart => exact ⟨0, Nat.zero_le _, rfl, H0⟩
  case round =>
    obtain ⟨k, hk, rfl, HI⟩ := hrel
    by_cases hlt : k < n
    · obtain ⟨ad, rfl, hcell⟩ := HC.out k wr HI.out hlt
      go_wp2_with fail
      refine (HF.out k wr hlt HI.out).mono ?_
      rintro e W' (⟨rfl, hJ⟩ | ⟨rfl, hI⟩)
      · have HJ := Lib.hid hJ
        clear hJ
        go_wp2
        go_ret
        exact .inl ⟨k, hlt, rfl, HJ.out⟩
      · have HI2 := Lib.hid hI
        clear hI
        go_wp2
        go_roundw
        case rel => exact ⟨k + 1, by omega, by go_num, HI2⟩
        case measure => simp [intOf]; omega
    · obtain rfl : k = n := by omega
      go_wp2
      go_ret
      exact .inr ⟨rfl, HI.out⟩
set_option maxRecDepth 100000 in
theorem has190 (A : Option Addr) (n c g : Nat) (lb : Array Value) (cv : Nat → Value) (I J : Nat → World → Prop) (w : World) (hn : n ≤ 9223372036854775807) (he : EntersAt g) (h0 : I 0 w)
    (hc : ∀ i W, I i W → i < n → ∃ ad, A = some ad ∧ W.cell? (ad.add i) = some (cv i))
    (hf : ∀ i W, i < n → I i W → Calls Tryd.prog g (#[cv i] ++ lb) W fun e W' => (e = .returned (.bool true) ∧ J i W') ∨ (e = .returned (.bool false) ∧ I (i + 1) W')) :
    Calls Tryd.prog 190 #[.slice A n c, .func (.func g) #[] lb] w fun e w' => (∃ i, i < n ∧ e = .returned (.bool true) ∧ J i w') ∨ (e = .returned (.bool false) ∧ I n w') := by
  have HF := Lib.hid hf
  have HC := Lib.hid hc
  have H0 := Lib.hid h0
  have HE := Lib.hid he
  clear hf hc h0 he
  go_enter Tryd.func190, Tryd.ntmps190
  go_wp2_with fail
  refine (idx202 A n c g lb cv I J w hn HE.out H0.out HC.out HF.out).mono ?_
  rintro e W' (⟨i, hi, rfl, hJ⟩ | ⟨rfl, hI⟩)
  · have HJ := Lib.hid hJ
    clear hJ
    go_wp2
    go_ret
    exact .inl ⟨i, hi, rfl, HJ.out⟩
  · have HI := Lib.hid hI
    clear hI
    go_wp2
    go_ret
    exact .inr ⟨rfl, HI.out⟩
end Go.Proofs.YtcljgfpcdlnlkaaDoor.Q
namespace Go.Proofs.YtcljgfpcdlnlkaaDoor.Q
open Go.RowKit Go.Proofs.YtcljgfpcdlnlkaaDoorW.PrintWords
def smallB (c : Int) : Bool := decide (97 ≤ c) && decide (c ≤ 122)
def digitB (c : Int) : Bool := decide (48 ≤ c) && decide (c ≤ 57)
def scoreB (c : Int) : Bool := c == 95
set_option maxRecDepth 100000 in
theorem small_calls (c : Int) (w : World) : Calls Tryd.prog 171 #[.int .u8 c] w fun e w' => e = .returned (.bool (smallB c)) ∧ w' = w := by
  by_cases h : 97 ≤ c
  · go_enter Tryd.func171, Tryd.ntmps171
    go_wp2
    go_ret
    exact ⟨by simp [smallB, h], rfl⟩
  · have hd : decide (97 ≤ c) = false := decide_eq_false h
    go_enter Tryd.func171, Tryd.ntmps171
    go_wp2
    go_ret
    exact ⟨by rw [smallB, hd]; rfl, rfl⟩
set_option maxRecDepth 100000 in
theorem digit_calls (c : Int) (w : World) : Calls Tryd.prog 172 #[.int .u8 c] w fun e w' => e = .returned (.bool (digitB c)) ∧ w' = w := by
  by_cases h : 48 ≤ c
  · go_enter Tryd.func172, Tryd.ntmps172
    go_wp2
    go_ret
    exact ⟨by simp [digitB, h], rfl⟩
  · have hd : decide (48 ≤ c) = false := decide_eq_false h
    go_enter Tryd.func172, Tryd.ntmps172
    go_wp2
    go_ret
    exact ⟨by rw [digitB, hd]; rfl, rfl⟩
set_option maxRecDepth 100000 in
theorem score_calls (c : Int) (w : World) : Calls Tryd.prog 173 #[.int .u8 c] w fun e w' => e = .returned (.bool (scoreB c)) ∧ w' = w := by
  go_enter Tryd.func173, Tryd.ntmps173
  go_wp2
  go_ret
  exact ⟨rfl, rfl⟩
/-- The three sorts of bytes that stand in a name. -/
def sortV : Nat → Value
  | 0 => .func (.func 171) #[] #[]
  | 1 => .func (.func 172) #[] #[]
  | _ => .func (.func 173) #[] #[]
def sortB (c : Int) : Nat → Bool
  | 0 => smallB c
  | 1 => digitB c
  | _ => scoreB c
set_option maxRecDepth 100000 in
theorem sort_calls (i : Nat) (S K : Nat) (s : ByteArray) (k : Nat) (hk : k < s.size) (w : World) (hs : w.cell? ⟨S, 0, none⟩ = some (.string s)) (hK : w.cell? ⟨K, 0, none⟩ = some (.int .i64 k)) :
    Calls Tryd.prog 191 #[sortV i, .pointer (some ⟨S, 0, none⟩), .pointer (some ⟨K, 0, none⟩)] w fun e w' => e = .returned (.bool (sortB (s[k].toNat : Int) i)) ∧ w' = w := by
  rcases i with _ | _ | i <;> simp only [sortV, sortB]
  · go_enter Tryd.func191, Tryd.ntmps191
    go_wp2_with fail
    refine (small_calls _ _).mono ?_
    rintro e w' ⟨rfl, rfl⟩
    go_wp2
    go_ret
    exact ⟨rfl, rfl⟩
  · go_enter Tryd.func191, Tryd.ntmps191
    go_wp2_with fail
    refine (digit_calls _ _).mono ?_
    rintro e w' ⟨rfl, rfl⟩
    go_wp2
    go_ret
    exact ⟨rfl, rfl⟩
  · go_enter Tryd.func191, Tryd.ntmps191
    go_wp2_with fail
    refine (score_calls _ _).mono ?_
    rintro e w' ⟨rfl, rfl⟩
    go_wp2
    go_ret
    exact ⟨rfl, rfl⟩

def anyB (c : Int) : Bool := smallB c || digitB c || scoreB c
/-- May a text stand behind a '? -/
def taggedB (s : ByteArray) : Bool := decide (0 < s.size) && decide (s.size ≤ 16) && smallB (bt s 0) && (List.range s.size).all fun i => anyB (bt s i)
theorem sort_any (c : Int) : anyB c = true ↔ ∃ i, i < 3 ∧ sortB c i = true := by
  constructor
  · intro h
    simp only [anyB, Bool.or_eq_true] at h
    rcases h with (h | h) | h
    · exact ⟨0, by omega, h⟩
    · exact ⟨1, by omega, h⟩
    · exact ⟨2, by omega, h⟩
  · rintro ⟨i, hi, h⟩
    simp only [anyB, Bool.or_eq_true]
    rcases i with _ | _ | i
    · exact .inl (.inl h)
    · exact .inl (.inr h)
    · exact .inr h
theorem enters191 : EntersAt 191 := enters_at Tryd.func191 (by kernel_rfl) rfl
theorem enters171 : EntersAt 171 := enters_at Tryd.func171 (by kernel_rfl) rfl
set_option maxRecDepth 100000 in
/-- 'slices.ContainsFunc(others, ..)' at one byte. -/
theorem contains_calls (S K O c : Nat) (s : ByteArray) (k : Nat) (hk : k < s.size) (w : World) (hs : w.cell? ⟨S, 0, none⟩ = some (.string s)) (hK : w.cell? ⟨K, 0, none⟩ = some (.int .i64 k))
    (hO : ∀ i, i < 3 → w.cell? ⟨O, i, none⟩ = some (sortV i)) :
    Calls Tryd.prog 190 #[.slice (some ⟨O, 0, none⟩) 3 c, .func (.func 191) #[] #[.pointer (some ⟨S, 0, none⟩), .pointer (some ⟨K, 0, none⟩)]] w fun e w' => e = .returned (.bool (anyB (bt s k))) ∧ w' = w := by
  have e0 : (s[k].toNat : Int) = bt s k := bt_at s k (by simpa using hk)
  refine (has190 (some ⟨O, 0, none⟩) 3 c 191 #[.pointer (some ⟨S, 0, none⟩), .pointer (some ⟨K, 0, none⟩)] sortV (fun i W => W = w ∧ ∀ j, j < i → sortB (bt s k) j = false) (fun i W => W = w ∧ i < 3 ∧ sortB (bt s k) i = true) w (by omega) enters191
    ⟨rfl, fun j hj => absurd hj (by omega)⟩ ?_ ?_).mono ?_
  · rintro i W ⟨rfl, _⟩ hi
    exact ⟨_, rfl, by rw [add_plain]; exact hO i hi⟩
  · rintro i W hi ⟨rfl, hj⟩
    refine (sort_calls i S K s k hk W hs hK).mono ?_
    rintro e W' ⟨rfl, rfl⟩
    rw [e0]
    cases hb : sortB (bt s k) i with
    | true => exact .inl ⟨rfl, rfl, hi, rfl⟩
    | false => exact .inr ⟨rfl, rfl, fun j hj' => if h : j = i then by rw [h]; exact hb else hj j (by omega)⟩
  · rintro e W' (⟨i, _, rfl, rfl, hi, hb⟩ | ⟨rfl, rfl, hn⟩)
    · exact ⟨by rw [(sort_any _).2 ⟨i, hi, hb⟩], rfl⟩
    · refine ⟨?_, rfl⟩
      cases h : anyB (bt s k) with
      | false => rfl
      | true =>
        obtain ⟨i, hi, hb⟩ := (sort_any _).1 h
        rw [hn i hi] at hb
        cases hb
set_option maxRecDepth 100000 in
set_option maxHeartbeats 400000 in
theorem formed_calls (O c : Nat) (s : ByteArray) (w : World) (hO : ∀ i, i < 3 → w.cell? ⟨O, i, none⟩ = some (sortV i)) :
    Calls Tryd.prog 170 #[.string s, .func (.func 171) #[] #[], .slice (some ⟨O, 0, none⟩) 3 c] w fun e w' => e = .returned (.bool (taggedB s)) ∧ Below w.heap.size w w' := by
  have he := enters171
  unfold EntersAt at he
  have hOl : O < w.heap.size := World.block_lt_of_cell? w _ (hO 0 (by omega))
  by_cases h0 : s.size = 0
  · have hl : s.toList = [] := by rw [ByteArray.toList_eq]; exact List.eq_nil_of_length_eq_zero (by simpa using h0)
    have hB : taggedB s = false := by simp [taggedB, h0]
    have HB := Lib.hid hB
    clear hB
    go_enter Tryd.func170, Tryd.ntmps170
    go_wp2
    go_ret
    exact ⟨by rw [HB.out]; rfl, (Below.refl _ _).alloc (Nat.le_refl _) _⟩
  · have hl : s.toList.isEmpty = false := by rw [ByteArray.toList_eq]; cases h : s.data.toList with
      | nil => exact absurd (by simpa using congrArg List.length h) h0
      | cons _ _ => rfl
    by_cases h16 : s.size ≤ 16
    · have hd16 : decide (16 < (s.size : Int)) = false := decide_eq_false (by omega)
      have hp : 0 < s.size := by omega
      have e0 : (s[0].toNat : Int) = bt s 0 := bt_at s 0 (by simpa using hp)
      cases hsm : smallB (bt s 0) with
      | false =>
        have hB : taggedB s = false := by simp [taggedB, hsm]
        have HB := Lib.hid hB
        clear hB
        go_enter Tryd.func170, Tryd.ntmps170
        go_wp2_with fail
        refine (small_calls _ _).mono ?_
        rintro e w' ⟨rfl, rfl⟩
        go_wp2
        go_ret
        exact ⟨by rw [HB.out]; rfl, (Below.refl _ _).alloc (Nat.le_refl _) _⟩
      | true =>
        have hB : taggedB s = (List.range s.size).all fun i => anyB (bt s i) := by simp [taggedB, hsm, h16, hp]
        have HB := Lib.hid hB
        clear hB
        go_enter Tryd.func170, Tryd.ntmps170
        go_wp2_with fail
        refine (small_calls _ _).mono ?_
        rintro e w' ⟨rfl, rfl⟩
        have hs1 : (w.alloc (.cells #[.string s] 9)).cell? ⟨w.heap.size, 0, none⟩ = some (.string s) := by simp
        have hO1 : ∀ i, i < 3 → (w.alloc (.cells #[.string s] 9)).cell? ⟨O, i, none⟩ = some (sortV i) := fun i hi => cell_alloc _ (hO i hi)
        have hb1 : Below w.heap.size w (w.alloc (.cells #[.string s] 9)) := (Below.refl _ _).alloc (Nat.le_refl _) _
        have hl1 : w.heap.size < (w.alloc (.cells #[.string s] 9)).heap.size := by simp
        go_wp2
        generalize w.alloc (.cells #[.string s] 9) = w1 at *
        go_loopw [24] (fun i W => ∃ k : Nat, k ≤ s.size ∧ i = .int .i64 k ∧ Hid ((∀ j, j < k → anyB (bt s j) = true) ∧ Below w1.heap.size w1 W)) (fun i _ => s.size - (intOf i).toNat)
        case atStart => exact ⟨0, Nat.zero_le _, rfl, Lib.hid ⟨fun j hj => absurd hj (by omega), Below.refl _ _⟩⟩
        case round =>
          obtain ⟨k, hk, rfl, HI⟩ := hrel
          have hBW := HI.out.2
          by_cases hlt : k < s.size
          · have hs2 : (wr.alloc (.cells #[.int .i64 k] 3)).cell? ⟨w.heap.size, 0, none⟩ = some (.string s) := cell_alloc _ ((hBW.cell (p := ⟨w.heap.size, 0, none⟩) hl1).trans hs1)
            have hO2 : ∀ i, i < 3 → (wr.alloc (.cells #[.int .i64 k] 3)).cell? ⟨O, i, none⟩ = some (sortV i) := fun i hi => cell_alloc _ ((hBW.cell (p := ⟨O, i, none⟩) (World.block_lt_of_cell? w1 _ (hO1 i hi))).trans (hO1 i hi))
            have hk2 : (wr.alloc (.cells #[.int .i64 k] 3)).cell? ⟨wr.heap.size, 0, none⟩ = some (.int .i64 k) := by simp
            have HC := Lib.hid (contains_calls w.heap.size wr.heap.size O c s k hlt (wr.alloc (.cells #[.int .i64 k] 3)) hs2 hk2 hO2)
            clear hs1 hO1 hs2 hO2 hk2
            go_wp2_with fail
            refine HC.out.mono ?_
            rintro e w' ⟨rfl, rfl⟩
            cases hany : anyB (bt s k) with
            | true =>
              go_wp2
              go_roundw
              case rel => exact ⟨k + 1, by omega, by go_num, Lib.hid ⟨fun j hj => if h : j = k then by rw [h]; exact hany else HI.out.1 j (by omega), hBW.alloc hBW.size _⟩⟩
              case measure => simp [intOf]; omega
            | false =>
              go_wp2
              go_ret
              exact ⟨by rw [HB.out, List.all_eq_false.2 ⟨k, by simp; omega, by simp [hany]⟩]; rfl, hb1.trans ((hBW.alloc hBW.size _).mono (by omega))⟩
          · obtain rfl : k = s.size := by omega
            go_wp2
            go_ret
            exact ⟨by rw [HB.out, List.all_eq_true.2 (fun j hj => HI.out.1 j (by simpa using hj))]; rfl, hb1.trans (hBW.mono (by omega))⟩
    · have hd16 : decide (16 < (s.size : Int)) = true := decide_eq_true (by omega)
      have hB : taggedB s = false := by simp [taggedB, h16]
      have HB := Lib.hid hB
      clear hB
      go_enter Tryd.func170, Tryd.ntmps170
      go_wp2
      go_ret
      exact ⟨by rw [HB.out]; rfl, (Below.refl _ _).alloc (Nat.le_refl _) _⟩
end Go.Proofs.YtcljgfpcdlnlkaaDoor.Q
namespace Go.Proofs.YtcljgfpcdlnlkaaDoor.Mp
open Go.RowKit Go.ChangeMaps

def get {κ υ : Type} [DecidableEq κ] : List (κ × υ) → κ → Option υ
  | [], _ => none
  | p :: m, k => if p.1 = k then some p.2 else get m k
def put {κ υ : Type} [DecidableEq κ] : List (κ × υ) → κ → υ → List (κ × υ)
  | [], k, v => [(k, v)]
  | p :: m, k, v => if p.1 = k then (k, v) :: m else p :: put m k v
section
variable {κ υ : Type} [DecidableEq κ]
theorem get_put (m : List (κ × υ)) (k j : κ) (v : υ) : get (put m k v) j = if j = k then some v else get m j := by
  induction m with
  | nil =>
    simp only [put, get]
    split
    · rename_i h; rw [if_pos h.symm]
    · rename_i h; rw [if_neg (fun e => h e.symm)]
  | cons p m ih =>
    simp only [put]
    split
    · rename_i h
      simp only [get]
      by_cases e : k = j
      · rw [if_pos e, if_pos e.symm]
      · rw [if_neg e, if_neg (fun x => e x.symm), if_neg (by rw [h]; exact e)]
    · rename_i h
      simp only [get, ih]
      by_cases e : p.1 = j
      · rw [if_pos e, if_pos e, if_neg (by rw [← e]; exact h)]
      · rw [if_neg e, if_neg e]
theorem mem_of_get {m : List (κ × υ)} {k : κ} {v : υ} (h : get m k = some v) : (k, v) ∈ m := by
  induction m with
  | nil => simp [get] at h
  | cons p m ih =>
    simp only [get] at h
    split at h
    · rename_i e
      obtain rfl := Option.some.inj h
      rw [← e]
      exact List.mem_cons_self
    · exact List.mem_cons_of_mem _ (ih h)
theorem get_ne_none {m : List (κ × υ)} {k : κ} : get m k ≠ none ↔ k ∈ m.map (·.1) := by
  induction m with
  | nil => simp [get]
  | cons p m ih =>
    simp only [get, List.map_cons, List.mem_cons]
    split
    · rename_i e; simp [e]
    · rename_i e
      rw [ih]
      exact ⟨fun h => .inr h, fun h => h.elim (fun x => absurd x.symm e) id⟩
theorem put_keys {m : List (κ × υ)} {k : κ} {v : υ} : (put m k v).map (·.1) = if get m k = none then m.map (·.1) ++ [k] else m.map (·.1) := by
  induction m with
  | nil => simp [put, get]
  | cons p m ih =>
    simp only [put, get]
    split
    · rename_i e; simp [e]
    · simp only [List.map_cons, ih]
      split <;> simp
theorem put_length {m : List (κ × υ)} {k : κ} {v : υ} : (put m k v).length = if get m k = none then m.length + 1 else m.length := by
  have := congrArg List.length (put_keys (m := m) (k := k) (v := v))
  simp only [List.length_map] at this
  rw [this]
  split <;> simp
end

/-- Block b is a map that holds m. -/
def MapAt {κ υ : Type} (ek : κ → Value) (ev : υ → Value) (w : World) (b : Nat) (m : List (κ × υ)) : Prop :=
  ∃ es clock, w.heap[b]? = some (.map es clock) ∧ es.toList.map (fun e => (e.key, e.val)) = m.map (fun p => (ek p.1, ev p.2)) ∧ (es.toList.map (·.born)).Pairwise (· < ·) ∧ ∀ e ∈ es.toList, e.born < clock

section
variable {κ υ : Type} {ek : κ → Value} {ev : υ → Value} {w w' : World} {b : Nat} {m : List (κ × υ)}
theorem MapAt.lt (h : MapAt ek ev w b m) : b < w.heap.size := by
  obtain ⟨es, clock, hb, _⟩ := h
  exact (Array.getElem?_eq_some_iff.1 hb).1
theorem MapAt.of_block (h : MapAt ek ev w b m) (e : w'.heap[b]? = w.heap[b]?) : MapAt ek ev w' b m := by
  obtain ⟨es, clock, hb, r⟩ := h
  exact ⟨es, clock, e.trans hb, r⟩
theorem MapAt.new (ek : κ → Value) (ev : υ → Value) (w : World) : MapAt ek ev (w.alloc (.map #[] 0)) w.heap.size ([] : List (κ × υ)) :=
  ⟨#[], 0, Array.getElem?_push_size, rfl, by simp, by simp⟩

end
section
variable {κ υ : Type} [DecidableEq κ] {ek : κ → Value} {ev : υ → Value} {w w' : World} {b : Nat} {m : List (κ × υ)}
/-- What the model asks of a key's type. -/
structure KeyLaw (P : Program) (kt : TypeId) (ek : κ → Value) : Prop where
  check : ∀ em k w, (Instr.checkKey em 10000 kt (ek k)).run P w = .ok () w
  find : ∀ (k : κ) (l : List MapEntry) (ks : List κ) (w : World), l.map (·.key) = ks.map ek →
    (Instr.findKey kt (ek k) l).run P w = .ok ((l.zip ks).findIdx? (fun p => decide (p.2 = k)) |>.bind fun i => l[i]?.map fun e => (i, e.val)) w
  same : ∀ k, Instr.sameBits 10000 (ek k) (ek k) = true

theorem find_none {l : List MapEntry} {m : List (κ × υ)} {k : κ} (hl : l.length = m.length) (h : get m k = none) :
    (l.zip (m.map (·.1))).findIdx? (fun p => decide (p.2 = k)) = none := by
  induction m generalizing l with
  | nil => simp
  | cons p m ih =>
    cases l with
    | nil => simp at hl
    | cons e l =>
      simp only [get] at h
      split at h
      · simp at h
      · rename_i hp
        simp only [List.map_cons, List.zip_cons_cons, List.findIdx?_cons, decide_eq_true_eq, hp, if_false]
        rw [ih (by simpa using hl) h]
        rfl
theorem find_some {l : List MapEntry} {m : List (κ × υ)} {k : κ} {v : υ} (hl : l.map (fun e => (e.key, e.val)) = m.map (fun p => (ek p.1, ev p.2))) (h : get m k = some v) :
    ∃ i e, (l.zip (m.map (·.1))).findIdx? (fun p => decide (p.2 = k)) = some i ∧ l[i]? = some e ∧ e.val = ev v ∧ e.key = ek k ∧ ∀ u, put m k u = m.set i (k, u) := by
  induction m generalizing l with
  | nil => simp [get] at h
  | cons p m ih =>
    cases l with
    | nil => simp at hl
    | cons e l =>
      simp only [List.map_cons, List.cons.injEq, Prod.mk.injEq] at hl
      simp only [get] at h
      split at h
      · rename_i hp
        obtain rfl := Option.some.inj h
        refine ⟨0, e, by simp [List.findIdx?_cons, hp], rfl, hl.1.2, by rw [hl.1.1, hp], fun u => by simp [put, hp]⟩
      · rename_i hp
        obtain ⟨i, e', h1, h2, h3, h4, h5⟩ := ih hl.2 h
        refine ⟨i + 1, e', ?_, by simpa using h2, h3, h4, fun u => by simp [put, hp, h5 u]⟩
        simp only [List.map_cons, List.zip_cons_cons, List.findIdx?_cons, decide_eq_true_eq, hp, if_false, h1]
        rfl
theorem find_key {P : Program} {kt : TypeId} (K : KeyLaw P kt ek) {es : Array MapEntry} (hl : es.toList.map (fun e => (e.key, e.val)) = m.map (fun p => (ek p.1, ev p.2))) (k : κ) (w : World) :
    (get m k = none ∧ (Instr.findKey kt (ek k) es.toList).run P w = .ok none w) ∨
    ∃ v i e, get m k = some v ∧ (Instr.findKey kt (ek k) es.toList).run P w = .ok (some (i, ev v)) w ∧ es.toList[i]? = some e ∧ e.key = ek k ∧ ∀ u, put m k u = m.set i (k, u) := by
  have hk : es.toList.map (·.key) = (m.map (·.1)).map ek := by
    have := congrArg (List.map Prod.fst) hl
    simpa [List.map_map, Function.comp_def] using this
  have hf := K.find k es.toList (m.map (·.1)) w hk
  cases hg : get m k with
  | none =>
    left
    refine ⟨rfl, ?_⟩
    rw [hf, find_none (by have := congrArg List.length hl; simpa using this) hg]
    rfl
  | some v =>
    right
    obtain ⟨i, e, h1, h2, h3, h4, h5⟩ := find_some hl hg
    refine ⟨v, i, e, rfl, ?_, h2, h4, h5⟩
    rw [hf, h1]
    simp only [Option.bind_some, h2, Option.map_some, h3]

/-- 'v, ok := m[k]'. -/
theorem MapAt.lookup2 {P : Program} {t kt et : TypeId} (h : MapAt ek ev w b m) (K : KeyLaw P kt ek) (ht : P.underlying t = some (.map kt et)) {z : Value} (hz : ∀ w, (zeroValue et).run P w = .ok z w) (k : κ) :
    (Instr.lookup t (.map (some b)) (ek k) true).run P w = .ok (.tuple #[((get m k).map ev).getD z, .bool (get m k).isSome]) w := by
  obtain ⟨es, clock, hb, hl, _⟩ := h
  rcases find_key K hl k w with ⟨hg, hr⟩ | ⟨v, i, e, hg, hr, _⟩ <;>
    simp [Instr.lookup, Sem.run_bind, run_underlying ht, getObj, Sem.run, hb, K.check, hr, hg, hz, Result.andThen]
theorem MapAt.lookup1 {P : Program} {t kt et : TypeId} (h : MapAt ek ev w b m) (K : KeyLaw P kt ek) (ht : P.underlying t = some (.map kt et)) {z : Value} (hz : ∀ w, (zeroValue et).run P w = .ok z w) (k : κ) :
    (Instr.lookup t (.map (some b)) (ek k) false).run P w = .ok (((get m k).map ev).getD z) w := by
  obtain ⟨es, clock, hb, hl, _⟩ := h
  rcases find_key K hl k w with ⟨hg, hr⟩ | ⟨v, i, e, hg, hr, _⟩ <;>
    simp [Instr.lookup, Sem.run_bind, run_underlying ht, getObj, Sem.run, hb, K.check, hr, hg, hz, Result.andThen]
/-- 'm[k] = v'. -/
theorem MapAt.update {P : Program} {t kt et : TypeId} (h : MapAt ek ev w b m) (K : KeyLaw P kt ek) (ht : P.underlying t = some (.map kt et)) (k : κ) (v : υ) :
    ∃ o, (Instr.mapUpdate t (.map (some b)) (ek k) (ev v)).run P w = .ok () (setBlock w b o) ∧ MapAt ek ev (setBlock w b o) b (put m k v) := by
  obtain ⟨es, clock, hb, hl, hp, hc⟩ := h
  have hlt := (Array.getElem?_eq_some_iff.1 hb).1
  have hlen : es.toList.length = m.length := by have := congrArg List.length hl; simpa using this
  rcases find_key K hl k w with ⟨hg, hr⟩ | ⟨v0, i, e, hg, hr, hi, he, hset⟩
  · refine ⟨.map (es.push { key := ek k, val := ev v, born := clock }) (clock + 1), ?_, es.push { key := ek k, val := ev v, born := clock }, clock + 1, ?_, ?_, ?_, ?_⟩
    · simp [Instr.mapUpdate, Sem.run_bind, run_underlying ht, getObj, setObj, Sem.run, hb, K.check, hr, Result.andThen, setBlock]
    · simp [setBlock, hlt]
    · rw [Array.toList_push, List.map_append, hl]
      have : put m k v = m ++ [(k, v)] := by
        clear hl hlen hr
        induction m with
        | nil => rfl
        | cons p m ih =>
          simp only [get] at hg
          split at hg
          · simp at hg
          · rename_i hne
            simp [put, hne, ih hg]
      rw [this]
      simp
    · rw [Array.toList_push, List.map_append, List.pairwise_append]
      refine ⟨hp, by simp, ?_⟩
      intro a ha c hc'
      obtain ⟨e, he, rfl⟩ := List.mem_map.1 ha
      simp at hc'
      subst hc'
      exact hc e he
    · intro e he
      simp at he
      rcases he with he | rfl
      · have := hc e (by simpa using he)
        omega
      · simp
  · have hilt : i < es.size := by
      have := (List.getElem?_eq_some_iff.1 hi).1
      simpa using this
    have hkey : ((es[i]?).map (·.key)).getD (ek k) = ek k := by
      rw [← Array.getElem?_toList, hi]
      exact he
    refine ⟨.map (es.modify i fun e => { e with key := ek k, val := ev v }) clock, ?_, es.modify i fun e => { e with key := ek k, val := ev v }, clock, ?_, ?_, ?_, ?_⟩
    · simp [Instr.mapUpdate, Sem.run_bind, run_underlying ht, getObj, setObj, Sem.run, hb, K.check, hr, Result.andThen, setBlock, hkey, Instr.keyThatStays, K.same]
    · simp [setBlock, hlt]
    · rw [hset v, List.map_set]
      rw [← hl]
      apply List.ext_getElem?
      intro j
      simp only [List.getElem?_map, Array.getElem?_toList, Array.getElem?_modify, List.getElem?_set, List.length_map, Array.length_toList]
      by_cases e : i = j
      · subst e
        simp [hilt]
      · simp [e]
    · have : (es.modify i fun e => { e with key := ek k, val := ev v }).toList.map (·.born) = es.toList.map (·.born) := by
        apply List.ext_getElem?
        intro j
        simp only [List.getElem?_map, Array.getElem?_toList, Array.getElem?_modify]
        split
        · rename_i e
          subst e
          cases es[i]? <;> rfl
        · rfl
      rw [this]
      exact hp
    · intro x hx
      obtain ⟨j, hj⟩ := List.getElem?_of_mem hx
      rw [Array.getElem?_toList, Array.getElem?_modify] at hj
      split at hj
      · obtain ⟨y, hy, rfl⟩ := Option.map_eq_some_iff.1 hj
        exact hc y (by simpa using Array.mem_of_getElem? hy)
      · exact hc x (by simpa using Array.mem_of_getElem? hj)
omit [DecidableEq κ] in
theorem MapAt.len {P : Program} {t rt kt et : TypeId} (h : MapAt ek ev w b m) (ht : P.underlying t = some (.map kt et)) : (Builtin.len_ #[t] rt #[.map (some b)]).run P w = .ok (goInt m.length) w := by
  obtain ⟨es, clock, hb, hl, _⟩ := h
  have hlen : es.size = m.length := by have := congrArg List.length hl; simpa using this
  simp [Builtin.len_, Sem.run_bind, run_underlying ht, getObj, Sem.run, hb, Result.andThen, hlen]

/-! ### key types -/
theorem findNow_law {P : Program} {kt : TypeId} {d : TypeDesc} (ht : P.underlying kt = some d) (hs : ∀ k j : κ, Instr.sameNow d (ek k) (ek j) = some (decide (j = k))) (k : κ) (l : List MapEntry) (ks : List κ) (w : World)
    (hl : l.map (·.key) = ks.map ek) : (Instr.findKey kt (ek k) l).run P w = .ok ((l.zip ks).findIdx? (fun p => decide (p.2 = k)) |>.bind fun i => l[i]?.map fun e => (i, e.val)) w := by
  have h : ∀ (l : List MapEntry) (ks : List κ) (n : Nat), l.map (·.key) = ks.map ek → Instr.findNow d (ek k) l n = some ((l.zip ks).findIdx? (fun p => decide (p.2 = k)) |>.bind fun i => l[i]?.map fun e => (n + i, e.val)) := by
    intro l
    induction l with
    | nil => intro ks n _; simp [Instr.findNow]
    | cons e l ih =>
      intro ks n hl
      cases ks with
      | nil => simp at hl
      | cons j ks =>
        simp only [List.map_cons, List.cons.injEq] at hl
        rw [Instr.findNow, hl.1, hs]
        by_cases e : j = k
        · simp [e, List.findIdx?_cons]
        · simp only [e, decide_false]
          rw [ih ks (n + 1) hl.2]
          simp only [List.zip_cons_cons, List.findIdx?_cons, e, decide_false, Bool.false_eq_true, if_false]
          cases List.findIdx? (fun p => decide (p.2 = k)) (l.zip ks) with
          | none => rfl
          | some i => simp [Nat.add_assoc, Nat.add_comm 1 i]
  have h0 := h l ks 0 hl
  simp only [Nat.zero_add] at h0
  simp [Instr.findKey, Sem.run_bind, run_underlying ht, Result.andThen, h0]
theorem findAsking_law {P : Program} {kt : TypeId} (he : ∀ k j : κ, ∀ w, (Op.equal kt (ek k) (ek j)).run P w = .ok (decide (j = k)) w) (k : κ) (l : List MapEntry) (ks : List κ) (w : World) (n : Nat)
    (hl : l.map (·.key) = ks.map ek) : (Instr.findAsking kt (ek k) l n).run P w = .ok ((l.zip ks).findIdx? (fun p => decide (p.2 = k)) |>.bind fun i => l[i]?.map fun e => (n + i, e.val)) w := by
  induction l generalizing ks n with
  | nil => simp [Instr.findAsking]
  | cons e l ih =>
    cases ks with
    | nil => simp at hl
    | cons j ks =>
      simp only [List.map_cons, List.cons.injEq] at hl
      rw [Instr.findAsking, hl.1]
      simp only [Sem.run_bind, he, Result.andThen_ok]
      by_cases e : j = k
      · simp [e, List.findIdx?_cons]
      · simp only [e, decide_false, Bool.false_eq_true, if_false]
        rw [ih ks (n + 1) hl.2]
        simp only [List.zip_cons_cons, List.findIdx?_cons, e, decide_false, Bool.false_eq_true, if_false]
        cases List.findIdx? (fun p => decide (p.2 = k)) (l.zip ks) with
        | none => rfl
        | some i => simp [Nat.add_assoc, Nat.add_comm 1 i]
end
theorem check_int {P : Program} {kt : TypeId} (ht : P.underlying kt = some (.int .i64)) (em : Bool) (n : Nat) (v : Value) (w : World) : (Instr.checkKey em (n + 1) kt v).run P w = .ok () w := by
  unfold Instr.checkKey
  simp only [Sem.run_bind, run_underlying ht, Result.andThen_ok]
  cases v <;> rfl
theorem check_string {P : Program} {kt : TypeId} (ht : P.underlying kt = some .string) (em : Bool) (n : Nat) (v : Value) (w : World) : (Instr.checkKey em (n + 1) kt v).run P w = .ok () w := by
  unfold Instr.checkKey
  simp only [Sem.run_bind, run_underlying ht, Result.andThen_ok]
  cases v <;> rfl
theorem int_law {P : Program} {kt : TypeId} (ht : P.underlying kt = some (.int .i64)) : KeyLaw P kt (Value.int .i64) where
  check := fun em k w => check_int ht em 9999 _ w
  find := fun k l ks w hl => findNow_law ht (fun a b => by simp only [Instr.sameNow, if_true, Option.some.injEq]; rw [Bool.eq_iff_iff]; simp; exact eq_comm) k l ks w hl
  same := fun k => by unfold Instr.sameBits; simp
theorem bytes_beq (a b : ByteArray) : (a == b) = decide (a = b) := by
  rw [beq_toListBytes, ByteArray.toList_eq, ByteArray.toList_eq, Bool.eq_iff_iff, decide_eq_true_iff, beq_iff_eq]
  exact ⟨fun h => ByteArray.ext (Array.toList_inj.1 h), fun h => by rw [h]⟩
theorem string_law {P : Program} {kt : TypeId} (ht : P.underlying kt = some .string) : KeyLaw P kt Value.string where
  check := fun em k w => check_string ht em 9999 _ w
  find := fun k l ks w hl => findNow_law ht (fun a b => by simp only [Instr.sameNow, Option.some.injEq]; rw [bytes_beq, Bool.eq_iff_iff, decide_eq_true_iff, decide_eq_true_iff]; exact eq_comm) k l ks w hl
  same := fun k => by unfold Instr.sameBits; rw [bytes_beq]; simp
def pairV (p : Int × Int) : Value := .agg #[.int .i64 p.1, .int .i64 p.2]
theorem pair_law {P : Program} {kt it : TypeId} {f g : Field} (ht : P.underlying kt = some (.struct #[f, g])) (hp : P.stoodInHeld kt = false) (hf : f.type = it ∧ f.offset = 0 ∧ f.name ≠ "_") (hg : g.type = it ∧ g.offset = 1 ∧ g.name ≠ "_")
    (hi : P.underlying it = some (.int .i64)) (hpart : ∀ (a b : Int) w, (part it #[.int .i64 a, .int .i64 b] 0).run P w = .ok (.int .i64 a) w ∧ (part it #[.int .i64 a, .int .i64 b] 1).run P w = .ok (.int .i64 b) w) : KeyLaw P kt pairV where
  check := fun em k w => by
    show (Instr.checkKey em (9998 + 1 + 1) kt (pairV k)).run P w = _
    generalize 9998 = n
    unfold Instr.checkKey
    simp only [Sem.run_bind, run_underlying ht, Result.andThen_ok, pairV]
    rw [← Array.forIn_toList]
    simp [Sem.run_bind, hf, hg, hpart, check_int hi, Result.andThen_ok]
  find := fun k l ks w hl => by
    cases l with
    | nil => simp [Instr.findKey, run_underlying ht, Result.andThen, Instr.findNow]
    | cons e l =>
      have hn : Instr.findNow (.struct #[f, g]) (pairV k) (e :: l) 0 = none := by
        simp [Instr.findNow, Instr.sameNow]
      have := findAsking_law (P := P) (kt := kt) (ek := pairV) (fun a b w => by
        have hfo : P.fieldsOf kt = #[f, g] := by simp [Program.fieldsOf, ht]
        simp only [Op.equal, pairV]
        show (Op.equalIn (9998 + 1 + 1) kt _ _).run P w = _
        generalize 9998 = n
        rw [run_equalIn_struct w _ kt _ _ (by rw [hfo]; exact ht) hp, hfo]
        simp only [Op.eqFields, hf, hg, Sem.run_bind, hpart, Result.andThen_ok, run_equalIn_int _ _ it .i64 .i64 _ _ hi, ne_eq, not_false_eq_true, if_true]
        have e : (b = a) ↔ (a.1 = b.1 ∧ a.2 = b.2) := ⟨fun h => by rw [h]; exact ⟨rfl, rfl⟩, fun h => Prod.ext h.1.symm h.2.symm⟩
        by_cases h1 : a.1 = b.1 <;> by_cases h2 : a.2 = b.2
        · simp [h1, h2, e, hpart, run_equalIn_int _ _ it .i64 .i64 _ _ hi, Sem.run_bind, Result.andThen_ok]
        · simp [h1, h2, e, hpart, run_equalIn_int _ _ it .i64 .i64 _ _ hi, Sem.run_bind, Result.andThen_ok]
        · simp [h1, e]
        · simp [h1, e]) k (e :: l) ks w 0 hl
      simp only [Nat.zero_add] at this
      simp only [Instr.findKey, Sem.run_bind, run_underlying ht, Result.andThen_ok, hn]
      exact this
  same := fun k => by unfold Instr.sameBits; simp [pairV]; unfold Instr.sameBits; simp

/-- Nothing but block b (and new blocks) has changed. -/
structure Kp (b : Nat) (w w' : World) : Prop where
  os : w'.os = w.os
  tape : w'.tape = w.tape
  output : w'.output = w.output
  size : w.heap.size ≤ w'.heap.size
  block : ∀ i, i < w.heap.size → i ≠ b → w'.heap[i]? = w.heap[i]?
namespace Kp
theorem refl (b : Nat) (w : World) : Kp b w w := ⟨rfl, rfl, rfl, Nat.le_refl _, fun _ _ _ => rfl⟩
theorem trans {b : Nat} {x y z : World} (h : Kp b x y) (k : Kp b y z) : Kp b x z :=
  ⟨k.os.trans h.os, k.tape.trans h.tape, k.output.trans h.output, Nat.le_trans h.size k.size, fun i hi hb => (k.block i (Nat.lt_of_lt_of_le hi h.size) hb).trans (h.block i hi hb)⟩
theorem alloc (b : Nat) (w : World) (o : Obj) : Kp b w (w.alloc o) := ⟨rfl, rfl, rfl, by simp, fun i hi _ => Below.heap_alloc w o i hi⟩
theorem drewN (b : Nat) (w : World) (n : Nat) : Kp b w (w.drewN n) := ⟨rfl, rfl, rfl, Nat.le_refl _, fun _ _ _ => rfl⟩
theorem drew (b : Nat) (w : World) : Kp b w w.drew := ⟨rfl, rfl, rfl, Nat.le_refl _, fun _ _ _ => rfl⟩
theorem setBlock (b : Nat) (w : World) (o : Obj) : Kp b w (ChangeMaps.setBlock w b o) := ⟨rfl, rfl, rfl, by simp [ChangeMaps.setBlock], fun i hi hb => by simp [ChangeMaps.setBlock, Array.getElem?_setIfInBounds]; intro e; exact absurd e.symm hb⟩
theorem below {b B : Nat} {w w' : World} (h : Kp b w w') (hb : B ≤ b) (hw : B ≤ w.heap.size) : Below B w w' := ⟨h.os, h.tape, h.output, h.size, fun k hk => h.block k (by omega) (by omega)⟩
theorem cell {b : Nat} {w w' : World} (h : Kp b w w') {p : Addr} {v : Value} (hc : w.cell? p = some v) (hb : p.block ≠ b) : w'.cell? p = some v :=
  (World.cell?_of_block (w := w) (h.block p.block (World.block_lt_of_cell? w p hc) hb)).trans hc
end Kp
end Go.Proofs.YtcljgfpcdlnlkaaDoor.Mp
namespace Go.Proofs.YtcljgfpcdlnlkaaDoor.Q
open Go.RowKit Go.Proofs.YtcljgfpcdlnlkaaDoorW.PrintWords
/-- The language's own words. -/
def keyWords : List ByteArray := [⟨#[109, 111, 100, 117, 108, 101]⟩, ⟨#[105, 109, 112, 111, 114, 116]⟩, ⟨#[116, 121, 112, 101]⟩, ⟨#[102, 110]⟩, ⟨#[108, 101, 116]⟩, ⟨#[105, 110]⟩, ⟨#[105, 102]⟩, ⟨#[116, 104, 101, 110]⟩, ⟨#[101, 108, 115, 101]⟩, ⟨#[105, 115]⟩, ⟨#[97, 115]⟩, ⟨#[116, 114, 117, 101]⟩, ⟨#[102, 97, 108, 115, 101]⟩, ⟨#[110, 117, 108, 108]⟩, ⟨#[100, 121, 110]⟩, ⟨#[98, 111, 111, 108]⟩, ⟨#[105, 110, 116]⟩, ⟨#[114, 101, 99]⟩]
/-- The table lies in memory as the text lays it. -/
def KeysIn (w : World) : Prop := ∀ i : Nat, i < 18 → w.cell? ⟨0, i, none⟩ = some (.string (keyWords.getD i ByteArray.empty))
theorem KeysIn.below {w w' : World} (h : KeysIn w) (hb : Below w.heap.size w w') : KeysIn w' := fun i hi => (hb.cell (p := ⟨0, i, none⟩) (World.block_lt_of_cell? w _ (h i hi))).trans (h i hi)
def isKeyB (s : ByteArray) : Bool := keyWords.any fun k => decide (k = s)
def isNameB (s : ByteArray) : Bool := taggedB s && !isKeyB s
theorem str_eq (a b : ByteArray) : (a.toList == b.toList) = decide (a = b) := by rw [← beq_toListBytes, Mp.bytes_beq]
theorem keyWord_mem (k : Nat) (hk : k < 18) : keyWords.getD k ByteArray.empty ∈ keyWords := by
  rw [List.getD_eq_getElem?_getD, List.getElem?_eq_getElem (show k < keyWords.length from hk)]
  exact List.getElem_mem _
set_option maxRecDepth 100000 in
set_option maxHeartbeats 400000 in
theorem isKey_calls (s : ByteArray) (w : World) (hk : KeysIn w) : Calls Tryd.prog 119 #[.string s] w fun e w' => e = .returned (.bool (isKeyB s)) ∧ w' = w := by
  have HK := Lib.hid hk
  clear hk
  go_enter Tryd.func119, Tryd.ntmps119
  go_wp2
  go_loop [4] (fun i => ∃ k : Nat, k ≤ 18 ∧ i = .int .i64 k ∧ Hid (∀ j, j < k → keyWords.getD j ByteArray.empty ≠ s)) (fun i => 18 - (intOf i).toNat)
  case atStart => exact ⟨0, by omega, rfl, Lib.hid fun j hj => absurd hj (by omega)⟩
  case round =>
    obtain ⟨k, hk, rfl, HI⟩ := hrel
    by_cases hlt : k < 18
    · have hc := HK.out k hlt
      have hlt' : (k : Int) < 18 := by omega
      by_cases he : keyWords.getD k ByteArray.empty = s
      · have heq : ((keyWords.getD k ByteArray.empty).toList == s.toList) = true := by rw [str_eq]; exact decide_eq_true he
        have hB : isKeyB s = true := List.any_eq_true.2 ⟨keyWords.getD k ByteArray.empty, keyWord_mem k hlt, decide_eq_true he⟩
        have HB := Lib.hid hB
        clear he hB
        generalize keyWords.getD k ByteArray.empty = x at hc heq
        go_wp2
        go_ret
        exact ⟨by rw [HB.out]; rfl, rfl⟩
      · have heq : ((keyWords.getD k ByteArray.empty).toList == s.toList) = false := by rw [str_eq]; exact decide_eq_false he
        have HE := Lib.hid he
        clear he
        have HI2 : Hid (∀ j, j < k + 1 → keyWords.getD j ByteArray.empty ≠ s) := Lib.hid fun j hj => if h : j = k then by rw [h]; exact HE.out else HI.out j (by omega)
        clear HE
        generalize keyWords.getD k ByteArray.empty = x at hc heq
        go_wp2
        go_round
        case rel => exact ⟨k + 1, by omega, by go_num, HI2⟩
        case measure => simp [intOf]; omega
    · obtain rfl : k = 18 := by omega
      go_wp2
      go_ret
      refine ⟨?_, rfl⟩
      have : isKeyB s = false := List.any_eq_false.2 (fun x hx => by
        obtain ⟨i, hi, rfl⟩ := List.getElem_of_mem hx
        have := HI.out i (by simpa [keyWords] using hi)
        rw [List.getD_eq_getElem?_getD, List.getElem?_eq_getElem hi] at this
        simpa using this)
      rw [this]; rfl

set_option maxRecDepth 100000 in
theorem tagged_calls (s : ByteArray) (w : World) : Calls Tryd.prog 148 #[.string s] w fun e w' => e = .returned (.bool (taggedB s)) ∧ Below w.heap.size w w' := by
  go_enter Tryd.func148, Tryd.ntmps148
  go_wp2_with fail
  refine (formed_calls w.heap.size 3 s _ ?_).mono ?_
  · intro i hi
    rcases i with _ | _ | _ | i
    · simp [sortV]
    · simp [sortV]
    · simp [sortV]
    · omega
  · rintro e w' ⟨rfl, hb⟩
    go_wp2
    go_ret
    exact ⟨rfl, ((Below.refl _ _).alloc (Nat.le_refl _) _).trans (hb.mono (by simp))⟩
set_option maxRecDepth 100000 in
theorem isName_calls (s : ByteArray) (w : World) (hk : KeysIn w) : Calls Tryd.prog 118 #[.string s] w fun e w' => e = .returned (.bool (isNameB s)) ∧ Below w.heap.size w w' := by
  have HK := Lib.hid hk
  clear hk
  go_enter Tryd.func118, Tryd.ntmps118
  cases ht : taggedB s with
  | true =>
    have hB : isNameB s = !isKeyB s := by simp [isNameB, ht]
    have HB := Lib.hid hB
    have HT := Lib.hid ht
    clear hB ht
    go_wp2_with fail
    refine (tagged_calls s w).mono ?_
    rintro e w' ⟨rfl, hb⟩
    have hk2 := Lib.hid (HK.out.below hb)
    rw [HT.out]
    go_wp2_with fail
    refine (isKey_calls s w' hk2.out).mono ?_
    rintro e w2 ⟨rfl, rfl⟩
    go_wp2
    go_ret
    exact ⟨by rw [HB.out]; rfl, hb⟩
  | false =>
    have hB : isNameB s = false := by simp [isNameB, ht]
    have HB := Lib.hid hB
    have HT := Lib.hid ht
    clear hB ht
    go_wp2_with fail
    refine (tagged_calls s w).mono ?_
    rintro e w' ⟨rfl, hb⟩
    rw [HT.out]
    go_wp2
    go_ret
    exact ⟨by rw [HB.out]; rfl, hb⟩
end Go.Proofs.YtcljgfpcdlnlkaaDoor.Q
namespace Go.Proofs.YtcljgfpcdlnlkaaDoor.Q
open Go.RowKit Go.Proofs.YtcljgfpcdlnlkaaDoorW.PrintWords
theorem int_cell {w : World} {A : Option Addr} {n : Nat} {xs : List Int} (h : Kd.C (Kd.int .i64) w A n xs) (i : Nat) (hi : i < n) : ∃ ad, A = some ad ∧ w.cell? (ad.add i) = some (.int .i64 (rd xs i)) := by
  obtain ⟨ad, c, e, _, hK, hc⟩ := Kd.C_get h (0 : Int) i (by omega) (by omega)
  have := hc 0 (.int .i64 (rd xs i)) (by rw [show c = [Value.int .i64 (xs.getD (i : Int).toNat 0)] from hK]; rfl)
  refine ⟨ad, e, ?_⟩
  simpa [Kd.int, Kd.scalar] using this
theorem str_cell {w : World} {A : Option Addr} {n : Nat} {xs : List ByteArray} (h : Kd.C Kd.string w A n xs) (i : Nat) (hi : i < n) : ∃ ad, A = some ad ∧ w.cell? (ad.add i) = some (.string (xs.getD i ByteArray.empty)) := by
  obtain ⟨ad, c, e, _, hK, hc⟩ := Kd.C_get h ByteArray.empty i (by omega) (by omega)
  have := hc 0 (.string (xs.getD i ByteArray.empty)) (by rw [show c = [Value.string (xs.getD (i : Int).toNat ByteArray.empty)] from hK]; rfl)
  refine ⟨ad, e, ?_⟩
  simpa [Kd.string, Kd.scalar] using this
/-- Is a number no place among n? -/
def outB (n : Nat) (k : Int) : Bool := decide (k < 0) || decide ((n : Int) ≤ k)
set_option maxRecDepth 100000 in
theorem out_calls (k : Int) (G : Nat) (A : Option Addr) (n c : Nat) (w : World) (hG : w.cell? ⟨G, 0, none⟩ = some (.slice A n c)) :
    Calls Tryd.prog 117 #[.int .i64 k, .pointer (some ⟨G, 0, none⟩)] w fun e w' => e = .returned (.bool (outB n k)) ∧ w' = w := by
  by_cases h : k < 0
  · have hd : decide (k < 0) = true := decide_eq_true h
    go_enter Tryd.func117, Tryd.ntmps117
    go_wp2
    go_ret
    exact ⟨by rw [outB, hd]; rfl, rfl⟩
  · have hd : decide (k < 0) = false := decide_eq_false h
    go_enter Tryd.func117, Tryd.ntmps117
    go_wp2
    go_ret
    exact ⟨by rw [outB, hd]; rfl, rfl⟩
theorem enters117 : EntersAt 117 := enters_at Tryd.func117 (by kernel_rfl) rfl
theorem any_of_idx {α : Type} (l : List α) (d : α) (p : α → Bool) (i : Nat) (hi : i < l.length) (h : p (l.getD i d) = true) : l.any p = true := by
  rw [List.getD_eq_getElem?_getD, List.getElem?_eq_getElem hi] at h
  exact List.any_eq_true.2 ⟨_, List.getElem_mem hi, h⟩
theorem any_none {α : Type} (l : List α) (d : α) (p : α → Bool) (h : ∀ i, i < l.length → p (l.getD i d) = false) : l.any p = false := by
  refine List.any_eq_false.2 fun x hx => ?_
  obtain ⟨i, hi, rfl⟩ := List.getElem_of_mem hx
  have := h i hi
  rw [List.getD_eq_getElem?_getD, List.getElem?_eq_getElem hi] at this
  simpa using this
/-- 'slices.ContainsFunc(n.L, out)'. -/
theorem outs_calls (G : Nat) (A : Option Addr) (n c : Nat) (A1 : Option Addr) (c1 : Nat) (l : List Int) (w : World) (hG : w.cell? ⟨G, 0, none⟩ = some (.slice A n c)) (hl : Kd.C (Kd.int .i64) w A1 l.length l) (hn : l.length ≤ 9223372036854775807) :
    Calls Tryd.prog 65 #[.slice A1 l.length c1, .func (.func 117) #[] #[.pointer (some ⟨G, 0, none⟩)]] w fun e w' => e = .returned (.bool (l.any (outB n))) ∧ w' = w := by
  refine (has65 A1 l.length c1 117 #[.pointer (some ⟨G, 0, none⟩)] (fun i => .int .i64 (rd l i)) (fun i W => W = w ∧ ∀ j, j < i → outB n (l.getD j 0) = false) (fun i W => W = w ∧ i < l.length ∧ outB n (l.getD i 0) = true) w hn enters117
    ⟨rfl, fun j hj => absurd hj (by omega)⟩ ?_ ?_).mono ?_
  · rintro i W ⟨rfl, _⟩ hi
    exact int_cell hl i hi
  · rintro i W hi ⟨rfl, hj⟩
    refine (out_calls _ G A n c W hG).mono ?_
    rintro e W' ⟨rfl, rfl⟩
    rw [show rd l (i : Int) = l.getD i 0 from rfl]
    cases hb : outB n (l.getD i 0) with
    | true => exact .inl ⟨rfl, rfl, hi, rfl⟩
    | false => exact .inr ⟨rfl, rfl, fun j hj' => if h : j = i then by rw [h]; exact hb else hj j (by omega)⟩
  · rintro e W' (⟨i, _, rfl, rfl, hi, hb⟩ | ⟨rfl, rfl, hn⟩)
    · exact ⟨by rw [any_of_idx l 0 _ i hi hb], rfl⟩
    · exact ⟨by rw [any_none l 0 _ hn], rfl⟩
/-- 'func(s string) bool { return !lex.IsName(s) }'. -/
theorem noName_calls (s : ByteArray) (w : World) (hk : KeysIn w) : Calls Tryd.prog 124 #[.string s] w fun e w' => e = .returned (.bool (!isNameB s)) ∧ Below w.heap.size w w' := by
  go_enter Tryd.func124, Tryd.ntmps124
  have HK := Lib.hid hk
  clear hk
  go_wp2_with fail
  refine (isName_calls s w HK.out).mono ?_
  rintro e w' ⟨rfl, hb⟩
  go_wp2
  go_ret
  exact ⟨rfl, hb⟩
theorem enters124 : EntersAt 124 := enters_at Tryd.func124 (by kernel_rfl) rfl
theorem names_calls (A1 : Option Addr) (c1 : Nat) (l : List ByteArray) (w : World) (hk : KeysIn w) (hl : Kd.C Kd.string w A1 l.length l) (hn : l.length ≤ 9223372036854775807) :
    Calls Tryd.prog 123 #[.slice A1 l.length c1, .func (.func 124) #[] #[]] w fun e w' => e = .returned (.bool (l.any fun s => !isNameB s)) ∧ Below w.heap.size w w' := by
  refine (has123 A1 l.length c1 124 #[] (fun i => .string (l.getD i ByteArray.empty)) (fun i W => Below w.heap.size w W ∧ ∀ j, j < i → (!isNameB (l.getD j ByteArray.empty)) = false) (fun i W => Below w.heap.size w W ∧ i < l.length ∧ (!isNameB (l.getD i ByteArray.empty)) = true) w hn enters124
    ⟨Below.refl _ _, fun j hj => absurd hj (by omega)⟩ ?_ ?_).mono ?_
  · rintro i W ⟨hb, _⟩ hi
    exact str_cell (Kd.C_below hl hb) i hi
  · rintro i W hi ⟨hb, hj⟩
    refine (noName_calls _ W (hk.below hb)).mono ?_
    rintro e W' ⟨rfl, hb'⟩
    have hb2 := hb.trans (hb'.mono hb.size)
    cases hc : (!isNameB (l.getD i ByteArray.empty)) with
    | true => exact .inl ⟨rfl, hb2, hi, rfl⟩
    | false => exact .inr ⟨rfl, hb2, fun j hj' => if h : j = i then by rw [h]; exact hc else hj j (by omega)⟩
  · rintro e W' (⟨i, _, rfl, hb, hi, hc⟩ | ⟨rfl, hb, hn⟩)
    · exact ⟨by rw [any_of_idx l ByteArray.empty _ i hi hc], hb⟩
    · exact ⟨by rw [any_none l ByteArray.empty _ hn], hb⟩
end Go.Proofs.YtcljgfpcdlnlkaaDoor.Q
namespace Go.Proofs.YtcljgfpcdlnlkaaDoor.Q
open Go.RowKit Go.Proofs.YtcljgfpcdlnlkaaDoorW.PrintWords
def ltB (a b : ByteArray) : Bool := Op.bytesLess a.toList b.toList
def cmpS (a b : ByteArray) : Int := if ltB a b = true then -1 else if a = b then 0 else 1
def riseCmp (a b : ByteArray) : Int := if a = b then -1 else cmpS a b
theorem riseCmp_range (a b : ByteArray) : -1 ≤ riseCmp a b ∧ riseCmp a b ≤ 1 := by
  unfold riseCmp cmpS
  (repeat' split) <;> omega
set_option maxRecDepth 100000 in
theorem nanS_calls (a : ByteArray) (w : World) : Calls Tryd.prog 149 #[.string a] w fun e w' => e = .returned (.bool false) ∧ w' = w := by
  have h : (a.toList == a.toList) = true := by simp
  go_enter Tryd.func149, Tryd.ntmps149
  go_wp2
  go_ret
  exact ⟨rfl, rfl⟩
set_option maxRecDepth 100000 in
set_option maxHeartbeats 400000 in
theorem cmpS_calls (a b : ByteArray) (w : World) : Calls Tryd.prog 122 #[.string a, .string b] w fun e w' => e = .returned (.int .i64 (cmpS a b)) ∧ w' = w := by
  cases h1 : Op.bytesLess a.toList b.toList with
  | true =>
    have H := Lib.hid (show cmpS a b = -1 by simp only [cmpS, ltB, h1, if_true])
    go_enter Tryd.func122, Tryd.ntmps122
    go_wp2_with (go_at_call 149; refine (nanS_calls _ _).mono ?_; rintro e w' ⟨rfl, rfl⟩)
    go_ret
    exact ⟨by rw [H.out]; rfl, rfl⟩
  | false =>
    by_cases he : a = b
    · have H := Lib.hid (show cmpS a b = 0 by unfold cmpS ltB; rw [if_neg (by rw [h1]; exact Bool.false_ne_true), if_pos he])
      have h2 : (a.toList == b.toList) = true := by rw [str_eq]; exact decide_eq_true he
      clear he
      go_enter Tryd.func122, Tryd.ntmps122
      go_wp2_with (go_at_call 149; refine (nanS_calls _ _).mono ?_; rintro e w' ⟨rfl, rfl⟩)
      go_ret
      exact ⟨by rw [H.out]; rfl, rfl⟩
    · have H := Lib.hid (show cmpS a b = 1 by simp only [cmpS, ltB, h1, he, Bool.false_eq_true, if_false])
      have h2 : (a.toList == b.toList) = false := by rw [str_eq]; exact decide_eq_false he
      clear he
      go_enter Tryd.func122, Tryd.ntmps122
      go_wp2_with (go_at_call 149; refine (nanS_calls _ _).mono ?_; rintro e w' ⟨rfl, rfl⟩)
      go_ret
      exact ⟨by rw [H.out]; rfl, rfl⟩
set_option maxRecDepth 100000 in
theorem rise_calls (a b : ByteArray) (w : World) : Calls Tryd.prog 121 #[.string a, .string b] w fun e w' => e = .returned (.int .i64 (riseCmp a b)) ∧ w' = w := by
  by_cases h : a = b
  · have H := Lib.hid (show riseCmp a b = -1 from if_pos h)
    have h1 : (a.toList == b.toList) = true := by rw [str_eq]; exact decide_eq_true h
    clear h
    go_enter Tryd.func121, Tryd.ntmps121
    go_wp2
    go_ret
    exact ⟨by rw [H.out]; rfl, rfl⟩
  · have H := Lib.hid (show riseCmp a b = cmpS a b from if_neg h)
    have h1 : (a.toList == b.toList) = false := by rw [str_eq]; exact decide_eq_false h
    clear h
    go_enter Tryd.func121, Tryd.ntmps121
    go_wp2_with (go_at_call 122; refine (cmpS_calls _ _ _).mono ?_; rintro e w' ⟨rfl, rfl⟩)
    go_ret
    exact ⟨by rw [H.out]; rfl, rfl⟩
theorem enters121 : EntersAt 121 := enters_at Tryd.func121 (by kernel_rfl) rfl
/-- Do texts rise? -/
def risingB (l : List ByteArray) : Bool := (List.range (l.length - 1)).all fun i => !decide (riseCmp (l.getD (i + 1) ByteArray.empty) (l.getD i ByteArray.empty) < 0)
set_option maxRecDepth 100000 in
set_option maxHeartbeats 400000 in
theorem rising_calls (A : Option Addr) (c : Nat) (l : List ByteArray) (w : World) (hl : Kd.C Kd.string w A l.length l) (hn : l.length ≤ 9223372036854775807) :
    Calls Tryd.prog 120 #[.slice A l.length c, .func (.func 121) #[] #[]] w fun e w' => e = .returned (.bool (risingB l)) ∧ ∃ n, w' = w.drewN n := by
  have he := enters121
  unfold EntersAt at he
  have HL := Lib.hid hl
  clear hl
  go_enter Tryd.func120, Tryd.ntmps120
  go_wp2
  go_loopw [5] (fun i W => ∃ j : Int, -1 ≤ j ∧ j ≤ (l.length : Int) - 1 ∧ i = .int .i64 j ∧ Hid (∀ m : Nat, j ≤ m → m + 1 < l.length → ¬ riseCmp (l.getD (m + 1) ByteArray.empty) (l.getD m ByteArray.empty) < 0) ∧ Hid (∃ n, W = w.drewN n)) (fun i _ => (intOf i).toNat)
  case atStart => exact ⟨(l.length : Int) - 1, by omega, by omega, rfl, Lib.hid fun m h1 h2 => absurd h2 (by omega), Lib.hid ⟨0, rfl⟩⟩
  case round =>
    obtain ⟨j, hj0, hj1, rfl, HI, HW⟩ := hrel
    by_cases hlt : 0 < j
    · obtain ⟨k, rfl⟩ : ∃ k : Nat, j = (k : Int) + 1 := ⟨(j - 1).toNat, by omega⟩
      have hL2 : Kd.C Kd.string wr A l.length l := by obtain ⟨nn, hnn⟩ := HW.out; rw [hnn]; exact Kd.C_drewN HL.out nn
      obtain ⟨ad, rfl, hc1⟩ := str_cell hL2 (k + 1) (by omega)
      obtain ⟨ad', e', hc0⟩ := str_cell hL2 k (by omega)
      clear hL2
      obtain rfl := Option.some.inj e'
      have hb : (k : Int) + 1 < l.length := by omega
      have hb2 : (k : Int) < l.length := by omega
      clear hj1 e'
      have hc1' : wr.cell? ⟨ad.block, ad.off + (k + 1), none⟩ = some (.string (l.getD (k + 1) ByteArray.empty)) := by rw [← hc1]; congr 1
      have hr := riseCmp_range (l.getD (k + 1) ByteArray.empty) (l.getD k ByteArray.empty)
      have f1 : (0 : Int) ≤ (k : Int) + 1 := by omega
      have f3 : IntKind.i64.wrap (k : Int) = (k : Int) := by rw [IntWalk.i64_in _ (by omega)]
      have f2 : ((k : Int) + 1).toNat = k + 1 := by omega
      go_wp2
      go_quiet ((go_at_call 121; exact Calls.quiet_of_same (rise_calls _ _ _)))
      go_wp2
      · have hlt2 : riseCmp (l[k + 1]?.getD ByteArray.empty) (l[k]?.getD ByteArray.empty) < 0 := by assumption
        have hB : risingB l = false := List.all_eq_false.2 ⟨k, List.mem_range.2 (by omega), by
          rw [List.getD_eq_getElem?_getD, List.getD_eq_getElem?_getD, decide_eq_true hlt2]; simp⟩
        go_ret
        refine ⟨by rw [hB]; rfl, ?_⟩
        obtain ⟨n1, h1⟩ := HW.out
        exact ⟨n1 + nq, by rw [h1, World.drewN_drewN]⟩
      · have hge : 0 ≤ riseCmp (l[k + 1]?.getD ByteArray.empty) (l[k]?.getD ByteArray.empty) := by assumption
        have HI2 : Hid (∀ m : Nat, (k : Int) ≤ m → m + 1 < l.length → ¬ riseCmp (l.getD (m + 1) ByteArray.empty) (l.getD m ByteArray.empty) < 0) := Lib.hid fun m h1 h2 => by
          by_cases e : m = k
          · subst e
            rw [List.getD_eq_getElem?_getD, List.getD_eq_getElem?_getD]
            omega
          · exact Int.not_lt.2 (HI.out m (by omega) h2)
        go_roundw
        case rel => exact ⟨(k : Int), by omega, by omega, rfl, HI2, Lib.hid (by obtain ⟨n1, h1⟩ := HW.out; exact ⟨n1 + nq, by rw [h1, World.drewN_drewN]⟩)⟩
        case measure => simp [intOf]
    · have hB : risingB l = true := List.all_eq_true.2 (fun m hm => by
        have := HI.out m (by omega) (by have := List.mem_range.1 hm; omega)
        simpa using this)
      have HB := Lib.hid hB
      clear hB
      go_wp2
      go_ret
      exact ⟨by rw [HB.out]; rfl, HW.out⟩
end Go.Proofs.YtcljgfpcdlnlkaaDoor.Q
namespace Go.Proofs.YtcljgfpcdlnlkaaDoor.Q
open Go.RowKit Go.Proofs.YtcljgfpcdlnlkaaDoorW.PrintWords Mp
def distinctB (l : List Int) : Bool := match l with
  | [] => true
  | x :: r => !r.contains x && distinctB r
/-- What graph.may asks ahead of the kinds. -/
def headB (n : Nat) (x : S37) : Bool := x.f4.any (outB n) || (decide (x.f1 ≠ 0) && decide (x.f0 ≠ 9)) || (decide (0 < x.f2.size) && decide (x.f0 ≠ 5)) || (decide (0 < x.f3.length) && decide (x.f0 ≠ 7))
/-- May a node be? -/
def mayB (g : List S37) (x : S37) : Bool :=
  if headB g.length x = true then false
  else if x.f0 = 1 ∨ x.f0 = 2 ∨ x.f0 = 3 ∨ x.f0 = 4 then decide (x.f4.length = 0)
  else if x.f0 = 5 then decide (x.f4.length = 0) && (isNameB x.f2 || isKeyB x.f2)
  else if x.f0 = 7 then decide (x.f4.length = x.f3.length) && decide (x.f3.length ≤ 16) && risingB x.f3 && !(x.f3.any fun s => !isNameB s)
  else if x.f0 = 8 then (x.f4.all fun k => decide ((rd_T37 g k).f0 ≠ 8)) && decide (2 ≤ x.f4.length) && distinctB x.f4
  else if x.f0 = 9 then decide (0 ≤ x.f1) && decide (x.f1 < 16) && decide (x.f4.length = 1)
  else false
theorem nonempty_bytes {s : ByteArray} (h : ¬ s.size = 0) : s.toList.isEmpty = false := by
  rw [ByteArray.toList_eq]
  cases e : s.data.toList with
  | nil => exact absurd (by simpa using congrArg List.length e) h
  | cons _ _ => rfl
end Go.Proofs.YtcljgfpcdlnlkaaDoor.Q
namespace Go.Proofs.YtcljgfpcdlnlkaaDoor.Q
open Go.RowKit Go.Proofs.YtcljgfpcdlnlkaaDoorW.PrintWords Mp
/-- The cells of a graph's node, at a number. -/
theorem at_node {w : World} {A : Option Addr} {n : Nat} {xs : List S37} (h : Kd.C k37 w A n xs) (k : Nat) (hk : k < n) : ∃ ad A3 c3 A4 c4, A = some ad ∧ w.cell? (ad.add (k * 5)) = some (.int .i64 (rd_T37 xs k).f0) ∧ w.cell? ⟨(ad.add (k * 5)).block, (ad.add (k * 5)).off + 1, none⟩ = some (.int .i64 (rd_T37 xs k).f1) ∧ w.cell? ⟨(ad.add (k * 5)).block, (ad.add (k * 5)).off + 2, none⟩ = some (.string (rd_T37 xs k).f2) ∧ w.cell? ⟨(ad.add (k * 5)).block, (ad.add (k * 5)).off + 3, none⟩ = some (.slice A3 (rd_T37 xs k).f3.length c3) ∧ w.cell? ⟨(ad.add (k * 5)).block, (ad.add (k * 5)).off + 4, none⟩ = some (.slice A4 (rd_T37 xs k).f4.length c4) ∧ (rd_T37 xs k).f3.length ≤ c3 ∧ Kd.string.C w A3 (rd_T37 xs k).f3.length (rd_T37 xs k).f3 ∧ (rd_T37 xs k).f4.length ≤ c4 ∧ (Kd.int .i64).C w A4 (rd_T37 xs k).f4.length (rd_T37 xs k).f4 := by
  have := at_T37 h k (by omega) (by omega)
  simpa only [Int.toNat_natCast] using this
/-- What a type is of. -/
def membersL (g : List S37) (n : Int) : List Int := if n < 0 ∨ (g.length : Int) ≤ n then [] else if (rd_T37 g n).f0 = 8 then (rd_T37 g n).f4 else [n]
theorem R_empty {α : Type} (d : Kd α) (e : Nat) (w : World) : d.R e (w.alloc (.cells #[] e)) w.heap.size (fun _ => True) (.slice (some ⟨w.heap.size, 0, none⟩) 0 0) [] :=
  ⟨fun _ _ => trivial, [], ⟨by simp, .inr ⟨w.heap.size, 0, #[], rfl, Nat.le_refl _, Array.getElem?_push_size, Nat.le_refl _, by decide, by simp, by simp⟩⟩, Reps.none _ _⟩
set_option maxRecDepth 100000 in
set_option maxHeartbeats 400000 in
theorem cloneI_calls (A : Option Addr) (c : Nat) (l : List Int) (w : World) (hl : Kd.C (Kd.int .i64) w A l.length l) (hc : l.length ≤ c) (hn : l.length < 17592186044416) :
    Calls Tryd.prog 72 #[.slice A l.length c] w fun e w' => ∃ v, e = .returned v ∧ Kd.R (Kd.int .i64) 3 w' w.heap.size (fun _ => True) v l ∧ Below w.heap.size w w' := by
  have HL := Lib.hid hl
  clear hl
  have heq := fun (w : World) (A : Option Addr) (n c : Nat) => Lib.run_eql_slice_nil (P := Tryd.prog) w 23 3 A n c 0 0 Tryd.underlying23
  cases A with
  | none =>
    have h0 : l.length = 0 := by
      rcases Nat.eq_zero_or_pos l.length with h | h
      · exact h
      · obtain ⟨ad, e, _⟩ := int_cell HL.out 0 h
        cases e
    obtain rfl := List.eq_nil_of_length_eq_zero h0
    go_enter Tryd.func72, Tryd.ntmps72
    go_wp2
    go_ret
    exact ⟨_, rfl, Kd.R_nil _ _ _ _ _, Below.refl _ _⟩
  | some ad =>
    have hE := R_empty (Kd.int .i64) 3 w
    have hB : Below w.heap.size w (w.alloc (.cells #[] 3)) := (Below.refl _ _).alloc (Nat.le_refl _) _
    have HL2 := Lib.hid (Kd.C_alloc HL.out (.cells #[] 3))
    go_enter Tryd.func72, Tryd.ntmps72
    go_wp2_with (at_builtin; refine Kd.R_append_rows (Kd.int .i64) (w0 := w) w.heap.size rfl (.tmp 5) (.tmp 6) 23 3 (.int .i64 0) 8 rfl Tryd.underlying23 info3 rfl (by decide) (by omega) _ [] l (some ad) l.length c (fun _ => True) (fun _ => False) rfl rfl hE HL2.out (fun _ _ h => h) (fun _ h => h.elim) (fun _ _ => trivial) hB (by simp) (by simp; omega) ?_; intro v1 w1 ho hb hg hat; have HO := Lib.hid ho; have HB := Lib.hid hb; clear ho hb hg hat hE hB)
    go_ret
    exact ⟨_, rfl, by simpa using HO.out, HB.out⟩
theorem R_one (w : World) (n : Int) : (Kd.int .i64).R 3 (w.alloc (.cells #[.int .i64 n] 3)) w.heap.size (fun _ => True) (.slice (some ⟨w.heap.size, 0, none⟩) 1 1) [n] :=
  ⟨fun _ _ => trivial, [.int .i64 n], ⟨by simp [Kd.int, Kd.scalar], .inr ⟨w.heap.size, 1, #[.int .i64 n], rfl, Nat.le_refl _, Array.getElem?_push_size, Nat.le_refl _, by decide, by simp [Kd.int, Kd.scalar], by simp [Kd.int, Kd.scalar]⟩⟩, by
    refine ⟨by simp [Kd.int, Kd.scalar], fun j p hj => ?_⟩
    cases j with
    | zero => simp at hj; subst hj; rfl
    | succ j => simp at hj⟩
set_option maxRecDepth 100000 in
set_option maxHeartbeats 400000 in
theorem members_calls (A : Option Addr) (c : Nat) (g : List S37) (n : Int) (w : World) (hg : Kd.C k37 w A g.length g) (hn : (rd_T37 g n).f4.length < 17592186044416) :
    Calls Tryd.prog 26 #[.slice A g.length c, .int .i64 n] w fun e w' => ∃ v, e = .returned v ∧ Kd.R (Kd.int .i64) 3 w' w.heap.size (fun _ => True) v (membersL g n) ∧ Below w.heap.size w w' := by
  have HG := Lib.hid hg
  clear hg
  by_cases h1 : n < 0
  · have d1 : decide (n < 0) = true := decide_eq_true h1
    have HM := Lib.hid (show membersL g n = [] from if_pos (.inl h1))
    go_enter Tryd.func26, Tryd.ntmps26
    go_wp2
    go_ret
    exact ⟨_, rfl, by rw [HM.out]; exact Kd.R_nil _ _ _ _ _, Below.refl _ _⟩
  · have d1 : decide (n < 0) = false := decide_eq_false h1
    by_cases h2 : (g.length : Int) ≤ n
    · have d2 : decide ((g.length : Int) ≤ n) = true := decide_eq_true h2
      have HM := Lib.hid (show membersL g n = [] from if_pos (.inr h2))
      go_enter Tryd.func26, Tryd.ntmps26
      go_wp2
      go_ret
      exact ⟨_, rfl, by rw [HM.out]; exact Kd.R_nil _ _ _ _ _, Below.refl _ _⟩
    · have d2 : decide ((g.length : Int) ≤ n) = false := decide_eq_false h2
      obtain ⟨ad, B3, b3, B4, b4, rfl, hk0, _, _, _, hk4, _, _, hl4, hc4⟩ := at_T37 HG.out n (by omega) (by omega)
      have i0 : 0 ≤ n := by omega
      have i1 : n < g.length := by omega
      by_cases h8 : (rd_T37 g n).f0 = 8
      · have n8 : ((rd_T37 g n).f0 == 8) = true := by simp [h8]
        have HM := Lib.hid (show membersL g n = (rd_T37 g n).f4 by unfold membersL; rw [if_neg (by omega), if_pos h8])
        have HC := Lib.hid (cloneI_calls B4 b4 (rd_T37 g n).f4 w hc4 hl4 hn)
        clear h8 h1 h2 hc4 hl4 hn
        go_enter Tryd.func26, Tryd.ntmps26
        go_wp2_with fail
        refine HC.out.mono ?_
        rintro e w' ⟨v, rfl, hr, hb⟩
        have HR := Lib.hid hr
        have HB := Lib.hid hb
        clear hr hb
        go_wp2
        go_ret
        exact ⟨_, rfl, by rw [HM.out]; exact HR.out, HB.out⟩
      · have n8 : ((rd_T37 g n).f0 == 8) = false := by simp [h8]
        have HM := Lib.hid (show membersL g n = [n] by unfold membersL; rw [if_neg (by omega), if_neg h8])
        clear h8 h1 h2 hc4 hl4 hn
        go_enter Tryd.func26, Tryd.ntmps26
        go_wp2
        go_ret
        exact ⟨_, rfl, by rw [HM.out]; exact R_one w n, (Below.refl _ _).alloc (Nat.le_refl _) _⟩
end Go.Proofs.YtcljgfpcdlnlkaaDoor.Q
namespace Go.Proofs.YtcljgfpcdlnlkaaDoor.Q
open Go.RowKit Go.Proofs.YtcljgfpcdlnlkaaDoorW.PrintWords Mp
set_option maxRecDepth 100000 in
set_option maxHeartbeats 1000000 in
theorem may_1 (A : Option Addr) (g : List S37) (c : Nat) (x : S37) (A3 : Option Addr) (c3 : Nat) (A4 : Option Addr) (c4 : Nat) (w : World) (hk : KeysIn w) (hg : Kd.C k37 w A g.length g) (h3 : Kd.C Kd.string w A3 x.f3.length x.f3) (h4 : Kd.C (Kd.int .i64) w A4 x.f4.length x.f4)
    (hn3 : x.f3.length ≤ 9223372036854775807) (hn4 : x.f4.length ≤ 9223372036854775807) (hx : x.f0 = 1) :
    Calls Tryd.prog 77 #[.slice A g.length c, .agg #[.int .i64 x.f0, .int .i64 x.f1, .string x.f2, .slice A3 x.f3.length c3, .slice A4 x.f4.length c4]] w fun e w' => e = .returned (.bool (mayB g x)) ∧ Below w.heap.size w w' := by
  have H3 := Lib.hid h3
  have H4 := Lib.hid h4
  have HG := Lib.hid hg
  have HKW := Lib.hid hk
  clear h3 h4 hg hk
  have hb : Below w.heap.size w ((w.alloc (Obj.cells #[Value.slice A g.length c] 22)).alloc (Obj.cells #[Value.int IntKind.i64 x.f0, Value.int IntKind.i64 x.f1, Value.string x.f2, Value.slice A3 x.f3.length c3, Value.slice A4 x.f4.length c4] 37)) := ((Below.refl _ _).alloc (Nat.le_refl _) _).alloc (by simp) _
  have h4' := Lib.hid (Kd.C_below H4.out hb)
  have h3' := Lib.hid (Kd.C_below H3.out hb)
  have hg' := Lib.hid (Kd.C_below HG.out hb)
  have hk' := Lib.hid (HKW.out.below hb)
  clear hb
  have q1 : (x.f0 == 1) = true := by simp [hx]
  have q2 : (x.f0 == 2) = false := by simp [hx]
  have q3 : (x.f0 == 3) = false := by simp [hx]
  have q4 : (x.f0 == 4) = false := by simp [hx]
  have q5 : (x.f0 == 5) = false := by simp [hx]
  have q7 : (x.f0 == 7) = false := by simp [hx]
  have q8 : (x.f0 == 8) = false := by simp [hx]
  have q9 : (x.f0 == 9) = false := by simp [hx]
  have r5 : (x.f0 != 5) = true := by simp [hx]
  have r7 : (x.f0 != 7) = true := by simp [hx]
  have r9 : (x.f0 != 9) = true := by simp [hx]
  cases hO : x.f4.any (outB g.length) with
  | true =>
    have HB := Lib.hid (show mayB g x = false by unfold mayB; rw [if_pos (by simp [headB, hO])])
    have HO := Lib.hid hO
    clear hO hx
    go_enter Tryd.func77, Tryd.ntmps77
    go_wp2_with fail
    refine (outs_calls w.heap.size A g.length c A4 c4 x.f4 _ (by simp) h4'.out hn4).mono ?_
    rintro e w' ⟨rfl, rfl⟩
    rw [HO.out]
    go_wp2
    all_goals
      go_ret
      exact ⟨by rw [HB.out]; rfl, ((Below.refl _ _).alloc (Nat.le_refl _) _).alloc (by simp) _⟩
  | false =>
    have HO := Lib.hid hO
    by_cases c1 : x.f1 = 0
    · have n1a : (x.f1 != 0) = false := by simp [c1]
      have n1b : (x.f1 == 0) = true := by simp [c1]
      have D1 := Lib.hid c1
      clear c1
      by_cases c2 : x.f2.size = 0
      · have n2a : x.f2.toList = [] := by rw [ByteArray.toList_eq]; exact List.eq_nil_of_length_eq_zero (by simpa using c2)
        have D2 := Lib.hid c2
        clear c2
        by_cases d3 : x.f3.length = 0
        · have n3a : decide (0 < x.f3.length) = false := decide_eq_false (by omega)
          have n3b : decide (0 < (x.f3.length : Int)) = false := decide_eq_false (by omega)
          have D3 := Lib.hid d3
          clear d3
          have hH : headB g.length x = false := by simp [headB, hO, hx, D1.out, D2.out, D3.out]
          have HM := Lib.hid (show mayB g x = decide (x.f4.length = 0) by unfold mayB; rw [if_neg (by rw [hH]; exact Bool.false_ne_true), if_pos (by simp [hx])])
          by_cases c5 : x.f4.length = 0
          · have n5 : ((x.f4.length : Int) == 0) = true := by simp [c5]
            have n5b : (x.f4.length == 0) = true := by simp [c5]
            have HB := Lib.hid (show mayB g x = true by rw [HM.out]; exact decide_eq_true c5)
            clear hO hx hH c5
            go_enter Tryd.func77, Tryd.ntmps77
            go_wp2_with fail
            refine (outs_calls w.heap.size A g.length c A4 c4 x.f4 _ (by simp) h4'.out hn4).mono ?_
            rintro e w' ⟨rfl, rfl⟩
            rw [HO.out]
            go_wp2
            all_goals
              go_ret
              exact ⟨by rw [HB.out]; rfl, ((Below.refl _ _).alloc (Nat.le_refl _) _).alloc (by simp) _⟩
          · have n5 : ((x.f4.length : Int) == 0) = false := by simp; exact fun e => c5 (by rw [e]; rfl)
            have n5b : (x.f4.length == 0) = false := by simp; exact fun e => c5 (by rw [e]; rfl)
            have HB := Lib.hid (show mayB g x = false by rw [HM.out]; exact decide_eq_false c5)
            clear hO hx hH c5
            go_enter Tryd.func77, Tryd.ntmps77
            go_wp2_with fail
            refine (outs_calls w.heap.size A g.length c A4 c4 x.f4 _ (by simp) h4'.out hn4).mono ?_
            rintro e w' ⟨rfl, rfl⟩
            rw [HO.out]
            go_wp2
            all_goals
              go_ret
              exact ⟨by rw [HB.out]; rfl, ((Below.refl _ _).alloc (Nat.le_refl _) _).alloc (by simp) _⟩
        · have n3a : decide (0 < x.f3.length) = true := decide_eq_true (by omega)
          have n3b : decide (0 < (x.f3.length : Int)) = true := decide_eq_true (by omega)
          have HB := Lib.hid (show mayB g x = false by unfold mayB; rw [if_pos (by simp [headB, hO, hx]; omega)])
          clear hO hx d3
          go_enter Tryd.func77, Tryd.ntmps77
          go_wp2_with fail
          refine (outs_calls w.heap.size A g.length c A4 c4 x.f4 _ (by simp) h4'.out hn4).mono ?_
          rintro e w' ⟨rfl, rfl⟩
          rw [HO.out]
          go_wp2
          all_goals
            go_ret
            exact ⟨by rw [HB.out]; rfl, ((Below.refl _ _).alloc (Nat.le_refl _) _).alloc (by simp) _⟩
      · have n2a : x.f2.toList.isEmpty = false := nonempty_bytes c2
        have n2b : ¬ x.f2.toList = [] := fun e => by rw [e] at n2a; cases n2a
        have HB := Lib.hid (show mayB g x = false by unfold mayB; rw [if_pos (by simp [headB, hO, hx]; omega)])
        clear hO hx c2
        go_enter Tryd.func77, Tryd.ntmps77
        go_wp2_with fail
        refine (outs_calls w.heap.size A g.length c A4 c4 x.f4 _ (by simp) h4'.out hn4).mono ?_
        rintro e w' ⟨rfl, rfl⟩
        rw [HO.out]
        go_wp2
        all_goals
          go_ret
          exact ⟨by rw [HB.out]; rfl, ((Below.refl _ _).alloc (Nat.le_refl _) _).alloc (by simp) _⟩
    · have n1a : (x.f1 != 0) = true := by simp [c1]
      have n1b : (x.f1 == 0) = false := by simp [c1]
      have HB := Lib.hid (show mayB g x = false by unfold mayB; rw [if_pos (by simp [headB, hO, c1, hx])])
      clear hO hx c1
      go_enter Tryd.func77, Tryd.ntmps77
      go_wp2_with fail
      refine (outs_calls w.heap.size A g.length c A4 c4 x.f4 _ (by simp) h4'.out hn4).mono ?_
      rintro e w' ⟨rfl, rfl⟩
      rw [HO.out]
      go_wp2
      all_goals
        go_ret
        exact ⟨by rw [HB.out]; rfl, ((Below.refl _ _).alloc (Nat.le_refl _) _).alloc (by simp) _⟩

set_option maxRecDepth 100000 in
set_option maxHeartbeats 1000000 in
theorem may_2 (A : Option Addr) (g : List S37) (c : Nat) (x : S37) (A3 : Option Addr) (c3 : Nat) (A4 : Option Addr) (c4 : Nat) (w : World) (hk : KeysIn w) (hg : Kd.C k37 w A g.length g) (h3 : Kd.C Kd.string w A3 x.f3.length x.f3) (h4 : Kd.C (Kd.int .i64) w A4 x.f4.length x.f4)
    (hn3 : x.f3.length ≤ 9223372036854775807) (hn4 : x.f4.length ≤ 9223372036854775807) (hx : x.f0 = 2) :
    Calls Tryd.prog 77 #[.slice A g.length c, .agg #[.int .i64 x.f0, .int .i64 x.f1, .string x.f2, .slice A3 x.f3.length c3, .slice A4 x.f4.length c4]] w fun e w' => e = .returned (.bool (mayB g x)) ∧ Below w.heap.size w w' := by
  have H3 := Lib.hid h3
  have H4 := Lib.hid h4
  have HG := Lib.hid hg
  have HKW := Lib.hid hk
  clear h3 h4 hg hk
  have hb : Below w.heap.size w ((w.alloc (Obj.cells #[Value.slice A g.length c] 22)).alloc (Obj.cells #[Value.int IntKind.i64 x.f0, Value.int IntKind.i64 x.f1, Value.string x.f2, Value.slice A3 x.f3.length c3, Value.slice A4 x.f4.length c4] 37)) := ((Below.refl _ _).alloc (Nat.le_refl _) _).alloc (by simp) _
  have h4' := Lib.hid (Kd.C_below H4.out hb)
  have h3' := Lib.hid (Kd.C_below H3.out hb)
  have hg' := Lib.hid (Kd.C_below HG.out hb)
  have hk' := Lib.hid (HKW.out.below hb)
  clear hb
  have q1 : (x.f0 == 1) = false := by simp [hx]
  have q2 : (x.f0 == 2) = true := by simp [hx]
  have q3 : (x.f0 == 3) = false := by simp [hx]
  have q4 : (x.f0 == 4) = false := by simp [hx]
  have q5 : (x.f0 == 5) = false := by simp [hx]
  have q7 : (x.f0 == 7) = false := by simp [hx]
  have q8 : (x.f0 == 8) = false := by simp [hx]
  have q9 : (x.f0 == 9) = false := by simp [hx]
  have r5 : (x.f0 != 5) = true := by simp [hx]
  have r7 : (x.f0 != 7) = true := by simp [hx]
  have r9 : (x.f0 != 9) = true := by simp [hx]
  cases hO : x.f4.any (outB g.length) with
  | true =>
    have HB := Lib.hid (show mayB g x = false by unfold mayB; rw [if_pos (by simp [headB, hO])])
    have HO := Lib.hid hO
    clear hO hx
    go_enter Tryd.func77, Tryd.ntmps77
    go_wp2_with fail
    refine (outs_calls w.heap.size A g.length c A4 c4 x.f4 _ (by simp) h4'.out hn4).mono ?_
    rintro e w' ⟨rfl, rfl⟩
    rw [HO.out]
    go_wp2
    all_goals
      go_ret
      exact ⟨by rw [HB.out]; rfl, ((Below.refl _ _).alloc (Nat.le_refl _) _).alloc (by simp) _⟩
  | false =>
    have HO := Lib.hid hO
    by_cases c1 : x.f1 = 0
    · have n1a : (x.f1 != 0) = false := by simp [c1]
      have n1b : (x.f1 == 0) = true := by simp [c1]
      have D1 := Lib.hid c1
      clear c1
      by_cases c2 : x.f2.size = 0
      · have n2a : x.f2.toList = [] := by rw [ByteArray.toList_eq]; exact List.eq_nil_of_length_eq_zero (by simpa using c2)
        have D2 := Lib.hid c2
        clear c2
        by_cases d3 : x.f3.length = 0
        · have n3a : decide (0 < x.f3.length) = false := decide_eq_false (by omega)
          have n3b : decide (0 < (x.f3.length : Int)) = false := decide_eq_false (by omega)
          have D3 := Lib.hid d3
          clear d3
          have hH : headB g.length x = false := by simp [headB, hO, hx, D1.out, D2.out, D3.out]
          have HM := Lib.hid (show mayB g x = decide (x.f4.length = 0) by unfold mayB; rw [if_neg (by rw [hH]; exact Bool.false_ne_true), if_pos (by simp [hx])])
          by_cases c5 : x.f4.length = 0
          · have n5 : ((x.f4.length : Int) == 0) = true := by simp [c5]
            have n5b : (x.f4.length == 0) = true := by simp [c5]
            have HB := Lib.hid (show mayB g x = true by rw [HM.out]; exact decide_eq_true c5)
            clear hO hx hH c5
            go_enter Tryd.func77, Tryd.ntmps77
            go_wp2_with fail
            refine (outs_calls w.heap.size A g.length c A4 c4 x.f4 _ (by simp) h4'.out hn4).mono ?_
            rintro e w' ⟨rfl, rfl⟩
            rw [HO.out]
            go_wp2
            all_goals
              go_ret
              exact ⟨by rw [HB.out]; rfl, ((Below.refl _ _).alloc (Nat.le_refl _) _).alloc (by simp) _⟩
          · have n5 : ((x.f4.length : Int) == 0) = false := by simp; exact fun e => c5 (by rw [e]; rfl)
            have n5b : (x.f4.length == 0) = false := by simp; exact fun e => c5 (by rw [e]; rfl)
            have HB := Lib.hid (show mayB g x = false by rw [HM.out]; exact decide_eq_false c5)
            clear hO hx hH c5
            go_enter Tryd.func77, Tryd.ntmps77
            go_wp2_with fail
            refine (outs_calls w.heap.size A g.length c A4 c4 x.f4 _ (by simp) h4'.out hn4).mono ?_
            rintro e w' ⟨rfl, rfl⟩
            rw [HO.out]
            go_wp2
            all_goals
              go_ret
              exact ⟨by rw [HB.out]; rfl, ((Below.refl _ _).alloc (Nat.le_refl _) _).alloc (by simp) _⟩
        · have n3a : decide (0 < x.f3.length) = true := decide_eq_true (by omega)
          have n3b : decide (0 < (x.f3.length : Int)) = true := decide_eq_true (by omega)
          have HB := Lib.hid (show mayB g x = false by unfold mayB; rw [if_pos (by simp [headB, hO, hx]; omega)])
          clear hO hx d3
          go_enter Tryd.func77, Tryd.ntmps77
          go_wp2_with fail
          refine (outs_calls w.heap.size A g.length c A4 c4 x.f4 _ (by simp) h4'.out hn4).mono ?_
          rintro e w' ⟨rfl, rfl⟩
          rw [HO.out]
          go_wp2
          all_goals
            go_ret
            exact ⟨by rw [HB.out]; rfl, ((Below.refl _ _).alloc (Nat.le_refl _) _).alloc (by simp) _⟩
      · have n2a : x.f2.toList.isEmpty = false := nonempty_bytes c2
        have n2b : ¬ x.f2.toList = [] := fun e => by rw [e] at n2a; cases n2a
        have HB := Lib.hid (show mayB g x = false by unfold mayB; rw [if_pos (by simp [headB, hO, hx]; omega)])
        clear hO hx c2
        go_enter Tryd.func77, Tryd.ntmps77
        go_wp2_with fail
        refine (outs_calls w.heap.size A g.length c A4 c4 x.f4 _ (by simp) h4'.out hn4).mono ?_
        rintro e w' ⟨rfl, rfl⟩
        rw [HO.out]
        go_wp2
        all_goals
          go_ret
          exact ⟨by rw [HB.out]; rfl, ((Below.refl _ _).alloc (Nat.le_refl _) _).alloc (by simp) _⟩
    · have n1a : (x.f1 != 0) = true := by simp [c1]
      have n1b : (x.f1 == 0) = false := by simp [c1]
      have HB := Lib.hid (show mayB g x = false by unfold mayB; rw [if_pos (by simp [headB, hO, c1, hx])])
      clear hO hx c1
      go_enter Tryd.func77, Tryd.ntmps77
      go_wp2_with fail
      refine (outs_calls w.heap.size A g.length c A4 c4 x.f4 _ (by simp) h4'.out hn4).mono ?_
      rintro e w' ⟨rfl, rfl⟩
      rw [HO.out]
      go_wp2
      all_goals
        go_ret
        exact ⟨by rw [HB.out]; rfl, ((Below.refl _ _).alloc (Nat.le_refl _) _).alloc (by simp) _⟩

set_option maxRecDepth 100000 in
set_option maxHeartbeats 1000000 in
theorem may_3 (A : Option Addr) (g : List S37) (c : Nat) (x : S37) (A3 : Option Addr) (c3 : Nat) (A4 : Option Addr) (c4 : Nat) (w : World) (hk : KeysIn w) (hg : Kd.C k37 w A g.length g) (h3 : Kd.C Kd.string w A3 x.f3.length x.f3) (h4 : Kd.C (Kd.int .i64) w A4 x.f4.length x.f4)
    (hn3 : x.f3.length ≤ 9223372036854775807) (hn4 : x.f4.length ≤ 9223372036854775807) (hx : x.f0 = 3) :
    Calls Tryd.prog 77 #[.slice A g.length c, .agg #[.int .i64 x.f0, .int .i64 x.f1, .string x.f2, .slice A3 x.f3.length c3, .slice A4 x.f4.length c4]] w fun e w' => e = .returned (.bool (mayB g x)) ∧ Below w.heap.size w w' := by
  have H3 := Lib.hid h3
  have H4 := Lib.hid h4
  have HG := Lib.hid hg
  have HKW := Lib.hid hk
  clear h3 h4 hg hk
  have hb : Below w.heap.size w ((w.alloc (Obj.cells #[Value.slice A g.length c] 22)).alloc (Obj.cells #[Value.int IntKind.i64 x.f0, Value.int IntKind.i64 x.f1, Value.string x.f2, Value.slice A3 x.f3.length c3, Value.slice A4 x.f4.length c4] 37)) := ((Below.refl _ _).alloc (Nat.le_refl _) _).alloc (by simp) _
  have h4' := Lib.hid (Kd.C_below H4.out hb)
  have h3' := Lib.hid (Kd.C_below H3.out hb)
  have hg' := Lib.hid (Kd.C_below HG.out hb)
  have hk' := Lib.hid (HKW.out.below hb)
  clear hb
  have q1 : (x.f0 == 1) = false := by simp [hx]
  have q2 : (x.f0 == 2) = false := by simp [hx]
  have q3 : (x.f0 == 3) = true := by simp [hx]
  have q4 : (x.f0 == 4) = false := by simp [hx]
  have q5 : (x.f0 == 5) = false := by simp [hx]
  have q7 : (x.f0 == 7) = false := by simp [hx]
  have q8 : (x.f0 == 8) = false := by simp [hx]
  have q9 : (x.f0 == 9) = false := by simp [hx]
  have r5 : (x.f0 != 5) = true := by simp [hx]
  have r7 : (x.f0 != 7) = true := by simp [hx]
  have r9 : (x.f0 != 9) = true := by simp [hx]
  cases hO : x.f4.any (outB g.length) with
  | true =>
    have HB := Lib.hid (show mayB g x = false by unfold mayB; rw [if_pos (by simp [headB, hO])])
    have HO := Lib.hid hO
    clear hO hx
    go_enter Tryd.func77, Tryd.ntmps77
    go_wp2_with fail
    refine (outs_calls w.heap.size A g.length c A4 c4 x.f4 _ (by simp) h4'.out hn4).mono ?_
    rintro e w' ⟨rfl, rfl⟩
    rw [HO.out]
    go_wp2
    all_goals
      go_ret
      exact ⟨by rw [HB.out]; rfl, ((Below.refl _ _).alloc (Nat.le_refl _) _).alloc (by simp) _⟩
  | false =>
    have HO := Lib.hid hO
    by_cases c1 : x.f1 = 0
    · have n1a : (x.f1 != 0) = false := by simp [c1]
      have n1b : (x.f1 == 0) = true := by simp [c1]
      have D1 := Lib.hid c1
      clear c1
      by_cases c2 : x.f2.size = 0
      · have n2a : x.f2.toList = [] := by rw [ByteArray.toList_eq]; exact List.eq_nil_of_length_eq_zero (by simpa using c2)
        have D2 := Lib.hid c2
        clear c2
        by_cases d3 : x.f3.length = 0
        · have n3a : decide (0 < x.f3.length) = false := decide_eq_false (by omega)
          have n3b : decide (0 < (x.f3.length : Int)) = false := decide_eq_false (by omega)
          have D3 := Lib.hid d3
          clear d3
          have hH : headB g.length x = false := by simp [headB, hO, hx, D1.out, D2.out, D3.out]
          have HM := Lib.hid (show mayB g x = decide (x.f4.length = 0) by unfold mayB; rw [if_neg (by rw [hH]; exact Bool.false_ne_true), if_pos (by simp [hx])])
          by_cases c5 : x.f4.length = 0
          · have n5 : ((x.f4.length : Int) == 0) = true := by simp [c5]
            have n5b : (x.f4.length == 0) = true := by simp [c5]
            have HB := Lib.hid (show mayB g x = true by rw [HM.out]; exact decide_eq_true c5)
            clear hO hx hH c5
            go_enter Tryd.func77, Tryd.ntmps77
            go_wp2_with fail
            refine (outs_calls w.heap.size A g.length c A4 c4 x.f4 _ (by simp) h4'.out hn4).mono ?_
            rintro e w' ⟨rfl, rfl⟩
            rw [HO.out]
            go_wp2
            all_goals
              go_ret
              exact ⟨by rw [HB.out]; rfl, ((Below.refl _ _).alloc (Nat.le_refl _) _).alloc (by simp) _⟩
          · have n5 : ((x.f4.length : Int) == 0) = false := by simp; exact fun e => c5 (by rw [e]; rfl)
            have n5b : (x.f4.length == 0) = false := by simp; exact fun e => c5 (by rw [e]; rfl)
            have HB := Lib.hid (show mayB g x = false by rw [HM.out]; exact decide_eq_false c5)
            clear hO hx hH c5
            go_enter Tryd.func77, Tryd.ntmps77
            go_wp2_with fail
            refine (outs_calls w.heap.size A g.length c A4 c4 x.f4 _ (by simp) h4'.out hn4).mono ?_
            rintro e w' ⟨rfl, rfl⟩
            rw [HO.out]
            go_wp2
            all_goals
              go_ret
              exact ⟨by rw [HB.out]; rfl, ((Below.refl _ _).alloc (Nat.le_refl _) _).alloc (by simp) _⟩
        · have n3a : decide (0 < x.f3.length) = true := decide_eq_true (by omega)
          have n3b : decide (0 < (x.f3.length : Int)) = true := decide_eq_true (by omega)
          have HB := Lib.hid (show mayB g x = false by unfold mayB; rw [if_pos (by simp [headB, hO, hx]; omega)])
          clear hO hx d3
          go_enter Tryd.func77, Tryd.ntmps77
          go_wp2_with fail
          refine (outs_calls w.heap.size A g.length c A4 c4 x.f4 _ (by simp) h4'.out hn4).mono ?_
          rintro e w' ⟨rfl, rfl⟩
          rw [HO.out]
          go_wp2
          all_goals
            go_ret
            exact ⟨by rw [HB.out]; rfl, ((Below.refl _ _).alloc (Nat.le_refl _) _).alloc (by simp) _⟩
      · have n2a : x.f2.toList.isEmpty = false := nonempty_bytes c2
        have n2b : ¬ x.f2.toList = [] := fun e => by rw [e] at n2a; cases n2a
        have HB := Lib.hid (show mayB g x = false by unfold mayB; rw [if_pos (by simp [headB, hO, hx]; omega)])
        clear hO hx c2
        go_enter Tryd.func77, Tryd.ntmps77
        go_wp2_with fail
        refine (outs_calls w.heap.size A g.length c A4 c4 x.f4 _ (by simp) h4'.out hn4).mono ?_
        rintro e w' ⟨rfl, rfl⟩
        rw [HO.out]
        go_wp2
        all_goals
          go_ret
          exact ⟨by rw [HB.out]; rfl, ((Below.refl _ _).alloc (Nat.le_refl _) _).alloc (by simp) _⟩
    · have n1a : (x.f1 != 0) = true := by simp [c1]
      have n1b : (x.f1 == 0) = false := by simp [c1]
      have HB := Lib.hid (show mayB g x = false by unfold mayB; rw [if_pos (by simp [headB, hO, c1, hx])])
      clear hO hx c1
      go_enter Tryd.func77, Tryd.ntmps77
      go_wp2_with fail
      refine (outs_calls w.heap.size A g.length c A4 c4 x.f4 _ (by simp) h4'.out hn4).mono ?_
      rintro e w' ⟨rfl, rfl⟩
      rw [HO.out]
      go_wp2
      all_goals
        go_ret
        exact ⟨by rw [HB.out]; rfl, ((Below.refl _ _).alloc (Nat.le_refl _) _).alloc (by simp) _⟩

set_option maxRecDepth 100000 in
set_option maxHeartbeats 1000000 in
theorem may_4 (A : Option Addr) (g : List S37) (c : Nat) (x : S37) (A3 : Option Addr) (c3 : Nat) (A4 : Option Addr) (c4 : Nat) (w : World) (hk : KeysIn w) (hg : Kd.C k37 w A g.length g) (h3 : Kd.C Kd.string w A3 x.f3.length x.f3) (h4 : Kd.C (Kd.int .i64) w A4 x.f4.length x.f4)
    (hn3 : x.f3.length ≤ 9223372036854775807) (hn4 : x.f4.length ≤ 9223372036854775807) (hx : x.f0 = 4) :
    Calls Tryd.prog 77 #[.slice A g.length c, .agg #[.int .i64 x.f0, .int .i64 x.f1, .string x.f2, .slice A3 x.f3.length c3, .slice A4 x.f4.length c4]] w fun e w' => e = .returned (.bool (mayB g x)) ∧ Below w.heap.size w w' := by
  have H3 := Lib.hid h3
  have H4 := Lib.hid h4
  have HG := Lib.hid hg
  have HKW := Lib.hid hk
  clear h3 h4 hg hk
  have hb : Below w.heap.size w ((w.alloc (Obj.cells #[Value.slice A g.length c] 22)).alloc (Obj.cells #[Value.int IntKind.i64 x.f0, Value.int IntKind.i64 x.f1, Value.string x.f2, Value.slice A3 x.f3.length c3, Value.slice A4 x.f4.length c4] 37)) := ((Below.refl _ _).alloc (Nat.le_refl _) _).alloc (by simp) _
  have h4' := Lib.hid (Kd.C_below H4.out hb)
  have h3' := Lib.hid (Kd.C_below H3.out hb)
  have hg' := Lib.hid (Kd.C_below HG.out hb)
  have hk' := Lib.hid (HKW.out.below hb)
  clear hb
  have q1 : (x.f0 == 1) = false := by simp [hx]
  have q2 : (x.f0 == 2) = false := by simp [hx]
  have q3 : (x.f0 == 3) = false := by simp [hx]
  have q4 : (x.f0 == 4) = true := by simp [hx]
  have q5 : (x.f0 == 5) = false := by simp [hx]
  have q7 : (x.f0 == 7) = false := by simp [hx]
  have q8 : (x.f0 == 8) = false := by simp [hx]
  have q9 : (x.f0 == 9) = false := by simp [hx]
  have r5 : (x.f0 != 5) = true := by simp [hx]
  have r7 : (x.f0 != 7) = true := by simp [hx]
  have r9 : (x.f0 != 9) = true := by simp [hx]
  cases hO : x.f4.any (outB g.length) with
  | true =>
    have HB := Lib.hid (show mayB g x = false by unfold mayB; rw [if_pos (by simp [headB, hO])])
    have HO := Lib.hid hO
    clear hO hx
    go_enter Tryd.func77, Tryd.ntmps77
    go_wp2_with fail
    refine (outs_calls w.heap.size A g.length c A4 c4 x.f4 _ (by simp) h4'.out hn4).mono ?_
    rintro e w' ⟨rfl, rfl⟩
    rw [HO.out]
    go_wp2
    all_goals
      go_ret
      exact ⟨by rw [HB.out]; rfl, ((Below.refl _ _).alloc (Nat.le_refl _) _).alloc (by simp) _⟩
  | false =>
    have HO := Lib.hid hO
    by_cases c1 : x.f1 = 0
    · have n1a : (x.f1 != 0) = false := by simp [c1]
      have n1b : (x.f1 == 0) = true := by simp [c1]
      have D1 := Lib.hid c1
      clear c1
      by_cases c2 : x.f2.size = 0
      · have n2a : x.f2.toList = [] := by rw [ByteArray.toList_eq]; exact List.eq_nil_of_length_eq_zero (by simpa using c2)
        have D2 := Lib.hid c2
        clear c2
        by_cases d3 : x.f3.length = 0
        · have n3a : decide (0 < x.f3.length) = false := decide_eq_false (by omega)
          have n3b : decide (0 < (x.f3.length : Int)) = false := decide_eq_false (by omega)
          have D3 := Lib.hid d3
          clear d3
          have hH : headB g.length x = false := by simp [headB, hO, hx, D1.out, D2.out, D3.out]
          have HM := Lib.hid (show mayB g x = decide (x.f4.length = 0) by unfold mayB; rw [if_neg (by rw [hH]; exact Bool.false_ne_true), if_pos (by simp [hx])])
          by_cases c5 : x.f4.length = 0
          · have n5 : ((x.f4.length : Int) == 0) = true := by simp [c5]
            have n5b : (x.f4.length == 0) = true := by simp [c5]
            have HB := Lib.hid (show mayB g x = true by rw [HM.out]; exact decide_eq_true c5)
            clear hO hx hH c5
            go_enter Tryd.func77, Tryd.ntmps77
            go_wp2_with fail
            refine (outs_calls w.heap.size A g.length c A4 c4 x.f4 _ (by simp) h4'.out hn4).mono ?_
            rintro e w' ⟨rfl, rfl⟩
            rw [HO.out]
            go_wp2
            all_goals
              go_ret
              exact ⟨by rw [HB.out]; rfl, ((Below.refl _ _).alloc (Nat.le_refl _) _).alloc (by simp) _⟩
          · have n5 : ((x.f4.length : Int) == 0) = false := by simp; exact fun e => c5 (by rw [e]; rfl)
            have n5b : (x.f4.length == 0) = false := by simp; exact fun e => c5 (by rw [e]; rfl)
            have HB := Lib.hid (show mayB g x = false by rw [HM.out]; exact decide_eq_false c5)
            clear hO hx hH c5
            go_enter Tryd.func77, Tryd.ntmps77
            go_wp2_with fail
            refine (outs_calls w.heap.size A g.length c A4 c4 x.f4 _ (by simp) h4'.out hn4).mono ?_
            rintro e w' ⟨rfl, rfl⟩
            rw [HO.out]
            go_wp2
            all_goals
              go_ret
              exact ⟨by rw [HB.out]; rfl, ((Below.refl _ _).alloc (Nat.le_refl _) _).alloc (by simp) _⟩
        · have n3a : decide (0 < x.f3.length) = true := decide_eq_true (by omega)
          have n3b : decide (0 < (x.f3.length : Int)) = true := decide_eq_true (by omega)
          have HB := Lib.hid (show mayB g x = false by unfold mayB; rw [if_pos (by simp [headB, hO, hx]; omega)])
          clear hO hx d3
          go_enter Tryd.func77, Tryd.ntmps77
          go_wp2_with fail
          refine (outs_calls w.heap.size A g.length c A4 c4 x.f4 _ (by simp) h4'.out hn4).mono ?_
          rintro e w' ⟨rfl, rfl⟩
          rw [HO.out]
          go_wp2
          all_goals
            go_ret
            exact ⟨by rw [HB.out]; rfl, ((Below.refl _ _).alloc (Nat.le_refl _) _).alloc (by simp) _⟩
      · have n2a : x.f2.toList.isEmpty = false := nonempty_bytes c2
        have n2b : ¬ x.f2.toList = [] := fun e => by rw [e] at n2a; cases n2a
        have HB := Lib.hid (show mayB g x = false by unfold mayB; rw [if_pos (by simp [headB, hO, hx]; omega)])
        clear hO hx c2
        go_enter Tryd.func77, Tryd.ntmps77
        go_wp2_with fail
        refine (outs_calls w.heap.size A g.length c A4 c4 x.f4 _ (by simp) h4'.out hn4).mono ?_
        rintro e w' ⟨rfl, rfl⟩
        rw [HO.out]
        go_wp2
        all_goals
          go_ret
          exact ⟨by rw [HB.out]; rfl, ((Below.refl _ _).alloc (Nat.le_refl _) _).alloc (by simp) _⟩
    · have n1a : (x.f1 != 0) = true := by simp [c1]
      have n1b : (x.f1 == 0) = false := by simp [c1]
      have HB := Lib.hid (show mayB g x = false by unfold mayB; rw [if_pos (by simp [headB, hO, c1, hx])])
      clear hO hx c1
      go_enter Tryd.func77, Tryd.ntmps77
      go_wp2_with fail
      refine (outs_calls w.heap.size A g.length c A4 c4 x.f4 _ (by simp) h4'.out hn4).mono ?_
      rintro e w' ⟨rfl, rfl⟩
      rw [HO.out]
      go_wp2
      all_goals
        go_ret
        exact ⟨by rw [HB.out]; rfl, ((Below.refl _ _).alloc (Nat.le_refl _) _).alloc (by simp) _⟩

set_option maxRecDepth 100000 in
set_option maxHeartbeats 1000000 in
theorem may_other (A : Option Addr) (g : List S37) (c : Nat) (x : S37) (A3 : Option Addr) (c3 : Nat) (A4 : Option Addr) (c4 : Nat) (w : World) (hk : KeysIn w) (hg : Kd.C k37 w A g.length g) (h3 : Kd.C Kd.string w A3 x.f3.length x.f3) (h4 : Kd.C (Kd.int .i64) w A4 x.f4.length x.f4)
    (hn3 : x.f3.length ≤ 9223372036854775807) (hn4 : x.f4.length ≤ 9223372036854775807) (hx : x.f0 ≠ 1 ∧ x.f0 ≠ 2 ∧ x.f0 ≠ 3 ∧ x.f0 ≠ 4 ∧ x.f0 ≠ 5 ∧ x.f0 ≠ 7 ∧ x.f0 ≠ 8 ∧ x.f0 ≠ 9) :
    Calls Tryd.prog 77 #[.slice A g.length c, .agg #[.int .i64 x.f0, .int .i64 x.f1, .string x.f2, .slice A3 x.f3.length c3, .slice A4 x.f4.length c4]] w fun e w' => e = .returned (.bool (mayB g x)) ∧ Below w.heap.size w w' := by
  have H3 := Lib.hid h3
  have H4 := Lib.hid h4
  have HG := Lib.hid hg
  have HKW := Lib.hid hk
  clear h3 h4 hg hk
  have hb : Below w.heap.size w ((w.alloc (Obj.cells #[Value.slice A g.length c] 22)).alloc (Obj.cells #[Value.int IntKind.i64 x.f0, Value.int IntKind.i64 x.f1, Value.string x.f2, Value.slice A3 x.f3.length c3, Value.slice A4 x.f4.length c4] 37)) := ((Below.refl _ _).alloc (Nat.le_refl _) _).alloc (by simp) _
  have h4' := Lib.hid (Kd.C_below H4.out hb)
  have h3' := Lib.hid (Kd.C_below H3.out hb)
  have hg' := Lib.hid (Kd.C_below HG.out hb)
  have hk' := Lib.hid (HKW.out.below hb)
  clear hb
  have q1 : (x.f0 == 1) = false := by simp [hx]
  have q2 : (x.f0 == 2) = false := by simp [hx]
  have q3 : (x.f0 == 3) = false := by simp [hx]
  have q4 : (x.f0 == 4) = false := by simp [hx]
  have q5 : (x.f0 == 5) = false := by simp [hx]
  have q7 : (x.f0 == 7) = false := by simp [hx]
  have q8 : (x.f0 == 8) = false := by simp [hx]
  have q9 : (x.f0 == 9) = false := by simp [hx]
  have r5 : (x.f0 != 5) = true := by simp [hx]
  have r7 : (x.f0 != 7) = true := by simp [hx]
  have r9 : (x.f0 != 9) = true := by simp [hx]
  cases hO : x.f4.any (outB g.length) with
  | true =>
    have HB := Lib.hid (show mayB g x = false by unfold mayB; rw [if_pos (by simp [headB, hO])])
    have HO := Lib.hid hO
    clear hO hx
    go_enter Tryd.func77, Tryd.ntmps77
    go_wp2_with fail
    refine (outs_calls w.heap.size A g.length c A4 c4 x.f4 _ (by simp) h4'.out hn4).mono ?_
    rintro e w' ⟨rfl, rfl⟩
    rw [HO.out]
    go_wp2
    all_goals
      go_ret
      exact ⟨by rw [HB.out]; rfl, ((Below.refl _ _).alloc (Nat.le_refl _) _).alloc (by simp) _⟩
  | false =>
    have HO := Lib.hid hO
    by_cases c1 : x.f1 = 0
    · have n1a : (x.f1 != 0) = false := by simp [c1]
      have n1b : (x.f1 == 0) = true := by simp [c1]
      have D1 := Lib.hid c1
      clear c1
      by_cases c2 : x.f2.size = 0
      · have n2a : x.f2.toList = [] := by rw [ByteArray.toList_eq]; exact List.eq_nil_of_length_eq_zero (by simpa using c2)
        have D2 := Lib.hid c2
        clear c2
        by_cases d3 : x.f3.length = 0
        · have n3a : decide (0 < x.f3.length) = false := decide_eq_false (by omega)
          have n3b : decide (0 < (x.f3.length : Int)) = false := decide_eq_false (by omega)
          have D3 := Lib.hid d3
          clear d3
          have hH : headB g.length x = false := by simp [headB, hO, hx, D1.out, D2.out, D3.out]
          have HB := Lib.hid (show mayB g x = false by unfold mayB; rw [if_neg (by rw [hH]; exact Bool.false_ne_true), if_neg (by simp [hx]), if_neg (by simp [hx]), if_neg (by simp [hx]), if_neg (by simp [hx]), if_neg (by simp [hx])])
          clear hO hx hH
          go_enter Tryd.func77, Tryd.ntmps77
          go_wp2_with fail
          refine (outs_calls w.heap.size A g.length c A4 c4 x.f4 _ (by simp) h4'.out hn4).mono ?_
          rintro e w' ⟨rfl, rfl⟩
          rw [HO.out]
          go_wp2
          all_goals
            go_ret
            exact ⟨by rw [HB.out]; rfl, ((Below.refl _ _).alloc (Nat.le_refl _) _).alloc (by simp) _⟩
        · have n3a : decide (0 < x.f3.length) = true := decide_eq_true (by omega)
          have n3b : decide (0 < (x.f3.length : Int)) = true := decide_eq_true (by omega)
          have HB := Lib.hid (show mayB g x = false by unfold mayB; rw [if_pos (by simp [headB, hO, hx]; omega)])
          clear hO hx d3
          go_enter Tryd.func77, Tryd.ntmps77
          go_wp2_with fail
          refine (outs_calls w.heap.size A g.length c A4 c4 x.f4 _ (by simp) h4'.out hn4).mono ?_
          rintro e w' ⟨rfl, rfl⟩
          rw [HO.out]
          go_wp2
          all_goals
            go_ret
            exact ⟨by rw [HB.out]; rfl, ((Below.refl _ _).alloc (Nat.le_refl _) _).alloc (by simp) _⟩
      · have n2a : x.f2.toList.isEmpty = false := nonempty_bytes c2
        have n2b : ¬ x.f2.toList = [] := fun e => by rw [e] at n2a; cases n2a
        have HB := Lib.hid (show mayB g x = false by unfold mayB; rw [if_pos (by simp [headB, hO, hx]; omega)])
        clear hO hx c2
        go_enter Tryd.func77, Tryd.ntmps77
        go_wp2_with fail
        refine (outs_calls w.heap.size A g.length c A4 c4 x.f4 _ (by simp) h4'.out hn4).mono ?_
        rintro e w' ⟨rfl, rfl⟩
        rw [HO.out]
        go_wp2
        all_goals
          go_ret
          exact ⟨by rw [HB.out]; rfl, ((Below.refl _ _).alloc (Nat.le_refl _) _).alloc (by simp) _⟩
    · have n1a : (x.f1 != 0) = true := by simp [c1]
      have n1b : (x.f1 == 0) = false := by simp [c1]
      have HB := Lib.hid (show mayB g x = false by unfold mayB; rw [if_pos (by simp [headB, hO, c1, hx])])
      clear hO hx c1
      go_enter Tryd.func77, Tryd.ntmps77
      go_wp2_with fail
      refine (outs_calls w.heap.size A g.length c A4 c4 x.f4 _ (by simp) h4'.out hn4).mono ?_
      rintro e w' ⟨rfl, rfl⟩
      rw [HO.out]
      go_wp2
      all_goals
        go_ret
        exact ⟨by rw [HB.out]; rfl, ((Below.refl _ _).alloc (Nat.le_refl _) _).alloc (by simp) _⟩

end Go.Proofs.YtcljgfpcdlnlkaaDoor.Q
namespace Go.Proofs.YtcljgfpcdlnlkaaDoor.Q
open Go.RowKit Go.Proofs.YtcljgfpcdlnlkaaDoorW.PrintWords Mp
theorem new_at (W : World) (cs : Array Value) (e : Nat) (k : Nat) : (W.alloc (.cells cs e)).cell? ⟨W.heap.size, k, none⟩ = cs[k]? := by
  unfold World.cell?
  rw [show (W.alloc (.cells cs e)).heap[W.heap.size]? = some (.cells cs e) from Array.getElem?_push_size]
  rfl
def keyCells : Array Value := (keyWords.map Value.string).toArray
set_option maxRecDepth 100000 in
theorem keys2_calls (w : World) : Calls Tryd.prog 166 #[] w fun e w' => e = .returned (.slice (some ⟨w.heap.size, 0, none⟩) 18 18) ∧ w' = w.alloc (.cells keyCells 9) := by
  go_enter Tryd.func166, Tryd.ntmps166
  go_wp2
  go_ret
  exact ⟨rfl, rfl⟩
theorem keyCells_at (k : Nat) (hk : k < 18) : keyCells[k]? = some (.string (keyWords.getD k ByteArray.empty)) := by
  unfold keyCells
  rw [List.getElem?_toArray, List.getElem?_map, List.getD_eq_getElem?_getD, List.getElem?_eq_getElem (show k < keyWords.length from hk)]
  rfl
set_option maxRecDepth 100000 in
set_option maxHeartbeats 400000 in
theorem isKey2_calls (s : ByteArray) (w : World) : Calls Tryd.prog 139 #[.string s] w fun e w' => e = .returned (.bool (isKeyB s)) ∧ Below w.heap.size w w' := by
  have HK := Lib.hid (keys2_calls w)
  have HC := Lib.hid (fun k hk => (new_at w keyCells 9 k).trans (keyCells_at k hk))
  have HB := Lib.hid (show Below w.heap.size w (w.alloc (.cells keyCells 9)) from (Below.refl _ _).alloc (Nat.le_refl _) _)
  go_enter Tryd.func139, Tryd.ntmps139
  go_wp2_with fail
  refine HK.out.mono ?_
  clear HK
  rintro e w1 ⟨rfl, hw⟩
  rw [← hw] at HC HB
  clear hw
  go_wp2
  go_loopw [4] (fun s4 W => ∃ k : Nat, k ≤ 18 ∧ s4 = .int .i64 k ∧ Hid (W = w1 ∧ ∀ j, j < k → keyWords.getD j ByteArray.empty ≠ s)) (fun s4 _ => 18 - (intOf s4).toNat)
  case atStart => exact ⟨0, by omega, rfl, Lib.hid ⟨rfl, fun j hj => absurd hj (by omega)⟩⟩
  case round =>
    obtain ⟨k, hk, rfl, HI⟩ := hrel
    have hww := HI.out.1.symm
    subst hww
    by_cases hlt : k < 18
    · have hc := HC.out k hlt
      cases he : ((keyWords.getD k ByteArray.empty).toList == s.toList) with
      | true =>
        have HA := Lib.hid (show isKeyB s = true from List.any_eq_true.2 ⟨_, keyWord_mem k hlt, decide_eq_true (by rw [str_eq] at he; exact of_decide_eq_true he)⟩)
        generalize keyWords.getD k ByteArray.empty = x at *
        go_wp2
        go_ret
        exact ⟨by rw [HA.out]; rfl, HB.out⟩
      | false =>
        have hne : keyWords.getD k ByteArray.empty ≠ s := by rw [str_eq] at he; exact of_decide_eq_false he
        have HI2 := Lib.hid (show ∀ j, j < k + 1 → keyWords.getD j ByteArray.empty ≠ s from fun j hj => if h : j = k then by rw [h]; exact hne else HI.out.2 j (by omega))
        clear hne
        generalize keyWords.getD k ByteArray.empty = x at hc he
        go_wp2
        go_roundw
        case rel => exact ⟨k + 1, by omega, by go_num, Lib.hid ⟨by simp, HI2.out⟩⟩
        case measure => simp [intOf]; omega
    · obtain rfl : k = 18 := by omega
      have HA := Lib.hid (show isKeyB s = false by
        unfold isKeyB
        refine any_none keyWords ByteArray.empty _ fun i hi => ?_
        exact decide_eq_false (HI.out.2 i hi))
      go_wp2
      go_ret
      exact ⟨by rw [HA.out]; rfl, HB.out⟩
set_option maxRecDepth 100000 in
theorem small2_calls (c : Int) (w : World) : Calls Tryd.prog 188 #[.int .u8 c] w fun e w' => e = .returned (.bool (smallB c)) ∧ w' = w := by
  by_cases h : 97 ≤ c
  · go_enter Tryd.func188, Tryd.ntmps188
    go_wp2
    go_ret
    exact ⟨by simp [smallB, h], rfl⟩
  · have hd : decide (97 ≤ c) = false := decide_eq_false h
    go_enter Tryd.func188, Tryd.ntmps188
    go_wp2
    go_ret
    exact ⟨by rw [smallB, hd]; rfl, rfl⟩
set_option maxRecDepth 100000 in
theorem digit2_calls (c : Int) (w : World) : Calls Tryd.prog 189 #[.int .u8 c] w fun e w' => e = .returned (.bool (digitB c)) ∧ w' = w := by
  by_cases h : 48 ≤ c
  · go_enter Tryd.func189, Tryd.ntmps189
    go_wp2
    go_ret
    exact ⟨by simp [digitB, h], rfl⟩
  · have hd : decide (48 ≤ c) = false := decide_eq_false h
    go_enter Tryd.func189, Tryd.ntmps189
    go_wp2
    go_ret
    exact ⟨by rw [digitB, hd]; rfl, rfl⟩
set_option maxRecDepth 100000 in
set_option maxHeartbeats 1000000 in
theorem tagged2_calls (s : ByteArray) (w : World) (hn : s.size ≤ 9223372036854775807) : Calls Tryd.prog 165 #[.string s] w fun e w' => e = .returned (.bool (taggedB s)) ∧ w' = w := by
  go_enter Tryd.func165, Tryd.ntmps165
  go_wp2
  go_loopw [3] (fun s3 W => ∃ k : Nat, k ≤ s.size ∧ s3 = .int .i64 k ∧ Hid (W = w ∧ ∀ j : Nat, j < k → anyB (bt s j) = true)) (fun s3 _ => s.size - (intOf s3).toNat)
  case atStart => exact ⟨0, by omega, rfl, Lib.hid ⟨rfl, fun j hj => absurd hj (by omega)⟩⟩
  case round =>
    obtain ⟨k, hk, rfl, HI⟩ := hrel
    have hww := HI.out.1.symm
    subst hww
    by_cases hlt : k < s.size
    · have e0 : (s[k].toNat : Int) = bt s k := bt_at s k (by simpa using hlt)
      have HS := Lib.hid (fun W => small2_calls (bt s k) W)
      have HD := Lib.hid (fun W => digit2_calls (bt s k) W)
      have HX := Lib.hid (show anyB (bt s k) = (smallB (bt s k) || digitB (bt s k) || (bt s k == 95)) from rfl)
      have HI2 := Lib.hid (show anyB (bt s k) = true → ∀ j : Nat, j < k + 1 → anyB (bt s j) = true from fun h j hj => if e : j = k then by rw [e]; exact h else HI.out.2 j (by omega))
      have HF := Lib.hid (show anyB (bt s k) = false → taggedB s = false from fun h => by
        unfold taggedB
        rw [List.all_eq_false.2 ⟨k, List.mem_range.2 hlt, by rw [h]; exact Bool.false_ne_true⟩, Bool.and_false])
      generalize bt s k = x at e0 HS HD HX HI2 HF
      go_wp2_with fail
      refine (HS.out w).mono ?_
      clear HS
      rintro e w' ⟨rfl, hww⟩
      replace hww := hww.symm
      subst hww
      cases hs : smallB x with
      | true =>
        have HN := Lib.hid (HI2.out (by rw [HX.out, hs]; rfl))
        clear hs HI2 HF HX
        go_wp2
        go_roundw
        case rel => exact ⟨k + 1, by omega, by go_num, Lib.hid ⟨by simp, HN.out⟩⟩
        case measure => simp [intOf]; omega
      | false =>
        rw [hs] at HX
        clear hs
        go_wp2_with fail
        refine (HD.out w).mono ?_
        clear HD
        rintro e w' ⟨rfl, hww⟩
        replace hww := hww.symm
        subst hww
        cases hd : digitB x with
        | true =>
          have HN := Lib.hid (HI2.out (by rw [HX.out, hd]; rfl))
          clear hd HI2 HF HX
          go_wp2
          go_roundw
          case rel => exact ⟨k + 1, by omega, by go_num, Lib.hid ⟨by simp, HN.out⟩⟩
          case measure => simp [intOf]; omega
        | false =>
          rw [hd] at HX
          clear hd
          cases h5 : (x == 95) with
          | true =>
            have HN := Lib.hid (HI2.out (by rw [HX.out, h5]; rfl))
            have h5' : (x != 95) = false := by simpa using h5
            clear HI2 HF HX h5
            go_wp2
            go_roundw
            case rel => exact ⟨k + 1, by omega, by go_num, Lib.hid ⟨by simp, HN.out⟩⟩
            case measure => simp [intOf]; omega
          | false =>
            have HN := Lib.hid (HF.out (by rw [HX.out, h5]; rfl))
            have h5' : (x != 95) = true := by simpa using h5
            clear HI2 HF HX h5
            go_wp2
            go_ret
            exact ⟨by rw [HN.out]; rfl, rfl⟩
    · obtain rfl : k = s.size := by omega
      have HA := Lib.hid (show taggedB s = (decide (0 < s.size) && decide (s.size ≤ 16) && smallB (bt s 0)) by
        unfold taggedB
        rw [List.all_eq_true.2 (fun j hj => HI.out.2 j (List.mem_range.1 hj)), Bool.and_true])
      by_cases h1 : 1 ≤ s.size
      · have d1 : decide ((1 : Int) ≤ (s.size : Int)) = true := decide_eq_true (by omega)
        have d1' : decide (1 ≤ s.size) = true := decide_eq_true h1
        by_cases h2 : s.size ≤ 16
        · have d2 : decide ((s.size : Int) ≤ 16) = true := decide_eq_true (by omega)
          have d2' : decide (s.size ≤ 16) = true := decide_eq_true h2
          have e0 : (s[0].toNat : Int) = bt s 0 := bt_at s 0 (by simpa using (show 0 < s.size by omega))
          have HS := Lib.hid (small2_calls (bt s 0) w)
          have hlt0 : 0 < s.size := by omega
          have HB := Lib.hid (show taggedB s = smallB (bt s 0) by rw [HA.out, decide_eq_true hlt0, d2']; rfl)
          clear HA
          generalize bt s 0 = x at e0 HS HB
          go_wp2_with fail
          refine HS.out.mono ?_
          clear HS
          rintro e w' ⟨rfl, hww⟩
          replace hww := hww.symm
          subst hww
          go_wp2
          go_ret
          exact ⟨by rw [HB.out]; rfl, rfl⟩
        · have d2 : decide ((s.size : Int) ≤ 16) = false := decide_eq_false (by omega)
          have d2' : decide (s.size ≤ 16) = false := decide_eq_false h2
          have HB := Lib.hid (show taggedB s = false by rw [HA.out, d2']; simp)
          clear HA
          go_wp2
          go_ret
          exact ⟨by rw [HB.out]; rfl, rfl⟩
      · have d1 : decide ((1 : Int) ≤ (s.size : Int)) = false := decide_eq_false (by omega)
        have d1' : decide (1 ≤ s.size) = false := decide_eq_false h1
        have HB := Lib.hid (show taggedB s = false by rw [HA.out, decide_eq_false (show ¬ 0 < s.size by omega)]; rfl)
        clear HA
        go_wp2
        go_ret
        exact ⟨by rw [HB.out]; rfl, rfl⟩
set_option maxRecDepth 100000 in
theorem isName2_calls (s : ByteArray) (w : World) (hn : s.size ≤ 9223372036854775807) : Calls Tryd.prog 138 #[.string s] w fun e w' => e = .returned (.bool (isNameB s)) ∧ Below w.heap.size w w' := by
  have HT := Lib.hid (tagged2_calls s w hn)
  have HK := Lib.hid (isKey2_calls s w)
  have HX := Lib.hid (show isNameB s = (taggedB s && !isKeyB s) from rfl)
  go_enter Tryd.func138, Tryd.ntmps138
  go_wp2_with fail
  refine HT.out.mono ?_
  clear HT
  rintro e w' ⟨rfl, hww⟩
  replace hww := hww.symm
  subst hww
  cases ht : taggedB s with
  | false =>
    rw [ht] at HX
    go_wp2
    go_ret
    exact ⟨by rw [HX.out]; rfl, Below.refl _ _⟩
  | true =>
    rw [ht] at HX
    clear ht
    go_wp2_with fail
    refine HK.out.mono ?_
    clear HK
    rintro e w' ⟨rfl, hb⟩
    have HB := Lib.hid hb
    clear hb
    go_wp2
    go_ret
    exact ⟨by rw [HX.out]; rfl, HB.out⟩
end Go.Proofs.YtcljgfpcdlnlkaaDoor.Q
namespace Go.Proofs.YtcljgfpcdlnlkaaDoor.Q
open Go.RowKit Go.Proofs.YtcljgfpcdlnlkaaDoorW.PrintWords Mp
abbrev PM := List ((Int × Int) × Int)
abbrev VInt := Value.int .i64
def grant (m : PM) (p : Int × Int) : Bool × PM := match get m p with
  | none => (true, put m p 1)
  | some n => (decide (0 < n), m)
/-- Not taken away; granted. -/
def okB (m : PM) (p : Int × Int) : Bool := match get m p with
  | none => true
  | some n => decide (0 < n)
def posB (m : PM) (p : Int × Int) : Bool := match get m p with
  | none => false
  | some n => decide (0 < n)
/-- Which pairs may be granted: the proof's own choice. -/
class Dom where
  D : Int × Int → Prop
theorem rd_memI {l : List Int} {i : Int} (h0 : 0 ≤ i) (h1 : i < l.length) : rd l i ∈ l := by
  unfold rd
  rw [List.getD_eq_getElem?_getD, List.getElem?_eq_getElem (by omega)]
  exact List.getElem_mem _
/-- m' is m and pairs that are granted anew. -/
structure Grow [Dom] (m m' : PM) : Prop where
  len : m.length ≤ m'.length
  same : m'.length = m.length → m' = m
  old : ∀ p v, get m p = some v → get m' p = some v
  new : ∀ p, get m p = none → get m' p = none ∨ get m' p = some 1
  dom : ∀ p, p ∈ m'.map (·.1) → p ∈ m.map (·.1) ∨ Dom.D p
  nodup : (m.map (·.1)).Nodup → (m'.map (·.1)).Nodup
theorem Grow.refl [Dom] (m : PM) : Grow m m := ⟨Nat.le_refl _, fun _ => rfl, fun _ _ h => h, fun _ h => .inl h, fun _ h => .inl h, fun h => h⟩
theorem Grow.trans [Dom] {a b c : PM} (h : Grow a b) (k : Grow b c) : Grow a c :=
  ⟨Nat.le_trans h.len k.len, fun e => by
    have h1 := h.len
    have h2 := k.len
    have e1 := h.same (by omega)
    have e2 := k.same (by omega)
    rw [e2, e1], fun p v e => k.old p v (h.old p v e), fun p e => by
    rcases h.new p e with h1 | h1
    · exact k.new p h1
    · exact .inr (k.old p _ h1), fun p hp => by
    rcases k.dom p hp with h1 | h1
    · exact h.dom p h1
    · exact .inr h1, fun hn => k.nodup (h.nodup hn)⟩
theorem Grow.ok [Dom] {m m' : PM} (h : Grow m m') (p : Int × Int) : okB m' p = okB m p := by
  unfold okB
  cases e : get m p with
  | none =>
    rcases h.new p e with h1 | h1 <;> rw [h1]
    simp
  | some v => rw [h.old p v e]
theorem Grow.pos [Dom] {m m' : PM} (h : Grow m m') (p : Int × Int) (hp : posB m p = true) : posB m' p = true := by
  unfold posB at hp ⊢
  cases e : get m p with
  | none => rw [e] at hp; cases hp
  | some v => rw [h.old p v e]; rw [e] at hp; exact hp
theorem pos_ok (m : PM) (p : Int × Int) (h : posB m p = true) : okB m p = true := by
  unfold posB at h
  unfold okB
  cases e : get m p with
  | none => rfl
  | some v => rw [e] at h; exact h
theorem grow_grant [Dom] (m : PM) (p : Int × Int) (hD : Dom.D p) : Grow m (grant m p).2 := by
  unfold grant
  cases e : get m p with
  | some n => exact Grow.refl m
  | none =>
    refine ⟨?_, ?_, ?_, ?_, ?_, ?_⟩
    · simp only [put_length, e, if_true]; omega
    · intro h; simp only [put_length, e, if_true] at h; omega
    · intro q v h
      rw [get_put]
      split
      · rename_i hq; rw [hq, e] at h; cases h
      · exact h
    · intro q h
      rw [get_put]
      split
      · exact .inr rfl
      · exact .inl h
    · intro q h
      rw [put_keys, if_pos e, List.mem_append, List.mem_singleton] at h
      rcases h with h | rfl
      · exact .inl h
      · exact .inr hD
    · intro h
      rw [put_keys, if_pos e, List.nodup_append]
      refine ⟨h, by simp, ?_⟩
      intro a ha b hb hab
      simp only [List.mem_singleton] at hb
      subst hb hab
      exact get_ne_none.2 ha e
/-- What f answers hangs on nothing but what is known: before it (m) and behind it (m'). -/
def Ans {α : Type} (m m' : PM) (f : (Int × Int → Bool) → α) (r : α) : Prop :=
  ∀ R : Int × Int → Bool, (∀ p, posB m' p = true → R p = true) → (∀ p, R p = true → okB m p = true) → f R = r
theorem Ans.grow [Dom] {α : Type} {a b c : PM} {f : (Int × Int → Bool) → α} {r : α} (h : Ans a b f r) (k : Grow b c) : Ans a c f r := fun R h1 h2 => h R (fun p hp => h1 p (k.pos p hp)) h2
theorem Ans.from [Dom] {α : Type} {a b c : PM} {f : (Int × Int → Bool) → α} {r : α} (h : Ans b c f r) (k : Grow a b) : Ans a c f r := fun R h1 h2 => h R h1 (fun p hp => by rw [k.ok]; exact h2 p hp)
theorem Ans.const {α : Type} (m m' : PM) (r : α) : Ans m m' (fun _ => r) r := fun _ _ _ => rfl
theorem ans_grant (m : PM) (p : Int × Int) : Ans m (grant m p).2 (fun R => R p) (grant m p).1 := by
  intro R h1 h2
  show R p = _
  unfold grant at h1 ⊢
  cases e : get m p with
  | none =>
    rw [e] at h1
    exact h1 p (by unfold posB; rw [get_put, if_pos rfl]; rfl)
  | some n =>
    rw [e] at h1
    by_cases hn : 0 < n
    · rw [h1 p (by unfold posB; rw [e]; exact decide_eq_true hn)]
      simp [hn]
    · cases hR : R p with
      | false => simp [hn]
      | true =>
        have := h2 p hR
        unfold okB at this
        rw [e] at this
        exact absurd (of_decide_eq_true this) hn
/-! the rules -/
/-- Where a key stands; below 0: nowhere. -/
def keyAt : List ByteArray → ByteArray → Int
  | [], _ => -1
  | x :: l, k => if x = k then 0 else if keyAt l k < 0 then -1 else keyAt l k + 1
theorem keyAt_some (l : List ByteArray) (s : ByteArray) (k : Nat) (hk : k < l.length) (he : l.getD k ByteArray.empty = s) (hn : ∀ j, j < k → l.getD j ByteArray.empty ≠ s) : keyAt l s = k := by
  induction l generalizing k with
  | nil => simp at hk
  | cons x l ih =>
    cases k with
    | zero =>
      simp only [List.getD_cons_zero] at he
      simp [keyAt, he]
    | succ k =>
      have h0 : x ≠ s := by simpa using hn 0 (by omega)
      have := ih k (by simpa using hk) (by simpa using he) (fun j hj => by simpa using hn (j + 1) (by omega))
      simp only [keyAt, h0, if_false, this]
      rw [if_neg (by omega)]
      simp
theorem keyAt_none (l : List ByteArray) (s : ByteArray) (hn : ∀ j, j < l.length → l.getD j ByteArray.empty ≠ s) : keyAt l s = -1 := by
  induction l with
  | nil => rfl
  | cons x l ih =>
    have h0 : x ≠ s := by simpa using hn 0 (by simp)
    have := ih (fun j hj => by simpa using hn (j + 1) (by simpa using hj))
    simp [keyAt, h0, this]
theorem keyAt_lt (l : List ByteArray) (s : ByteArray) : -1 ≤ keyAt l s ∧ keyAt l s < l.length := by
  induction l with
  | nil => simp [keyAt]
  | cons x l ih =>
    simp only [keyAt, List.length_cons]
    split
    · omega
    · split <;> omega
def fieldB (s t : S37) (i : Nat) (R : Int × Int → Bool) : Bool := decide (0 ≤ keyAt s.f3 (t.f3.getD i ByteArray.empty)) && R (rd s.f4 (keyAt s.f3 (t.f3.getD i ByteArray.empty)), rd t.f4 i)
def recordB (s t : S37) (R : Int × Int → Bool) : Bool := (List.range t.f3.length).all fun i => fieldB s t i R
def variableB (s t : S37) (R : Int × Int → Bool) : Bool := decide (s.f1 = t.f1) && R (rd s.f4 0, rd t.f4 0)
def doesB (st : Bool) (s t : S37) (R : Int × Int → Bool) : Bool :=
  if s.f0 = 1 ∨ t.f0 = 1 then !st || decide (s.f0 = t.f0)
  else decide (s.f0 = t.f0) && (if s.f0 = 5 then decide (s.f2 = t.f2) else if s.f0 = 7 then recordB s t R else if s.f0 = 9 then variableB s t R else true)
/-- The first of some that does: its place from i on; none: there is none. -/
def pickFrom (st : Bool) (g : List S37) (s : S37) (R : Int × Int → Bool) : List Int → Nat → Option Nat
  | [], _ => none
  | k :: l, i => if doesB st s (rd_T37 g k) R = true then some i else pickFrom st g s R l (i + 1)
def pickB (st : Bool) (g : List S37) (a b : Int) (R : Int × Int → Bool) : Int :=
  match pickFrom st g (rd_T37 g a) R (membersL g b) 0 with
  | some i => i
  | none => if (rd_T37 g a).f0 = 9 ∧ R (rd (rd_T37 g a).f4 0, b) = true then -1 else -2
def holdsB (st : Bool) (g : List S37) (p : Int × Int) (R : Int × Int → Bool) : Bool := !((membersL g p.1).any fun s => decide (pickB st g s p.2 R = -2))
end Go.Proofs.YtcljgfpcdlnlkaaDoor.Q
namespace Go.Proofs.YtcljgfpcdlnlkaaDoor.Q
open Go.RowKit Go.Proofs.YtcljgfpcdlnlkaaDoorW.PrintWords Mp
theorem pairKey : KeyLaw Tryd.prog 81 pairV := pair_law (it := 3) Tryd.underlying81 (by kernel_rfl) ⟨rfl, rfl, by decide⟩ ⟨rfl, rfl, by decide⟩ Tryd.underlying3 (fun _ _ _ => ⟨by kernel_rfl, by kernel_rfl⟩)
theorem zero3 (w : World) : (zeroValue 3).run Tryd.prog w = .ok (.int .i64 0) w := by kernel_rfl
set_option maxRecDepth 20000 in
set_option maxHeartbeats 400000 in
theorem granted_calls (w : World) (X B : Nat) (a b : Int) (m : List ((Int × Int) × Int)) (hx : w.cell? ⟨X, 2, none⟩ = some (.map (some B))) (hm : MapAt pairV VInt w B m) :
    Calls Tryd.prog 109 #[.pointer (some ⟨X, 0, none⟩), .agg #[.int .i64 a, .int .i64 b]] w fun e w' => e = .returned (.bool (grant m (a, b)).1) ∧ MapAt pairV VInt w' B (grant m (a, b)).2 ∧ Kp B w w' := by
  have hxl : X < w.heap.size := World.block_lt_of_cell? w _ hx
  have hl := fun n => (MapAt.of_block (w' := (w.alloc (.cells #[.int .i64 a, .int .i64 b] 81)).drewN n) hm (Below.heap_alloc _ _ _ hm.lt)).lookup2 pairKey Tryd.underlying84 zero3 (a, b)
  simp only [pairV] at hl
  cases hg : get m (a, b) with
  | none =>
    have hG : grant m (a, b) = (true, put m (a, b) 1) := by simp only [grant, hg]
    have HG := Lib.hid hG
    clear hG
    go_enter Tryd.func109, Tryd.ntmps109
    go_wp2
    go_quiet (fail)
    go_wp2
    have hx2 : ((w.alloc (.cells #[.int .i64 a, .int .i64 b] 81)).drewN nq).cell? ⟨X, 2, none⟩ = some (.map (some B)) := cell_alloc _ hx
    have ha2 : ((w.alloc (.cells #[.int .i64 a, .int .i64 b] 81)).drewN nq).cell? ⟨w.heap.size, 0, none⟩ = some (.int .i64 a) := by simp
    have hb2 : ((w.alloc (.cells #[.int .i64 a, .int .i64 b] 81)).drewN nq).cell? ⟨w.heap.size, 1, none⟩ = some (.int .i64 b) := by simp
    have hm2 : MapAt pairV VInt ((w.alloc (.cells #[.int .i64 a, .int .i64 b] 81)).drewN nq) B m := hm.of_block (Below.heap_alloc _ _ _ hm.lt)
    have HK : Kp B w ((w.alloc (.cells #[.int .i64 a, .int .i64 b] 81)).drewN nq) := (Kp.alloc _ _ _).trans (Kp.drewN _ _ _)
    generalize (w.alloc (.cells #[.int .i64 a, .int .i64 b] 81)).drewN nq = W at *
    obtain ⟨o, hu, hm3⟩ := (MapAt.of_block (w' := W.drew) hm2 rfl).update pairKey Tryd.underlying84 (a, b) 1
    simp only [pairV] at hu
    refine wp_region_still_tail 5 (by kernel_rfl) (by kernel_rfl) ?_
    simp only [List.take_succ_cons, List.take_zero, List.drop_succ_cons, List.drop_zero]
    change wpStill _ _ W.drew _ _ _
    repeat still_step
    try refine wpStill_nil ?_
    change wpList _ _ _ _ _ W.drew
    go_wp2
    go_ret
    exact ⟨by rw [HG.out]; rfl, by rw [HG.out]; exact hm3, (HK.trans (Kp.drew _ _)).trans (Kp.setBlock _ _ _)⟩
  | some n =>
    have hG : grant m (a, b) = (decide (0 < n), m) := by simp only [grant, hg]
    have HG := Lib.hid hG
    clear hG
    go_enter Tryd.func109, Tryd.ntmps109
    go_wp2
    go_quiet (fail)
    go_wp2
    go_ret
    exact ⟨by rw [HG.out]; rfl, by rw [HG.out]; exact hm.of_block (Below.heap_alloc _ _ _ hm.lt), (Kp.alloc _ _ _).trans (Kp.drewN _ _ _)⟩

set_option maxRecDepth 100000 in
set_option maxHeartbeats 400000 in
/-- 'slices.Index' at texts. -/
theorem indexS_calls (A : Option Addr) (c : Nat) (l : List ByteArray) (s : ByteArray) (w : World) (hl : Kd.C Kd.string w A l.length l) (hn : l.length ≤ 9223372036854775807) :
    Calls Tryd.prog 168 #[.slice A l.length c, .string s] w fun e w' => e = .returned (.int .i64 (keyAt l s)) ∧ w' = w := by
  have HL := Lib.hid hl
  clear hl
  go_enter Tryd.func168, Tryd.ntmps168
  go_wp2
  go_loop [8] (fun i => ∃ k : Nat, k ≤ l.length ∧ i = .int .i64 k ∧ Hid (∀ j, j < k → l.getD j ByteArray.empty ≠ s)) (fun i => l.length - (intOf i).toNat)
  case atStart => exact ⟨0, Nat.zero_le _, rfl, Lib.hid fun j hj => absurd hj (by omega)⟩
  case round =>
    obtain ⟨k, hk, rfl, HI⟩ := hrel
    by_cases hlt : k < l.length
    · obtain ⟨ad, rfl, hc⟩ := str_cell HL.out k hlt
      by_cases he : l.getD k ByteArray.empty = s
      · have heq : (s.toList == (l.getD k ByteArray.empty).toList) = true := by rw [str_eq]; exact decide_eq_true he.symm
        have HK := Lib.hid (keyAt_some l s k hlt he HI.out)
        clear he
        generalize l.getD k ByteArray.empty = x at hc heq
        go_wp2
        go_ret
        exact ⟨by rw [HK.out]; rfl, rfl⟩
      · have heq : (s.toList == (l.getD k ByteArray.empty).toList) = false := by rw [str_eq]; exact decide_eq_false fun e => he e.symm
        have HI2 : Hid (∀ j, j < k + 1 → l.getD j ByteArray.empty ≠ s) := Lib.hid fun j hj => if h : j = k then by rw [h]; exact he else HI.out j (by omega)
        clear he
        generalize l.getD k ByteArray.empty = x at hc heq
        go_wp2
        go_round
        case rel => exact ⟨k + 1, by omega, by go_num, HI2⟩
        case measure => simp [intOf]; omega
    · obtain rfl : k = l.length := by omega
      have HK := Lib.hid (keyAt_none l s HI.out)
      go_wp2
      go_ret
      exact ⟨by rw [HK.out]; rfl, rfl⟩
/-- A node that is handed over by value. -/
def nodeV (x : S37) (A3 : Option Addr) (c3 : Nat) (A4 : Option Addr) (c4 : Nat) : Value := .agg #[.int .i64 x.f0, .int .i64 x.f1, .string x.f2, .slice A3 x.f3.length c3, .slice A4 x.f4.length c4]
set_option maxRecDepth 100000 in
theorem base_calls (p : Value) (x y : S37) (A3 B3 : Option Addr) (c3 d3 : Nat) (A4 B4 : Option Addr) (c4 d4 : Nat) (w : World) :
    Calls Tryd.prog 143 #[p, nodeV x A3 c3 A4 c4, nodeV y B3 d3 B4 d4] w fun e w' => e = .returned (.bool true) ∧ Below w.heap.size w w' := by
  unfold nodeV
  go_enter Tryd.func143, Tryd.ntmps143
  go_wp2
  go_ret
  exact ⟨rfl, ((Below.refl _ _).alloc (Nat.le_refl _) _).alloc (by simp) _⟩
set_option maxRecDepth 100000 in
theorem tag_calls (p : Value) (x y : S37) (A3 B3 : Option Addr) (c3 d3 : Nat) (A4 B4 : Option Addr) (c4 d4 : Nat) (w : World) :
    Calls Tryd.prog 144 #[p, nodeV x A3 c3 A4 c4, nodeV y B3 d3 B4 d4] w fun e w' => e = .returned (.bool (decide (x.f2 = y.f2))) ∧ Below w.heap.size w w' := by
  unfold nodeV
  have HE := Lib.hid (str_eq x.f2 y.f2)
  go_enter Tryd.func144, Tryd.ntmps144
  go_wp2
  go_ret
  exact ⟨by rw [← HE.out]; rfl, ((Below.refl _ _).alloc (Nat.le_refl _) _).alloc (by simp) _⟩
end Go.Proofs.YtcljgfpcdlnlkaaDoor.Q
namespace Go.Proofs.YtcljgfpcdlnlkaaDoor.Q
open Go.RowKit Go.Proofs.YtcljgfpcdlnlkaaDoorW.PrintWords Mp
/-- What a call of a rule tells: an answer that hangs on what is known alone; the map has grown, nothing else has changed. -/
def Told [Dom] (B : Nat) (w : World) (m : PM) (f : (Int × Int → Bool) → Bool) (e : Ending) (w' : World) : Prop :=
  ∃ (r : Bool) (m' : PM), e = .returned (.bool r) ∧ MapAt pairV VInt w' B m' ∧ Kp B w w' ∧ Grow m m' ∧ Ans m m' f r
theorem int_cell0 {w : World} {A : Option Addr} {xs : List Int} (h : Kd.C (Kd.int .i64) w A xs.length xs) (hp : 0 < xs.length) : ∃ ad, A = some ad ∧ w.cell? ad = some (.int .i64 (rd xs 0)) := by
  obtain ⟨ad, e, hc⟩ := int_cell h 0 hp
  exact ⟨ad, e, by simpa [Addr.add] using hc⟩
set_option maxRecDepth 100000 in
set_option maxHeartbeats 1000000 in
theorem variable_calls [Dom] (w : World) (X B : Nat) (m : PM) (x y : S37) (hDom : ∀ a ∈ x.f4, ∀ b ∈ y.f4, Dom.D (a, b)) (A3 B3 : Option Addr) (c3 d3 : Nat) (A4 B4 : Option Addr) (c4 d4 : Nat) (hx : w.cell? ⟨X, 2, none⟩ = some (.map (some B))) (hm : MapAt pairV VInt w B m)
    (h4 : Kd.C (Kd.int .i64) w A4 x.f4.length x.f4) (k4 : Kd.C (Kd.int .i64) w B4 y.f4.length y.f4) (hl : 0 < x.f4.length) (kl : 0 < y.f4.length) :
    Calls Tryd.prog 146 #[.pointer (some ⟨X, 0, none⟩), nodeV x A3 c3 A4 c4, nodeV y B3 d3 B4 d4] w (Told B w m (variableB x y)) := by
  unfold nodeV
  have HDom := Lib.hid (hDom _ (rd_memI (l := x.f4) (i := 0) (by omega) (by omega)) _ (rd_memI (l := y.f4) (i := 0) (by omega) (by omega)))
  clear hDom
  have hXl : X < w.heap.size := World.block_lt_of_cell? w _ hx
  have hBl := hm.lt
  by_cases h1 : x.f1 = y.f1
  · have n1 : (x.f1 == y.f1) = true := by simp [h1]
    have HV := Lib.hid (show ∀ R, variableB x y R = R (rd x.f4 0, rd y.f4 0) from fun R => by simp [variableB, h1])
    obtain ⟨ad, rfl, hc⟩ := int_cell0 h4 hl
    obtain ⟨ad', rfl, hc'⟩ := int_cell0 k4 kl
    clear h1 h4 k4
    go_enter Tryd.func146, Tryd.ntmps146
    go_wp2
    generalize hW : (w.alloc (Obj.cells #[Value.int IntKind.i64 x.f0, Value.int IntKind.i64 x.f1, Value.string x.f2, Value.slice A3 x.f3.length c3, Value.slice (some ad) x.f4.length c4] 37)).alloc (Obj.cells #[Value.int IntKind.i64 y.f0, Value.int IntKind.i64 y.f1, Value.string y.f2, Value.slice B3 y.f3.length d3, Value.slice (some ad') y.f4.length d4] 37) = W
    have b1 : W.cell? ⟨w.heap.size, 1, none⟩ = some (.int .i64 x.f1) := by rw [← hW]; simp
    have b4 : W.cell? ⟨w.heap.size, 4, none⟩ = some (.slice (some ad) x.f4.length c4) := by rw [← hW]; simp
    have d1 : W.cell? ⟨w.heap.size + 1, 1, none⟩ = some (.int .i64 y.f1) := by rw [← hW]; simp
    have d4' : W.cell? ⟨w.heap.size + 1, 4, none⟩ = some (.slice (some ad') y.f4.length d4) := by rw [← hW]; simp
    have hcW : W.cell? ad = some (.int .i64 (rd x.f4 0)) := by rw [← hW]; exact cell_alloc _ (cell_alloc _ hc)
    have hcW' : W.cell? ad' = some (.int .i64 (rd y.f4 0)) := by rw [← hW]; exact cell_alloc _ (cell_alloc _ hc')
    have hxW : W.cell? ⟨X, 2, none⟩ = some (.map (some B)) := by rw [← hW]; exact cell_alloc _ (cell_alloc _ hx)
    have HmW := Lib.hid (show MapAt pairV VInt W B m by rw [← hW]; exact (hm.of_block (Below.heap_alloc _ _ _ hm.lt)).of_block (Below.heap_alloc _ _ _ (by simp; omega)))
    have HKW := Lib.hid (show Kp B w W by rw [← hW]; exact (Kp.alloc _ _ _).trans (Kp.alloc _ _ _))
    clear hW hc hc' hx hm hXl hBl
    refine wp_region_still_tail 16 (by kernel_rfl) (by kernel_rfl) ?_
    simp only [List.take_succ_cons, List.take_zero, List.drop_succ_cons, List.drop_zero]
    change wpStill _ _ W.drew _ _ _
    repeat still_step
    try refine wpStill_nil ?_
    change wpList _ _ _ _ _ W.drew
    have hG := Lib.hid (granted_calls W.drew X B (rd x.f4 0) (rd y.f4 0) m hxW (HmW.out.of_block rfl))
    go_wp2_with fail
    refine hG.out.mono ?_
    rintro e w' ⟨rfl, hm', hK'⟩
    have HM := Lib.hid hm'
    have HK := Lib.hid hK'
    clear hm' hK'
    go_wp2
    go_ret
    refine ⟨_, _, rfl, HM.out, (HKW.out.trans (Kp.drew _ _)).trans HK.out, grow_grant _ _ HDom.out, ?_⟩
    intro R r1 r2
    rw [HV.out]
    exact ans_grant m (rd x.f4 0, rd y.f4 0) R r1 r2
  · have n1 : (x.f1 == y.f1) = false := by simp [h1]
    have HV := Lib.hid (show ∀ R, variableB x y R = false from fun R => by simp [variableB, h1])
    have HmW := Lib.hid hm
    clear h1 h4 k4 hm
    go_enter Tryd.func146, Tryd.ntmps146
    go_wp2
    go_quiet (fail)
    go_wp2
    go_ret
    exact ⟨_, m, rfl, (HmW.out.of_block (Below.heap_alloc _ _ _ HmW.out.lt)).of_block (Below.heap_alloc _ _ _ (by simp; omega)), ((Kp.alloc _ _ _).trans (Kp.alloc _ _ _)).trans (Kp.drewN _ _ _), Grow.refl m, fun R _ _ => HV.out R⟩
set_option maxRecDepth 100000 in
set_option maxHeartbeats 1000000 in
theorem record_calls [Dom] (w : World) (X B : Nat) (m : PM) (x y : S37) (hDom : ∀ a ∈ x.f4, ∀ b ∈ y.f4, Dom.D (a, b)) (A3 B3 : Option Addr) (c3 d3 : Nat) (A4 B4 : Option Addr) (c4 d4 : Nat) (hx : w.cell? ⟨X, 2, none⟩ = some (.map (some B))) (hm : MapAt pairV VInt w B m)
    (hl : x.f4.length = x.f3.length) (kl : y.f4.length = y.f3.length) (hn : x.f3.length ≤ 9223372036854775807) (kn : y.f3.length ≤ 9223372036854775807)
    (w0 : World) (hw0 : Below w0.heap.size w0 w) (hB0 : w0.heap.size ≤ B) (h30 : Kd.C Kd.string w0 A3 x.f3.length x.f3) (k30 : Kd.C Kd.string w0 B3 y.f3.length y.f3) (h40 : Kd.C (Kd.int .i64) w0 A4 x.f4.length x.f4) (k40 : Kd.C (Kd.int .i64) w0 B4 y.f4.length y.f4) (hXB : X ≠ B) :
    Calls Tryd.prog 145 #[.pointer (some ⟨X, 0, none⟩), nodeV x A3 c3 A4 c4, nodeV y B3 d3 B4 d4] w (Told B w m (recordB x y)) := by
  unfold nodeV
  have HDom := Lib.hid hDom
  clear hDom
  have H0 := Lib.hid (show _ ∧ _ ∧ _ ∧ _ from ⟨h30, k30, h40, k40⟩)
  clear h30 k30 h40 k40
  have HL := Lib.hid (show _ ∧ _ from ⟨hl, kl⟩)
  clear hl kl
  have hXl : X < w.heap.size := World.block_lt_of_cell? w _ hx
  have hBl := hm.lt
  go_enter Tryd.func145, Tryd.ntmps145
  go_wp2
  generalize hW : (w.alloc (Obj.cells #[Value.int IntKind.i64 x.f0, Value.int IntKind.i64 x.f1, Value.string x.f2, Value.slice A3 x.f3.length c3, Value.slice A4 x.f4.length c4] 37)).alloc (Obj.cells #[Value.int IntKind.i64 y.f0, Value.int IntKind.i64 y.f1, Value.string y.f2, Value.slice B3 y.f3.length d3, Value.slice B4 y.f4.length d4] 37) = W
  have b3 : W.cell? ⟨w.heap.size, 3, none⟩ = some (.slice A3 x.f3.length c3) := by rw [← hW]; simp
  have b4 : W.cell? ⟨w.heap.size, 4, none⟩ = some (.slice A4 x.f4.length c4) := by rw [← hW]; simp
  have e4 : W.cell? ⟨w.heap.size + 1, 4, none⟩ = some (.slice B4 y.f4.length d4) := by rw [← hW]; simp
  have hxW : W.cell? ⟨X, 2, none⟩ = some (.map (some B)) := by rw [← hW]; exact cell_alloc _ (cell_alloc _ hx)
  have HmW := Lib.hid (show MapAt pairV VInt W B m by rw [← hW]; exact (hm.of_block (Below.heap_alloc _ _ _ hm.lt)).of_block (Below.heap_alloc _ _ _ (by simp; omega)))
  have HKW := Lib.hid (show Kp B w W by rw [← hW]; exact (Kp.alloc _ _ _).trans (Kp.alloc _ _ _))
  have n1 : w.heap.size ≠ B := by omega
  have n2 : w.heap.size + 1 ≠ B := by omega
  clear hW hx hm hXl hBl
  go_loopw [13] (fun i wr => ∃ k : Nat, k ≤ y.f3.length ∧ i = .int .i64 k ∧ Hid (∃ m', MapAt pairV VInt wr B m' ∧ Kp B W wr ∧ Grow m m' ∧ ∀ j : Nat, j < k → Ans m m' (fieldB x y j) true)) (fun i _ => y.f3.length - (intOf i).toNat)
  case atStart => exact ⟨0, Nat.zero_le _, rfl, Lib.hid ⟨m, HmW.out, Kp.refl _ _, Grow.refl _, fun j hj => absurd hj (by omega)⟩⟩
  case round =>
    obtain ⟨k, hk, rfl, HI⟩ := hrel
    obtain ⟨m1, hm1, hK1, hG1, hA1⟩ := HI.out
    have HM1 := Lib.hid hm1
    have HK1 := Lib.hid hK1
    have HG1 := Lib.hid hG1
    have HA1 := Lib.hid hA1
    clear hm1 hK1 hG1 hA1 HI
    have HBw := Lib.hid ((hw0.trans (HKW.out.below hB0 hw0.size)).trans (HK1.out.below (B := w0.heap.size) hB0 (by have := hw0.size; have := HKW.out.size; omega)))
    have b3r := HK1.out.cell b3 n1
    have b4r := HK1.out.cell b4 n1
    have e4r := HK1.out.cell e4 n2
    have hxr := HK1.out.cell hxW hXB
    by_cases hlt : k < y.f3.length
    · obtain ⟨ad, rfl, hc⟩ := str_cell (Kd.C_below H0.out.2.1 HBw.out) k hlt
      have HIx := Lib.hid (indexS_calls A3 c3 x.f3 (y.f3.getD k ByteArray.empty) wr (Kd.C_below H0.out.1 HBw.out) hn)
      obtain ⟨ky, hky⟩ : ∃ ky, ky = y.f3.getD k ByteArray.empty := ⟨_, rfl⟩
      rw [← hky] at hc HIx
      have HKy := Lib.hid hky
      clear hky
      clear b3 b4 e4 hxW
      go_wp2_with fail
      refine HIx.out.mono ?_
      rintro e w' ⟨rfl, hww⟩
      replace hww := hww.symm
      subst hww
      have hlt' := keyAt_lt x.f3 ky
      by_cases hq : keyAt x.f3 ky < 0
      · have nq : decide (keyAt x.f3 ky < 0) = true := decide_eq_true hq
        have HF := Lib.hid (show ∀ R, fieldB x y k R = false from fun R => by simp only [fieldB, ← HKy.out, decide_eq_false (show ¬ (0 : Int) ≤ keyAt x.f3 ky by omega)]; rfl)
        clear hq hlt'
        generalize keyAt x.f3 ky = q at nq
        go_wp2
        go_quiet (fail)
        go_wp2
        go_ret
        exact ⟨_, m1, rfl, HM1.out.of_block rfl, ((HKW.out.trans HK1.out)).trans (Kp.drewN _ _ _), HG1.out, fun R _ _ => List.all_eq_false.2 ⟨k, List.mem_range.2 hlt, by rw [HF.out]; exact Bool.false_ne_true⟩⟩
      · obtain ⟨Q, hQ⟩ : ∃ Q : Nat, keyAt x.f3 ky = Q := ⟨(keyAt x.f3 ky).toNat, by omega⟩
        have HF := Lib.hid (show ∀ R, fieldB x y k R = R (rd x.f4 Q, rd y.f4 k) from fun R => by simp only [fieldB, ← HKy.out, hQ, decide_eq_true (show (0 : Int) ≤ (Q : Int) by omega)]; rfl)
        rw [hQ] at hlt' ⊢
        have hQ1 : Q < x.f4.length := by have := HL.out.1; omega
        have hk1 : k < y.f4.length := by have := HL.out.2; omega
        obtain ⟨ax, hax, hcx⟩ := int_cell (Kd.C_below H0.out.2.2.1 HBw.out) Q hQ1
        obtain ⟨ay, hay, hcy⟩ := int_cell (Kd.C_below H0.out.2.2.2 HBw.out) k hk1
        have nq : decide ((Q : Int) < 0) = false := decide_eq_false (by omega)
        have hG := Lib.hid (granted_calls wr.drew X B (rd x.f4 Q) (rd y.f4 k) m1 hxr (HM1.out.of_block rfl))
        have HDp := Lib.hid (HDom.out _ (rd_memI (l := x.f4) (i := Q) (by omega) (by omega)) _ (rd_memI (l := y.f4) (i := k) (by omega) (by omega)))
        clear hq hQ hlt'
        subst hax hay
        go_wp2
        refine wp_region_still_tail 15 (by kernel_rfl) (by kernel_rfl) ?_
        simp only [List.take_succ_cons, List.take_zero, List.drop_succ_cons, List.drop_zero]
        change wpStill _ _ wr.drew _ _ _
        repeat still_step
        try refine wpStill_nil ?_
        change wpList _ _ _ _ _ wr.drew
        go_wp2_with fail
        refine hG.out.mono ?_
        rintro e w' ⟨rfl, hm', hK'⟩
        have HM2 := Lib.hid hm'
        have HK2 := Lib.hid (show Kp B W w' from (HK1.out.trans (Kp.drew _ _)).trans hK')
        clear hm' hK'
        have HA2 := Lib.hid (show Ans m (grant m1 (rd x.f4 Q, rd y.f4 k)).2 (fieldB x y k) (grant m1 (rd x.f4 Q, rd y.f4 k)).1 from fun R r1 r2 => by
          rw [HF.out]
          exact (ans_grant m1 (rd x.f4 Q, rd y.f4 k)).from HG1.out R r1 r2)
        have HG2 := Lib.hid (grow_grant m1 (rd x.f4 Q, rd y.f4 k) HDp.out)
        generalize grant m1 (rd x.f4 Q, rd y.f4 k) = gr at HM2 HA2 HG2
        obtain ⟨r, m2⟩ := gr
        cases r with
        | true =>
          go_wp2
          go_roundw
          case rel => exact ⟨k + 1, by omega, by go_num, Lib.hid ⟨m2, HM2.out, HK2.out, HG1.out.trans HG2.out, fun j hj => if h : j = k then by rw [h]; exact HA2.out else (HA1.out j (by omega)).grow HG2.out⟩⟩
          case measure => simp [intOf]; omega
        | false =>
          go_wp2
          go_ret
          exact ⟨_, m2, rfl, HM2.out, HKW.out.trans HK2.out, HG1.out.trans HG2.out, fun R r1 r2 => List.all_eq_false.2 ⟨k, List.mem_range.2 hlt, by rw [HA2.out R r1 r2]; exact Bool.false_ne_true⟩⟩
    · obtain rfl : k = y.f3.length := by omega
      go_wp2
      go_ret
      exact ⟨_, m1, rfl, HM1.out, HKW.out.trans HK1.out, HG1.out, fun R r1 r2 => List.all_eq_true.2 (fun j hj => HA1.out j (List.mem_range.1 hj) R r1 r2)⟩
end Go.Proofs.YtcljgfpcdlnlkaaDoor.Q
namespace Go.Proofs.YtcljgfpcdlnlkaaDoor.Q
open Go.RowKit Go.Proofs.YtcljgfpcdlnlkaaDoorW.PrintWords Mp
/-- A node that may be, and is no union. -/
structure Fine (x : S37) : Prop where
  kind : x.f0 = 1 ∨ x.f0 = 2 ∨ x.f0 = 3 ∨ x.f0 = 4 ∨ x.f0 = 5 ∨ x.f0 = 7 ∨ x.f0 = 9
  recs : x.f0 = 7 → x.f4.length = x.f3.length
  vars : x.f0 = 9 → x.f4.length = 1
  lim : x.f3.length ≤ 16
theorem Told.const [Dom] {B : Nat} {w w' : World} {m : PM} (r : Bool) (hm : MapAt pairV VInt w' B m) (hK : Kp B w w') {f : (Int × Int → Bool) → Bool} (hf : ∀ R, f R = r) : Told B w m f (.returned (.bool r)) w' :=
  ⟨r, m, rfl, hm, hK, Grow.refl m, fun R _ _ => hf R⟩
set_option maxRecDepth 100000 in
set_option maxHeartbeats 1000000 in
theorem does_dyn [Dom] (w : World) (X B : Nat) (m : PM) (st : Bool) (x y : S37) (A3 B3 : Option Addr) (c3 d3 : Nat) (A4 B4 : Option Addr) (c4 d4 : Nat) (hx1 : w.cell? ⟨X, 1, none⟩ = some (.bool st)) (hm : MapAt pairV VInt w B m) (h : x.f0 = 1 ∨ y.f0 = 1) :
    Calls Tryd.prog 114 #[.pointer (some ⟨X, 0, none⟩), nodeV x A3 c3 A4 c4, nodeV y B3 d3 B4 d4] w (Told B w m (doesB st x y)) := by
  unfold nodeV
  have hXl : X < w.heap.size := World.block_lt_of_cell? w _ hx1
  have HM := Lib.hid (show MapAt pairV VInt ((w.alloc (Obj.cells #[Value.int IntKind.i64 x.f0, Value.int IntKind.i64 x.f1, Value.string x.f2, Value.slice A3 x.f3.length c3, Value.slice A4 x.f4.length c4] 37)).alloc (Obj.cells #[Value.int IntKind.i64 y.f0, Value.int IntKind.i64 y.f1, Value.string y.f2, Value.slice B3 y.f3.length d3, Value.slice B4 y.f4.length d4] 37)) B m from (hm.of_block (Below.heap_alloc _ _ _ hm.lt)).of_block (Below.heap_alloc _ _ _ (by simp; have := hm.lt; omega)))
  have HK := Lib.hid (show Kp B w ((w.alloc (Obj.cells #[Value.int IntKind.i64 x.f0, Value.int IntKind.i64 x.f1, Value.string x.f2, Value.slice A3 x.f3.length c3, Value.slice A4 x.f4.length c4] 37)).alloc (Obj.cells #[Value.int IntKind.i64 y.f0, Value.int IntKind.i64 y.f1, Value.string y.f2, Value.slice B3 y.f3.length d3, Value.slice B4 y.f4.length d4] 37)) from (Kp.alloc _ _ _).trans (Kp.alloc _ _ _))
  clear hm
  have HD := Lib.hid (show ∀ R, doesB st x y R = (!st || decide (x.f0 = y.f0)) from fun R => if_pos h)
  cases st with
  | false =>
    by_cases e1 : x.f0 = 1
    · have n1 : (x.f0 == 1) = true := by simp [e1]
      clear h e1
      go_enter Tryd.func114, Tryd.ntmps114
      go_wp2
      go_ret
      exact Told.const _ HM.out HK.out (fun R => by rw [HD.out]; rfl)
    · have n1 : (x.f0 == 1) = false := by simp [e1]
      have n2 : (y.f0 == 1) = true := by simp [h.resolve_left e1]
      clear h e1
      go_enter Tryd.func114, Tryd.ntmps114
      go_wp2
      go_ret
      exact Told.const _ HM.out HK.out (fun R => by rw [HD.out]; rfl)
  | true =>
    have n3 : (x.f0 == y.f0) = decide (x.f0 = y.f0) := by rw [Bool.eq_iff_iff]; simp
    by_cases e1 : x.f0 = 1
    · have n1 : (x.f0 == 1) = true := by simp [e1]
      have N3 := Lib.hid n3
      clear h e1 n3
      go_enter Tryd.func114, Tryd.ntmps114
      go_wp2
      go_ret
      exact Told.const _ HM.out HK.out (fun R => by rw [HD.out, ← N3.out]; rfl)
    · have n1 : (x.f0 == 1) = false := by simp [e1]
      have n2 : (y.f0 == 1) = true := by simp [h.resolve_left e1]
      have N3 := Lib.hid n3
      clear h e1 n3
      go_enter Tryd.func114, Tryd.ntmps114
      go_wp2
      go_ret
      exact Told.const _ HM.out HK.out (fun R => by rw [HD.out, ← N3.out]; rfl)
set_option maxRecDepth 100000 in
set_option maxHeartbeats 1000000 in
theorem does_unlike [Dom] (w : World) (X B : Nat) (m : PM) (st : Bool) (x y : S37) (A3 B3 : Option Addr) (c3 d3 : Nat) (A4 B4 : Option Addr) (c4 d4 : Nat) (hm : MapAt pairV VInt w B m) (h1 : x.f0 ≠ 1) (h2 : y.f0 ≠ 1) (h : x.f0 ≠ y.f0) :
    Calls Tryd.prog 114 #[.pointer (some ⟨X, 0, none⟩), nodeV x A3 c3 A4 c4, nodeV y B3 d3 B4 d4] w (Told B w m (doesB st x y)) := by
  unfold nodeV
  have HM := Lib.hid hm
  have HD := Lib.hid (show ∀ R, doesB st x y R = false from fun R => by unfold doesB; rw [if_neg (by omega), decide_eq_false h]; rfl)
  have n1 : (x.f0 == 1) = false := by simp [h1]
  have n2 : (y.f0 == 1) = false := by simp [h2]
  have n3 : (x.f0 == y.f0) = false := by simp [h]
  clear hm h1 h2 h
  go_enter Tryd.func114, Tryd.ntmps114
  go_wp2
  go_quiet (fail)
  go_wp2
  go_ret
  refine Told.const _ ?_ ?_ HD.out
  · have hm := HM.out
    exact ((hm.of_block (Below.heap_alloc _ _ _ hm.lt)).of_block (Below.heap_alloc _ _ _ (by simp; have := hm.lt; omega))).of_block (Below.heap_alloc _ _ _ (by simp; have := hm.lt; omega))
  · exact (((Kp.alloc _ _ _).trans (Kp.alloc _ _ _)).trans (Kp.alloc _ _ _)).trans (Kp.drewN _ _ _)
end Go.Proofs.YtcljgfpcdlnlkaaDoor.Q
namespace Go.Proofs.YtcljgfpcdlnlkaaDoor.Q
open Go.RowKit Go.Proofs.YtcljgfpcdlnlkaaDoorW.PrintWords Mp
set_option maxRecDepth 100000 in
set_option maxHeartbeats 1000000 in
theorem does_2 [Dom] (w : World) (X B : Nat) (m : PM) (st : Bool) (x y : S37) (A3 B3 : Option Addr) (c3 d3 : Nat) (A4 B4 : Option Addr) (c4 d4 : Nat) (hm : MapAt pairV VInt w B m) (h1 : x.f0 = 2) (h2 : y.f0 = 2) :
    Calls Tryd.prog 114 #[.pointer (some ⟨X, 0, none⟩), nodeV x A3 c3 A4 c4, nodeV y B3 d3 B4 d4] w (Told B w m (doesB st x y)) := by
  unfold nodeV
  have HM := Lib.hid hm
  have HD := Lib.hid (show ∀ R, doesB st x y R = true from fun R => by unfold doesB; rw [if_neg (by omega), decide_eq_true (by omega)]; simp [h1])
  have hbW : Below w.heap.size w (((w.alloc (Obj.cells #[Value.int IntKind.i64 x.f0, Value.int IntKind.i64 x.f1, Value.string x.f2, Value.slice A3 x.f3.length c3, Value.slice A4 x.f4.length c4] 37)).alloc (Obj.cells #[Value.int IntKind.i64 y.f0, Value.int IntKind.i64 y.f1, Value.string y.f2, Value.slice B3 y.f3.length d3, Value.slice B4 y.f4.length d4] 37)).alloc (Obj.cells #[Value.nilFunc, Value.nilFunc, Value.func (Fn.func 143) #[] #[], Value.func (Fn.func 143) #[] #[], Value.func (Fn.func 143) #[] #[], Value.func (Fn.func 144) #[] #[], Value.nilFunc, Value.func (Fn.func 145) #[] #[], Value.nilFunc, Value.func (Fn.func 146) #[] #[]] 152)) := (((Below.refl _ _).alloc (Nat.le_refl _) _).alloc (by simp) _).alloc (by simp; omega) _
  have HmW := Lib.hid (show MapAt pairV VInt (((w.alloc (Obj.cells #[Value.int IntKind.i64 x.f0, Value.int IntKind.i64 x.f1, Value.string x.f2, Value.slice A3 x.f3.length c3, Value.slice A4 x.f4.length c4] 37)).alloc (Obj.cells #[Value.int IntKind.i64 y.f0, Value.int IntKind.i64 y.f1, Value.string y.f2, Value.slice B3 y.f3.length d3, Value.slice B4 y.f4.length d4] 37)).alloc (Obj.cells #[Value.nilFunc, Value.nilFunc, Value.func (Fn.func 143) #[] #[], Value.func (Fn.func 143) #[] #[], Value.func (Fn.func 143) #[] #[], Value.func (Fn.func 144) #[] #[], Value.nilFunc, Value.func (Fn.func 145) #[] #[], Value.nilFunc, Value.func (Fn.func 146) #[] #[]] 152)) B m from hm.of_block (hbW.block _ hm.lt))
  have HKW := Lib.hid (show Kp B w (((w.alloc (Obj.cells #[Value.int IntKind.i64 x.f0, Value.int IntKind.i64 x.f1, Value.string x.f2, Value.slice A3 x.f3.length c3, Value.slice A4 x.f4.length c4] 37)).alloc (Obj.cells #[Value.int IntKind.i64 y.f0, Value.int IntKind.i64 y.f1, Value.string y.f2, Value.slice B3 y.f3.length d3, Value.slice B4 y.f4.length d4] 37)).alloc (Obj.cells #[Value.nilFunc, Value.nilFunc, Value.func (Fn.func 143) #[] #[], Value.func (Fn.func 143) #[] #[], Value.func (Fn.func 143) #[] #[], Value.func (Fn.func 144) #[] #[], Value.nilFunc, Value.func (Fn.func 145) #[] #[], Value.nilFunc, Value.func (Fn.func 146) #[] #[]] 152)) from ((Kp.alloc _ _ _).trans (Kp.alloc _ _ _)).trans (Kp.alloc _ _ _))
  clear hm
  rw [h1, h2] at hbW HmW HKW
  go_enter Tryd.func114, Tryd.ntmps114
  rw [h1, h2]
  have H12 := Lib.hid (show _ ∧ _ from ⟨h1, h2⟩)
  clear h1 h2
  go_wp2
  generalize hW : ((w.alloc (Obj.cells #[Value.int IntKind.i64 2, Value.int IntKind.i64 x.f1, Value.string x.f2, Value.slice A3 x.f3.length c3, Value.slice A4 x.f4.length c4] 37)).alloc (Obj.cells #[Value.int IntKind.i64 2, Value.int IntKind.i64 y.f1, Value.string y.f2, Value.slice B3 y.f3.length d3, Value.slice B4 y.f4.length d4] 37)).alloc (Obj.cells #[Value.nilFunc, Value.nilFunc, Value.func (Fn.func 143) #[] #[], Value.func (Fn.func 143) #[] #[], Value.func (Fn.func 143) #[] #[], Value.func (Fn.func 144) #[] #[], Value.nilFunc, Value.func (Fn.func 145) #[] #[], Value.nilFunc, Value.func (Fn.func 146) #[] #[]] 152) = W at *
  have p0 : W.cell? ⟨w.heap.size, 0, none⟩ = some (.int .i64 2) := by rw [← hW]; exact cell_alloc _ (by simp)
  have p1 : W.cell? ⟨w.heap.size, 1, none⟩ = some (.int .i64 x.f1) := by rw [← hW]; exact cell_alloc _ (by simp)
  have p2 : W.cell? ⟨w.heap.size, 2, none⟩ = some (.string x.f2) := by rw [← hW]; exact cell_alloc _ (by simp)
  have p3 : W.cell? ⟨w.heap.size, 3, none⟩ = some (.slice A3 x.f3.length c3) := by rw [← hW]; exact cell_alloc _ (by simp)
  have p4 : W.cell? ⟨w.heap.size, 4, none⟩ = some (.slice A4 x.f4.length c4) := by rw [← hW]; exact cell_alloc _ (by simp)
  have q0 : W.cell? ⟨w.heap.size + 1, 0, none⟩ = some (.int .i64 2) := by rw [← hW]; exact cell_alloc _ (by simp)
  have q1 : W.cell? ⟨w.heap.size + 1, 1, none⟩ = some (.int .i64 y.f1) := by rw [← hW]; exact cell_alloc _ (by simp)
  have q2 : W.cell? ⟨w.heap.size + 1, 2, none⟩ = some (.string y.f2) := by rw [← hW]; exact cell_alloc _ (by simp)
  have q3 : W.cell? ⟨w.heap.size + 1, 3, none⟩ = some (.slice B3 y.f3.length d3) := by rw [← hW]; exact cell_alloc _ (by simp)
  have q4 : W.cell? ⟨w.heap.size + 1, 4, none⟩ = some (.slice B4 y.f4.length d4) := by rw [← hW]; exact cell_alloc _ (by simp)
  have r0 : W.cell? ⟨w.heap.size + 1 + 1, 2, none⟩ = some (.func (.func 143) #[] #[]) := by rw [← hW]; rw [World.cell?_alloc_at _ _ _ _ (by simp)]; rfl
  have HC : Calls Tryd.prog 143 #[.pointer (some ⟨X, 0, none⟩), .agg #[.int .i64 2, .int .i64 x.f1, .string x.f2, .slice A3 x.f3.length c3, .slice A4 x.f4.length c4], .agg #[.int .i64 2, .int .i64 y.f1, .string y.f2, .slice B3 y.f3.length d3, .slice B4 y.f4.length d4]] W.drew (Told B W.drew m (fun _ => true)) := by
    have := (show Calls Tryd.prog 143 #[.pointer (some ⟨X, 0, none⟩), nodeV x A3 c3 A4 c4, nodeV y B3 d3 B4 d4] W.drew (Told B W.drew m (fun _ => true)) from (by refine (base_calls _ x y A3 B3 c3 d3 A4 B4 c4 d4 W.drew).mono ?_; rintro e w' ⟨rfl, hb⟩; exact Told.const true ((HmW.out.of_block (w' := W.drew) rfl).of_block (hb.block _ HmW.out.lt)) ⟨hb.os, hb.tape, hb.output, hb.size, fun i hi _ => hb.block i hi⟩ (fun _ => rfl)))
    simpa only [nodeV, H12.out.1, H12.out.2] using this
  have HCh := Lib.hid HC
  clear HC hW hbW
  refine wp_region_still_tail 13 (by kernel_rfl) (by kernel_rfl) ?_
  simp only [List.take_succ_cons, List.take_zero, List.drop_succ_cons, List.drop_zero]
  change wpStill _ _ W.drew _ _ _
  repeat still_step
  try refine wpStill_nil ?_
  change wpList _ _ _ _ _ W.drew
  go_wp2_with fail
  refine HCh.out.mono ?_
  rintro e w' ⟨r, m', rfl, hm', hK', hG, hA⟩
  have HE := Lib.hid (show _ ∧ _ ∧ _ ∧ _ from ⟨hm', hK', hG, hA⟩)
  clear hm' hK' hG hA
  go_wp2
  go_ret
  exact ⟨r, m', rfl, HE.out.1, (HKW.out.trans (Kp.drew _ _)).trans HE.out.2.1, HE.out.2.2.1, fun R r1 r2 => by rw [HD.out]; exact HE.out.2.2.2 R r1 r2⟩
set_option maxRecDepth 100000 in
set_option maxHeartbeats 1000000 in
theorem does_3 [Dom] (w : World) (X B : Nat) (m : PM) (st : Bool) (x y : S37) (A3 B3 : Option Addr) (c3 d3 : Nat) (A4 B4 : Option Addr) (c4 d4 : Nat) (hm : MapAt pairV VInt w B m) (h1 : x.f0 = 3) (h2 : y.f0 = 3) :
    Calls Tryd.prog 114 #[.pointer (some ⟨X, 0, none⟩), nodeV x A3 c3 A4 c4, nodeV y B3 d3 B4 d4] w (Told B w m (doesB st x y)) := by
  unfold nodeV
  have HM := Lib.hid hm
  have HD := Lib.hid (show ∀ R, doesB st x y R = true from fun R => by unfold doesB; rw [if_neg (by omega), decide_eq_true (by omega)]; simp [h1])
  have hbW : Below w.heap.size w (((w.alloc (Obj.cells #[Value.int IntKind.i64 x.f0, Value.int IntKind.i64 x.f1, Value.string x.f2, Value.slice A3 x.f3.length c3, Value.slice A4 x.f4.length c4] 37)).alloc (Obj.cells #[Value.int IntKind.i64 y.f0, Value.int IntKind.i64 y.f1, Value.string y.f2, Value.slice B3 y.f3.length d3, Value.slice B4 y.f4.length d4] 37)).alloc (Obj.cells #[Value.nilFunc, Value.nilFunc, Value.func (Fn.func 143) #[] #[], Value.func (Fn.func 143) #[] #[], Value.func (Fn.func 143) #[] #[], Value.func (Fn.func 144) #[] #[], Value.nilFunc, Value.func (Fn.func 145) #[] #[], Value.nilFunc, Value.func (Fn.func 146) #[] #[]] 152)) := (((Below.refl _ _).alloc (Nat.le_refl _) _).alloc (by simp) _).alloc (by simp; omega) _
  have HmW := Lib.hid (show MapAt pairV VInt (((w.alloc (Obj.cells #[Value.int IntKind.i64 x.f0, Value.int IntKind.i64 x.f1, Value.string x.f2, Value.slice A3 x.f3.length c3, Value.slice A4 x.f4.length c4] 37)).alloc (Obj.cells #[Value.int IntKind.i64 y.f0, Value.int IntKind.i64 y.f1, Value.string y.f2, Value.slice B3 y.f3.length d3, Value.slice B4 y.f4.length d4] 37)).alloc (Obj.cells #[Value.nilFunc, Value.nilFunc, Value.func (Fn.func 143) #[] #[], Value.func (Fn.func 143) #[] #[], Value.func (Fn.func 143) #[] #[], Value.func (Fn.func 144) #[] #[], Value.nilFunc, Value.func (Fn.func 145) #[] #[], Value.nilFunc, Value.func (Fn.func 146) #[] #[]] 152)) B m from hm.of_block (hbW.block _ hm.lt))
  have HKW := Lib.hid (show Kp B w (((w.alloc (Obj.cells #[Value.int IntKind.i64 x.f0, Value.int IntKind.i64 x.f1, Value.string x.f2, Value.slice A3 x.f3.length c3, Value.slice A4 x.f4.length c4] 37)).alloc (Obj.cells #[Value.int IntKind.i64 y.f0, Value.int IntKind.i64 y.f1, Value.string y.f2, Value.slice B3 y.f3.length d3, Value.slice B4 y.f4.length d4] 37)).alloc (Obj.cells #[Value.nilFunc, Value.nilFunc, Value.func (Fn.func 143) #[] #[], Value.func (Fn.func 143) #[] #[], Value.func (Fn.func 143) #[] #[], Value.func (Fn.func 144) #[] #[], Value.nilFunc, Value.func (Fn.func 145) #[] #[], Value.nilFunc, Value.func (Fn.func 146) #[] #[]] 152)) from ((Kp.alloc _ _ _).trans (Kp.alloc _ _ _)).trans (Kp.alloc _ _ _))
  clear hm
  rw [h1, h2] at hbW HmW HKW
  go_enter Tryd.func114, Tryd.ntmps114
  rw [h1, h2]
  have H12 := Lib.hid (show _ ∧ _ from ⟨h1, h2⟩)
  clear h1 h2
  go_wp2
  generalize hW : ((w.alloc (Obj.cells #[Value.int IntKind.i64 3, Value.int IntKind.i64 x.f1, Value.string x.f2, Value.slice A3 x.f3.length c3, Value.slice A4 x.f4.length c4] 37)).alloc (Obj.cells #[Value.int IntKind.i64 3, Value.int IntKind.i64 y.f1, Value.string y.f2, Value.slice B3 y.f3.length d3, Value.slice B4 y.f4.length d4] 37)).alloc (Obj.cells #[Value.nilFunc, Value.nilFunc, Value.func (Fn.func 143) #[] #[], Value.func (Fn.func 143) #[] #[], Value.func (Fn.func 143) #[] #[], Value.func (Fn.func 144) #[] #[], Value.nilFunc, Value.func (Fn.func 145) #[] #[], Value.nilFunc, Value.func (Fn.func 146) #[] #[]] 152) = W at *
  have p0 : W.cell? ⟨w.heap.size, 0, none⟩ = some (.int .i64 3) := by rw [← hW]; exact cell_alloc _ (by simp)
  have p1 : W.cell? ⟨w.heap.size, 1, none⟩ = some (.int .i64 x.f1) := by rw [← hW]; exact cell_alloc _ (by simp)
  have p2 : W.cell? ⟨w.heap.size, 2, none⟩ = some (.string x.f2) := by rw [← hW]; exact cell_alloc _ (by simp)
  have p3 : W.cell? ⟨w.heap.size, 3, none⟩ = some (.slice A3 x.f3.length c3) := by rw [← hW]; exact cell_alloc _ (by simp)
  have p4 : W.cell? ⟨w.heap.size, 4, none⟩ = some (.slice A4 x.f4.length c4) := by rw [← hW]; exact cell_alloc _ (by simp)
  have q0 : W.cell? ⟨w.heap.size + 1, 0, none⟩ = some (.int .i64 3) := by rw [← hW]; exact cell_alloc _ (by simp)
  have q1 : W.cell? ⟨w.heap.size + 1, 1, none⟩ = some (.int .i64 y.f1) := by rw [← hW]; exact cell_alloc _ (by simp)
  have q2 : W.cell? ⟨w.heap.size + 1, 2, none⟩ = some (.string y.f2) := by rw [← hW]; exact cell_alloc _ (by simp)
  have q3 : W.cell? ⟨w.heap.size + 1, 3, none⟩ = some (.slice B3 y.f3.length d3) := by rw [← hW]; exact cell_alloc _ (by simp)
  have q4 : W.cell? ⟨w.heap.size + 1, 4, none⟩ = some (.slice B4 y.f4.length d4) := by rw [← hW]; exact cell_alloc _ (by simp)
  have r0 : W.cell? ⟨w.heap.size + 1 + 1, 3, none⟩ = some (.func (.func 143) #[] #[]) := by rw [← hW]; rw [World.cell?_alloc_at _ _ _ _ (by simp)]; rfl
  have HC : Calls Tryd.prog 143 #[.pointer (some ⟨X, 0, none⟩), .agg #[.int .i64 3, .int .i64 x.f1, .string x.f2, .slice A3 x.f3.length c3, .slice A4 x.f4.length c4], .agg #[.int .i64 3, .int .i64 y.f1, .string y.f2, .slice B3 y.f3.length d3, .slice B4 y.f4.length d4]] W.drew (Told B W.drew m (fun _ => true)) := by
    have := (show Calls Tryd.prog 143 #[.pointer (some ⟨X, 0, none⟩), nodeV x A3 c3 A4 c4, nodeV y B3 d3 B4 d4] W.drew (Told B W.drew m (fun _ => true)) from (by refine (base_calls _ x y A3 B3 c3 d3 A4 B4 c4 d4 W.drew).mono ?_; rintro e w' ⟨rfl, hb⟩; exact Told.const true ((HmW.out.of_block (w' := W.drew) rfl).of_block (hb.block _ HmW.out.lt)) ⟨hb.os, hb.tape, hb.output, hb.size, fun i hi _ => hb.block i hi⟩ (fun _ => rfl)))
    simpa only [nodeV, H12.out.1, H12.out.2] using this
  have HCh := Lib.hid HC
  clear HC hW hbW
  refine wp_region_still_tail 13 (by kernel_rfl) (by kernel_rfl) ?_
  simp only [List.take_succ_cons, List.take_zero, List.drop_succ_cons, List.drop_zero]
  change wpStill _ _ W.drew _ _ _
  repeat still_step
  try refine wpStill_nil ?_
  change wpList _ _ _ _ _ W.drew
  go_wp2_with fail
  refine HCh.out.mono ?_
  rintro e w' ⟨r, m', rfl, hm', hK', hG, hA⟩
  have HE := Lib.hid (show _ ∧ _ ∧ _ ∧ _ from ⟨hm', hK', hG, hA⟩)
  clear hm' hK' hG hA
  go_wp2
  go_ret
  exact ⟨r, m', rfl, HE.out.1, (HKW.out.trans (Kp.drew _ _)).trans HE.out.2.1, HE.out.2.2.1, fun R r1 r2 => by rw [HD.out]; exact HE.out.2.2.2 R r1 r2⟩
set_option maxRecDepth 100000 in
set_option maxHeartbeats 1000000 in
theorem does_4 [Dom] (w : World) (X B : Nat) (m : PM) (st : Bool) (x y : S37) (A3 B3 : Option Addr) (c3 d3 : Nat) (A4 B4 : Option Addr) (c4 d4 : Nat) (hm : MapAt pairV VInt w B m) (h1 : x.f0 = 4) (h2 : y.f0 = 4) :
    Calls Tryd.prog 114 #[.pointer (some ⟨X, 0, none⟩), nodeV x A3 c3 A4 c4, nodeV y B3 d3 B4 d4] w (Told B w m (doesB st x y)) := by
  unfold nodeV
  have HM := Lib.hid hm
  have HD := Lib.hid (show ∀ R, doesB st x y R = true from fun R => by unfold doesB; rw [if_neg (by omega), decide_eq_true (by omega)]; simp [h1])
  have hbW : Below w.heap.size w (((w.alloc (Obj.cells #[Value.int IntKind.i64 x.f0, Value.int IntKind.i64 x.f1, Value.string x.f2, Value.slice A3 x.f3.length c3, Value.slice A4 x.f4.length c4] 37)).alloc (Obj.cells #[Value.int IntKind.i64 y.f0, Value.int IntKind.i64 y.f1, Value.string y.f2, Value.slice B3 y.f3.length d3, Value.slice B4 y.f4.length d4] 37)).alloc (Obj.cells #[Value.nilFunc, Value.nilFunc, Value.func (Fn.func 143) #[] #[], Value.func (Fn.func 143) #[] #[], Value.func (Fn.func 143) #[] #[], Value.func (Fn.func 144) #[] #[], Value.nilFunc, Value.func (Fn.func 145) #[] #[], Value.nilFunc, Value.func (Fn.func 146) #[] #[]] 152)) := (((Below.refl _ _).alloc (Nat.le_refl _) _).alloc (by simp) _).alloc (by simp; omega) _
  have HmW := Lib.hid (show MapAt pairV VInt (((w.alloc (Obj.cells #[Value.int IntKind.i64 x.f0, Value.int IntKind.i64 x.f1, Value.string x.f2, Value.slice A3 x.f3.length c3, Value.slice A4 x.f4.length c4] 37)).alloc (Obj.cells #[Value.int IntKind.i64 y.f0, Value.int IntKind.i64 y.f1, Value.string y.f2, Value.slice B3 y.f3.length d3, Value.slice B4 y.f4.length d4] 37)).alloc (Obj.cells #[Value.nilFunc, Value.nilFunc, Value.func (Fn.func 143) #[] #[], Value.func (Fn.func 143) #[] #[], Value.func (Fn.func 143) #[] #[], Value.func (Fn.func 144) #[] #[], Value.nilFunc, Value.func (Fn.func 145) #[] #[], Value.nilFunc, Value.func (Fn.func 146) #[] #[]] 152)) B m from hm.of_block (hbW.block _ hm.lt))
  have HKW := Lib.hid (show Kp B w (((w.alloc (Obj.cells #[Value.int IntKind.i64 x.f0, Value.int IntKind.i64 x.f1, Value.string x.f2, Value.slice A3 x.f3.length c3, Value.slice A4 x.f4.length c4] 37)).alloc (Obj.cells #[Value.int IntKind.i64 y.f0, Value.int IntKind.i64 y.f1, Value.string y.f2, Value.slice B3 y.f3.length d3, Value.slice B4 y.f4.length d4] 37)).alloc (Obj.cells #[Value.nilFunc, Value.nilFunc, Value.func (Fn.func 143) #[] #[], Value.func (Fn.func 143) #[] #[], Value.func (Fn.func 143) #[] #[], Value.func (Fn.func 144) #[] #[], Value.nilFunc, Value.func (Fn.func 145) #[] #[], Value.nilFunc, Value.func (Fn.func 146) #[] #[]] 152)) from ((Kp.alloc _ _ _).trans (Kp.alloc _ _ _)).trans (Kp.alloc _ _ _))
  clear hm
  rw [h1, h2] at hbW HmW HKW
  go_enter Tryd.func114, Tryd.ntmps114
  rw [h1, h2]
  have H12 := Lib.hid (show _ ∧ _ from ⟨h1, h2⟩)
  clear h1 h2
  go_wp2
  generalize hW : ((w.alloc (Obj.cells #[Value.int IntKind.i64 4, Value.int IntKind.i64 x.f1, Value.string x.f2, Value.slice A3 x.f3.length c3, Value.slice A4 x.f4.length c4] 37)).alloc (Obj.cells #[Value.int IntKind.i64 4, Value.int IntKind.i64 y.f1, Value.string y.f2, Value.slice B3 y.f3.length d3, Value.slice B4 y.f4.length d4] 37)).alloc (Obj.cells #[Value.nilFunc, Value.nilFunc, Value.func (Fn.func 143) #[] #[], Value.func (Fn.func 143) #[] #[], Value.func (Fn.func 143) #[] #[], Value.func (Fn.func 144) #[] #[], Value.nilFunc, Value.func (Fn.func 145) #[] #[], Value.nilFunc, Value.func (Fn.func 146) #[] #[]] 152) = W at *
  have p0 : W.cell? ⟨w.heap.size, 0, none⟩ = some (.int .i64 4) := by rw [← hW]; exact cell_alloc _ (by simp)
  have p1 : W.cell? ⟨w.heap.size, 1, none⟩ = some (.int .i64 x.f1) := by rw [← hW]; exact cell_alloc _ (by simp)
  have p2 : W.cell? ⟨w.heap.size, 2, none⟩ = some (.string x.f2) := by rw [← hW]; exact cell_alloc _ (by simp)
  have p3 : W.cell? ⟨w.heap.size, 3, none⟩ = some (.slice A3 x.f3.length c3) := by rw [← hW]; exact cell_alloc _ (by simp)
  have p4 : W.cell? ⟨w.heap.size, 4, none⟩ = some (.slice A4 x.f4.length c4) := by rw [← hW]; exact cell_alloc _ (by simp)
  have q0 : W.cell? ⟨w.heap.size + 1, 0, none⟩ = some (.int .i64 4) := by rw [← hW]; exact cell_alloc _ (by simp)
  have q1 : W.cell? ⟨w.heap.size + 1, 1, none⟩ = some (.int .i64 y.f1) := by rw [← hW]; exact cell_alloc _ (by simp)
  have q2 : W.cell? ⟨w.heap.size + 1, 2, none⟩ = some (.string y.f2) := by rw [← hW]; exact cell_alloc _ (by simp)
  have q3 : W.cell? ⟨w.heap.size + 1, 3, none⟩ = some (.slice B3 y.f3.length d3) := by rw [← hW]; exact cell_alloc _ (by simp)
  have q4 : W.cell? ⟨w.heap.size + 1, 4, none⟩ = some (.slice B4 y.f4.length d4) := by rw [← hW]; exact cell_alloc _ (by simp)
  have r0 : W.cell? ⟨w.heap.size + 1 + 1, 4, none⟩ = some (.func (.func 143) #[] #[]) := by rw [← hW]; rw [World.cell?_alloc_at _ _ _ _ (by simp)]; rfl
  have HC : Calls Tryd.prog 143 #[.pointer (some ⟨X, 0, none⟩), .agg #[.int .i64 4, .int .i64 x.f1, .string x.f2, .slice A3 x.f3.length c3, .slice A4 x.f4.length c4], .agg #[.int .i64 4, .int .i64 y.f1, .string y.f2, .slice B3 y.f3.length d3, .slice B4 y.f4.length d4]] W.drew (Told B W.drew m (fun _ => true)) := by
    have := (show Calls Tryd.prog 143 #[.pointer (some ⟨X, 0, none⟩), nodeV x A3 c3 A4 c4, nodeV y B3 d3 B4 d4] W.drew (Told B W.drew m (fun _ => true)) from (by refine (base_calls _ x y A3 B3 c3 d3 A4 B4 c4 d4 W.drew).mono ?_; rintro e w' ⟨rfl, hb⟩; exact Told.const true ((HmW.out.of_block (w' := W.drew) rfl).of_block (hb.block _ HmW.out.lt)) ⟨hb.os, hb.tape, hb.output, hb.size, fun i hi _ => hb.block i hi⟩ (fun _ => rfl)))
    simpa only [nodeV, H12.out.1, H12.out.2] using this
  have HCh := Lib.hid HC
  clear HC hW hbW
  refine wp_region_still_tail 13 (by kernel_rfl) (by kernel_rfl) ?_
  simp only [List.take_succ_cons, List.take_zero, List.drop_succ_cons, List.drop_zero]
  change wpStill _ _ W.drew _ _ _
  repeat still_step
  try refine wpStill_nil ?_
  change wpList _ _ _ _ _ W.drew
  go_wp2_with fail
  refine HCh.out.mono ?_
  rintro e w' ⟨r, m', rfl, hm', hK', hG, hA⟩
  have HE := Lib.hid (show _ ∧ _ ∧ _ ∧ _ from ⟨hm', hK', hG, hA⟩)
  clear hm' hK' hG hA
  go_wp2
  go_ret
  exact ⟨r, m', rfl, HE.out.1, (HKW.out.trans (Kp.drew _ _)).trans HE.out.2.1, HE.out.2.2.1, fun R r1 r2 => by rw [HD.out]; exact HE.out.2.2.2 R r1 r2⟩
set_option maxRecDepth 100000 in
set_option maxHeartbeats 1000000 in
theorem does_5 [Dom] (w : World) (X B : Nat) (m : PM) (st : Bool) (x y : S37) (A3 B3 : Option Addr) (c3 d3 : Nat) (A4 B4 : Option Addr) (c4 d4 : Nat) (hm : MapAt pairV VInt w B m) (h1 : x.f0 = 5) (h2 : y.f0 = 5) :
    Calls Tryd.prog 114 #[.pointer (some ⟨X, 0, none⟩), nodeV x A3 c3 A4 c4, nodeV y B3 d3 B4 d4] w (Told B w m (doesB st x y)) := by
  unfold nodeV
  have HM := Lib.hid hm
  have HD := Lib.hid (show ∀ R, doesB st x y R = decide (x.f2 = y.f2) from fun R => by unfold doesB; rw [if_neg (by omega), decide_eq_true (by omega)]; simp [h1])
  have hbW : Below w.heap.size w (((w.alloc (Obj.cells #[Value.int IntKind.i64 x.f0, Value.int IntKind.i64 x.f1, Value.string x.f2, Value.slice A3 x.f3.length c3, Value.slice A4 x.f4.length c4] 37)).alloc (Obj.cells #[Value.int IntKind.i64 y.f0, Value.int IntKind.i64 y.f1, Value.string y.f2, Value.slice B3 y.f3.length d3, Value.slice B4 y.f4.length d4] 37)).alloc (Obj.cells #[Value.nilFunc, Value.nilFunc, Value.func (Fn.func 143) #[] #[], Value.func (Fn.func 143) #[] #[], Value.func (Fn.func 143) #[] #[], Value.func (Fn.func 144) #[] #[], Value.nilFunc, Value.func (Fn.func 145) #[] #[], Value.nilFunc, Value.func (Fn.func 146) #[] #[]] 152)) := (((Below.refl _ _).alloc (Nat.le_refl _) _).alloc (by simp) _).alloc (by simp; omega) _
  have HmW := Lib.hid (show MapAt pairV VInt (((w.alloc (Obj.cells #[Value.int IntKind.i64 x.f0, Value.int IntKind.i64 x.f1, Value.string x.f2, Value.slice A3 x.f3.length c3, Value.slice A4 x.f4.length c4] 37)).alloc (Obj.cells #[Value.int IntKind.i64 y.f0, Value.int IntKind.i64 y.f1, Value.string y.f2, Value.slice B3 y.f3.length d3, Value.slice B4 y.f4.length d4] 37)).alloc (Obj.cells #[Value.nilFunc, Value.nilFunc, Value.func (Fn.func 143) #[] #[], Value.func (Fn.func 143) #[] #[], Value.func (Fn.func 143) #[] #[], Value.func (Fn.func 144) #[] #[], Value.nilFunc, Value.func (Fn.func 145) #[] #[], Value.nilFunc, Value.func (Fn.func 146) #[] #[]] 152)) B m from hm.of_block (hbW.block _ hm.lt))
  have HKW := Lib.hid (show Kp B w (((w.alloc (Obj.cells #[Value.int IntKind.i64 x.f0, Value.int IntKind.i64 x.f1, Value.string x.f2, Value.slice A3 x.f3.length c3, Value.slice A4 x.f4.length c4] 37)).alloc (Obj.cells #[Value.int IntKind.i64 y.f0, Value.int IntKind.i64 y.f1, Value.string y.f2, Value.slice B3 y.f3.length d3, Value.slice B4 y.f4.length d4] 37)).alloc (Obj.cells #[Value.nilFunc, Value.nilFunc, Value.func (Fn.func 143) #[] #[], Value.func (Fn.func 143) #[] #[], Value.func (Fn.func 143) #[] #[], Value.func (Fn.func 144) #[] #[], Value.nilFunc, Value.func (Fn.func 145) #[] #[], Value.nilFunc, Value.func (Fn.func 146) #[] #[]] 152)) from ((Kp.alloc _ _ _).trans (Kp.alloc _ _ _)).trans (Kp.alloc _ _ _))
  clear hm
  rw [h1, h2] at hbW HmW HKW
  go_enter Tryd.func114, Tryd.ntmps114
  rw [h1, h2]
  have H12 := Lib.hid (show _ ∧ _ from ⟨h1, h2⟩)
  clear h1 h2
  go_wp2
  generalize hW : ((w.alloc (Obj.cells #[Value.int IntKind.i64 5, Value.int IntKind.i64 x.f1, Value.string x.f2, Value.slice A3 x.f3.length c3, Value.slice A4 x.f4.length c4] 37)).alloc (Obj.cells #[Value.int IntKind.i64 5, Value.int IntKind.i64 y.f1, Value.string y.f2, Value.slice B3 y.f3.length d3, Value.slice B4 y.f4.length d4] 37)).alloc (Obj.cells #[Value.nilFunc, Value.nilFunc, Value.func (Fn.func 143) #[] #[], Value.func (Fn.func 143) #[] #[], Value.func (Fn.func 143) #[] #[], Value.func (Fn.func 144) #[] #[], Value.nilFunc, Value.func (Fn.func 145) #[] #[], Value.nilFunc, Value.func (Fn.func 146) #[] #[]] 152) = W at *
  have p0 : W.cell? ⟨w.heap.size, 0, none⟩ = some (.int .i64 5) := by rw [← hW]; exact cell_alloc _ (by simp)
  have p1 : W.cell? ⟨w.heap.size, 1, none⟩ = some (.int .i64 x.f1) := by rw [← hW]; exact cell_alloc _ (by simp)
  have p2 : W.cell? ⟨w.heap.size, 2, none⟩ = some (.string x.f2) := by rw [← hW]; exact cell_alloc _ (by simp)
  have p3 : W.cell? ⟨w.heap.size, 3, none⟩ = some (.slice A3 x.f3.length c3) := by rw [← hW]; exact cell_alloc _ (by simp)
  have p4 : W.cell? ⟨w.heap.size, 4, none⟩ = some (.slice A4 x.f4.length c4) := by rw [← hW]; exact cell_alloc _ (by simp)
  have q0 : W.cell? ⟨w.heap.size + 1, 0, none⟩ = some (.int .i64 5) := by rw [← hW]; exact cell_alloc _ (by simp)
  have q1 : W.cell? ⟨w.heap.size + 1, 1, none⟩ = some (.int .i64 y.f1) := by rw [← hW]; exact cell_alloc _ (by simp)
  have q2 : W.cell? ⟨w.heap.size + 1, 2, none⟩ = some (.string y.f2) := by rw [← hW]; exact cell_alloc _ (by simp)
  have q3 : W.cell? ⟨w.heap.size + 1, 3, none⟩ = some (.slice B3 y.f3.length d3) := by rw [← hW]; exact cell_alloc _ (by simp)
  have q4 : W.cell? ⟨w.heap.size + 1, 4, none⟩ = some (.slice B4 y.f4.length d4) := by rw [← hW]; exact cell_alloc _ (by simp)
  have r0 : W.cell? ⟨w.heap.size + 1 + 1, 5, none⟩ = some (.func (.func 144) #[] #[]) := by rw [← hW]; rw [World.cell?_alloc_at _ _ _ _ (by simp)]; rfl
  have HC : Calls Tryd.prog 144 #[.pointer (some ⟨X, 0, none⟩), .agg #[.int .i64 5, .int .i64 x.f1, .string x.f2, .slice A3 x.f3.length c3, .slice A4 x.f4.length c4], .agg #[.int .i64 5, .int .i64 y.f1, .string y.f2, .slice B3 y.f3.length d3, .slice B4 y.f4.length d4]] W.drew (Told B W.drew m (fun _ => decide (x.f2 = y.f2))) := by
    have := (show Calls Tryd.prog 144 #[.pointer (some ⟨X, 0, none⟩), nodeV x A3 c3 A4 c4, nodeV y B3 d3 B4 d4] W.drew (Told B W.drew m (fun _ => decide (x.f2 = y.f2))) from (by refine (tag_calls _ x y A3 B3 c3 d3 A4 B4 c4 d4 W.drew).mono ?_; rintro e w' ⟨rfl, hb⟩; exact Told.const (decide (x.f2 = y.f2)) ((HmW.out.of_block (w' := W.drew) rfl).of_block (hb.block _ HmW.out.lt)) ⟨hb.os, hb.tape, hb.output, hb.size, fun i hi _ => hb.block i hi⟩ (fun _ => rfl)))
    simpa only [nodeV, H12.out.1, H12.out.2] using this
  have HCh := Lib.hid HC
  clear HC hW hbW
  refine wp_region_still_tail 13 (by kernel_rfl) (by kernel_rfl) ?_
  simp only [List.take_succ_cons, List.take_zero, List.drop_succ_cons, List.drop_zero]
  change wpStill _ _ W.drew _ _ _
  repeat still_step
  try refine wpStill_nil ?_
  change wpList _ _ _ _ _ W.drew
  go_wp2_with fail
  refine HCh.out.mono ?_
  rintro e w' ⟨r, m', rfl, hm', hK', hG, hA⟩
  have HE := Lib.hid (show _ ∧ _ ∧ _ ∧ _ from ⟨hm', hK', hG, hA⟩)
  clear hm' hK' hG hA
  go_wp2
  go_ret
  exact ⟨r, m', rfl, HE.out.1, (HKW.out.trans (Kp.drew _ _)).trans HE.out.2.1, HE.out.2.2.1, fun R r1 r2 => by rw [HD.out]; exact HE.out.2.2.2 R r1 r2⟩
set_option maxRecDepth 100000 in
set_option maxHeartbeats 1000000 in
theorem does_7 [Dom] (w : World) (X B : Nat) (m : PM) (st : Bool) (x y : S37) (hDom : ∀ a ∈ x.f4, ∀ b ∈ y.f4, Dom.D (a, b)) (A3 B3 : Option Addr) (c3 d3 : Nat) (A4 B4 : Option Addr) (c4 d4 : Nat) (hm : MapAt pairV VInt w B m) (h1 : x.f0 = 7) (h2 : y.f0 = 7) (hx : w.cell? ⟨X, 2, none⟩ = some (.map (some B))) (hXB : X ≠ B) (hl : x.f4.length = x.f3.length) (kl : y.f4.length = y.f3.length) (hn : x.f3.length ≤ 16) (kn : y.f3.length ≤ 16)
    (w0 : World) (hw0 : Below w0.heap.size w0 w) (hB0 : w0.heap.size ≤ B) (h30 : Kd.C Kd.string w0 A3 x.f3.length x.f3) (k30 : Kd.C Kd.string w0 B3 y.f3.length y.f3) (h40 : Kd.C (Kd.int .i64) w0 A4 x.f4.length x.f4) (k40 : Kd.C (Kd.int .i64) w0 B4 y.f4.length y.f4) :
    Calls Tryd.prog 114 #[.pointer (some ⟨X, 0, none⟩), nodeV x A3 c3 A4 c4, nodeV y B3 d3 B4 d4] w (Told B w m (doesB st x y)) := by
  unfold nodeV
  have HDom := Lib.hid hDom
  clear hDom
  have HM := Lib.hid hm
  have HD := Lib.hid (show ∀ R, doesB st x y R = recordB x y R from fun R => by unfold doesB; rw [if_neg (by omega), decide_eq_true (by omega)]; simp [h1])
  have hbW : Below w.heap.size w (((w.alloc (Obj.cells #[Value.int IntKind.i64 x.f0, Value.int IntKind.i64 x.f1, Value.string x.f2, Value.slice A3 x.f3.length c3, Value.slice A4 x.f4.length c4] 37)).alloc (Obj.cells #[Value.int IntKind.i64 y.f0, Value.int IntKind.i64 y.f1, Value.string y.f2, Value.slice B3 y.f3.length d3, Value.slice B4 y.f4.length d4] 37)).alloc (Obj.cells #[Value.nilFunc, Value.nilFunc, Value.func (Fn.func 143) #[] #[], Value.func (Fn.func 143) #[] #[], Value.func (Fn.func 143) #[] #[], Value.func (Fn.func 144) #[] #[], Value.nilFunc, Value.func (Fn.func 145) #[] #[], Value.nilFunc, Value.func (Fn.func 146) #[] #[]] 152)) := (((Below.refl _ _).alloc (Nat.le_refl _) _).alloc (by simp) _).alloc (by simp; omega) _
  have HmW := Lib.hid (show MapAt pairV VInt (((w.alloc (Obj.cells #[Value.int IntKind.i64 x.f0, Value.int IntKind.i64 x.f1, Value.string x.f2, Value.slice A3 x.f3.length c3, Value.slice A4 x.f4.length c4] 37)).alloc (Obj.cells #[Value.int IntKind.i64 y.f0, Value.int IntKind.i64 y.f1, Value.string y.f2, Value.slice B3 y.f3.length d3, Value.slice B4 y.f4.length d4] 37)).alloc (Obj.cells #[Value.nilFunc, Value.nilFunc, Value.func (Fn.func 143) #[] #[], Value.func (Fn.func 143) #[] #[], Value.func (Fn.func 143) #[] #[], Value.func (Fn.func 144) #[] #[], Value.nilFunc, Value.func (Fn.func 145) #[] #[], Value.nilFunc, Value.func (Fn.func 146) #[] #[]] 152)) B m from hm.of_block (hbW.block _ hm.lt))
  have HKW := Lib.hid (show Kp B w (((w.alloc (Obj.cells #[Value.int IntKind.i64 x.f0, Value.int IntKind.i64 x.f1, Value.string x.f2, Value.slice A3 x.f3.length c3, Value.slice A4 x.f4.length c4] 37)).alloc (Obj.cells #[Value.int IntKind.i64 y.f0, Value.int IntKind.i64 y.f1, Value.string y.f2, Value.slice B3 y.f3.length d3, Value.slice B4 y.f4.length d4] 37)).alloc (Obj.cells #[Value.nilFunc, Value.nilFunc, Value.func (Fn.func 143) #[] #[], Value.func (Fn.func 143) #[] #[], Value.func (Fn.func 143) #[] #[], Value.func (Fn.func 144) #[] #[], Value.nilFunc, Value.func (Fn.func 145) #[] #[], Value.nilFunc, Value.func (Fn.func 146) #[] #[]] 152)) from ((Kp.alloc _ _ _).trans (Kp.alloc _ _ _)).trans (Kp.alloc _ _ _))
  have hxW : (((w.alloc (Obj.cells #[Value.int IntKind.i64 x.f0, Value.int IntKind.i64 x.f1, Value.string x.f2, Value.slice A3 x.f3.length c3, Value.slice A4 x.f4.length c4] 37)).alloc (Obj.cells #[Value.int IntKind.i64 y.f0, Value.int IntKind.i64 y.f1, Value.string y.f2, Value.slice B3 y.f3.length d3, Value.slice B4 y.f4.length d4] 37)).alloc (Obj.cells #[Value.nilFunc, Value.nilFunc, Value.func (Fn.func 143) #[] #[], Value.func (Fn.func 143) #[] #[], Value.func (Fn.func 143) #[] #[], Value.func (Fn.func 144) #[] #[], Value.nilFunc, Value.func (Fn.func 145) #[] #[], Value.nilFunc, Value.func (Fn.func 146) #[] #[]] 152)).cell? ⟨X, 2, none⟩ = some (.map (some B)) := cell_alloc _ (cell_alloc _ (cell_alloc _ hx))
  have hsz := hw0.size
  have hw0W : Below w0.heap.size w0 (((w.alloc (Obj.cells #[Value.int IntKind.i64 x.f0, Value.int IntKind.i64 x.f1, Value.string x.f2, Value.slice A3 x.f3.length c3, Value.slice A4 x.f4.length c4] 37)).alloc (Obj.cells #[Value.int IntKind.i64 y.f0, Value.int IntKind.i64 y.f1, Value.string y.f2, Value.slice B3 y.f3.length d3, Value.slice B4 y.f4.length d4] 37)).alloc (Obj.cells #[Value.nilFunc, Value.nilFunc, Value.func (Fn.func 143) #[] #[], Value.func (Fn.func 143) #[] #[], Value.func (Fn.func 143) #[] #[], Value.func (Fn.func 144) #[] #[], Value.nilFunc, Value.func (Fn.func 145) #[] #[], Value.nilFunc, Value.func (Fn.func 146) #[] #[]] 152)) := hw0.trans (hbW.mono hsz)
  clear hm
  rw [h1, h2] at hbW HmW HKW
  rw [h1, h2] at hxW hw0W
  have H0 := Lib.hid (show _ ∧ _ ∧ _ ∧ _ ∧ _ ∧ _ from ⟨h30, k30, h40, k40, hl, kl⟩)
  clear h30 k30 h40 k40 hl kl hw0 hx hsz
  go_enter Tryd.func114, Tryd.ntmps114
  rw [h1, h2]
  have H12 := Lib.hid (show _ ∧ _ from ⟨h1, h2⟩)
  clear h1 h2
  go_wp2
  generalize hW : ((w.alloc (Obj.cells #[Value.int IntKind.i64 7, Value.int IntKind.i64 x.f1, Value.string x.f2, Value.slice A3 x.f3.length c3, Value.slice A4 x.f4.length c4] 37)).alloc (Obj.cells #[Value.int IntKind.i64 7, Value.int IntKind.i64 y.f1, Value.string y.f2, Value.slice B3 y.f3.length d3, Value.slice B4 y.f4.length d4] 37)).alloc (Obj.cells #[Value.nilFunc, Value.nilFunc, Value.func (Fn.func 143) #[] #[], Value.func (Fn.func 143) #[] #[], Value.func (Fn.func 143) #[] #[], Value.func (Fn.func 144) #[] #[], Value.nilFunc, Value.func (Fn.func 145) #[] #[], Value.nilFunc, Value.func (Fn.func 146) #[] #[]] 152) = W at *
  have p0 : W.cell? ⟨w.heap.size, 0, none⟩ = some (.int .i64 7) := by rw [← hW]; exact cell_alloc _ (by simp)
  have p1 : W.cell? ⟨w.heap.size, 1, none⟩ = some (.int .i64 x.f1) := by rw [← hW]; exact cell_alloc _ (by simp)
  have p2 : W.cell? ⟨w.heap.size, 2, none⟩ = some (.string x.f2) := by rw [← hW]; exact cell_alloc _ (by simp)
  have p3 : W.cell? ⟨w.heap.size, 3, none⟩ = some (.slice A3 x.f3.length c3) := by rw [← hW]; exact cell_alloc _ (by simp)
  have p4 : W.cell? ⟨w.heap.size, 4, none⟩ = some (.slice A4 x.f4.length c4) := by rw [← hW]; exact cell_alloc _ (by simp)
  have q0 : W.cell? ⟨w.heap.size + 1, 0, none⟩ = some (.int .i64 7) := by rw [← hW]; exact cell_alloc _ (by simp)
  have q1 : W.cell? ⟨w.heap.size + 1, 1, none⟩ = some (.int .i64 y.f1) := by rw [← hW]; exact cell_alloc _ (by simp)
  have q2 : W.cell? ⟨w.heap.size + 1, 2, none⟩ = some (.string y.f2) := by rw [← hW]; exact cell_alloc _ (by simp)
  have q3 : W.cell? ⟨w.heap.size + 1, 3, none⟩ = some (.slice B3 y.f3.length d3) := by rw [← hW]; exact cell_alloc _ (by simp)
  have q4 : W.cell? ⟨w.heap.size + 1, 4, none⟩ = some (.slice B4 y.f4.length d4) := by rw [← hW]; exact cell_alloc _ (by simp)
  have r0 : W.cell? ⟨w.heap.size + 1 + 1, 7, none⟩ = some (.func (.func 145) #[] #[]) := by rw [← hW]; rw [World.cell?_alloc_at _ _ _ _ (by simp)]; rfl
  have HC : Calls Tryd.prog 145 #[.pointer (some ⟨X, 0, none⟩), .agg #[.int .i64 7, .int .i64 x.f1, .string x.f2, .slice A3 x.f3.length c3, .slice A4 x.f4.length c4], .agg #[.int .i64 7, .int .i64 y.f1, .string y.f2, .slice B3 y.f3.length d3, .slice B4 y.f4.length d4]] W.drew (Told B W.drew m (recordB x y)) := by
    have := record_calls W.drew X B m x y HDom.out A3 B3 c3 d3 A4 B4 c4 d4 hxW (HmW.out.of_block rfl) H0.out.2.2.2.2.1 H0.out.2.2.2.2.2 (by omega) (by omega) w0 hw0W.drew hB0 H0.out.1 H0.out.2.1 H0.out.2.2.1 H0.out.2.2.2.1 hXB
    simpa only [nodeV, H12.out.1, H12.out.2] using this
  have HCh := Lib.hid HC
  clear HC hW hbW
  refine wp_region_still_tail 13 (by kernel_rfl) (by kernel_rfl) ?_
  simp only [List.take_succ_cons, List.take_zero, List.drop_succ_cons, List.drop_zero]
  change wpStill _ _ W.drew _ _ _
  repeat still_step
  try refine wpStill_nil ?_
  change wpList _ _ _ _ _ W.drew
  go_wp2_with fail
  refine HCh.out.mono ?_
  rintro e w' ⟨r, m', rfl, hm', hK', hG, hA⟩
  have HE := Lib.hid (show _ ∧ _ ∧ _ ∧ _ from ⟨hm', hK', hG, hA⟩)
  clear hm' hK' hG hA
  go_wp2
  go_ret
  exact ⟨r, m', rfl, HE.out.1, (HKW.out.trans (Kp.drew _ _)).trans HE.out.2.1, HE.out.2.2.1, fun R r1 r2 => by rw [HD.out]; exact HE.out.2.2.2 R r1 r2⟩
set_option maxRecDepth 100000 in
set_option maxHeartbeats 1000000 in
theorem does_9 [Dom] (w : World) (X B : Nat) (m : PM) (st : Bool) (x y : S37) (hDom : ∀ a ∈ x.f4, ∀ b ∈ y.f4, Dom.D (a, b)) (A3 B3 : Option Addr) (c3 d3 : Nat) (A4 B4 : Option Addr) (c4 d4 : Nat) (hm : MapAt pairV VInt w B m) (h1 : x.f0 = 9) (h2 : y.f0 = 9) (hx : w.cell? ⟨X, 2, none⟩ = some (.map (some B))) (hl : x.f4.length = 1) (kl : y.f4.length = 1)
    (h40 : Kd.C (Kd.int .i64) w A4 x.f4.length x.f4) (k40 : Kd.C (Kd.int .i64) w B4 y.f4.length y.f4) :
    Calls Tryd.prog 114 #[.pointer (some ⟨X, 0, none⟩), nodeV x A3 c3 A4 c4, nodeV y B3 d3 B4 d4] w (Told B w m (doesB st x y)) := by
  unfold nodeV
  have HDom := Lib.hid hDom
  clear hDom
  have HM := Lib.hid hm
  have HD := Lib.hid (show ∀ R, doesB st x y R = variableB x y R from fun R => by unfold doesB; rw [if_neg (by omega), decide_eq_true (by omega)]; simp [h1])
  have hbW : Below w.heap.size w (((w.alloc (Obj.cells #[Value.int IntKind.i64 x.f0, Value.int IntKind.i64 x.f1, Value.string x.f2, Value.slice A3 x.f3.length c3, Value.slice A4 x.f4.length c4] 37)).alloc (Obj.cells #[Value.int IntKind.i64 y.f0, Value.int IntKind.i64 y.f1, Value.string y.f2, Value.slice B3 y.f3.length d3, Value.slice B4 y.f4.length d4] 37)).alloc (Obj.cells #[Value.nilFunc, Value.nilFunc, Value.func (Fn.func 143) #[] #[], Value.func (Fn.func 143) #[] #[], Value.func (Fn.func 143) #[] #[], Value.func (Fn.func 144) #[] #[], Value.nilFunc, Value.func (Fn.func 145) #[] #[], Value.nilFunc, Value.func (Fn.func 146) #[] #[]] 152)) := (((Below.refl _ _).alloc (Nat.le_refl _) _).alloc (by simp) _).alloc (by simp; omega) _
  have HmW := Lib.hid (show MapAt pairV VInt (((w.alloc (Obj.cells #[Value.int IntKind.i64 x.f0, Value.int IntKind.i64 x.f1, Value.string x.f2, Value.slice A3 x.f3.length c3, Value.slice A4 x.f4.length c4] 37)).alloc (Obj.cells #[Value.int IntKind.i64 y.f0, Value.int IntKind.i64 y.f1, Value.string y.f2, Value.slice B3 y.f3.length d3, Value.slice B4 y.f4.length d4] 37)).alloc (Obj.cells #[Value.nilFunc, Value.nilFunc, Value.func (Fn.func 143) #[] #[], Value.func (Fn.func 143) #[] #[], Value.func (Fn.func 143) #[] #[], Value.func (Fn.func 144) #[] #[], Value.nilFunc, Value.func (Fn.func 145) #[] #[], Value.nilFunc, Value.func (Fn.func 146) #[] #[]] 152)) B m from hm.of_block (hbW.block _ hm.lt))
  have HKW := Lib.hid (show Kp B w (((w.alloc (Obj.cells #[Value.int IntKind.i64 x.f0, Value.int IntKind.i64 x.f1, Value.string x.f2, Value.slice A3 x.f3.length c3, Value.slice A4 x.f4.length c4] 37)).alloc (Obj.cells #[Value.int IntKind.i64 y.f0, Value.int IntKind.i64 y.f1, Value.string y.f2, Value.slice B3 y.f3.length d3, Value.slice B4 y.f4.length d4] 37)).alloc (Obj.cells #[Value.nilFunc, Value.nilFunc, Value.func (Fn.func 143) #[] #[], Value.func (Fn.func 143) #[] #[], Value.func (Fn.func 143) #[] #[], Value.func (Fn.func 144) #[] #[], Value.nilFunc, Value.func (Fn.func 145) #[] #[], Value.nilFunc, Value.func (Fn.func 146) #[] #[]] 152)) from ((Kp.alloc _ _ _).trans (Kp.alloc _ _ _)).trans (Kp.alloc _ _ _))
  have hxW : (((w.alloc (Obj.cells #[Value.int IntKind.i64 x.f0, Value.int IntKind.i64 x.f1, Value.string x.f2, Value.slice A3 x.f3.length c3, Value.slice A4 x.f4.length c4] 37)).alloc (Obj.cells #[Value.int IntKind.i64 y.f0, Value.int IntKind.i64 y.f1, Value.string y.f2, Value.slice B3 y.f3.length d3, Value.slice B4 y.f4.length d4] 37)).alloc (Obj.cells #[Value.nilFunc, Value.nilFunc, Value.func (Fn.func 143) #[] #[], Value.func (Fn.func 143) #[] #[], Value.func (Fn.func 143) #[] #[], Value.func (Fn.func 144) #[] #[], Value.nilFunc, Value.func (Fn.func 145) #[] #[], Value.nilFunc, Value.func (Fn.func 146) #[] #[]] 152)).cell? ⟨X, 2, none⟩ = some (.map (some B)) := cell_alloc _ (cell_alloc _ (cell_alloc _ hx))
  have h4W : Kd.C (Kd.int .i64) (((w.alloc (Obj.cells #[Value.int IntKind.i64 x.f0, Value.int IntKind.i64 x.f1, Value.string x.f2, Value.slice A3 x.f3.length c3, Value.slice A4 x.f4.length c4] 37)).alloc (Obj.cells #[Value.int IntKind.i64 y.f0, Value.int IntKind.i64 y.f1, Value.string y.f2, Value.slice B3 y.f3.length d3, Value.slice B4 y.f4.length d4] 37)).alloc (Obj.cells #[Value.nilFunc, Value.nilFunc, Value.func (Fn.func 143) #[] #[], Value.func (Fn.func 143) #[] #[], Value.func (Fn.func 143) #[] #[], Value.func (Fn.func 144) #[] #[], Value.nilFunc, Value.func (Fn.func 145) #[] #[], Value.nilFunc, Value.func (Fn.func 146) #[] #[]] 152)) A4 x.f4.length x.f4 := Kd.C_below h40 hbW
  have k4W : Kd.C (Kd.int .i64) (((w.alloc (Obj.cells #[Value.int IntKind.i64 x.f0, Value.int IntKind.i64 x.f1, Value.string x.f2, Value.slice A3 x.f3.length c3, Value.slice A4 x.f4.length c4] 37)).alloc (Obj.cells #[Value.int IntKind.i64 y.f0, Value.int IntKind.i64 y.f1, Value.string y.f2, Value.slice B3 y.f3.length d3, Value.slice B4 y.f4.length d4] 37)).alloc (Obj.cells #[Value.nilFunc, Value.nilFunc, Value.func (Fn.func 143) #[] #[], Value.func (Fn.func 143) #[] #[], Value.func (Fn.func 143) #[] #[], Value.func (Fn.func 144) #[] #[], Value.nilFunc, Value.func (Fn.func 145) #[] #[], Value.nilFunc, Value.func (Fn.func 146) #[] #[]] 152)) B4 y.f4.length y.f4 := Kd.C_below k40 hbW
  clear hm
  rw [h1, h2] at hbW HmW HKW
  rw [h1, h2] at hxW h4W k4W
  have H0 := Lib.hid (show _ ∧ _ ∧ _ ∧ _ from ⟨h4W, k4W, hl, kl⟩)
  clear h40 k40 h4W k4W hl kl hx
  go_enter Tryd.func114, Tryd.ntmps114
  rw [h1, h2]
  have H12 := Lib.hid (show _ ∧ _ from ⟨h1, h2⟩)
  clear h1 h2
  go_wp2
  generalize hW : ((w.alloc (Obj.cells #[Value.int IntKind.i64 9, Value.int IntKind.i64 x.f1, Value.string x.f2, Value.slice A3 x.f3.length c3, Value.slice A4 x.f4.length c4] 37)).alloc (Obj.cells #[Value.int IntKind.i64 9, Value.int IntKind.i64 y.f1, Value.string y.f2, Value.slice B3 y.f3.length d3, Value.slice B4 y.f4.length d4] 37)).alloc (Obj.cells #[Value.nilFunc, Value.nilFunc, Value.func (Fn.func 143) #[] #[], Value.func (Fn.func 143) #[] #[], Value.func (Fn.func 143) #[] #[], Value.func (Fn.func 144) #[] #[], Value.nilFunc, Value.func (Fn.func 145) #[] #[], Value.nilFunc, Value.func (Fn.func 146) #[] #[]] 152) = W at *
  have p0 : W.cell? ⟨w.heap.size, 0, none⟩ = some (.int .i64 9) := by rw [← hW]; exact cell_alloc _ (by simp)
  have p1 : W.cell? ⟨w.heap.size, 1, none⟩ = some (.int .i64 x.f1) := by rw [← hW]; exact cell_alloc _ (by simp)
  have p2 : W.cell? ⟨w.heap.size, 2, none⟩ = some (.string x.f2) := by rw [← hW]; exact cell_alloc _ (by simp)
  have p3 : W.cell? ⟨w.heap.size, 3, none⟩ = some (.slice A3 x.f3.length c3) := by rw [← hW]; exact cell_alloc _ (by simp)
  have p4 : W.cell? ⟨w.heap.size, 4, none⟩ = some (.slice A4 x.f4.length c4) := by rw [← hW]; exact cell_alloc _ (by simp)
  have q0 : W.cell? ⟨w.heap.size + 1, 0, none⟩ = some (.int .i64 9) := by rw [← hW]; exact cell_alloc _ (by simp)
  have q1 : W.cell? ⟨w.heap.size + 1, 1, none⟩ = some (.int .i64 y.f1) := by rw [← hW]; exact cell_alloc _ (by simp)
  have q2 : W.cell? ⟨w.heap.size + 1, 2, none⟩ = some (.string y.f2) := by rw [← hW]; exact cell_alloc _ (by simp)
  have q3 : W.cell? ⟨w.heap.size + 1, 3, none⟩ = some (.slice B3 y.f3.length d3) := by rw [← hW]; exact cell_alloc _ (by simp)
  have q4 : W.cell? ⟨w.heap.size + 1, 4, none⟩ = some (.slice B4 y.f4.length d4) := by rw [← hW]; exact cell_alloc _ (by simp)
  have r0 : W.cell? ⟨w.heap.size + 1 + 1, 9, none⟩ = some (.func (.func 146) #[] #[]) := by rw [← hW]; rw [World.cell?_alloc_at _ _ _ _ (by simp)]; rfl
  have HC : Calls Tryd.prog 146 #[.pointer (some ⟨X, 0, none⟩), .agg #[.int .i64 9, .int .i64 x.f1, .string x.f2, .slice A3 x.f3.length c3, .slice A4 x.f4.length c4], .agg #[.int .i64 9, .int .i64 y.f1, .string y.f2, .slice B3 y.f3.length d3, .slice B4 y.f4.length d4]] W.drew (Told B W.drew m (variableB x y)) := by
    have := variable_calls W.drew X B m x y HDom.out A3 B3 c3 d3 A4 B4 c4 d4 hxW (HmW.out.of_block rfl) (Kd.C_drew H0.out.1) (Kd.C_drew H0.out.2.1) (by rw [H0.out.2.2.1]; omega) (by rw [H0.out.2.2.2]; omega)
    simpa only [nodeV, H12.out.1, H12.out.2] using this
  have HCh := Lib.hid HC
  clear HC hW hbW
  refine wp_region_still_tail 13 (by kernel_rfl) (by kernel_rfl) ?_
  simp only [List.take_succ_cons, List.take_zero, List.drop_succ_cons, List.drop_zero]
  change wpStill _ _ W.drew _ _ _
  repeat still_step
  try refine wpStill_nil ?_
  change wpList _ _ _ _ _ W.drew
  go_wp2_with fail
  refine HCh.out.mono ?_
  rintro e w' ⟨r, m', rfl, hm', hK', hG, hA⟩
  have HE := Lib.hid (show _ ∧ _ ∧ _ ∧ _ from ⟨hm', hK', hG, hA⟩)
  clear hm' hK' hG hA
  go_wp2
  go_ret
  exact ⟨r, m', rfl, HE.out.1, (HKW.out.trans (Kp.drew _ _)).trans HE.out.2.1, HE.out.2.2.1, fun R r1 r2 => by rw [HD.out]; exact HE.out.2.2.2 R r1 r2⟩
end Go.Proofs.YtcljgfpcdlnlkaaDoor.Q
namespace Go.Proofs.YtcljgfpcdlnlkaaDoor.Q
open Go.RowKit Go.Proofs.YtcljgfpcdlnlkaaDoorW.PrintWords Mp
set_option maxRecDepth 100000 in
set_option maxHeartbeats 1000000 in
theorem may_5 (A : Option Addr) (g : List S37) (c : Nat) (x : S37) (A3 : Option Addr) (c3 : Nat) (A4 : Option Addr) (c4 : Nat) (w : World) (hk : KeysIn w) (hg : Kd.C k37 w A g.length g) (h3 : Kd.C Kd.string w A3 x.f3.length x.f3) (h4 : Kd.C (Kd.int .i64) w A4 x.f4.length x.f4)
    (hn3 : x.f3.length ≤ 9223372036854775807) (hn4 : x.f4.length ≤ 9223372036854775807) (hx : x.f0 = 5) :
    Calls Tryd.prog 77 #[.slice A g.length c, .agg #[.int .i64 x.f0, .int .i64 x.f1, .string x.f2, .slice A3 x.f3.length c3, .slice A4 x.f4.length c4]] w fun e w' => e = .returned (.bool (mayB g x)) ∧ Below w.heap.size w w' := by
  have H3 := Lib.hid h3
  have H4 := Lib.hid h4
  have HG := Lib.hid hg
  have HKW := Lib.hid hk
  clear h3 h4 hg hk
  have hb : Below w.heap.size w ((w.alloc (Obj.cells #[Value.slice A g.length c] 22)).alloc (Obj.cells #[Value.int IntKind.i64 x.f0, Value.int IntKind.i64 x.f1, Value.string x.f2, Value.slice A3 x.f3.length c3, Value.slice A4 x.f4.length c4] 37)) := ((Below.refl _ _).alloc (Nat.le_refl _) _).alloc (by simp) _
  have h4' := Lib.hid (Kd.C_below H4.out hb)
  have h3' := Lib.hid (Kd.C_below H3.out hb)
  have hg' := Lib.hid (Kd.C_below HG.out hb)
  have hk' := Lib.hid (HKW.out.below hb)
  clear hb
  have q1 : (x.f0 == 1) = false := by simp [hx]
  have q2 : (x.f0 == 2) = false := by simp [hx]
  have q3 : (x.f0 == 3) = false := by simp [hx]
  have q4 : (x.f0 == 4) = false := by simp [hx]
  have q5 : (x.f0 == 5) = true := by simp [hx]
  have q7 : (x.f0 == 7) = false := by simp [hx]
  have q8 : (x.f0 == 8) = false := by simp [hx]
  have q9 : (x.f0 == 9) = false := by simp [hx]
  have r5 : (x.f0 != 5) = false := by simp [hx]
  have r7 : (x.f0 != 7) = true := by simp [hx]
  have r9 : (x.f0 != 9) = true := by simp [hx]
  cases hO : x.f4.any (outB g.length) with
  | true =>
    have HB := Lib.hid (show mayB g x = false by unfold mayB; rw [if_pos (by simp [headB, hO])])
    have HO := Lib.hid hO
    clear hO hx
    go_enter Tryd.func77, Tryd.ntmps77
    go_wp2_with fail
    refine (outs_calls w.heap.size A g.length c A4 c4 x.f4 _ (by simp) h4'.out hn4).mono ?_
    rintro e w' ⟨rfl, rfl⟩
    rw [HO.out]
    go_wp2
    all_goals
      go_ret
      exact ⟨by rw [HB.out]; rfl, ((Below.refl _ _).alloc (Nat.le_refl _) _).alloc (by simp) _⟩
  | false =>
    have HO := Lib.hid hO
    by_cases c1 : x.f1 = 0
    · have n1a : (x.f1 != 0) = false := by simp [c1]
      have n1b : (x.f1 == 0) = true := by simp [c1]
      have D1 := Lib.hid c1
      clear c1
      by_cases d3 : x.f3.length = 0
      · have n3a : decide (0 < x.f3.length) = false := decide_eq_false (by omega)
        have n3b : decide (0 < (x.f3.length : Int)) = false := decide_eq_false (by omega)
        have D3 := Lib.hid d3
        clear d3
        by_cases c2 : x.f2.size = 0
        · have n2a : x.f2.toList = [] := by rw [ByteArray.toList_eq]; exact List.eq_nil_of_length_eq_zero (by simpa using c2)
          clear c2
          have hH : headB g.length x = false := by simp [headB, hO, hx, D1.out, D3.out]
          have HM := Lib.hid (show mayB g x = (decide (x.f4.length = 0) && (isNameB x.f2 || isKeyB x.f2)) by unfold mayB; rw [if_neg (by rw [hH]; exact Bool.false_ne_true), if_neg (by simp [hx]), if_pos hx])
          by_cases c5 : x.f4.length = 0
          · have n5 : ((x.f4.length : Int) == 0) = true := by simp [c5]
            have n5b : (x.f4.length == 0) = true := by simp [c5]
            cases hN : isNameB x.f2 with
            | true =>
              have HB := Lib.hid (show mayB g x = true by rw [HM.out, decide_eq_true c5, hN]; rfl)
              have HNm := Lib.hid hN
              clear hO hx hH c5 hN
              go_enter Tryd.func77, Tryd.ntmps77
              go_wp2_with fail
              refine (outs_calls w.heap.size A g.length c A4 c4 x.f4 _ (by simp) h4'.out hn4).mono ?_
              rintro e w' ⟨rfl, rfl⟩
              rw [HO.out]
              go_wp2_with fail
              refine (isName_calls x.f2 _ hk'.out).mono ?_
              rintro e w' ⟨rfl, hb1⟩
              rw [HNm.out]
              go_wp2
              go_ret
              exact ⟨by rw [HB.out]; rfl, (((Below.refl _ _).alloc (Nat.le_refl _) _).alloc (by simp) _).trans (hb1.mono (by simp; omega))⟩
            | false =>
              have HB := Lib.hid (show mayB g x = isKeyB x.f2 by rw [HM.out, decide_eq_true c5, hN]; rfl)
              have HNm := Lib.hid hN
              clear hO hx hH c5 hN
              go_enter Tryd.func77, Tryd.ntmps77
              go_wp2_with fail
              refine (outs_calls w.heap.size A g.length c A4 c4 x.f4 _ (by simp) h4'.out hn4).mono ?_
              rintro e w' ⟨rfl, rfl⟩
              rw [HO.out]
              go_wp2_with fail
              refine (isName_calls x.f2 _ hk'.out).mono ?_
              rintro e w' ⟨rfl, hb1⟩
              rw [HNm.out]
              have hk2 := Lib.hid (hk'.out.below hb1)
              have kc : w'.cell? ⟨w.heap.size + 1, 2, none⟩ = some (.string x.f2) := (hb1.cell (p := ⟨w.heap.size + 1, 2, none⟩) (by simp)).trans (by simp)
              go_wp2_with fail
              refine (isKey_calls x.f2 _ hk2.out).mono ?_
              rintro e w2 ⟨rfl, rfl⟩
              go_wp2
              go_ret
              exact ⟨by rw [HB.out]; rfl, (((Below.refl _ _).alloc (Nat.le_refl _) _).alloc (by simp) _).trans (hb1.mono (by simp; omega))⟩
          · have n5 : ((x.f4.length : Int) == 0) = false := by simp; exact fun e => c5 (by rw [e]; rfl)
            have n5b : (x.f4.length == 0) = false := by simp; exact fun e => c5 (by rw [e]; rfl)
            have HB := Lib.hid (show mayB g x = false by rw [HM.out, decide_eq_false c5]; rfl)
            clear hO hx hH c5
            go_enter Tryd.func77, Tryd.ntmps77
            go_wp2_with fail
            refine (outs_calls w.heap.size A g.length c A4 c4 x.f4 _ (by simp) h4'.out hn4).mono ?_
            rintro e w' ⟨rfl, rfl⟩
            rw [HO.out]
            go_wp2
            all_goals
              go_ret
              exact ⟨by rw [HB.out]; rfl, ((Below.refl _ _).alloc (Nat.le_refl _) _).alloc (by simp) _⟩
        · have n2a : x.f2.toList.isEmpty = false := nonempty_bytes c2
          have n2b : ¬ x.f2.toList = [] := fun e => by rw [e] at n2a; cases n2a
          clear c2
          have hH : headB g.length x = false := by simp [headB, hO, hx, D1.out, D3.out]
          have HM := Lib.hid (show mayB g x = (decide (x.f4.length = 0) && (isNameB x.f2 || isKeyB x.f2)) by unfold mayB; rw [if_neg (by rw [hH]; exact Bool.false_ne_true), if_neg (by simp [hx]), if_pos hx])
          by_cases c5 : x.f4.length = 0
          · have n5 : ((x.f4.length : Int) == 0) = true := by simp [c5]
            have n5b : (x.f4.length == 0) = true := by simp [c5]
            cases hN : isNameB x.f2 with
            | true =>
              have HB := Lib.hid (show mayB g x = true by rw [HM.out, decide_eq_true c5, hN]; rfl)
              have HNm := Lib.hid hN
              clear hO hx hH c5 hN
              go_enter Tryd.func77, Tryd.ntmps77
              go_wp2_with fail
              refine (outs_calls w.heap.size A g.length c A4 c4 x.f4 _ (by simp) h4'.out hn4).mono ?_
              rintro e w' ⟨rfl, rfl⟩
              rw [HO.out]
              go_wp2_with fail
              refine (isName_calls x.f2 _ hk'.out).mono ?_
              rintro e w' ⟨rfl, hb1⟩
              rw [HNm.out]
              go_wp2
              go_ret
              exact ⟨by rw [HB.out]; rfl, (((Below.refl _ _).alloc (Nat.le_refl _) _).alloc (by simp) _).trans (hb1.mono (by simp; omega))⟩
            | false =>
              have HB := Lib.hid (show mayB g x = isKeyB x.f2 by rw [HM.out, decide_eq_true c5, hN]; rfl)
              have HNm := Lib.hid hN
              clear hO hx hH c5 hN
              go_enter Tryd.func77, Tryd.ntmps77
              go_wp2_with fail
              refine (outs_calls w.heap.size A g.length c A4 c4 x.f4 _ (by simp) h4'.out hn4).mono ?_
              rintro e w' ⟨rfl, rfl⟩
              rw [HO.out]
              go_wp2_with fail
              refine (isName_calls x.f2 _ hk'.out).mono ?_
              rintro e w' ⟨rfl, hb1⟩
              rw [HNm.out]
              have hk2 := Lib.hid (hk'.out.below hb1)
              have kc : w'.cell? ⟨w.heap.size + 1, 2, none⟩ = some (.string x.f2) := (hb1.cell (p := ⟨w.heap.size + 1, 2, none⟩) (by simp)).trans (by simp)
              go_wp2_with fail
              refine (isKey_calls x.f2 _ hk2.out).mono ?_
              rintro e w2 ⟨rfl, rfl⟩
              go_wp2
              go_ret
              exact ⟨by rw [HB.out]; rfl, (((Below.refl _ _).alloc (Nat.le_refl _) _).alloc (by simp) _).trans (hb1.mono (by simp; omega))⟩
          · have n5 : ((x.f4.length : Int) == 0) = false := by simp; exact fun e => c5 (by rw [e]; rfl)
            have n5b : (x.f4.length == 0) = false := by simp; exact fun e => c5 (by rw [e]; rfl)
            have HB := Lib.hid (show mayB g x = false by rw [HM.out, decide_eq_false c5]; rfl)
            clear hO hx hH c5
            go_enter Tryd.func77, Tryd.ntmps77
            go_wp2_with fail
            refine (outs_calls w.heap.size A g.length c A4 c4 x.f4 _ (by simp) h4'.out hn4).mono ?_
            rintro e w' ⟨rfl, rfl⟩
            rw [HO.out]
            go_wp2
            all_goals
              go_ret
              exact ⟨by rw [HB.out]; rfl, ((Below.refl _ _).alloc (Nat.le_refl _) _).alloc (by simp) _⟩
      · have n3a : decide (0 < x.f3.length) = true := decide_eq_true (by omega)
        have n3b : decide (0 < (x.f3.length : Int)) = true := decide_eq_true (by omega)
        have HB := Lib.hid (show mayB g x = false by unfold mayB; rw [if_pos (by simp [headB, hO, hx]; omega)])
        clear hO hx d3
        go_enter Tryd.func77, Tryd.ntmps77
        go_wp2_with fail
        refine (outs_calls w.heap.size A g.length c A4 c4 x.f4 _ (by simp) h4'.out hn4).mono ?_
        rintro e w' ⟨rfl, rfl⟩
        rw [HO.out]
        go_wp2
        all_goals
          go_ret
          exact ⟨by rw [HB.out]; rfl, ((Below.refl _ _).alloc (Nat.le_refl _) _).alloc (by simp) _⟩
    · have n1a : (x.f1 != 0) = true := by simp [c1]
      have n1b : (x.f1 == 0) = false := by simp [c1]
      have HB := Lib.hid (show mayB g x = false by unfold mayB; rw [if_pos (by simp [headB, hO, c1, hx])])
      clear hO hx c1
      go_enter Tryd.func77, Tryd.ntmps77
      go_wp2_with fail
      refine (outs_calls w.heap.size A g.length c A4 c4 x.f4 _ (by simp) h4'.out hn4).mono ?_
      rintro e w' ⟨rfl, rfl⟩
      rw [HO.out]
      go_wp2
      all_goals
        go_ret
        exact ⟨by rw [HB.out]; rfl, ((Below.refl _ _).alloc (Nat.le_refl _) _).alloc (by simp) _⟩

set_option maxRecDepth 100000 in
set_option maxHeartbeats 1000000 in
theorem may_7 (A : Option Addr) (g : List S37) (c : Nat) (x : S37) (A3 : Option Addr) (c3 : Nat) (A4 : Option Addr) (c4 : Nat) (w : World) (hk : KeysIn w) (hg : Kd.C k37 w A g.length g) (h3 : Kd.C Kd.string w A3 x.f3.length x.f3) (h4 : Kd.C (Kd.int .i64) w A4 x.f4.length x.f4)
    (hn3 : x.f3.length ≤ 9223372036854775807) (hn4 : x.f4.length ≤ 9223372036854775807) (hx : x.f0 = 7) :
    Calls Tryd.prog 77 #[.slice A g.length c, .agg #[.int .i64 x.f0, .int .i64 x.f1, .string x.f2, .slice A3 x.f3.length c3, .slice A4 x.f4.length c4]] w fun e w' => e = .returned (.bool (mayB g x)) ∧ Below w.heap.size w w' := by
  have H3 := Lib.hid h3
  have H4 := Lib.hid h4
  have HG := Lib.hid hg
  have HKW := Lib.hid hk
  clear h3 h4 hg hk
  have hb : Below w.heap.size w ((w.alloc (Obj.cells #[Value.slice A g.length c] 22)).alloc (Obj.cells #[Value.int IntKind.i64 x.f0, Value.int IntKind.i64 x.f1, Value.string x.f2, Value.slice A3 x.f3.length c3, Value.slice A4 x.f4.length c4] 37)) := ((Below.refl _ _).alloc (Nat.le_refl _) _).alloc (by simp) _
  have h4' := Lib.hid (Kd.C_below H4.out hb)
  have h3' := Lib.hid (Kd.C_below H3.out hb)
  have hg' := Lib.hid (Kd.C_below HG.out hb)
  have hk' := Lib.hid (HKW.out.below hb)
  clear hb
  have q1 : (x.f0 == 1) = false := by simp [hx]
  have q2 : (x.f0 == 2) = false := by simp [hx]
  have q3 : (x.f0 == 3) = false := by simp [hx]
  have q4 : (x.f0 == 4) = false := by simp [hx]
  have q5 : (x.f0 == 5) = false := by simp [hx]
  have q7 : (x.f0 == 7) = true := by simp [hx]
  have q8 : (x.f0 == 8) = false := by simp [hx]
  have q9 : (x.f0 == 9) = false := by simp [hx]
  have r5 : (x.f0 != 5) = true := by simp [hx]
  have r7 : (x.f0 != 7) = false := by simp [hx]
  have r9 : (x.f0 != 9) = true := by simp [hx]
  cases hO : x.f4.any (outB g.length) with
  | true =>
    have HB := Lib.hid (show mayB g x = false by unfold mayB; rw [if_pos (by simp [headB, hO])])
    have HO := Lib.hid hO
    clear hO hx
    go_enter Tryd.func77, Tryd.ntmps77
    go_wp2_with fail
    refine (outs_calls w.heap.size A g.length c A4 c4 x.f4 _ (by simp) h4'.out hn4).mono ?_
    rintro e w' ⟨rfl, rfl⟩
    rw [HO.out]
    go_wp2
    all_goals
      go_ret
      exact ⟨by rw [HB.out]; rfl, ((Below.refl _ _).alloc (Nat.le_refl _) _).alloc (by simp) _⟩
  | false =>
    have HO := Lib.hid hO
    by_cases c1 : x.f1 = 0
    · have n1a : (x.f1 != 0) = false := by simp [c1]
      have n1b : (x.f1 == 0) = true := by simp [c1]
      have D1 := Lib.hid c1
      clear c1
      by_cases c2 : x.f2.size = 0
      · have n2a : x.f2.toList = [] := by rw [ByteArray.toList_eq]; exact List.eq_nil_of_length_eq_zero (by simpa using c2)
        have D2 := Lib.hid c2
        clear c2
        by_cases d3 : x.f3.length = 0
        · have n3a : decide (0 < x.f3.length) = false := decide_eq_false (by omega)
          have n3b : decide (0 < (x.f3.length : Int)) = false := decide_eq_false (by omega)
          clear d3
          have hH : headB g.length x = false := by simp [headB, hO, hx, D1.out, D2.out]
          have HM := Lib.hid (show mayB g x = (decide (x.f4.length = x.f3.length) && decide (x.f3.length ≤ 16) && risingB x.f3 && !(x.f3.any fun s => !isNameB s)) by unfold mayB; rw [if_neg (by rw [hH]; exact Bool.false_ne_true), if_neg (by simp [hx]), if_neg (by simp [hx]), if_pos hx])
          by_cases c5 : x.f4.length = x.f3.length
          · have n5 : ((x.f4.length : Int) == (x.f3.length : Int)) = true := by simp [c5]
            have n5b : (x.f4.length == x.f3.length) = true := by simp [c5]
            by_cases c6 : x.f3.length ≤ 16
            · have n6 : decide ((x.f3.length : Int) ≤ 16) = true := decide_eq_true (by omega)
              have n6b : decide (x.f3.length ≤ 16) = true := decide_eq_true (by omega)
              cases hR : risingB x.f3 with
              | true =>
                have HB := Lib.hid (show mayB g x = !(x.f3.any fun s => !isNameB s) by rw [HM.out, decide_eq_true c5, decide_eq_true c6, hR]; rfl)
                have HR := Lib.hid hR
                have C5 := Lib.hid c5
                clear hO hx hH c5 c6 hR
                go_enter Tryd.func77, Tryd.ntmps77
                go_wp2_with fail
                refine (outs_calls w.heap.size A g.length c A4 c4 x.f4 _ (by simp) h4'.out hn4).mono ?_
                rintro e w' ⟨rfl, rfl⟩
                rw [HO.out]
                go_wp2_with fail
                refine (rising_calls A3 c3 x.f3 _ h3'.out hn3).mono ?_
                rintro e w' ⟨rfl, nr, rfl⟩
                rw [HR.out]
                have h3'' := Lib.hid (Kd.C_drewN h3'.out nr)
                have hk'' := Lib.hid (show KeysIn (World.drewN ((w.alloc (Obj.cells #[Value.slice A g.length c] 22)).alloc (Obj.cells #[Value.int IntKind.i64 x.f0, Value.int IntKind.i64 x.f1, Value.string x.f2, Value.slice A3 x.f3.length c3, Value.slice A4 x.f4.length c4] 37)) nr) from hk'.out)
                go_wp2_with fail
                refine (names_calls A3 c3 x.f3 _ hk''.out h3''.out hn3).mono ?_
                rintro e w' ⟨rfl, hb1⟩
                go_wp2
                go_ret
                exact ⟨by rw [HB.out]; rfl, (pw_below_drewN (((Below.refl _ _).alloc (Nat.le_refl _) _).alloc (by simp) _) nr).trans (hb1.mono (by simp; omega))⟩
              | false =>
                have HB := Lib.hid (show mayB g x = false by rw [HM.out, decide_eq_true c5, decide_eq_true c6, hR]; rfl)
                have HR := Lib.hid hR
                clear hO hx hH c5 c6 hR
                go_enter Tryd.func77, Tryd.ntmps77
                go_wp2_with fail
                refine (outs_calls w.heap.size A g.length c A4 c4 x.f4 _ (by simp) h4'.out hn4).mono ?_
                rintro e w' ⟨rfl, rfl⟩
                rw [HO.out]
                go_wp2_with fail
                refine (rising_calls A3 c3 x.f3 _ h3'.out hn3).mono ?_
                rintro e w' ⟨rfl, nr, rfl⟩
                rw [HR.out]
                go_wp2
                go_ret
                exact ⟨by rw [HB.out]; rfl, pw_below_drewN (((Below.refl _ _).alloc (Nat.le_refl _) _).alloc (by simp) _) _⟩
            · have n6 : decide ((x.f3.length : Int) ≤ 16) = false := decide_eq_false (by omega)
              have n6b : decide (x.f3.length ≤ 16) = false := decide_eq_false (by omega)
              have HB := Lib.hid (show mayB g x = false by rw [HM.out, decide_eq_true c5, decide_eq_false c6]; rfl)
              clear hO hx hH c5 c6
              go_enter Tryd.func77, Tryd.ntmps77
              go_wp2_with fail
              refine (outs_calls w.heap.size A g.length c A4 c4 x.f4 _ (by simp) h4'.out hn4).mono ?_
              rintro e w' ⟨rfl, rfl⟩
              rw [HO.out]
              go_wp2_with fail
              refine (rising_calls A3 c3 x.f3 _ h3'.out hn3).mono ?_
              rintro e w' ⟨rfl, nr, rfl⟩
              go_wp2
              go_ret
              exact ⟨by rw [HB.out]; rfl, pw_below_drewN (((Below.refl _ _).alloc (Nat.le_refl _) _).alloc (by simp) _) _⟩
          · have n5 : ((x.f4.length : Int) == (x.f3.length : Int)) = false := by simp; omega
            have n5b : (x.f4.length == x.f3.length) = false := by simp; omega
            have HB := Lib.hid (show mayB g x = false by rw [HM.out, decide_eq_false c5]; rfl)
            clear hO hx hH c5
            go_enter Tryd.func77, Tryd.ntmps77
            go_wp2_with fail
            refine (outs_calls w.heap.size A g.length c A4 c4 x.f4 _ (by simp) h4'.out hn4).mono ?_
            rintro e w' ⟨rfl, rfl⟩
            rw [HO.out]
            go_wp2_with fail
            refine (rising_calls A3 c3 x.f3 _ h3'.out hn3).mono ?_
            rintro e w' ⟨rfl, nr, rfl⟩
            go_wp2
            go_ret
            exact ⟨by rw [HB.out]; rfl, pw_below_drewN (((Below.refl _ _).alloc (Nat.le_refl _) _).alloc (by simp) _) _⟩
        · have n3a : decide (0 < x.f3.length) = true := decide_eq_true (by omega)
          have n3b : decide (0 < (x.f3.length : Int)) = true := decide_eq_true (by omega)
          clear d3
          have hH : headB g.length x = false := by simp [headB, hO, hx, D1.out, D2.out]
          have HM := Lib.hid (show mayB g x = (decide (x.f4.length = x.f3.length) && decide (x.f3.length ≤ 16) && risingB x.f3 && !(x.f3.any fun s => !isNameB s)) by unfold mayB; rw [if_neg (by rw [hH]; exact Bool.false_ne_true), if_neg (by simp [hx]), if_neg (by simp [hx]), if_pos hx])
          by_cases c5 : x.f4.length = x.f3.length
          · have n5 : ((x.f4.length : Int) == (x.f3.length : Int)) = true := by simp [c5]
            have n5b : (x.f4.length == x.f3.length) = true := by simp [c5]
            by_cases c6 : x.f3.length ≤ 16
            · have n6 : decide ((x.f3.length : Int) ≤ 16) = true := decide_eq_true (by omega)
              have n6b : decide (x.f3.length ≤ 16) = true := decide_eq_true (by omega)
              cases hR : risingB x.f3 with
              | true =>
                have HB := Lib.hid (show mayB g x = !(x.f3.any fun s => !isNameB s) by rw [HM.out, decide_eq_true c5, decide_eq_true c6, hR]; rfl)
                have HR := Lib.hid hR
                have C5 := Lib.hid c5
                clear hO hx hH c5 c6 hR
                go_enter Tryd.func77, Tryd.ntmps77
                go_wp2_with fail
                refine (outs_calls w.heap.size A g.length c A4 c4 x.f4 _ (by simp) h4'.out hn4).mono ?_
                rintro e w' ⟨rfl, rfl⟩
                rw [HO.out]
                go_wp2_with fail
                refine (rising_calls A3 c3 x.f3 _ h3'.out hn3).mono ?_
                rintro e w' ⟨rfl, nr, rfl⟩
                rw [HR.out]
                have h3'' := Lib.hid (Kd.C_drewN h3'.out nr)
                have hk'' := Lib.hid (show KeysIn (World.drewN ((w.alloc (Obj.cells #[Value.slice A g.length c] 22)).alloc (Obj.cells #[Value.int IntKind.i64 x.f0, Value.int IntKind.i64 x.f1, Value.string x.f2, Value.slice A3 x.f3.length c3, Value.slice A4 x.f4.length c4] 37)) nr) from hk'.out)
                go_wp2_with fail
                refine (names_calls A3 c3 x.f3 _ hk''.out h3''.out hn3).mono ?_
                rintro e w' ⟨rfl, hb1⟩
                go_wp2
                go_ret
                exact ⟨by rw [HB.out]; rfl, (pw_below_drewN (((Below.refl _ _).alloc (Nat.le_refl _) _).alloc (by simp) _) nr).trans (hb1.mono (by simp; omega))⟩
              | false =>
                have HB := Lib.hid (show mayB g x = false by rw [HM.out, decide_eq_true c5, decide_eq_true c6, hR]; rfl)
                have HR := Lib.hid hR
                clear hO hx hH c5 c6 hR
                go_enter Tryd.func77, Tryd.ntmps77
                go_wp2_with fail
                refine (outs_calls w.heap.size A g.length c A4 c4 x.f4 _ (by simp) h4'.out hn4).mono ?_
                rintro e w' ⟨rfl, rfl⟩
                rw [HO.out]
                go_wp2_with fail
                refine (rising_calls A3 c3 x.f3 _ h3'.out hn3).mono ?_
                rintro e w' ⟨rfl, nr, rfl⟩
                rw [HR.out]
                go_wp2
                go_ret
                exact ⟨by rw [HB.out]; rfl, pw_below_drewN (((Below.refl _ _).alloc (Nat.le_refl _) _).alloc (by simp) _) _⟩
            · have n6 : decide ((x.f3.length : Int) ≤ 16) = false := decide_eq_false (by omega)
              have n6b : decide (x.f3.length ≤ 16) = false := decide_eq_false (by omega)
              have HB := Lib.hid (show mayB g x = false by rw [HM.out, decide_eq_true c5, decide_eq_false c6]; rfl)
              clear hO hx hH c5 c6
              go_enter Tryd.func77, Tryd.ntmps77
              go_wp2_with fail
              refine (outs_calls w.heap.size A g.length c A4 c4 x.f4 _ (by simp) h4'.out hn4).mono ?_
              rintro e w' ⟨rfl, rfl⟩
              rw [HO.out]
              go_wp2_with fail
              refine (rising_calls A3 c3 x.f3 _ h3'.out hn3).mono ?_
              rintro e w' ⟨rfl, nr, rfl⟩
              go_wp2
              go_ret
              exact ⟨by rw [HB.out]; rfl, pw_below_drewN (((Below.refl _ _).alloc (Nat.le_refl _) _).alloc (by simp) _) _⟩
          · have n5 : ((x.f4.length : Int) == (x.f3.length : Int)) = false := by simp; omega
            have n5b : (x.f4.length == x.f3.length) = false := by simp; omega
            have HB := Lib.hid (show mayB g x = false by rw [HM.out, decide_eq_false c5]; rfl)
            clear hO hx hH c5
            go_enter Tryd.func77, Tryd.ntmps77
            go_wp2_with fail
            refine (outs_calls w.heap.size A g.length c A4 c4 x.f4 _ (by simp) h4'.out hn4).mono ?_
            rintro e w' ⟨rfl, rfl⟩
            rw [HO.out]
            go_wp2_with fail
            refine (rising_calls A3 c3 x.f3 _ h3'.out hn3).mono ?_
            rintro e w' ⟨rfl, nr, rfl⟩
            go_wp2
            go_ret
            exact ⟨by rw [HB.out]; rfl, pw_below_drewN (((Below.refl _ _).alloc (Nat.le_refl _) _).alloc (by simp) _) _⟩
      · have n2a : x.f2.toList.isEmpty = false := nonempty_bytes c2
        have n2b : ¬ x.f2.toList = [] := fun e => by rw [e] at n2a; cases n2a
        have HB := Lib.hid (show mayB g x = false by unfold mayB; rw [if_pos (by simp [headB, hO, hx]; omega)])
        clear hO hx c2
        go_enter Tryd.func77, Tryd.ntmps77
        go_wp2_with fail
        refine (outs_calls w.heap.size A g.length c A4 c4 x.f4 _ (by simp) h4'.out hn4).mono ?_
        rintro e w' ⟨rfl, rfl⟩
        rw [HO.out]
        go_wp2
        all_goals
          go_ret
          exact ⟨by rw [HB.out]; rfl, ((Below.refl _ _).alloc (Nat.le_refl _) _).alloc (by simp) _⟩
    · have n1a : (x.f1 != 0) = true := by simp [c1]
      have n1b : (x.f1 == 0) = false := by simp [c1]
      have HB := Lib.hid (show mayB g x = false by unfold mayB; rw [if_pos (by simp [headB, hO, c1, hx])])
      clear hO hx c1
      go_enter Tryd.func77, Tryd.ntmps77
      go_wp2_with fail
      refine (outs_calls w.heap.size A g.length c A4 c4 x.f4 _ (by simp) h4'.out hn4).mono ?_
      rintro e w' ⟨rfl, rfl⟩
      rw [HO.out]
      go_wp2
      all_goals
        go_ret
        exact ⟨by rw [HB.out]; rfl, ((Below.refl _ _).alloc (Nat.le_refl _) _).alloc (by simp) _⟩

set_option maxRecDepth 100000 in
set_option maxHeartbeats 1000000 in
theorem may_9 (A : Option Addr) (g : List S37) (c : Nat) (x : S37) (A3 : Option Addr) (c3 : Nat) (A4 : Option Addr) (c4 : Nat) (w : World) (hk : KeysIn w) (hg : Kd.C k37 w A g.length g) (h3 : Kd.C Kd.string w A3 x.f3.length x.f3) (h4 : Kd.C (Kd.int .i64) w A4 x.f4.length x.f4)
    (hn3 : x.f3.length ≤ 9223372036854775807) (hn4 : x.f4.length ≤ 9223372036854775807) (hx : x.f0 = 9) :
    Calls Tryd.prog 77 #[.slice A g.length c, .agg #[.int .i64 x.f0, .int .i64 x.f1, .string x.f2, .slice A3 x.f3.length c3, .slice A4 x.f4.length c4]] w fun e w' => e = .returned (.bool (mayB g x)) ∧ Below w.heap.size w w' := by
  have H3 := Lib.hid h3
  have H4 := Lib.hid h4
  have HG := Lib.hid hg
  have HKW := Lib.hid hk
  clear h3 h4 hg hk
  have hb : Below w.heap.size w ((w.alloc (Obj.cells #[Value.slice A g.length c] 22)).alloc (Obj.cells #[Value.int IntKind.i64 x.f0, Value.int IntKind.i64 x.f1, Value.string x.f2, Value.slice A3 x.f3.length c3, Value.slice A4 x.f4.length c4] 37)) := ((Below.refl _ _).alloc (Nat.le_refl _) _).alloc (by simp) _
  have h4' := Lib.hid (Kd.C_below H4.out hb)
  have h3' := Lib.hid (Kd.C_below H3.out hb)
  have hg' := Lib.hid (Kd.C_below HG.out hb)
  have hk' := Lib.hid (HKW.out.below hb)
  clear hb
  have q1 : (x.f0 == 1) = false := by simp [hx]
  have q2 : (x.f0 == 2) = false := by simp [hx]
  have q3 : (x.f0 == 3) = false := by simp [hx]
  have q4 : (x.f0 == 4) = false := by simp [hx]
  have q5 : (x.f0 == 5) = false := by simp [hx]
  have q7 : (x.f0 == 7) = false := by simp [hx]
  have q8 : (x.f0 == 8) = false := by simp [hx]
  have q9 : (x.f0 == 9) = true := by simp [hx]
  have r5 : (x.f0 != 5) = true := by simp [hx]
  have r7 : (x.f0 != 7) = true := by simp [hx]
  have r9 : (x.f0 != 9) = false := by simp [hx]
  cases hO : x.f4.any (outB g.length) with
  | true =>
    have HB := Lib.hid (show mayB g x = false by unfold mayB; rw [if_pos (by simp [headB, hO])])
    have HO := Lib.hid hO
    clear hO hx
    go_enter Tryd.func77, Tryd.ntmps77
    go_wp2_with fail
    refine (outs_calls w.heap.size A g.length c A4 c4 x.f4 _ (by simp) h4'.out hn4).mono ?_
    rintro e w' ⟨rfl, rfl⟩
    rw [HO.out]
    go_wp2
    all_goals
      go_ret
      exact ⟨by rw [HB.out]; rfl, ((Below.refl _ _).alloc (Nat.le_refl _) _).alloc (by simp) _⟩
  | false =>
    have HO := Lib.hid hO
    by_cases c2 : x.f2.size = 0
    · have n2a : x.f2.toList = [] := by rw [ByteArray.toList_eq]; exact List.eq_nil_of_length_eq_zero (by simpa using c2)
      have D2 := Lib.hid c2
      clear c2
      by_cases d3 : x.f3.length = 0
      · have n3a : decide (0 < x.f3.length) = false := decide_eq_false (by omega)
        have n3b : decide (0 < (x.f3.length : Int)) = false := decide_eq_false (by omega)
        have D3 := Lib.hid d3
        clear d3
        by_cases c1 : x.f1 = 0
        · have n1a : (x.f1 != 0) = false := by simp [c1]
          have n1b : (x.f1 == 0) = true := by simp [c1]
          clear c1
          have hH : headB g.length x = false := by simp [headB, hO, hx, D2.out, D3.out]
          have HM := Lib.hid (show mayB g x = (decide (0 ≤ x.f1) && decide (x.f1 < 16) && decide (x.f4.length = 1)) by unfold mayB; rw [if_neg (by rw [hH]; exact Bool.false_ne_true), if_neg (by simp [hx]), if_neg (by simp [hx]), if_neg (by simp [hx]), if_neg (by simp [hx]), if_pos hx])
          by_cases c5 : 0 ≤ x.f1
          · have n5 : decide (0 ≤ x.f1) = true := decide_eq_true c5
            by_cases c6 : x.f1 < 16
            · have n6 : decide (x.f1 < 16) = true := decide_eq_true c6
              by_cases c7 : x.f4.length = 1
              · have n7 : ((x.f4.length : Int) == 1) = true := by simp [c7]
                have n7b : (x.f4.length == 1) = true := by simp [c7]
                have HB := Lib.hid (show mayB g x = true by rw [HM.out, n5, n6, decide_eq_true c7]; rfl)
                clear hO hx hH c5 c6 c7
                go_enter Tryd.func77, Tryd.ntmps77
                go_wp2_with fail
                refine (outs_calls w.heap.size A g.length c A4 c4 x.f4 _ (by simp) h4'.out hn4).mono ?_
                rintro e w' ⟨rfl, rfl⟩
                rw [HO.out]
                go_wp2
                all_goals
                  go_ret
                  exact ⟨by rw [HB.out]; rfl, ((Below.refl _ _).alloc (Nat.le_refl _) _).alloc (by simp) _⟩
              · have n7 : ((x.f4.length : Int) == 1) = false := by simp; omega
                have n7b : (x.f4.length == 1) = false := by simp; omega
                have HB := Lib.hid (show mayB g x = false by rw [HM.out, n5, n6, decide_eq_false c7]; rfl)
                clear hO hx hH c5 c6 c7
                go_enter Tryd.func77, Tryd.ntmps77
                go_wp2_with fail
                refine (outs_calls w.heap.size A g.length c A4 c4 x.f4 _ (by simp) h4'.out hn4).mono ?_
                rintro e w' ⟨rfl, rfl⟩
                rw [HO.out]
                go_wp2
                all_goals
                  go_ret
                  exact ⟨by rw [HB.out]; rfl, ((Below.refl _ _).alloc (Nat.le_refl _) _).alloc (by simp) _⟩
            · have n6 : decide (x.f1 < 16) = false := decide_eq_false c6
              have HB := Lib.hid (show mayB g x = false by rw [HM.out, n5, n6]; rfl)
              clear hO hx hH c5 c6
              go_enter Tryd.func77, Tryd.ntmps77
              go_wp2_with fail
              refine (outs_calls w.heap.size A g.length c A4 c4 x.f4 _ (by simp) h4'.out hn4).mono ?_
              rintro e w' ⟨rfl, rfl⟩
              rw [HO.out]
              go_wp2
              all_goals
                go_ret
                exact ⟨by rw [HB.out]; rfl, ((Below.refl _ _).alloc (Nat.le_refl _) _).alloc (by simp) _⟩
          · have n5 : decide (0 ≤ x.f1) = false := decide_eq_false c5
            have HB := Lib.hid (show mayB g x = false by rw [HM.out, n5]; rfl)
            clear hO hx hH c5
            go_enter Tryd.func77, Tryd.ntmps77
            go_wp2_with fail
            refine (outs_calls w.heap.size A g.length c A4 c4 x.f4 _ (by simp) h4'.out hn4).mono ?_
            rintro e w' ⟨rfl, rfl⟩
            rw [HO.out]
            go_wp2
            all_goals
              go_ret
              exact ⟨by rw [HB.out]; rfl, ((Below.refl _ _).alloc (Nat.le_refl _) _).alloc (by simp) _⟩
        · have n1a : (x.f1 != 0) = true := by simp [c1]
          have n1b : (x.f1 == 0) = false := by simp [c1]
          clear c1
          have hH : headB g.length x = false := by simp [headB, hO, hx, D2.out, D3.out]
          have HM := Lib.hid (show mayB g x = (decide (0 ≤ x.f1) && decide (x.f1 < 16) && decide (x.f4.length = 1)) by unfold mayB; rw [if_neg (by rw [hH]; exact Bool.false_ne_true), if_neg (by simp [hx]), if_neg (by simp [hx]), if_neg (by simp [hx]), if_neg (by simp [hx]), if_pos hx])
          by_cases c5 : 0 ≤ x.f1
          · have n5 : decide (0 ≤ x.f1) = true := decide_eq_true c5
            by_cases c6 : x.f1 < 16
            · have n6 : decide (x.f1 < 16) = true := decide_eq_true c6
              by_cases c7 : x.f4.length = 1
              · have n7 : ((x.f4.length : Int) == 1) = true := by simp [c7]
                have n7b : (x.f4.length == 1) = true := by simp [c7]
                have HB := Lib.hid (show mayB g x = true by rw [HM.out, n5, n6, decide_eq_true c7]; rfl)
                clear hO hx hH c5 c6 c7
                go_enter Tryd.func77, Tryd.ntmps77
                go_wp2_with fail
                refine (outs_calls w.heap.size A g.length c A4 c4 x.f4 _ (by simp) h4'.out hn4).mono ?_
                rintro e w' ⟨rfl, rfl⟩
                rw [HO.out]
                go_wp2
                all_goals
                  go_ret
                  exact ⟨by rw [HB.out]; rfl, ((Below.refl _ _).alloc (Nat.le_refl _) _).alloc (by simp) _⟩
              · have n7 : ((x.f4.length : Int) == 1) = false := by simp; omega
                have n7b : (x.f4.length == 1) = false := by simp; omega
                have HB := Lib.hid (show mayB g x = false by rw [HM.out, n5, n6, decide_eq_false c7]; rfl)
                clear hO hx hH c5 c6 c7
                go_enter Tryd.func77, Tryd.ntmps77
                go_wp2_with fail
                refine (outs_calls w.heap.size A g.length c A4 c4 x.f4 _ (by simp) h4'.out hn4).mono ?_
                rintro e w' ⟨rfl, rfl⟩
                rw [HO.out]
                go_wp2
                all_goals
                  go_ret
                  exact ⟨by rw [HB.out]; rfl, ((Below.refl _ _).alloc (Nat.le_refl _) _).alloc (by simp) _⟩
            · have n6 : decide (x.f1 < 16) = false := decide_eq_false c6
              have HB := Lib.hid (show mayB g x = false by rw [HM.out, n5, n6]; rfl)
              clear hO hx hH c5 c6
              go_enter Tryd.func77, Tryd.ntmps77
              go_wp2_with fail
              refine (outs_calls w.heap.size A g.length c A4 c4 x.f4 _ (by simp) h4'.out hn4).mono ?_
              rintro e w' ⟨rfl, rfl⟩
              rw [HO.out]
              go_wp2
              all_goals
                go_ret
                exact ⟨by rw [HB.out]; rfl, ((Below.refl _ _).alloc (Nat.le_refl _) _).alloc (by simp) _⟩
          · have n5 : decide (0 ≤ x.f1) = false := decide_eq_false c5
            have HB := Lib.hid (show mayB g x = false by rw [HM.out, n5]; rfl)
            clear hO hx hH c5
            go_enter Tryd.func77, Tryd.ntmps77
            go_wp2_with fail
            refine (outs_calls w.heap.size A g.length c A4 c4 x.f4 _ (by simp) h4'.out hn4).mono ?_
            rintro e w' ⟨rfl, rfl⟩
            rw [HO.out]
            go_wp2
            all_goals
              go_ret
              exact ⟨by rw [HB.out]; rfl, ((Below.refl _ _).alloc (Nat.le_refl _) _).alloc (by simp) _⟩
      · have n3a : decide (0 < x.f3.length) = true := decide_eq_true (by omega)
        have n3b : decide (0 < (x.f3.length : Int)) = true := decide_eq_true (by omega)
        have HB := Lib.hid (show mayB g x = false by unfold mayB; rw [if_pos (by simp [headB, hO, hx]; omega)])
        clear hO hx d3
        go_enter Tryd.func77, Tryd.ntmps77
        go_wp2_with fail
        refine (outs_calls w.heap.size A g.length c A4 c4 x.f4 _ (by simp) h4'.out hn4).mono ?_
        rintro e w' ⟨rfl, rfl⟩
        rw [HO.out]
        go_wp2
        all_goals
          go_ret
          exact ⟨by rw [HB.out]; rfl, ((Below.refl _ _).alloc (Nat.le_refl _) _).alloc (by simp) _⟩
    · have n2a : x.f2.toList.isEmpty = false := nonempty_bytes c2
      have n2b : ¬ x.f2.toList = [] := fun e => by rw [e] at n2a; cases n2a
      have HB := Lib.hid (show mayB g x = false by unfold mayB; rw [if_pos (by simp [headB, hO, hx]; omega)])
      clear hO hx c2
      go_enter Tryd.func77, Tryd.ntmps77
      go_wp2_with fail
      refine (outs_calls w.heap.size A g.length c A4 c4 x.f4 _ (by simp) h4'.out hn4).mono ?_
      rintro e w' ⟨rfl, rfl⟩
      rw [HO.out]
      go_wp2
      all_goals
        go_ret
        exact ⟨by rw [HB.out]; rfl, ((Below.refl _ _).alloc (Nat.le_refl _) _).alloc (by simp) _⟩

end Go.Proofs.YtcljgfpcdlnlkaaDoor.Q
namespace Go.Proofs.YtcljgfpcdlnlkaaDoor.Q
open Go.RowKit Go.Proofs.YtcljgfpcdlnlkaaDoorW.PrintWords Mp
theorem zero3m (w : World) : (zeroValue 3).run Tryd.prog w = .ok (.int .i64 0) w := by kernel_rfl
theorem in_of_outs {n : Nat} {l : List Int} (h : l.any (outB n) = false) (k : Nat) (hk : k < l.length) : 0 ≤ rd l k ∧ rd l k < n := by
  have := List.any_eq_false.1 h (l.getD k 0) (by rw [List.getD_eq_getElem?_getD, List.getElem?_eq_getElem hk]; exact List.getElem_mem _)
  simp only [outB, Bool.or_eq_true, decide_eq_true_eq, not_or] at this
  show 0 ≤ l.getD k 0 ∧ l.getD k 0 < n
  omega
/-- Each number once, as it comes first. -/
def uniq (l : List Int) : List Int := l.foldl (fun ks k => if k ∈ ks then ks else ks ++ [k]) []
theorem uniq_snoc (l : List Int) (k : Int) : uniq (l ++ [k]) = if k ∈ uniq l then uniq l else uniq l ++ [k] := by unfold uniq; rw [List.foldl_append]; rfl
theorem rd_mem {l : List Int} {k : Nat} (hk : k < l.length) : rd l k ∈ l := by
  unfold rd
  rw [Int.toNat_natCast, List.getD_eq_getElem?_getD, List.getElem?_eq_getElem hk]
  exact List.getElem_mem _
theorem take_rd {l : List Int} {k : Nat} (hk : k < l.length) : l.take (k + 1) = l.take k ++ [rd l k] := by
  unfold rd
  rw [Int.toNat_natCast, List.getD_eq_getElem?_getD, List.getElem?_eq_getElem hk, List.take_succ_eq_append_getElem hk]
  rfl
theorem uniq_spec (l : List Int) : ∀ ks : List Int, (l.foldl (fun ks k => if k ∈ ks then ks else ks ++ [k]) ks).length ≤ ks.length + l.length ∧
    ((l.foldl (fun ks k => if k ∈ ks then ks else ks ++ [k]) ks).length = ks.length + l.length ↔ (∀ k ∈ l, k ∉ ks) ∧ distinctB l = true) := by
  induction l with
  | nil => intro ks; simp [distinctB]
  | cons x l ih =>
    intro ks
    simp only [List.foldl_cons, List.length_cons]
    by_cases h : x ∈ ks
    · rw [if_pos h]
      have := ih ks
      refine ⟨by omega, ⟨fun e => by omega, fun e => absurd h (e.1 x List.mem_cons_self)⟩⟩
    · rw [if_neg h]
      have := ih (ks ++ [x])
      rw [List.length_append] at this
      simp only [List.length_singleton] at this
      refine ⟨by omega, ?_⟩
      rw [show ks.length + (l.length + 1) = ks.length + 1 + l.length by omega, this.2]
      simp only [distinctB, Bool.and_eq_true, Bool.not_eq_true', List.mem_append, List.mem_cons, List.not_mem_nil, or_false, forall_eq_or_imp, h, not_false_eq_true, true_and]
      constructor
      · rintro ⟨h1, h2⟩
        refine ⟨fun k hk e => h1 k hk (.inl e), ?_, h2⟩
        simpa using fun e => h1 x e (.inr rfl)
      · rintro ⟨h1, h2, h3⟩
        refine ⟨fun k hk e => ?_, h3⟩
        rcases e with e | e
        · exact h1 k hk e
        · subst e
          simp [hk] at h2
theorem uniq_distinct (l : List Int) : distinctB l = decide ((uniq l).length = l.length) := by
  have := (uniq_spec l []).2
  simp only [List.length_nil, Nat.zero_add, List.not_mem_nil, not_false_eq_true, implies_true, true_and] at this
  rw [Bool.eq_iff_iff, decide_eq_true_iff]
  exact this.symm
set_option maxRecDepth 100000 in
set_option maxHeartbeats 1000000 in
theorem may_8 (A : Option Addr) (g : List S37) (c : Nat) (x : S37) (A3 : Option Addr) (c3 : Nat) (A4 : Option Addr) (c4 : Nat) (w : World) (hk : KeysIn w) (hg : Kd.C k37 w A g.length g) (h3 : Kd.C Kd.string w A3 x.f3.length x.f3) (h4 : Kd.C (Kd.int .i64) w A4 x.f4.length x.f4)
    (hn3 : x.f3.length ≤ 9223372036854775807) (hn4 : x.f4.length ≤ 9223372036854775807) (hx : x.f0 = 8) :
    Calls Tryd.prog 77 #[.slice A g.length c, .agg #[.int .i64 x.f0, .int .i64 x.f1, .string x.f2, .slice A3 x.f3.length c3, .slice A4 x.f4.length c4]] w fun e w' => e = .returned (.bool (mayB g x)) ∧ Below w.heap.size w w' := by
  have H3 := Lib.hid h3
  have H4 := Lib.hid h4
  have HG := Lib.hid hg
  have HKW := Lib.hid hk
  clear h3 h4 hg hk
  have hb : Below w.heap.size w ((w.alloc (Obj.cells #[Value.slice A g.length c] 22)).alloc (Obj.cells #[Value.int IntKind.i64 x.f0, Value.int IntKind.i64 x.f1, Value.string x.f2, Value.slice A3 x.f3.length c3, Value.slice A4 x.f4.length c4] 37)) := ((Below.refl _ _).alloc (Nat.le_refl _) _).alloc (by simp) _
  have h4' := Lib.hid (Kd.C_below H4.out hb)
  have h3' := Lib.hid (Kd.C_below H3.out hb)
  have hg' := Lib.hid (Kd.C_below HG.out hb)
  have hk' := Lib.hid (HKW.out.below hb)
  clear hb
  have q1 : (x.f0 == 1) = false := by simp [hx]
  have q2 : (x.f0 == 2) = false := by simp [hx]
  have q3 : (x.f0 == 3) = false := by simp [hx]
  have q4 : (x.f0 == 4) = false := by simp [hx]
  have q5 : (x.f0 == 5) = false := by simp [hx]
  have q7 : (x.f0 == 7) = false := by simp [hx]
  have q8 : (x.f0 == 8) = true := by simp [hx]
  have q9 : (x.f0 == 9) = false := by simp [hx]
  have r5 : (x.f0 != 5) = true := by simp [hx]
  have r7 : (x.f0 != 7) = true := by simp [hx]
  have r9 : (x.f0 != 9) = true := by simp [hx]
  cases hO : x.f4.any (outB g.length) with
  | true =>
    have HB := Lib.hid (show mayB g x = false by unfold mayB; rw [if_pos (by simp [headB, hO])])
    have HO := Lib.hid hO
    clear hO hx
    go_enter Tryd.func77, Tryd.ntmps77
    go_wp2_with fail
    refine (outs_calls w.heap.size A g.length c A4 c4 x.f4 _ (by simp) h4'.out hn4).mono ?_
    rintro e w' ⟨rfl, rfl⟩
    rw [HO.out]
    go_wp2
    all_goals
      go_ret
      exact ⟨by rw [HB.out]; rfl, ((Below.refl _ _).alloc (Nat.le_refl _) _).alloc (by simp) _⟩
  | false =>
    have HO := Lib.hid hO
    by_cases c1 : x.f1 = 0
    · have n1a : (x.f1 != 0) = false := by simp [c1]
      have n1b : (x.f1 == 0) = true := by simp [c1]
      have D1 := Lib.hid c1
      clear c1
      by_cases c2 : x.f2.size = 0
      · have n2a : x.f2.toList = [] := by rw [ByteArray.toList_eq]; exact List.eq_nil_of_length_eq_zero (by simpa using c2)
        have D2 := Lib.hid c2
        clear c2
        by_cases d3 : x.f3.length = 0
        · have n3a : decide (0 < x.f3.length) = false := decide_eq_false (by omega)
          have n3b : decide (0 < (x.f3.length : Int)) = false := decide_eq_false (by omega)
          have D3 := Lib.hid d3
          clear d3
          have hH : headB g.length x = false := by simp [headB, hO, hx, D1.out, D2.out, D3.out]
          have HM := Lib.hid (show mayB g x = ((x.f4.all fun k => decide ((rd_T37 g k).f0 ≠ 8)) && decide (2 ≤ x.f4.length) && distinctB x.f4) by unfold mayB; rw [if_neg (by rw [hH]; exact Bool.false_ne_true), if_neg (by simp [hx]), if_neg (by simp [hx]), if_neg (by simp [hx]), if_pos hx])
          have hin : ∀ k : Nat, k < x.f4.length → 0 ≤ rd x.f4 k ∧ rd x.f4 k < g.length := fun k hk => in_of_outs hO k hk
          have HIN := Lib.hid hin
          have hmm := @run_makeMap Tryd.prog
          clear hO hx hH hin
          go_enter Tryd.func77, Tryd.ntmps77
          go_wp2_with fail
          refine (outs_calls w.heap.size A g.length c A4 c4 x.f4 _ (by simp) h4'.out hn4).mono ?_
          rintro e w' ⟨rfl, rfl⟩
          rw [HO.out]
          go_wp2
          have hM : MapAt (Value.int .i64) (Value.int .i64) (((w.alloc (Obj.cells #[Value.slice A g.length c] 22)).alloc (Obj.cells #[Value.int IntKind.i64 x.f0, Value.int IntKind.i64 x.f1, Value.string x.f2, Value.slice A3 x.f3.length c3, Value.slice A4 x.f4.length c4] 37)).alloc (.map #[] 0)) (w.heap.size + 1 + 1) ([] : List (Int × Int)) := by have := MapAt.new (κ := Int) (υ := Int) (Value.int .i64) (Value.int .i64) ((w.alloc (Obj.cells #[Value.slice A g.length c] 22)).alloc (Obj.cells #[Value.int IntKind.i64 x.f0, Value.int IntKind.i64 x.f1, Value.string x.f2, Value.slice A3 x.f3.length c3, Value.slice A4 x.f4.length c4] 37)); simpa using this
          have hB0 : Below w.heap.size w (((w.alloc (Obj.cells #[Value.slice A g.length c] 22)).alloc (Obj.cells #[Value.int IntKind.i64 x.f0, Value.int IntKind.i64 x.f1, Value.string x.f2, Value.slice A3 x.f3.length c3, Value.slice A4 x.f4.length c4] 37)).alloc (.map #[] 0)) := (((Below.refl _ _).alloc (Nat.le_refl _) _).alloc (by simp) _).alloc (by simp; omega) _
          have c3_ : (((w.alloc (Obj.cells #[Value.slice A g.length c] 22)).alloc (Obj.cells #[Value.int IntKind.i64 x.f0, Value.int IntKind.i64 x.f1, Value.string x.f2, Value.slice A3 x.f3.length c3, Value.slice A4 x.f4.length c4] 37)).alloc (.map #[] 0)).cell? ⟨w.heap.size + 1, 4, none⟩ = some (.slice A4 x.f4.length c4) := cell_alloc _ (by simp)
          have c2_ : (((w.alloc (Obj.cells #[Value.slice A g.length c] 22)).alloc (Obj.cells #[Value.int IntKind.i64 x.f0, Value.int IntKind.i64 x.f1, Value.string x.f2, Value.slice A3 x.f3.length c3, Value.slice A4 x.f4.length c4] 37)).alloc (.map #[] 0)).cell? ⟨w.heap.size, 0, none⟩ = some (.slice A g.length c) := cell_alloc _ (by simp)
          have h4'' : Kd.C (Kd.int .i64) (((w.alloc (Obj.cells #[Value.slice A g.length c] 22)).alloc (Obj.cells #[Value.int IntKind.i64 x.f0, Value.int IntKind.i64 x.f1, Value.string x.f2, Value.slice A3 x.f3.length c3, Value.slice A4 x.f4.length c4] 37)).alloc (.map #[] 0)) A4 x.f4.length x.f4 := Kd.C_alloc h4'.out _
          have hg'' : Kd.C k37 (((w.alloc (Obj.cells #[Value.slice A g.length c] 22)).alloc (Obj.cells #[Value.int IntKind.i64 x.f0, Value.int IntKind.i64 x.f1, Value.string x.f2, Value.slice A3 x.f3.length c3, Value.slice A4 x.f4.length c4] 37)).alloc (.map #[] 0)) A g.length g := Kd.C_alloc hg'.out _
          have hs_ : w.heap.size + 1 + 1 + 1 ≤ (((w.alloc (Obj.cells #[Value.slice A g.length c] 22)).alloc (Obj.cells #[Value.int IntKind.i64 x.f0, Value.int IntKind.i64 x.f1, Value.string x.f2, Value.slice A3 x.f3.length c3, Value.slice A4 x.f4.length c4] 37)).alloc (.map #[] 0)).heap.size := by simp
          generalize ((w.alloc (Obj.cells #[Value.slice A g.length c] 22)).alloc (Obj.cells #[Value.int IntKind.i64 x.f0, Value.int IntKind.i64 x.f1, Value.string x.f2, Value.slice A3 x.f3.length c3, Value.slice A4 x.f4.length c4] 37)).alloc (.map #[] 0) = w0 at *
          go_loopw [106] (fun i W => ∃ k : Nat, k ≤ x.f4.length ∧ i = .int .i64 k ∧ Hid ((∃ m : List (Int × Int), MapAt (Value.int .i64) (Value.int .i64) W (w.heap.size + 1 + 1) m ∧ m.map (·.1) = uniq (x.f4.take k)) ∧ Kp (w.heap.size + 1 + 1) w0 W ∧ ∀ j : Nat, j < k → (rd_T37 g (rd x.f4 j)).f0 ≠ 8)) (fun i _ => x.f4.length - (intOf i).toNat)
          case atStart => exact ⟨0, Nat.zero_le _, rfl, Lib.hid ⟨⟨[], hM, rfl⟩, Kp.refl _ _, fun j hj => absurd hj (by omega)⟩⟩
          case round =>
            obtain ⟨k, hk, rfl, HI⟩ := hrel
            have hBr := HI.out.2.1.below (B := w.heap.size) (by omega) (by omega)
            have hBw := hB0.trans hBr
            have c3r := HI.out.2.1.cell c3_ (by simp)
            have c2r := HI.out.2.1.cell c2_ (by simp; omega)
            clear c3_ c2_ hM h4'' hg'' hmm
            by_cases hlt : k < x.f4.length
            · obtain ⟨m, hm, hu⟩ := HI.out.1
              obtain ⟨ad, hA4, hck⟩ := int_cell (Kd.C_below H4.out hBw) k hlt
              have hin := HIN.out k hlt
              obtain ⟨ad5, B3, b3, B4, b4, hA, hk5, _, _, _, _, _, _, _, _⟩ := at_T37 HG.out (rd x.f4 k) hin.1 hin.2
              have hk5r := (hBw.cell (World.block_lt_of_cell? w _ hk5)).trans hk5
              obtain ⟨v, hv⟩ : ∃ v, ((get m (rd x.f4 k)).map (Value.int .i64)).getD (.int .i64 0) = Value.int .i64 v := by cases get m (rd x.f4 k) <;> exact ⟨_, rfl⟩
              have hl := hm.lookup1 (int_law Tryd.underlying3) Tryd.underlying103 zero3m (rd x.f4 k)
              rw [hv] at hl
              obtain ⟨o, hup, hm2⟩ := hm.update (int_law Tryd.underlying3) Tryd.underlying103 (rd x.f4 k) (wrap64 (v + 1))
              have hK2 : Kp (w.heap.size + 1 + 1) wr (ChangeMaps.setBlock wr (w.heap.size + 1 + 1) o) := Kp.setBlock _ _ _
              have c2s := hK2.cell c2r (by simp; omega)
              have hk5s := hK2.cell hk5r (by have := World.block_lt_of_cell? w _ hk5; omega)
              have HS := Lib.hid (show _ ∧ _ from ⟨hm2, hK2⟩)
              have HU := Lib.hid hu
              have HA := Lib.hid hA
              have i0 := hin.1
              have i1 := hin.2
              clear hm2 hK2 hv hm hu hin hk5 hk5r hBr hBw
              subst hA4
              by_cases h8 : (rd_T37 g (rd x.f4 k)).f0 = 8
              · have n8 : ((rd_T37 g (rd x.f4 k)).f0 == 8) = true := by simp [h8]
                have HB := Lib.hid (show mayB g x = false by
                  rw [HM.out, (List.all_eq_false.2 ⟨rd x.f4 k, rd_mem hlt, by simp [h8]⟩ : (x.f4.all fun k => decide ((rd_T37 g k).f0 ≠ 8)) = false)]; rfl)
                clear h8
                go_wp2
                go_ret
                exact ⟨by rw [HB.out]; rfl, hB0.trans ((HI.out.2.1.trans HS.out.2).below (by omega) (by omega))⟩
              · have n8 : ((rd_T37 g (rd x.f4 k)).f0 == 8) = false := by simp [h8]
                have H8 := Lib.hid h8
                clear h8
                go_wp2
                go_roundw
                case rel =>
                  refine ⟨k + 1, by omega, by go_num, Lib.hid ⟨⟨_, HS.out.1, ?_⟩, HI.out.2.1.trans HS.out.2, fun j hj => if h : j = k then by rw [h]; exact H8.out else HI.out.2.2 j (by omega)⟩⟩
                  rw [put_keys, take_rd hlt, uniq_snoc, ← HU.out]
                  by_cases hm : get m (rd x.f4 k) = none
                  · rw [if_pos hm, if_neg (fun e => get_ne_none.2 e hm)]
                  · rw [if_neg hm, if_pos (get_ne_none.1 hm)]
                case measure => simp [intOf]; omega
            · obtain rfl : k = x.f4.length := by omega
              obtain ⟨m, hm, hu⟩ := HI.out.1
              rw [List.take_length] at hu
              have hl := hm.len (rt := 3) Tryd.underlying103
              have hlen : m.length = (uniq x.f4).length := by rw [← hu, List.length_map]
              rw [hlen] at hl
              have hall : (x.f4.all fun k => decide ((rd_T37 g k).f0 ≠ 8)) = true := List.all_eq_true.2 (fun y hy => by
                obtain ⟨i, hi, rfl⟩ := List.getElem_of_mem hy
                have := HI.out.2.2 i hi
                unfold rd at this
                rw [Int.toNat_natCast, List.getD_eq_getElem?_getD, List.getElem?_eq_getElem hi] at this
                exact decide_eq_true this)
              have HM2 := Lib.hid (show mayB g x = (decide (2 ≤ x.f4.length) && decide ((uniq x.f4).length = x.f4.length)) by rw [HM.out, hall, uniq_distinct]; rfl)
              have HE := Lib.hid (hB0.trans (HI.out.2.1.below (B := w.heap.size) (by omega) (by omega)))
              clear hall hm hu hlen hBr hBw hB0
              by_cases e2 : 2 ≤ x.f4.length
              · have m2 : decide (2 ≤ (x.f4.length : Int)) = true := decide_eq_true (by omega)
                have m2b : decide (2 ≤ x.f4.length) = true := decide_eq_true e2
                by_cases e3 : (uniq x.f4).length = x.f4.length
                · have m3 : (((uniq x.f4).length : Int) == (x.f4.length : Int)) = true := by simp [e3]
                  have m3b : ((uniq x.f4).length == x.f4.length) = true := by simp [e3]
                  have HB := Lib.hid (show mayB g x = true by rw [HM2.out, m2b, decide_eq_true e3]; rfl)
                  clear e2 e3
                  go_wp2
                  go_ret
                  exact ⟨by rw [HB.out]; rfl, HE.out⟩
                · have m3 : (((uniq x.f4).length : Int) == (x.f4.length : Int)) = false := by simp; omega
                  have m3b : ((uniq x.f4).length == x.f4.length) = false := by simp; omega
                  have HB := Lib.hid (show mayB g x = false by rw [HM2.out, m2b, decide_eq_false e3]; rfl)
                  clear e2 e3
                  go_wp2
                  go_ret
                  exact ⟨by rw [HB.out]; rfl, HE.out⟩
              · have m2 : decide (2 ≤ (x.f4.length : Int)) = false := decide_eq_false (by omega)
                have m2b : decide (2 ≤ x.f4.length) = false := decide_eq_false e2
                have HB := Lib.hid (show mayB g x = false by rw [HM2.out, m2b]; rfl)
                clear e2
                go_wp2
                go_ret
                exact ⟨by rw [HB.out]; rfl, HE.out⟩
        · have n3a : decide (0 < x.f3.length) = true := decide_eq_true (by omega)
          have n3b : decide (0 < (x.f3.length : Int)) = true := decide_eq_true (by omega)
          have HB := Lib.hid (show mayB g x = false by unfold mayB; rw [if_pos (by simp [headB, hO, hx]; omega)])
          clear hO hx d3
          go_enter Tryd.func77, Tryd.ntmps77
          go_wp2_with fail
          refine (outs_calls w.heap.size A g.length c A4 c4 x.f4 _ (by simp) h4'.out hn4).mono ?_
          rintro e w' ⟨rfl, rfl⟩
          rw [HO.out]
          go_wp2
          all_goals
            go_ret
            exact ⟨by rw [HB.out]; rfl, ((Below.refl _ _).alloc (Nat.le_refl _) _).alloc (by simp) _⟩
      · have n2a : x.f2.toList.isEmpty = false := nonempty_bytes c2
        have n2b : ¬ x.f2.toList = [] := fun e => by rw [e] at n2a; cases n2a
        have HB := Lib.hid (show mayB g x = false by unfold mayB; rw [if_pos (by simp [headB, hO, hx]; omega)])
        clear hO hx c2
        go_enter Tryd.func77, Tryd.ntmps77
        go_wp2_with fail
        refine (outs_calls w.heap.size A g.length c A4 c4 x.f4 _ (by simp) h4'.out hn4).mono ?_
        rintro e w' ⟨rfl, rfl⟩
        rw [HO.out]
        go_wp2
        all_goals
          go_ret
          exact ⟨by rw [HB.out]; rfl, ((Below.refl _ _).alloc (Nat.le_refl _) _).alloc (by simp) _⟩
    · have n1a : (x.f1 != 0) = true := by simp [c1]
      have n1b : (x.f1 == 0) = false := by simp [c1]
      have HB := Lib.hid (show mayB g x = false by unfold mayB; rw [if_pos (by simp [headB, hO, c1, hx])])
      clear hO hx c1
      go_enter Tryd.func77, Tryd.ntmps77
      go_wp2_with fail
      refine (outs_calls w.heap.size A g.length c A4 c4 x.f4 _ (by simp) h4'.out hn4).mono ?_
      rintro e w' ⟨rfl, rfl⟩
      rw [HO.out]
      go_wp2
      all_goals
        go_ret
        exact ⟨by rw [HB.out]; rfl, ((Below.refl _ _).alloc (Nat.le_refl _) _).alloc (by simp) _⟩

end Go.Proofs.YtcljgfpcdlnlkaaDoor.Q
namespace Go.Proofs.YtcljgfpcdlnlkaaDoor.Q
open Go.RowKit Go.Proofs.YtcljgfpcdlnlkaaDoorW.PrintWords Mp
theorem may_calls (A : Option Addr) (g : List S37) (c : Nat) (x : S37) (A3 : Option Addr) (c3 : Nat) (A4 : Option Addr) (c4 : Nat) (w : World) (hk : KeysIn w) (hg : Kd.C k37 w A g.length g) (h3 : Kd.C Kd.string w A3 x.f3.length x.f3) (h4 : Kd.C (Kd.int .i64) w A4 x.f4.length x.f4)
    (hn3 : x.f3.length ≤ 9223372036854775807) (hn4 : x.f4.length ≤ 9223372036854775807) :
    Calls Tryd.prog 77 #[.slice A g.length c, .agg #[.int .i64 x.f0, .int .i64 x.f1, .string x.f2, .slice A3 x.f3.length c3, .slice A4 x.f4.length c4]] w fun e w' => e = .returned (.bool (mayB g x)) ∧ Below w.heap.size w w' := by
  by_cases h : x.f0 = 1
  · exact may_1 A g c x A3 c3 A4 c4 w hk hg h3 h4 hn3 hn4 h
  by_cases h2 : x.f0 = 2
  · exact may_2 A g c x A3 c3 A4 c4 w hk hg h3 h4 hn3 hn4 h2
  by_cases h3_ : x.f0 = 3
  · exact may_3 A g c x A3 c3 A4 c4 w hk hg h3 h4 hn3 hn4 h3_
  by_cases h4_ : x.f0 = 4
  · exact may_4 A g c x A3 c3 A4 c4 w hk hg h3 h4 hn3 hn4 h4_
  by_cases h5 : x.f0 = 5
  · exact may_5 A g c x A3 c3 A4 c4 w hk hg h3 h4 hn3 hn4 h5
  by_cases h7 : x.f0 = 7
  · exact may_7 A g c x A3 c3 A4 c4 w hk hg h3 h4 hn3 hn4 h7
  by_cases h8 : x.f0 = 8
  · exact may_8 A g c x A3 c3 A4 c4 w hk hg h3 h4 hn3 hn4 h8
  by_cases h9 : x.f0 = 9
  · exact may_9 A g c x A3 c3 A4 c4 w hk hg h3 h4 hn3 hn4 h9
  · exact may_other A g c x A3 c3 A4 c4 w hk hg h3 h4 hn3 hn4 ⟨h, h2, h3_, h4_, h5, h7, h8, h9⟩
/-- What graph.Check answers. -/
def checkP (g : List S37) : Int := if 2000 < g.length then 5 else if g.all (mayB g) = true then 0 else 2
theorem rd_get (g : List S37) (k : Nat) (hk : k < g.length) : rd_T37 g k = g[k] := by
  unfold rd_T37
  rw [Int.toNat_natCast, List.getD_eq_getElem?_getD, List.getElem?_eq_getElem hk]
  rfl
set_option maxRecDepth 100000 in
set_option maxHeartbeats 400000 in
theorem check_calls (A : Option Addr) (g : List S37) (c : Nat) (w : World) (hk : KeysIn w) (hg : Kd.C k37 w A g.length g) (hs : ∀ x ∈ g, x.f3.length ≤ 9223372036854775807 ∧ x.f4.length ≤ 9223372036854775807) :
    Calls Tryd.prog 37 #[.slice A g.length c] w fun e w' => e = .returned (.int .i64 (checkP g)) ∧ Below w.heap.size w w' := by
  have HK := Lib.hid hk
  have HG := Lib.hid hg
  have HS := Lib.hid hs
  clear hk hg hs
  by_cases h1 : 2000 < g.length
  · have d1 : decide (2000 < (g.length : Int)) = true := decide_eq_true (by omega)
    have d1b : decide (2000 < g.length) = true := decide_eq_true h1
    have HC := Lib.hid (show checkP g = 5 from if_pos h1)
    clear h1
    go_enter Tryd.func37, Tryd.ntmps37
    go_wp2
    go_ret
    exact ⟨by rw [HC.out]; rfl, Below.refl _ _⟩
  · have d1 : decide (2000 < (g.length : Int)) = false := decide_eq_false (by omega)
    have d1b : decide (2000 < g.length) = false := decide_eq_false h1
    have HC := Lib.hid (show checkP g = if g.all (mayB g) = true then 0 else 2 from if_neg h1)
    have hlen : g.length ≤ 2000 := by omega
    clear h1
    go_enter Tryd.func37, Tryd.ntmps37
    go_wp2
    go_loopw [10] (fun i W => ∃ k : Nat, k ≤ g.length ∧ i = .int .i64 k ∧ Hid ((∀ j : Nat, j < k → mayB g (rd_T37 g j) = true) ∧ Below w.heap.size w W)) (fun i _ => g.length - (intOf i).toNat)
    case atStart => exact ⟨0, Nat.zero_le _, rfl, Lib.hid ⟨fun j hj => absurd hj (by omega), Below.refl _ _⟩⟩
    case round =>
      obtain ⟨k, hk, rfl, HI⟩ := hrel
      by_cases hlt : k < g.length
      · have hgr := Kd.C_below HG.out HI.out.2
        obtain ⟨ad, B3, b3, B4, b4, rfl, hk0, hk1, hk2, hk3, hk4, hl3, hc3, hl4, hc4⟩ := at_node hgr k hlt
        have hsm := HS.out (rd_T37 g k) (by rw [rd_get g k hlt]; exact List.getElem_mem _)
        have HM := Lib.hid (may_calls _ g c (rd_T37 g k) B3 b3 B4 b4 (wr.alloc (.cells #[.int .i64 (rd_T37 g k).f0, .int .i64 (rd_T37 g k).f1, .string (rd_T37 g k).f2, .slice B3 (rd_T37 g k).f3.length b3, .slice B4 (rd_T37 g k).f4.length b4] 37)) ((HK.out.below HI.out.2).below ((Below.refl _ _).alloc (Nat.le_refl _) _)) (Kd.C_alloc hgr _) (Kd.C_alloc hc3 _) (Kd.C_alloc hc4 _) hsm.1 hsm.2)
        have HB2 := Lib.hid (HI.out.2.alloc HI.out.2.size (.cells #[.int .i64 (rd_T37 g k).f0, .int .i64 (rd_T37 g k).f1, .string (rd_T37 g k).f2, .slice B3 (rd_T37 g k).f3.length b3, .slice B4 (rd_T37 g k).f4.length b4] 37))
        clear hgr hl3 hc3 hl4 hc4 hsm
        go_wp2_with fail
        refine HM.out.mono ?_
        rintro e w' ⟨rfl, hb⟩
        have HB3 := Lib.hid (HB2.out.trans (hb.mono HB2.out.size))
        clear hb
        cases hm : mayB g (rd_T37 g k) with
        | true =>
          go_wp2
          go_roundw
          case rel => exact ⟨k + 1, by omega, by go_num, Lib.hid ⟨fun j hj => if h : j = k then by rw [h]; exact hm else HI.out.1 j (by omega), HB3.out⟩⟩
          case measure => simp [intOf]; omega
        | false =>
          have HA := Lib.hid (show checkP g = 2 by rw [HC.out, if_neg (by rw [List.all_eq_false.2 ⟨rd_T37 g k, by rw [rd_get g k hlt]; exact List.getElem_mem _, by rw [hm]; exact Bool.false_ne_true⟩]; exact Bool.false_ne_true)])
          go_wp2
          go_ret
          exact ⟨by rw [HA.out]; rfl, HB3.out⟩
      · obtain rfl : k = g.length := by omega
        have HA := Lib.hid (show checkP g = 0 by
          rw [HC.out, if_pos (List.all_eq_true.2 (fun y hy => by
            obtain ⟨i, hi, rfl⟩ := List.getElem_of_mem hy
            rw [← rd_get g i hi]
            exact HI.out.1 i hi))])
        go_wp2
        go_ret
        exact ⟨by rw [HA.out]; rfl, HI.out.2⟩
end Go.Proofs.YtcljgfpcdlnlkaaDoor.Q
namespace Go.Proofs.YtcljgfpcdlnlkaaDoor.Q
open Go.RowKit Go.Proofs.YtcljgfpcdlnlkaaDoorW.PrintWords Mp
/-- The solver as it lies in memory; the graph lies since w0. -/
structure Sol [Dom] (w0 w : World) (X B : Nat) (A : Option Addr) (c : Nat) (g : List S37) (st : Bool) (m : PM) : Prop where
  graph : Kd.C k37 w0 A g.length g
  base : Below w0.heap.size w0 w
  lB : w0.heap.size ≤ B
  ne : X ≠ B
  x0 : w.cell? ⟨X, 0, none⟩ = some (.slice A g.length c)
  x1 : w.cell? ⟨X, 1, none⟩ = some (.bool st)
  x2 : w.cell? ⟨X, 2, none⟩ = some (.map (some B))
  map : MapAt pairV VInt w B m
  dom : ∀ a b : Int, 0 ≤ a → a < g.length → 0 ≤ b → b < g.length → Dom.D (a, b)
theorem Sol.step [Dom] {w0 w w' : World} {X B : Nat} {A : Option Addr} {c : Nat} {g : List S37} {st : Bool} {m m' : PM} (h : Sol w0 w X B A c g st m) (hK : Kp B w w') (hm : MapAt pairV VInt w' B m') : Sol w0 w' X B A c g st m' :=
  ⟨h.graph, h.base.trans (hK.below h.lB h.base.size), h.lB, h.ne, hK.cell h.x0 h.ne, hK.cell h.x1 h.ne, hK.cell h.x2 h.ne, hm, h.dom⟩
theorem Sol.kp [Dom] {w0 w w' : World} {X B : Nat} {A : Option Addr} {c : Nat} {g : List S37} {st : Bool} {m : PM} (h : Sol w0 w X B A c g st m) (hK : Kp B w w') (hb : w'.heap[B]? = w.heap[B]?) : Sol w0 w' X B A c g st m := h.step hK (h.map.of_block hb)
theorem Sol.below [Dom] {w0 w w' : World} {X B : Nat} {A : Option Addr} {c : Nat} {g : List S37} {st : Bool} {m : PM} (h : Sol w0 w X B A c g st m) (hb : Below w.heap.size w w') : Sol w0 w' X B A c g st m :=
  h.kp ⟨hb.os, hb.tape, hb.output, hb.size, fun i hi _ => hb.block i hi⟩ (hb.block _ h.map.lt)
theorem Kp.of_below {b : Nat} {w w' : World} (hb : Below w.heap.size w w') : Kp b w w' := ⟨hb.os, hb.tape, hb.output, hb.size, fun i hi _ => hb.block i hi⟩
theorem does_calls [Dom] {w0 w : World} {X B : Nat} {A : Option Addr} {c : Nat} {g : List S37} {st : Bool} {m : PM} (h : Sol w0 w X B A c g st m) (x y : S37) (hDom : ∀ a ∈ x.f4, ∀ b ∈ y.f4, Dom.D (a, b)) (A3 B3 : Option Addr) (c3 d3 : Nat) (A4 B4 : Option Addr) (c4 d4 : Nat) (fx : Fine x) (fy : Fine y)
    (h30 : Kd.C Kd.string w0 A3 x.f3.length x.f3) (k30 : Kd.C Kd.string w0 B3 y.f3.length y.f3) (h40 : Kd.C (Kd.int .i64) w0 A4 x.f4.length x.f4) (k40 : Kd.C (Kd.int .i64) w0 B4 y.f4.length y.f4) :
    Calls Tryd.prog 114 #[.pointer (some ⟨X, 0, none⟩), nodeV x A3 c3 A4 c4, nodeV y B3 d3 B4 d4] w (Told B w m (doesB st x y)) := by
  by_cases e1 : x.f0 = 1 ∨ y.f0 = 1
  · exact does_dyn w X B m st x y A3 B3 c3 d3 A4 B4 c4 d4 h.x1 h.map e1
  by_cases e2 : x.f0 = y.f0
  · have hy : ∀ k : Int, x.f0 = k → y.f0 = k := fun k e => by rw [← e2]; exact e
    rcases fx.kind with k | k | k | k | k | k | k
    · exact absurd (.inl k) e1
    · exact does_2 w X B m st x y A3 B3 c3 d3 A4 B4 c4 d4 h.map k (hy _ k)
    · exact does_3 w X B m st x y A3 B3 c3 d3 A4 B4 c4 d4 h.map k (hy _ k)
    · exact does_4 w X B m st x y A3 B3 c3 d3 A4 B4 c4 d4 h.map k (hy _ k)
    · exact does_5 w X B m st x y A3 B3 c3 d3 A4 B4 c4 d4 h.map k (hy _ k)
    · exact does_7 w X B m st x y hDom A3 B3 c3 d3 A4 B4 c4 d4 h.map k (hy _ k) h.x2 h.ne (fx.recs k) (fy.recs (hy _ k)) fx.lim fy.lim w0 h.base h.lB h30 k30 h40 k40
    · exact does_9 w X B m st x y hDom A3 B3 c3 d3 A4 B4 c4 d4 h.map k (hy _ k) h.x2 (fx.vars k) (fy.vars (hy _ k)) (Kd.C_below h40 h.base) (Kd.C_below k40 h.base)
  · exact does_unlike w X B m st x y A3 B3 c3 d3 A4 B4 c4 d4 h.map (fun e => e1 (.inl e)) (fun e => e1 (.inr e)) e2
/-! graphs that may be -/
structure Valid (g : List S37) : Prop where
  len : g.length ≤ 2000
  may : ∀ x ∈ g, mayB g x = true
theorem valid_of_check {g : List S37} (h : checkP g = 0) : Valid g := by
  unfold checkP at h
  split at h
  · omega
  · split at h
    · rename_i h1 h2
      exact ⟨by omega, fun x hx => List.all_eq_true.1 h2 x hx⟩
    · omega
theorem rd_in {g : List S37} {k : Int} (h0 : 0 ≤ k) (h1 : k < g.length) : rd_T37 g k ∈ g := by
  obtain ⟨n, rfl⟩ : ∃ n : Nat, k = n := ⟨k.toNat, by omega⟩
  rw [rd_get g n (by omega)]
  exact List.getElem_mem _
theorem may_parts {g : List S37} {x : S37} (h : mayB g x = true) : headB g.length x = false := by
  unfold mayB at h
  cases e : headB g.length x with
  | false => rfl
  | true => rw [e] at h; simp at h
theorem may_fine {g : List S37} {x : S37} (h : mayB g x = true) (h8 : x.f0 ≠ 8) : Fine x := by
  have hh := may_parts h
  unfold mayB at h
  rw [hh] at h
  simp only [headB, Bool.or_eq_false_iff, Bool.and_eq_false_iff, decide_eq_false_iff_not, Nat.not_lt] at hh
  obtain ⟨⟨⟨_, _⟩, _⟩, h3⟩ := hh
  simp only [Bool.false_eq_true, if_false] at h
  split at h
  · rename_i hk
    exact ⟨by omega, fun e => by omega, fun e => by omega, by omega⟩
  split at h
  · rename_i hk
    exact ⟨by omega, fun e => by omega, fun e => by omega, by omega⟩
  split at h
  · rename_i hk
    simp only [Bool.and_eq_true, decide_eq_true_eq] at h
    exact ⟨by omega, fun _ => h.1.1.1, fun e => by omega, h.1.1.2⟩
  split at h
  · rename_i hk
    simp only [Bool.and_eq_true, decide_eq_true_eq] at h
    exact ⟨by omega, fun e => by omega, fun _ => h.2, by omega⟩
  · cases h
theorem may_union {g : List S37} {x : S37} (h : mayB g x = true) (h8 : x.f0 = 8) : (∀ k ∈ x.f4, (rd_T37 g k).f0 ≠ 8) ∧ 2 ≤ x.f4.length ∧ distinctB x.f4 = true := by
  have hh := may_parts h
  unfold mayB at h
  rw [hh] at h
  simp only [Bool.false_eq_true, if_false] at h
  rw [if_neg (by omega), if_neg (by omega), if_neg (by omega), if_pos h8] at h
  simp only [Bool.and_eq_true, decide_eq_true_eq, List.all_eq_true] at h
  exact ⟨h.1.1, h.1.2, h.2⟩
theorem may_in {g : List S37} {x : S37} (h : mayB g x = true) (k : Int) (hk : k ∈ x.f4) : 0 ≤ k ∧ k < g.length := by
  have hh := may_parts h
  simp only [headB, Bool.or_eq_false_iff] at hh
  have := List.any_eq_false.1 hh.1.1.1 k hk
  simp only [outB, Bool.or_eq_true, decide_eq_true_eq, not_or] at this
  omega
theorem distinct_len (n : Nat) : ∀ l : List Int, distinctB l = true → (∀ k ∈ l, 0 ≤ k ∧ k < n) → l.length ≤ n := by
  have aux : ∀ (n : Nat) (l : List Int), l.Nodup → (∀ k ∈ l, 0 ≤ k ∧ k < (n : Int)) → l.length ≤ n := by
    intro n
    induction n with
    | zero =>
      intro l _ h
      cases l with
      | nil => simp
      | cons x l => have := h x List.mem_cons_self; omega
    | succ n ih =>
      intro l hd h
      have := ih (l.erase n) (hd.erase _) (fun k hk => by
        have h1 := h k (List.mem_of_mem_erase hk)
        have h2 : k ≠ n := fun e => by rw [e] at hk; exact (List.Nodup.not_mem_erase hd) hk
        omega)
      by_cases hm : (n : Int) ∈ l
      · rw [List.length_erase_of_mem hm] at this
        omega
      · rw [List.erase_of_not_mem hm] at this
        omega
  intro l hd h
  refine aux n l ?_ h
  clear h
  induction l with
  | nil => exact List.nodup_nil
  | cons x l ih =>
    simp only [distinctB, Bool.and_eq_true, Bool.not_eq_true'] at hd
    exact List.nodup_cons.2 ⟨fun e => by simp [e] at hd, ih hd.2⟩
/-! what Valid gives -/
theorem Valid.fine {g : List S37} (h : Valid g) {k : Int} (h0 : 0 ≤ k) (h1 : k < g.length) (h8 : (rd_T37 g k).f0 ≠ 8) : Fine (rd_T37 g k) := may_fine (h.may _ (rd_in h0 h1)) h8
theorem Valid.inside {g : List S37} (h : Valid g) {k : Int} (h0 : 0 ≤ k) (h1 : k < g.length) (j : Int) (hj : j ∈ (rd_T37 g k).f4) : 0 ≤ j ∧ j < g.length := may_in (h.may _ (rd_in h0 h1)) j hj
theorem Valid.small {g : List S37} (h : Valid g) {k : Int} (h0 : 0 ≤ k) (h1 : k < g.length) : (rd_T37 g k).f3.length ≤ 16 ∧ (rd_T37 g k).f4.length ≤ 2000 := by
  have hm := h.may _ (rd_in h0 h1)
  by_cases h8 : (rd_T37 g k).f0 = 8
  · have hu := may_union hm h8
    have hl := h.len
    have := distinct_len g.length _ hu.2.2 (fun j hj => may_in hm j hj)
    have hh := may_parts hm
    simp only [headB, Bool.or_eq_false_iff, Bool.and_eq_false_iff, decide_eq_false_iff_not, Nat.not_lt] at hh
    exact ⟨by omega, by omega⟩
  · have hf := may_fine hm h8
    refine ⟨hf.lim, ?_⟩
    have h16 := hf.lim
    unfold mayB at hm
    rw [may_parts (h.may _ (rd_in h0 h1))] at hm
    rcases hf.kind with e | e | e | e | e | e | e
    · rw [if_neg (by simp), if_pos (by omega)] at hm; have := of_decide_eq_true hm; omega
    · rw [if_neg (by simp), if_pos (by omega)] at hm; have := of_decide_eq_true hm; omega
    · rw [if_neg (by simp), if_pos (by omega)] at hm; have := of_decide_eq_true hm; omega
    · rw [if_neg (by simp), if_pos (by omega)] at hm; have := of_decide_eq_true hm; omega
    · rw [if_neg (by simp), if_neg (by omega), if_pos e, Bool.and_eq_true] at hm; have := of_decide_eq_true hm.1; omega
    · have := hf.recs e; omega
    · have := hf.vars e; omega
theorem Valid.members {g : List S37} (h : Valid g) {b : Int} (h0 : 0 ≤ b) (h1 : b < g.length) : (∀ k ∈ membersL g b, 0 ≤ k ∧ k < g.length ∧ (rd_T37 g k).f0 ≠ 8) ∧ (membersL g b).length ≤ 2000 := by
  unfold membersL
  rw [if_neg (by omega)]
  by_cases h8 : (rd_T37 g b).f0 = 8
  · rw [if_pos h8]
    refine ⟨fun k hk => ?_, (h.small h0 h1).2⟩
    have := h.inside h0 h1 k hk
    exact ⟨this.1, this.2, (may_union (h.may _ (rd_in h0 h1)) h8).1 k hk⟩
  · rw [if_neg h8]
    refine ⟨fun k hk => ?_, by simp⟩
    rw [List.mem_singleton.1 hk]
    exact ⟨h0, h1, h8⟩
end Go.Proofs.YtcljgfpcdlnlkaaDoor.Q
namespace Go.Proofs.YtcljgfpcdlnlkaaDoor.Q
open Go.RowKit Go.Proofs.YtcljgfpcdlnlkaaDoorW.PrintWords Mp
def ToldI [Dom] (B : Nat) (w : World) (m : PM) (f : (Int × Int → Bool) → Int) (e : Ending) (w' : World) : Prop :=
  ∃ (r : Int) (m' : PM), e = .returned (.int .i64 r) ∧ MapAt pairV VInt w' B m' ∧ Kp B w w' ∧ Grow m m' ∧ Ans m m' f r
theorem R_kp {α : Type} {d : Kd α} {e : Nat} {w w1 : World} {base B : Nat} {v : Value} {xs : List α} (h : d.R e w base (fun k => k ≠ B) v xs) (hK : Kp B w w1) : d.R e w1 base (fun k => k ≠ B) v xs :=
  Kd.R_step h (fun k hk hlt => hK.block k hlt hk)
theorem R_apartB {α : Type} {d : Kd α} {e : Nat} {w : World} {base B : Nat} {v : Value} {xs : List α} (h : d.R e w base (fun _ => True) v xs) (hB : B < base) : d.R e w base (fun k => k ≠ B) v xs :=
  Kd.R_mono (Kd.R_bound h) (fun k hk => by have := hk.2.1; omega)
theorem pickFrom_skip {st : Bool} {g : List S37} {s : S37} {R : Int × Int → Bool} (l : List Int) (i k : Nat) (hk : k ≤ l.length) (h : ∀ j, j < k → doesB st s (rd_T37 g (l.getD j 0)) R = false) :
    pickFrom st g s R l i = pickFrom st g s R (l.drop k) (i + k) := by
  induction k generalizing l i with
  | zero => simp
  | succ k ih =>
    cases l with
    | nil => simp at hk
    | cons x l =>
      have h0 := h 0 (by omega)
      simp only [List.getD_cons_zero] at h0
      simp only [pickFrom, h0, Bool.false_eq_true, if_false, List.drop_succ_cons]
      rw [ih l (i + 1) (by simpa using hk) (fun j hj => by simpa using h (j + 1) (by omega))]
      congr 1
      omega
set_option maxRecDepth 100000 in
set_option maxHeartbeats 1000000 in
theorem pick_calls [Dom] {w0 w : World} {X B : Nat} {A : Option Addr} {c : Nat} {g : List S37} {st : Bool} {m : PM} (h : Sol w0 w X B A c g st m) (hv : Valid g) (a b : Int) (ha0 : 0 ≤ a) (ha1 : a < g.length) (ha8 : (rd_T37 g a).f0 ≠ 8) (hb0 : 0 ≤ b) (hb1 : b < g.length) :
    Calls Tryd.prog 71 #[.pointer (some ⟨X, 0, none⟩), .int .i64 a, .int .i64 b] w (ToldI B w m (pickB st g a b)) := by
  have H := Lib.hid h
  have HV := Lib.hid hv
  have hx0 := h.x0
  have hXl : X < w.heap.size := World.block_lt_of_cell? w _ hx0
  obtain ⟨ad, A3, c3, A4, c4, hA, hk0, hk1, hk2, hk3, hk4, _, g3, _, g4⟩ := at_T37 h.graph a ha0 ha1
  have HS := Lib.hid (show _ ∧ _ from ⟨g3, g4⟩)
  have e0 := (h.base.cell (World.block_lt_of_cell? w0 _ hk0)).trans hk0
  have e1 := (h.base.cell (World.block_lt_of_cell? w0 _ hk1)).trans hk1
  have e2 := (h.base.cell (World.block_lt_of_cell? w0 _ hk2)).trans hk2
  have e3 := (h.base.cell (World.block_lt_of_cell? w0 _ hk3)).trans hk3
  have e4 := (h.base.cell (World.block_lt_of_cell? w0 _ hk4)).trans hk4
  have HF := Lib.hid (hv.fine ha0 ha1 ha8)
  have HIn := Lib.hid (fun k hk => hv.inside ha0 ha1 k hk)
  have HBb := Lib.hid (show _ ∧ _ from ⟨hb0, hb1⟩)
  clear hk0 hk1 hk2 hk3 hk4 g3 g4 h hv
  subst hA
  obtain ⟨x, hxx⟩ : ∃ x, x = rd_T37 g a := ⟨_, rfl⟩
  rw [← hxx] at e0 e1 e2 e3 e4 HS HF HIn ha8
  have HX := Lib.hid hxx
  clear hxx
  have HMem := Lib.hid (HV.out.members hb0 hb1)
  have hW1 : Below w.heap.size w (w.alloc (Obj.cells #[Value.int IntKind.i64 x.f0, Value.int IntKind.i64 x.f1, Value.string x.f2, Value.slice A3 x.f3.length c3, Value.slice A4 x.f4.length c4] 37)) := (Below.refl _ _).alloc (Nat.le_refl _) _
  have HC := Lib.hid (members_calls (some ad) c g b _ (Kd.C_below H.out.graph (H.out.base.trans (hW1.mono H.out.base.size))) (by have := (HV.out.small hb0 hb1).2; omega))
  have HS1 := Lib.hid (H.out.below hW1)
  have HKp1 := Lib.hid (show Kp B w _ from Kp.of_below hW1)
  have hs1 : w.heap.size < (w.alloc (Obj.cells #[Value.int IntKind.i64 x.f0, Value.int IntKind.i64 x.f1, Value.string x.f2, Value.slice A3 x.f3.length c3, Value.slice A4 x.f4.length c4] 37)).heap.size := by simp
  have f0 : (w.alloc (Obj.cells #[Value.int IntKind.i64 x.f0, Value.int IntKind.i64 x.f1, Value.string x.f2, Value.slice A3 x.f3.length c3, Value.slice A4 x.f4.length c4] 37)).cell? ⟨w.heap.size, 0, none⟩ = some (.int .i64 x.f0) := by simp
  have f1 : (w.alloc (Obj.cells #[Value.int IntKind.i64 x.f0, Value.int IntKind.i64 x.f1, Value.string x.f2, Value.slice A3 x.f3.length c3, Value.slice A4 x.f4.length c4] 37)).cell? ⟨w.heap.size, 1, none⟩ = some (.int .i64 x.f1) := by simp
  have f2 : (w.alloc (Obj.cells #[Value.int IntKind.i64 x.f0, Value.int IntKind.i64 x.f1, Value.string x.f2, Value.slice A3 x.f3.length c3, Value.slice A4 x.f4.length c4] 37)).cell? ⟨w.heap.size, 2, none⟩ = some (.string x.f2) := by simp
  have f3 : (w.alloc (Obj.cells #[Value.int IntKind.i64 x.f0, Value.int IntKind.i64 x.f1, Value.string x.f2, Value.slice A3 x.f3.length c3, Value.slice A4 x.f4.length c4] 37)).cell? ⟨w.heap.size, 3, none⟩ = some (.slice A3 x.f3.length c3) := by simp
  have f4 : (w.alloc (Obj.cells #[Value.int IntKind.i64 x.f0, Value.int IntKind.i64 x.f1, Value.string x.f2, Value.slice A3 x.f3.length c3, Value.slice A4 x.f4.length c4] 37)).cell? ⟨w.heap.size, 4, none⟩ = some (.slice A4 x.f4.length c4) := by simp
  clear hW1
  go_enter Tryd.func71, Tryd.ntmps71
  go_wp2_with fail
  generalize w.alloc (Obj.cells #[Value.int IntKind.i64 x.f0, Value.int IntKind.i64 x.f1, Value.string x.f2, Value.slice A3 x.f3.length c3, Value.slice A4 x.f4.length c4] 37) = W1 at *
  refine HC.out.mono ?_
  rintro e w1 ⟨v, rfl, hr, hb⟩
  clear e0 e1 e2 e3 e4 hx0
  obtain ⟨AL, cL, rfl, hcL, hCL⟩ := Kd.R_reads hr
  have HR := Lib.hid (R_apartB hr (by have := HS1.out.map.lt; exact this))
  have b0 := (hb.cell (p := ⟨w.heap.size, 0, none⟩) hs1).trans f0
  have b1 := (hb.cell (p := ⟨w.heap.size, 1, none⟩) hs1).trans f1
  have b2 := (hb.cell (p := ⟨w.heap.size, 2, none⟩) hs1).trans f2
  have b3 := (hb.cell (p := ⟨w.heap.size, 3, none⟩) hs1).trans f3
  have b4 := (hb.cell (p := ⟨w.heap.size, 4, none⟩) hs1).trans f4
  have HS2 := Lib.hid (HS1.out.below hb)
  have HK2 := Lib.hid (HKp1.out.trans (Kp.of_below hb))
  have nB : w.heap.size ≠ B := by have := H.out.map.lt; omega
  have hLl : (membersL g b).length ≤ 2000 := HMem.out.2
  clear f0 f1 f2 f3 f4 hb hr hCL hcL hs1
  obtain ⟨L, hL⟩ : ∃ L, L = membersL g b := ⟨_, rfl⟩
  rw [← hL] at HMem HR hLl ⊢
  have HLL := Lib.hid hL
  clear hL
  go_wp2
  go_loopw [24] (fun i W => ∃ k : Nat, k ≤ L.length ∧ i = .int .i64 k ∧ Hid (∃ m', MapAt pairV VInt W B m' ∧ Kp B w1 W ∧ Grow m m' ∧ ∀ j : Nat, j < k → Ans m m' (doesB st x (rd_T37 g (L.getD j 0))) false)) (fun i _ => L.length - (intOf i).toNat)
  case atStart => exact ⟨0, Nat.zero_le _, rfl, Lib.hid ⟨m, HS2.out.map, Kp.refl _ _, Grow.refl _, fun j hj => absurd hj (by omega)⟩⟩
  case round =>
    obtain ⟨k, hk, rfl, HI⟩ := hrel
    obtain ⟨m1, hm1, hK1, hG1, hA1⟩ := HI.out
    have HSr := Lib.hid (HS2.out.step hK1 hm1)
    have HK1 := Lib.hid hK1
    have HG1 := Lib.hid hG1
    have HA1 := Lib.hid hA1
    have b0r := HK1.out.cell b0 nB
    have b1r := HK1.out.cell b1 nB
    have b2r := HK1.out.cell b2 nB
    have b3r := HK1.out.cell b3 nB
    have b4r := HK1.out.cell b4 nB
    have x0r := HSr.out.x0
    clear hm1 hK1 hG1 hA1 HI b0 b1 b2 b3 b4
    by_cases hlt : k < L.length
    · obtain ⟨aL, rfl, hcL⟩ := int_cell (Kd.R_reads' (R_kp HR.out HK1.out)).2.2 k hlt
      have hmem := HMem.out.1 (L.getD k 0) (by rw [List.getD_eq_getElem?_getD, List.getElem?_eq_getElem hlt]; exact List.getElem_mem _)
      obtain ⟨q, hq⟩ : ∃ q, q = L.getD k 0 := ⟨_, rfl⟩
      rw [← hq] at hmem
      rw [show rd L (k : Int) = L.getD k 0 from rfl, ← hq] at hcL
      have HQ := Lib.hid hq
      clear hq
      obtain ⟨ad', B3, d3, B4, d4, hA', hk0, hk1, hk2, hk3, hk4, _, g3, _, g4⟩ := at_T37 HSr.out.graph q hmem.1 hmem.2.1
      obtain rfl := Option.some.inj hA'
      have y0 := (HSr.out.base.cell (World.block_lt_of_cell? w0 _ hk0)).trans hk0
      have y1 := (HSr.out.base.cell (World.block_lt_of_cell? w0 _ hk1)).trans hk1
      have y2 := (HSr.out.base.cell (World.block_lt_of_cell? w0 _ hk2)).trans hk2
      have y3 := (HSr.out.base.cell (World.block_lt_of_cell? w0 _ hk3)).trans hk3
      have y4 := (HSr.out.base.cell (World.block_lt_of_cell? w0 _ hk4)).trans hk4
      have HD := Lib.hid (does_calls (HSr.out.kp (Kp.drew B wr) rfl) x (rd_T37 g q) (fun p hp r hr => HSr.out.dom p r (HIn.out p hp).1 (HIn.out p hp).2 (HV.out.inside hmem.1 hmem.2.1 r hr).1 (HV.out.inside hmem.1 hmem.2.1 r hr).2) A3 B3 c3 d3 A4 B4 c4 d4 HF.out (HV.out.fine hmem.1 hmem.2.1 hmem.2.2) HS.out.1 g3 HS.out.2 g4)
      have i0 := hmem.1
      have i1 := hmem.2.1
      clear hk0 hk1 hk2 hk3 hk4 g3 g4 hmem hA'
      unfold nodeV at HD
      go_wp2
      refine wp_region_still_tail 9 (by kernel_rfl) (by kernel_rfl) ?_
      simp only [List.take_succ_cons, List.take_zero, List.drop_succ_cons, List.drop_zero]
      change wpStill _ _ wr.drew _ _ _
      repeat still_step
      try refine wpStill_nil ?_
      change wpList _ _ _ _ _ wr.drew
      go_wp2_with fail
      refine HD.out.mono ?_
      rintro e w' ⟨r, m2, rfl, hm', hK', hG', hA'⟩
      have HM2 := Lib.hid hm'
      have HK3 := Lib.hid (show Kp B w1 w' from (HK1.out.trans (Kp.drew _ _)).trans hK')
      have HG2 := Lib.hid hG'
      have HA2 := Lib.hid (show Ans m m2 (doesB st x (rd_T37 g q)) r from hA'.from HG1.out)
      clear hm' hK' hG' hA'
      cases r with
      | true =>
        go_wp2
        go_ret
        refine ⟨(k : Int), m2, rfl, HM2.out, HK2.out.trans HK3.out, HG1.out.trans HG2.out, fun R r1 r2 => ?_⟩
        unfold pickB
        rw [← HLL.out, ← HX.out, pickFrom_skip L 0 k hk (fun j hj => ((HA1.out j hj).grow HG2.out) R r1 r2), List.drop_eq_getElem_cons hlt, pickFrom]
        have e1 : L[k] = q := by rw [HQ.out, List.getD_eq_getElem?_getD, List.getElem?_eq_getElem hlt]; rfl
        rw [e1, if_pos (HA2.out R r1 r2)]
        simp
      | false =>
        go_wp2
        go_roundw
        case rel => exact ⟨k + 1, by omega, by go_num, Lib.hid ⟨m2, HM2.out, HK3.out, HG1.out.trans HG2.out, fun j hj => if h : j = k then by rw [h, ← HQ.out]; exact HA2.out else (HA1.out j (by omega)).grow HG2.out⟩⟩
        case measure => simp [intOf]; omega
    · obtain rfl : k = L.length := by omega
      have HP := Lib.hid (show ∀ R, (∀ p, posB m1 p = true → R p = true) → (∀ p, R p = true → okB m p = true) → pickFrom st g x R L 0 = none from fun R r1 r2 => by
        rw [pickFrom_skip L 0 L.length (Nat.le_refl _) (fun j hj => HA1.out j hj R r1 r2), List.drop_length]; rfl)
      by_cases e9 : x.f0 = 9
      · have n9 : (x.f0 == 9) = true := by simp [e9]
        obtain ⟨a4, rfl, hc4⟩ := int_cell0 (Kd.C_below HS.out.2 HSr.out.base) (by rw [HF.out.vars e9]; omega)
        have hl1 : 0 < x.f4.length := by rw [HF.out.vars e9]; omega
        have HGr := Lib.hid (granted_calls wr X B (rd x.f4 0) b m1 HSr.out.x2 HSr.out.map)
        have E9 := Lib.hid e9
        clear e9
        go_wp2_with fail
        refine HGr.out.mono ?_
        rintro e w' ⟨rfl, hm', hK'⟩
        have HM2 := Lib.hid hm'
        have HK3 := Lib.hid (HK1.out.trans hK')
        have HG2 := Lib.hid (grow_grant m1 (rd x.f4 0, b) (HSr.out.dom _ _ (HIn.out _ (rd_memI (by omega) (by omega))).1 (HIn.out _ (rd_memI (by omega) (by omega))).2 HBb.out.1 HBb.out.2))
        have HA2 := Lib.hid (show Ans m _ (fun R => R (rd x.f4 0, b)) _ from (ans_grant m1 (rd x.f4 0, b)).from HG1.out)
        clear hm' hK'
        generalize grant m1 (rd x.f4 0, b) = gr at HM2 HG2 HA2
        obtain ⟨r, m2⟩ := gr
        cases r with
        | true =>
          go_wp2
          go_ret
          refine ⟨-1, m2, rfl, HM2.out, HK2.out.trans HK3.out, HG1.out.trans HG2.out, fun R r1 r2 => ?_⟩
          unfold pickB
          rw [← HLL.out, ← HX.out, HP.out R (fun p hp => r1 p (HG2.out.pos p hp)) r2]
          exact if_pos ⟨E9.out, HA2.out R r1 r2⟩
        | false =>
          go_wp2
          go_ret
          refine ⟨-2, m2, rfl, HM2.out, HK2.out.trans HK3.out, HG1.out.trans HG2.out, fun R r1 r2 => ?_⟩
          unfold pickB
          rw [← HLL.out, ← HX.out, HP.out R (fun p hp => r1 p (HG2.out.pos p hp)) r2]
          exact if_neg (fun e => by have h1 := HA2.out R r1 r2; have h2 := e.2; rw [show R (rd x.f4 0, b) = false from h1] at h2; cases h2)
      · have n9 : (x.f0 == 9) = false := by simp [e9]
        have E9 := Lib.hid e9
        clear e9
        go_wp2
        go_ret
        refine ⟨-2, m1, rfl, HSr.out.map, HK2.out.trans HK1.out, HG1.out, fun R r1 r2 => ?_⟩
        unfold pickB
        rw [← HLL.out, ← HX.out, HP.out R r1 r2]
        exact if_neg (fun e => E9.out e.1)
end Go.Proofs.YtcljgfpcdlnlkaaDoor.Q
