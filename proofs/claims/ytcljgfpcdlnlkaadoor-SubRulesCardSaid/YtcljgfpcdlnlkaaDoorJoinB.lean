/- sub: the solver, as a function of its map, and what it comes to. Conditions: those of each theorem's own statement. -/
import Derived.Test.YtcljgfpcdlnlkaaDoorJoinA
import Derived.StillTailTactics
import Derived.Lib.Hide
import Derived.Laws.EntriesVeiled
import Derived.Maps.RangeRun
import Derived.WalkMore
namespace Go.Proofs.YtcljgfpcdlnlkaaDoor.Q
open Go.RowKit Go.Proofs.YtcljgfpcdlnlkaaDoorW.PrintWords Mp
abbrev PM := List ((Int × Int) × Int)
abbrev VInt := Value.int .i64
def grant (m : PM) (p : Int × Int) : Bool × PM := match get m p with
  | none => (true, put m p 1)
  | some n => (decide (0 < n), m)
/-- Not taken away; granted. -/
def okB (m : PM) (p : Int × Int) : Bool := match get m p with
  | none => true
  | some n => decide (0 < n)
def posB (m : PM) (p : Int × Int) : Bool := match get m p with
  | none => false
  | some n => decide (0 < n)
/-- Which pairs may be granted: the proof's own choice. -/
class Dom where
  D : Int × Int → Prop
theorem rd_memI {l : List Int} {i : Int} (h0 : 0 ≤ i) (h1 : i < l.length) : rd l i ∈ l := by
  unfold rd
  rw [List.getD_eq_getElem?_getD, List.getElem?_eq_getElem (by omega)]
  exact List.getElem_mem _
/-- m' is m and pairs that are granted anew. -/
structure Grow [Dom] (m m' : PM) : Prop where
  len : m.length ≤ m'.length
  same : m'.length = m.length → m' = m
  old : ∀ p v, get m p = some v → get m' p = some v
  new : ∀ p, get m p = none → get m' p = none ∨ get m' p = some 1
  dom : ∀ p, p ∈ m'.map (·.1) → p ∈ m.map (·.1) ∨ Dom.D p
  nodup : (m.map (·.1)).Nodup → (m'.map (·.1)).Nodup
theorem Grow.refl [Dom] (m : PM) : Grow m m := ⟨Nat.le_refl _, fun _ => rfl, fun _ _ h => h, fun _ h => .inl h, fun _ h => .inl h, fun h => h⟩
theorem Grow.trans [Dom] {a b c : PM} (h : Grow a b) (k : Grow b c) : Grow a c :=
  ⟨Nat.le_trans h.len k.len, fun e => by
    have h1 := h.len
    have h2 := k.len
    have e1 := h.same (by omega)
    have e2 := k.same (by omega)
    rw [e2, e1], fun p v e => k.old p v (h.old p v e), fun p e => by
    rcases h.new p e with h1 | h1
    · exact k.new p h1
    · exact .inr (k.old p _ h1), fun p hp => by
    rcases k.dom p hp with h1 | h1
    · exact h.dom p h1
    · exact .inr h1, fun hn => k.nodup (h.nodup hn)⟩
theorem Grow.ok [Dom] {m m' : PM} (h : Grow m m') (p : Int × Int) : okB m' p = okB m p := by
  unfold okB
  cases e : get m p with
  | none =>
    rcases h.new p e with h1 | h1 <;> rw [h1]
    simp
  | some v => rw [h.old p v e]
theorem Grow.pos [Dom] {m m' : PM} (h : Grow m m') (p : Int × Int) (hp : posB m p = true) : posB m' p = true := by
  unfold posB at hp ⊢
  cases e : get m p with
  | none => rw [e] at hp; cases hp
  | some v => rw [h.old p v e]; rw [e] at hp; exact hp
theorem pos_ok (m : PM) (p : Int × Int) (h : posB m p = true) : okB m p = true := by
  unfold posB at h
  unfold okB
  cases e : get m p with
  | none => rfl
  | some v => rw [e] at h; exact h
theorem grow_grant [Dom] (m : PM) (p : Int × Int) (hD : Dom.D p) : Grow m (grant m p).2 := by
  unfold grant
  cases e : get m p with
  | some n => exact Grow.refl m
  | none =>
    refine ⟨?_, ?_, ?_, ?_, ?_, ?_⟩
    · simp only [put_length, e, if_true]; omega
    · intro h; simp only [put_length, e, if_true] at h; omega
    · intro q v h
      rw [get_put]
      split
      · rename_i hq; rw [hq, e] at h; cases h
      · exact h
    · intro q h
      rw [get_put]
      split
      · exact .inr rfl
      · exact .inl h
    · intro q h
      rw [put_keys, if_pos e, List.mem_append, List.mem_singleton] at h
      rcases h with h | rfl
      · exact .inl h
      · exact .inr hD
    · intro h
      rw [put_keys, if_pos e, List.nodup_append]
      refine ⟨h, by simp, ?_⟩
      intro a ha b hb hab
      simp only [List.mem_singleton] at hb
      subst hb hab
      exact get_ne_none.2 ha e
/-- What f answers hangs on nothing but what is known: before it (m) and behind it (m'). -/
def Ans {α : Type} (m m' : PM) (f : (Int × Int → Bool) → α) (r : α) : Prop :=
  ∀ R : Int × Int → Bool, (∀ p, posB m' p = true → R p = true) → (∀ p, R p = true → okB m p = true) → f R = r
theorem Ans.grow [Dom] {α : Type} {a b c : PM} {f : (Int × Int → Bool) → α} {r : α} (h : Ans a b f r) (k : Grow b c) : Ans a c f r := fun R h1 h2 => h R (fun p hp => h1 p (k.pos p hp)) h2
theorem Ans.from [Dom] {α : Type} {a b c : PM} {f : (Int × Int → Bool) → α} {r : α} (h : Ans b c f r) (k : Grow a b) : Ans a c f r := fun R h1 h2 => h R h1 (fun p hp => by rw [k.ok]; exact h2 p hp)
theorem Ans.const {α : Type} (m m' : PM) (r : α) : Ans m m' (fun _ => r) r := fun _ _ _ => rfl
theorem ans_grant (m : PM) (p : Int × Int) : Ans m (grant m p).2 (fun R => R p) (grant m p).1 := by
  intro R h1 h2
  show R p = _
  unfold grant at h1 ⊢
  cases e : get m p with
  | none =>
    rw [e] at h1
    exact h1 p (by unfold posB; rw [get_put, if_pos rfl]; rfl)
  | some n =>
    rw [e] at h1
    by_cases hn : 0 < n
    · rw [h1 p (by unfold posB; rw [e]; exact decide_eq_true hn)]
      simp [hn]
    · cases hR : R p with
      | false => simp [hn]
      | true =>
        have := h2 p hR
        unfold okB at this
        rw [e] at this
        exact absurd (of_decide_eq_true this) hn
/-! the rules -/
/-- Where a key stands; below 0: nowhere. -/
def keyAt : List ByteArray → ByteArray → Int
  | [], _ => -1
  | x :: l, k => if x = k then 0 else if keyAt l k < 0 then -1 else keyAt l k + 1
theorem keyAt_some (l : List ByteArray) (s : ByteArray) (k : Nat) (hk : k < l.length) (he : l.getD k ByteArray.empty = s) (hn : ∀ j, j < k → l.getD j ByteArray.empty ≠ s) : keyAt l s = k := by
  induction l generalizing k with
  | nil => simp at hk
  | cons x l ih =>
    cases k with
    | zero =>
      simp only [List.getD_cons_zero] at he
      simp [keyAt, he]
    | succ k =>
      have h0 : x ≠ s := by simpa using hn 0 (by omega)
      have := ih k (by simpa using hk) (by simpa using he) (fun j hj => by simpa using hn (j + 1) (by omega))
      simp only [keyAt, h0, if_false, this]
      rw [if_neg (by omega)]
      simp
theorem keyAt_none (l : List ByteArray) (s : ByteArray) (hn : ∀ j, j < l.length → l.getD j ByteArray.empty ≠ s) : keyAt l s = -1 := by
  induction l with
  | nil => rfl
  | cons x l ih =>
    have h0 : x ≠ s := by simpa using hn 0 (by simp)
    have := ih (fun j hj => by simpa using hn (j + 1) (by simpa using hj))
    simp [keyAt, h0, this]
theorem keyAt_lt (l : List ByteArray) (s : ByteArray) : -1 ≤ keyAt l s ∧ keyAt l s < l.length := by
  induction l with
  | nil => simp [keyAt]
  | cons x l ih =>
    simp only [keyAt, List.length_cons]
    split
    · omega
    · split <;> omega
def fieldB (s t : S37) (i : Nat) (R : Int × Int → Bool) : Bool := decide (0 ≤ keyAt s.f3 (t.f3.getD i ByteArray.empty)) && R (rd s.f4 (keyAt s.f3 (t.f3.getD i ByteArray.empty)), rd t.f4 i)
def recordB (s t : S37) (R : Int × Int → Bool) : Bool := (List.range t.f3.length).all fun i => fieldB s t i R
def variableB (s t : S37) (R : Int × Int → Bool) : Bool := decide (s.f1 = t.f1) && R (rd s.f4 0, rd t.f4 0)
def doesB (st : Bool) (s t : S37) (R : Int × Int → Bool) : Bool :=
  if s.f0 = 1 ∨ t.f0 = 1 then !st || decide (s.f0 = t.f0)
  else decide (s.f0 = t.f0) && (if s.f0 = 5 then decide (s.f2 = t.f2) else if s.f0 = 7 then recordB s t R else if s.f0 = 9 then variableB s t R else true)
/-- The first of some that does: its place from i on; none: there is none. -/
def pickFrom (st : Bool) (g : List S37) (s : S37) (R : Int × Int → Bool) : List Int → Nat → Option Nat
  | [], _ => none
  | k :: l, i => if doesB st s (rd_T37 g k) R = true then some i else pickFrom st g s R l (i + 1)
def pickB (st : Bool) (g : List S37) (a b : Int) (R : Int × Int → Bool) : Int :=
  match pickFrom st g (rd_T37 g a) R (membersL g b) 0 with
  | some i => i
  | none => if (rd_T37 g a).f0 = 9 ∧ R (rd (rd_T37 g a).f4 0, b) = true then -1 else -2
def holdsB (st : Bool) (g : List S37) (p : Int × Int) (R : Int × Int → Bool) : Bool := !((membersL g p.1).any fun s => decide (pickB st g s p.2 R = -2))
end Go.Proofs.YtcljgfpcdlnlkaaDoor.Q
namespace Go.Proofs.YtcljgfpcdlnlkaaDoor.Q
open Go.RowKit Go.Proofs.YtcljgfpcdlnlkaaDoorW.PrintWords Mp
theorem pairKey : KeyLaw Tryd.prog 81 pairV := pair_law (it := 3) Tryd.underlying81 (by kernel_rfl) ⟨rfl, rfl, by decide⟩ ⟨rfl, rfl, by decide⟩ Tryd.underlying3 (fun _ _ _ => ⟨by kernel_rfl, by kernel_rfl⟩)
theorem zero3 (w : World) : (zeroValue 3).run Tryd.prog w = .ok (.int .i64 0) w := by kernel_rfl
set_option maxRecDepth 20000 in
set_option maxHeartbeats 400000 in
theorem granted_calls (w : World) (X B : Nat) (a b : Int) (m : List ((Int × Int) × Int)) (hx : w.cell? ⟨X, 2, none⟩ = some (.map (some B))) (hm : MapAt pairV VInt w B m) :
    Calls Tryd.prog 109 #[.pointer (some ⟨X, 0, none⟩), .agg #[.int .i64 a, .int .i64 b]] w fun e w' => e = .returned (.bool (grant m (a, b)).1) ∧ MapAt pairV VInt w' B (grant m (a, b)).2 ∧ Kp B w w' := by
  have hxl : X < w.heap.size := World.block_lt_of_cell? w _ hx
  have hl := fun n => (MapAt.of_block (w' := (w.alloc (.cells #[.int .i64 a, .int .i64 b] 81)).drewN n) hm (Below.heap_alloc _ _ _ hm.lt)).lookup2 pairKey Tryd.underlying84 zero3 (a, b)
  simp only [pairV] at hl
  cases hg : get m (a, b) with
  | none =>
    have hG : grant m (a, b) = (true, put m (a, b) 1) := by simp only [grant, hg]
    have HG := Lib.hid hG
    clear hG
    go_enter Tryd.func109, Tryd.ntmps109
    go_wp2
    go_quiet (fail)
    go_wp2
    have hx2 : ((w.alloc (.cells #[.int .i64 a, .int .i64 b] 81)).drewN nq).cell? ⟨X, 2, none⟩ = some (.map (some B)) := cell_alloc _ hx
    have ha2 : ((w.alloc (.cells #[.int .i64 a, .int .i64 b] 81)).drewN nq).cell? ⟨w.heap.size, 0, none⟩ = some (.int .i64 a) := by simp
    have hb2 : ((w.alloc (.cells #[.int .i64 a, .int .i64 b] 81)).drewN nq).cell? ⟨w.heap.size, 1, none⟩ = some (.int .i64 b) := by simp
    have hm2 : MapAt pairV VInt ((w.alloc (.cells #[.int .i64 a, .int .i64 b] 81)).drewN nq) B m := hm.of_block (Below.heap_alloc _ _ _ hm.lt)
    have HK : Kp B w ((w.alloc (.cells #[.int .i64 a, .int .i64 b] 81)).drewN nq) := (Kp.alloc _ _ _).trans (Kp.drewN _ _ _)
    generalize (w.alloc (.cells #[.int .i64 a, .int .i64 b] 81)).drewN nq = W at *
    obtain ⟨o, hu, hm3⟩ := (MapAt.of_block (w' := W.drew) hm2 rfl).update pairKey Tryd.underlying84 (a, b) 1
    simp only [pairV] at hu
    refine wp_region_still_tail 5 (by kernel_rfl) (by kernel_rfl) ?_
    simp only [List.take_succ_cons, List.take_zero, List.drop_succ_cons, List.drop_zero]
    change wpStill _ _ W.drew _ _ _
    repeat still_step
    try refine wpStill_nil ?_
    change wpList _ _ _ _ _ W.drew
    go_wp2
    go_ret
    exact ⟨by rw [HG.out]; rfl, by rw [HG.out]; exact hm3, (HK.trans (Kp.drew _ _)).trans (Kp.setBlock _ _ _)⟩
  | some n =>
    have hG : grant m (a, b) = (decide (0 < n), m) := by simp only [grant, hg]
    have HG := Lib.hid hG
    clear hG
    go_enter Tryd.func109, Tryd.ntmps109
    go_wp2
    go_quiet (fail)
    go_wp2
    go_ret
    exact ⟨by rw [HG.out]; rfl, by rw [HG.out]; exact hm.of_block (Below.heap_alloc _ _ _ hm.lt), (Kp.alloc _ _ _).trans (Kp.drewN _ _ _)⟩

set_option maxRecDepth 100000 in
set_option maxHeartbeats 400000 in
/-- 'slices.Index' at texts. -/
theorem indexS_calls (A : Option Addr) (c : Nat) (l : List ByteArray) (s : ByteArray) (w : World) (hl : Kd.C Kd.string w A l.length l) (hn : l.length ≤ 9223372036854775807) :
    Calls Tryd.prog 168 #[.slice A l.length c, .string s] w fun e w' => e = .returned (.int .i64 (keyAt l s)) ∧ w' = w := by
  have HL := Lib.hid hl
  clear hl
  go_enter Tryd.func168, Tryd.ntmps168
  go_wp2
  go_loop [8] (fun i => ∃ k : Nat, k ≤ l.length ∧ i = .int .i64 k ∧ Hid (∀ j, j < k → l.getD j ByteArray.empty ≠ s)) (fun i => l.length - (intOf i).toNat)
  case atStart => exact ⟨0, Nat.zero_le _, rfl, Lib.hid fun j hj => absurd hj (by omega)⟩
  case round =>
    obtain ⟨k, hk, rfl, HI⟩ := hrel
    by_cases hlt : k < l.length
    · obtain ⟨ad, rfl, hc⟩ := str_cell HL.out k hlt
      by_cases he : l.getD k ByteArray.empty = s
      · have heq : (s.toList == (l.getD k ByteArray.empty).toList) = true := by rw [str_eq]; exact decide_eq_true he.symm
        have HK := Lib.hid (keyAt_some l s k hlt he HI.out)
        clear he
        generalize l.getD k ByteArray.empty = x at hc heq
        go_wp2
        go_ret
        exact ⟨by rw [HK.out]; rfl, rfl⟩
      · have heq : (s.toList == (l.getD k ByteArray.empty).toList) = false := by rw [str_eq]; exact decide_eq_false fun e => he e.symm
        have HI2 : Hid (∀ j, j < k + 1 → l.getD j ByteArray.empty ≠ s) := Lib.hid fun j hj => if h : j = k then by rw [h]; exact he else HI.out j (by omega)
        clear he
        generalize l.getD k ByteArray.empty = x at hc heq
        go_wp2
        go_round
        case rel => exact ⟨k + 1, by omega, by go_num, HI2⟩
        case measure => simp [intOf]; omega
    · obtain rfl : k = l.length := by omega
      have HK := Lib.hid (keyAt_none l s HI.out)
      go_wp2
      go_ret
      exact ⟨by rw [HK.out]; rfl, rfl⟩
/-- A node that is handed over by value. -/
def nodeV (x : S37) (A3 : Option Addr) (c3 : Nat) (A4 : Option Addr) (c4 : Nat) : Value := .agg #[.int .i64 x.f0, .int .i64 x.f1, .string x.f2, .slice A3 x.f3.length c3, .slice A4 x.f4.length c4]
set_option maxRecDepth 100000 in
theorem base_calls (p : Value) (x y : S37) (A3 B3 : Option Addr) (c3 d3 : Nat) (A4 B4 : Option Addr) (c4 d4 : Nat) (w : World) :
    Calls Tryd.prog 143 #[p, nodeV x A3 c3 A4 c4, nodeV y B3 d3 B4 d4] w fun e w' => e = .returned (.bool true) ∧ Below w.heap.size w w' := by
  unfold nodeV
  go_enter Tryd.func143, Tryd.ntmps143
  go_wp2
  go_ret
  exact ⟨rfl, ((Below.refl _ _).alloc (Nat.le_refl _) _).alloc (by simp) _⟩
set_option maxRecDepth 100000 in
theorem tag_calls (p : Value) (x y : S37) (A3 B3 : Option Addr) (c3 d3 : Nat) (A4 B4 : Option Addr) (c4 d4 : Nat) (w : World) :
    Calls Tryd.prog 144 #[p, nodeV x A3 c3 A4 c4, nodeV y B3 d3 B4 d4] w fun e w' => e = .returned (.bool (decide (x.f2 = y.f2))) ∧ Below w.heap.size w w' := by
  unfold nodeV
  have HE := Lib.hid (str_eq x.f2 y.f2)
  go_enter Tryd.func144, Tryd.ntmps144
  go_wp2
  go_ret
  exact ⟨by rw [← HE.out]; rfl, ((Below.refl _ _).alloc (Nat.le_refl _) _).alloc (by simp) _⟩
end Go.Proofs.YtcljgfpcdlnlkaaDoor.Q
namespace Go.Proofs.YtcljgfpcdlnlkaaDoor.Q
open Go.RowKit Go.Proofs.YtcljgfpcdlnlkaaDoorW.PrintWords Mp
/-- What a call of a rule tells: an answer that hangs on what is known alone; the map has grown, nothing else has changed. -/
def Told [Dom] (B : Nat) (w : World) (m : PM) (f : (Int × Int → Bool) → Bool) (e : Ending) (w' : World) : Prop :=
  ∃ (r : Bool) (m' : PM), e = .returned (.bool r) ∧ MapAt pairV VInt w' B m' ∧ Kp B w w' ∧ Grow m m' ∧ Ans m m' f r
theorem int_cell0 {w : World} {A : Option Addr} {xs : List Int} (h : Kd.C (Kd.int .i64) w A xs.length xs) (hp : 0 < xs.length) : ∃ ad, A = some ad ∧ w.cell? ad = some (.int .i64 (rd xs 0)) := by
  obtain ⟨ad, e, hc⟩ := int_cell h 0 hp
  exact ⟨ad, e, by simpa [Addr.add] using hc⟩
set_option maxRecDepth 100000 in
set_option maxHeartbeats 1000000 in
theorem variable_calls [Dom] (w : World) (X B : Nat) (m : PM) (x y : S37) (hDom : ∀ a ∈ x.f4, ∀ b ∈ y.f4, Dom.D (a, b)) (A3 B3 : Option Addr) (c3 d3 : Nat) (A4 B4 : Option Addr) (c4 d4 : Nat) (hx : w.cell? ⟨X, 2, none⟩ = some (.map (some B))) (hm : MapAt pairV VInt w B m)
    (h4 : Kd.C (Kd.int .i64) w A4 x.f4.length x.f4) (k4 : Kd.C (Kd.int .i64) w B4 y.f4.length y.f4) (hl : 0 < x.f4.length) (kl : 0 < y.f4.length) :
    Calls Tryd.prog 146 #[.pointer (some ⟨X, 0, none⟩), nodeV x A3 c3 A4 c4, nodeV y B3 d3 B4 d4] w (Told B w m (variableB x y)) := by
  unfold nodeV
  have HDom := Lib.hid (hDom _ (rd_memI (l := x.f4) (i := 0) (by omega) (by omega)) _ (rd_memI (l := y.f4) (i := 0) (by omega) (by omega)))
  clear hDom
  have hXl : X < w.heap.size := World.block_lt_of_cell? w _ hx
  have hBl := hm.lt
  by_cases h1 : x.f1 = y.f1
  · have n1 : (x.f1 == y.f1) = true := by simp [h1]
    have HV := Lib.hid (show ∀ R, variableB x y R = R (rd x.f4 0, rd y.f4 0) from fun R => by simp [variableB, h1])
    obtain ⟨ad, rfl, hc⟩ := int_cell0 h4 hl
    obtain ⟨ad', rfl, hc'⟩ := int_cell0 k4 kl
    clear h1 h4 k4
    go_enter Tryd.func146, Tryd.ntmps146
    go_wp2
    generalize hW : (w.alloc (Obj.cells #[Value.int IntKind.i64 x.f0, Value.int IntKind.i64 x.f1, Value.string x.f2, Value.slice A3 x.f3.length c3, Value.slice (some ad) x.f4.length c4] 37)).alloc (Obj.cells #[Value.int IntKind.i64 y.f0, Value.int IntKind.i64 y.f1, Value.string y.f2, Value.slice B3 y.f3.length d3, Value.slice (some ad') y.f4.length d4] 37) = W
    have b1 : W.cell? ⟨w.heap.size, 1, none⟩ = some (.int .i64 x.f1) := by rw [← hW]; simp
    have b4 : W.cell? ⟨w.heap.size, 4, none⟩ = some (.slice (some ad) x.f4.length c4) := by rw [← hW]; simp
    have d1 : W.cell? ⟨w.heap.size + 1, 1, none⟩ = some (.int .i64 y.f1) := by rw [← hW]; simp
    have d4' : W.cell? ⟨w.heap.size + 1, 4, none⟩ = some (.slice (some ad') y.f4.length d4) := by rw [← hW]; simp
    have hcW : W.cell? ad = some (.int .i64 (rd x.f4 0)) := by rw [← hW]; exact cell_alloc _ (cell_alloc _ hc)
    have hcW' : W.cell? ad' = some (.int .i64 (rd y.f4 0)) := by rw [← hW]; exact cell_alloc _ (cell_alloc _ hc')
    have hxW : W.cell? ⟨X, 2, none⟩ = some (.map (some B)) := by rw [← hW]; exact cell_alloc _ (cell_alloc _ hx)
    have HmW := Lib.hid (show MapAt pairV VInt W B m by rw [← hW]; exact (hm.of_block (Below.heap_alloc _ _ _ hm.lt)).of_block (Below.heap_alloc _ _ _ (by simp; omega)))
    have HKW := Lib.hid (show Kp B w W by rw [← hW]; exact (Kp.alloc _ _ _).trans (Kp.alloc _ _ _))
    clear hW hc hc' hx hm hXl hBl
    refine wp_region_still_tail 16 (by kernel_rfl) (by kernel_rfl) ?_
    simp only [List.take_succ_cons, List.take_zero, List.drop_succ_cons, List.drop_zero]
    change wpStill _ _ W.drew _ _ _
    repeat still_step
    try refine wpStill_nil ?_
    change wpList _ _ _ _ _ W.drew
    have hG := Lib.hid (granted_calls W.drew X B (rd x.f4 0) (rd y.f4 0) m hxW (HmW.out.of_block rfl))
    go_wp2_with fail
    refine hG.out.mono ?_
    rintro e w' ⟨rfl, hm', hK'⟩
    have HM := Lib.hid hm'
    have HK := Lib.hid hK'
    clear hm' hK'
    go_wp2
    go_ret
    refine ⟨_, _, rfl, HM.out, (HKW.out.trans (Kp.drew _ _)).trans HK.out, grow_grant _ _ HDom.out, ?_⟩
    intro R r1 r2
    rw [HV.out]
    exact ans_grant m (rd x.f4 0, rd y.f4 0) R r1 r2
  · have n1 : (x.f1 == y.f1) = false := by simp [h1]
    have HV := Lib.hid (show ∀ R, variableB x y R = false from fun R => by simp [variableB, h1])
    have HmW := Lib.hid hm
    clear h1 h4 k4 hm
    go_enter Tryd.func146, Tryd.ntmps146
    go_wp2
    go_quiet (fail)
    go_wp2
    go_ret
    exact ⟨_, m, rfl, (HmW.out.of_block (Below.heap_alloc _ _ _ HmW.out.lt)).of_block (Below.heap_alloc _ _ _ (by simp; omega)), ((Kp.alloc _ _ _).trans (Kp.alloc _ _ _)).trans (Kp.drewN _ _ _), Grow.refl m, fun R _ _ => HV.out R⟩
set_option maxRecDepth 100000 in
set_option maxHeartbeats 1000000 in
theorem record_calls [Dom] (w : World) (X B : Nat) (m : PM) (x y : S37) (hDom : ∀ a ∈ x.f4, ∀ b ∈ y.f4, Dom.D (a, b)) (A3 B3 : Option Addr) (c3 d3 : Nat) (A4 B4 : Option Addr) (c4 d4 : Nat) (hx : w.cell? ⟨X, 2, none⟩ = some (.map (some B))) (hm : MapAt pairV VInt w B m)
    (hl : x.f4.length = x.f3.length) (kl : y.f4.length = y.f3.length) (hn : x.f3.length ≤ 9223372036854775807) (kn : y.f3.length ≤ 9223372036854775807)
    (w0 : World) (hw0 : Below w0.heap.size w0 w) (hB0 : w0.heap.size ≤ B) (h30 : Kd.C Kd.string w0 A3 x.f3.length x.f3) (k30 : Kd.C Kd.string w0 B3 y.f3.length y.f3) (h40 : Kd.C (Kd.int .i64) w0 A4 x.f4.length x.f4) (k40 : Kd.C (Kd.int .i64) w0 B4 y.f4.length y.f4) (hXB : X ≠ B) :
    Calls Tryd.prog 145 #[.pointer (some ⟨X, 0, none⟩), nodeV x A3 c3 A4 c4, nodeV y B3 d3 B4 d4] w (Told B w m (recordB x y)) := by
  unfold nodeV
  have HDom := Lib.hid hDom
  clear hDom
  have H0 := Lib.hid (show _ ∧ _ ∧ _ ∧ _ from ⟨h30, k30, h40, k40⟩)
  clear h30 k30 h40 k40
  have HL := Lib.hid (show _ ∧ _ from ⟨hl, kl⟩)
  clear hl kl
  have hXl : X < w.heap.size := World.block_lt_of_cell? w _ hx
  have hBl := hm.lt
  go_enter Tryd.func145, Tryd.ntmps145
  go_wp2
  generalize hW : (w.alloc (Obj.cells #[Value.int IntKind.i64 x.f0, Value.int IntKind.i64 x.f1, Value.string x.f2, Value.slice A3 x.f3.length c3, Value.slice A4 x.f4.length c4] 37)).alloc (Obj.cells #[Value.int IntKind.i64 y.f0, Value.int IntKind.i64 y.f1, Value.string y.f2, Value.slice B3 y.f3.length d3, Value.slice B4 y.f4.length d4] 37) = W
  have b3 : W.cell? ⟨w.heap.size, 3, none⟩ = some (.slice A3 x.f3.length c3) := by rw [← hW]; simp
  have b4 : W.cell? ⟨w.heap.size, 4, none⟩ = some (.slice A4 x.f4.length c4) := by rw [← hW]; simp
  have e4 : W.cell? ⟨w.heap.size + 1, 4, none⟩ = some (.slice B4 y.f4.length d4) := by rw [← hW]; simp
  have hxW : W.cell? ⟨X, 2, none⟩ = some (.map (some B)) := by rw [← hW]; exact cell_alloc _ (cell_alloc _ hx)
  have HmW := Lib.hid (show MapAt pairV VInt W B m by rw [← hW]; exact (hm.of_block (Below.heap_alloc _ _ _ hm.lt)).of_block (Below.heap_alloc _ _ _ (by simp; omega)))
  have HKW := Lib.hid (show Kp B w W by rw [← hW]; exact (Kp.alloc _ _ _).trans (Kp.alloc _ _ _))
  have n1 : w.heap.size ≠ B := by omega
  have n2 : w.heap.size + 1 ≠ B := by omega
  clear hW hx hm hXl hBl
  go_loopw [13] (fun i wr => ∃ k : Nat, k ≤ y.f3.length ∧ i = .int .i64 k ∧ Hid (∃ m', MapAt pairV VInt wr B m' ∧ Kp B W wr ∧ Grow m m' ∧ ∀ j : Nat, j < k → Ans m m' (fieldB x y j) true)) (fun i _ => y.f3.length - (intOf i).toNat)
  case atStart => exact ⟨0, Nat.zero_le _, rfl, Lib.hid ⟨m, HmW.out, Kp.refl _ _, Grow.refl _, fun j hj => absurd hj (by omega)⟩⟩
  case round =>
    obtain ⟨k, hk, rfl, HI⟩ := hrel
    obtain ⟨m1, hm1, hK1, hG1, hA1⟩ := HI.out
    have HM1 := Lib.hid hm1
    have HK1 := Lib.hid hK1
    have HG1 := Lib.hid hG1
    have HA1 := Lib.hid hA1
    clear hm1 hK1 hG1 hA1 HI
    have HBw := Lib.hid ((hw0.trans (HKW.out.below hB0 hw0.size)).trans (HK1.out.below (B := w0.heap.size) hB0 (by have := hw0.size; have := HKW.out.size; omega)))
    have b3r := HK1.out.cell b3 n1
    have b4r := HK1.out.cell b4 n1
    have e4r := HK1.out.cell e4 n2
    have hxr := HK1.out.cell hxW hXB
    by_cases hlt : k < y.f3.length
    · obtain ⟨ad, rfl, hc⟩ := str_cell (Kd.C_below H0.out.2.1 HBw.out) k hlt
      have HIx := Lib.hid (indexS_calls A3 c3 x.f3 (y.f3.getD k ByteArray.empty) wr (Kd.C_below H0.out.1 HBw.out) hn)
      obtain ⟨ky, hky⟩ : ∃ ky, ky = y.f3.getD k ByteArray.empty := ⟨_, rfl⟩
      rw [← hky] at hc HIx
      have HKy := Lib.hid hky
      clear hky
      clear b3 b4 e4 hxW
      go_wp2_with fail
      refine HIx.out.mono ?_
      rintro e w' ⟨rfl, hww⟩
      replace hww := hww.symm
      subst hww
      have hlt' := keyAt_lt x.f3 ky
      by_cases hq : keyAt x.f3 ky < 0
      · have nq : decide (keyAt x.f3 ky < 0) = true := decide_eq_true hq
        have HF := Lib.hid (show ∀ R, fieldB x y k R = false from fun R => by simp only [fieldB, ← HKy.out, decide_eq_false (show ¬ (0 : Int) ≤ keyAt x.f3 ky by omega)]; rfl)
        clear hq hlt'
        generalize keyAt x.f3 ky = q at nq
        go_wp2
        go_quiet (fail)
        go_wp2
        go_ret
        exact ⟨_, m1, rfl, HM1.out.of_block rfl, ((HKW.out.trans HK1.out)).trans (Kp.drewN _ _ _), HG1.out, fun R _ _ => List.all_eq_false.2 ⟨k, List.mem_range.2 hlt, by rw [HF.out]; exact Bool.false_ne_true⟩⟩
      · obtain ⟨Q, hQ⟩ : ∃ Q : Nat, keyAt x.f3 ky = Q := ⟨(keyAt x.f3 ky).toNat, by omega⟩
        have HF := Lib.hid (show ∀ R, fieldB x y k R = R (rd x.f4 Q, rd y.f4 k) from fun R => by simp only [fieldB, ← HKy.out, hQ, decide_eq_true (show (0 : Int) ≤ (Q : Int) by omega)]; rfl)
        rw [hQ] at hlt' ⊢
        have hQ1 : Q < x.f4.length := by have := HL.out.1; omega
        have hk1 : k < y.f4.length := by have := HL.out.2; omega
        obtain ⟨ax, hax, hcx⟩ := int_cell (Kd.C_below H0.out.2.2.1 HBw.out) Q hQ1
        obtain ⟨ay, hay, hcy⟩ := int_cell (Kd.C_below H0.out.2.2.2 HBw.out) k hk1
        have nq : decide ((Q : Int) < 0) = false := decide_eq_false (by omega)
        have hG := Lib.hid (granted_calls wr.drew X B (rd x.f4 Q) (rd y.f4 k) m1 hxr (HM1.out.of_block rfl))
        have HDp := Lib.hid (HDom.out _ (rd_memI (l := x.f4) (i := Q) (by omega) (by omega)) _ (rd_memI (l := y.f4) (i := k) (by omega) (by omega)))
        clear hq hQ hlt'
        subst hax hay
        go_wp2
        refine wp_region_still_tail 15 (by kernel_rfl) (by kernel_rfl) ?_
        simp only [List.take_succ_cons, List.take_zero, List.drop_succ_cons, List.drop_zero]
        change wpStill _ _ wr.drew _ _ _
        repeat still_step
        try refine wpStill_nil ?_
        change wpList _ _ _ _ _ wr.drew
        go_wp2_with fail
        refine hG.out.mono ?_
        rintro e w' ⟨rfl, hm', hK'⟩
        have HM2 := Lib.hid hm'
        have HK2 := Lib.hid (show Kp B W w' from (HK1.out.trans (Kp.drew _ _)).trans hK')
        clear hm' hK'
        have HA2 := Lib.hid (show Ans m (grant m1 (rd x.f4 Q, rd y.f4 k)).2 (fieldB x y k) (grant m1 (rd x.f4 Q, rd y.f4 k)).1 from fun R r1 r2 => by
          rw [HF.out]
          exact (ans_grant m1 (rd x.f4 Q, rd y.f4 k)).from HG1.out R r1 r2)
        have HG2 := Lib.hid (grow_grant m1 (rd x.f4 Q, rd y.f4 k) HDp.out)
        generalize grant m1 (rd x.f4 Q, rd y.f4 k) = gr at HM2 HA2 HG2
        obtain ⟨r, m2⟩ := gr
        cases r with
        | true =>
          go_wp2
          go_roundw
          case rel => exact ⟨k + 1, by omega, by go_num, Lib.hid ⟨m2, HM2.out, HK2.out, HG1.out.trans HG2.out, fun j hj => if h : j = k then by rw [h]; exact HA2.out else (HA1.out j (by omega)).grow HG2.out⟩⟩
          case measure => simp [intOf]; omega
        | false =>
          go_wp2
          go_ret
          exact ⟨_, m2, rfl, HM2.out, HKW.out.trans HK2.out, HG1.out.trans HG2.out, fun R r1 r2 => List.all_eq_false.2 ⟨k, List.mem_range.2 hlt, by rw [HA2.out R r1 r2]; exact Bool.false_ne_true⟩⟩
    · obtain rfl : k = y.f3.length := by omega
      go_wp2
      go_ret
      exact ⟨_, m1, rfl, HM1.out, HKW.out.trans HK1.out, HG1.out, fun R r1 r2 => List.all_eq_true.2 (fun j hj => HA1.out j (List.mem_range.1 hj) R r1 r2)⟩
end Go.Proofs.YtcljgfpcdlnlkaaDoor.Q
namespace Go.Proofs.YtcljgfpcdlnlkaaDoor.Q
open Go.RowKit Go.Proofs.YtcljgfpcdlnlkaaDoorW.PrintWords Mp
/-- A node that may be, and is no union. -/
structure Fine (x : S37) : Prop where
  kind : x.f0 = 1 ∨ x.f0 = 2 ∨ x.f0 = 3 ∨ x.f0 = 4 ∨ x.f0 = 5 ∨ x.f0 = 7 ∨ x.f0 = 9
  recs : x.f0 = 7 → x.f4.length = x.f3.length
  vars : x.f0 = 9 → x.f4.length = 1
  lim : x.f3.length ≤ 16
theorem Told.const [Dom] {B : Nat} {w w' : World} {m : PM} (r : Bool) (hm : MapAt pairV VInt w' B m) (hK : Kp B w w') {f : (Int × Int → Bool) → Bool} (hf : ∀ R, f R = r) : Told B w m f (.returned (.bool r)) w' :=
  ⟨r, m, rfl, hm, hK, Grow.refl m, fun R _ _ => hf R⟩
set_option maxRecDepth 100000 in
set_option maxHeartbeats 1000000 in
theorem does_dyn [Dom] (w : World) (X B : Nat) (m : PM) (st : Bool) (x y : S37) (A3 B3 : Option Addr) (c3 d3 : Nat) (A4 B4 : Option Addr) (c4 d4 : Nat) (hx1 : w.cell? ⟨X, 1, none⟩ = some (.bool st)) (hm : MapAt pairV VInt w B m) (h : x.f0 = 1 ∨ y.f0 = 1) :
    Calls Tryd.prog 114 #[.pointer (some ⟨X, 0, none⟩), nodeV x A3 c3 A4 c4, nodeV y B3 d3 B4 d4] w (Told B w m (doesB st x y)) := by
  unfold nodeV
  have hXl : X < w.heap.size := World.block_lt_of_cell? w _ hx1
  have HM := Lib.hid (show MapAt pairV VInt ((w.alloc (Obj.cells #[Value.int IntKind.i64 x.f0, Value.int IntKind.i64 x.f1, Value.string x.f2, Value.slice A3 x.f3.length c3, Value.slice A4 x.f4.length c4] 37)).alloc (Obj.cells #[Value.int IntKind.i64 y.f0, Value.int IntKind.i64 y.f1, Value.string y.f2, Value.slice B3 y.f3.length d3, Value.slice B4 y.f4.length d4] 37)) B m from (hm.of_block (Below.heap_alloc _ _ _ hm.lt)).of_block (Below.heap_alloc _ _ _ (by simp; have := hm.lt; omega)))
  have HK := Lib.hid (show Kp B w ((w.alloc (Obj.cells #[Value.int IntKind.i64 x.f0, Value.int IntKind.i64 x.f1, Value.string x.f2, Value.slice A3 x.f3.length c3, Value.slice A4 x.f4.length c4] 37)).alloc (Obj.cells #[Value.int IntKind.i64 y.f0, Value.int IntKind.i64 y.f1, Value.string y.f2, Value.slice B3 y.f3.length d3, Value.slice B4 y.f4.length d4] 37)) from (Kp.alloc _ _ _).trans (Kp.alloc _ _ _))
  clear hm
  have HD := Lib.hid (show ∀ R, doesB st x y R = (!st || decide (x.f0 = y.f0)) from fun R => if_pos h)
  cases st with
  | false =>
    by_cases e1 : x.f0 = 1
    · have n1 : (x.f0 == 1) = true := by simp [e1]
      clear h e1
      go_enter Tryd.func114, Tryd.ntmps114
      go_wp2
      go_ret
      exact Told.const _ HM.out HK.out (fun R => by rw [HD.out]; rfl)
    · have n1 : (x.f0 == 1) = false := by simp [e1]
      have n2 : (y.f0 == 1) = true := by simp [h.resolve_left e1]
      clear h e1
      go_enter Tryd.func114, Tryd.ntmps114
      go_wp2
      go_ret
      exact Told.const _ HM.out HK.out (fun R => by rw [HD.out]; rfl)
  | true =>
    have n3 : (x.f0 == y.f0) = decide (x.f0 = y.f0) := by rw [Bool.eq_iff_iff]; simp
    by_cases e1 : x.f0 = 1
    · have n1 : (x.f0 == 1) = true := by simp [e1]
      have N3 := Lib.hid n3
      clear h e1 n3
      go_enter Tryd.func114, Tryd.ntmps114
      go_wp2
      go_ret
      exact Told.const _ HM.out HK.out (fun R => by rw [HD.out, ← N3.out]; rfl)
    · have n1 : (x.f0 == 1) = false := by simp [e1]
      have n2 : (y.f0 == 1) = true := by simp [h.resolve_left e1]
      have N3 := Lib.hid n3
      clear h e1 n3
      go_enter Tryd.func114, Tryd.ntmps114
      go_wp2
      go_ret
      exact Told.const _ HM.out HK.out (fun R => by rw [HD.out, ← N3.out]; rfl)
set_option maxRecDepth 100000 in
set_option maxHeartbeats 1000000 in
theorem does_unlike [Dom] (w : World) (X B : Nat) (m : PM) (st : Bool) (x y : S37) (A3 B3 : Option Addr) (c3 d3 : Nat) (A4 B4 : Option Addr) (c4 d4 : Nat) (hm : MapAt pairV VInt w B m) (h1 : x.f0 ≠ 1) (h2 : y.f0 ≠ 1) (h : x.f0 ≠ y.f0) :
    Calls Tryd.prog 114 #[.pointer (some ⟨X, 0, none⟩), nodeV x A3 c3 A4 c4, nodeV y B3 d3 B4 d4] w (Told B w m (doesB st x y)) := by
  unfold nodeV
  have HM := Lib.hid hm
  have HD := Lib.hid (show ∀ R, doesB st x y R = false from fun R => by unfold doesB; rw [if_neg (by omega), decide_eq_false h]; rfl)
  have n1 : (x.f0 == 1) = false := by simp [h1]
  have n2 : (y.f0 == 1) = false := by simp [h2]
  have n3 : (x.f0 == y.f0) = false := by simp [h]
  clear hm h1 h2 h
  go_enter Tryd.func114, Tryd.ntmps114
  go_wp2
  go_quiet (fail)
  go_wp2
  go_ret
  refine Told.const _ ?_ ?_ HD.out
  · have hm := HM.out
    exact ((hm.of_block (Below.heap_alloc _ _ _ hm.lt)).of_block (Below.heap_alloc _ _ _ (by simp; have := hm.lt; omega))).of_block (Below.heap_alloc _ _ _ (by simp; have := hm.lt; omega))
  · exact (((Kp.alloc _ _ _).trans (Kp.alloc _ _ _)).trans (Kp.alloc _ _ _)).trans (Kp.drewN _ _ _)
end Go.Proofs.YtcljgfpcdlnlkaaDoor.Q
namespace Go.Proofs.YtcljgfpcdlnlkaaDoor.Q
open Go.RowKit Go.Proofs.YtcljgfpcdlnlkaaDoorW.PrintWords Mp
set_option maxRecDepth 100000 in
set_option maxHeartbeats 1000000 in
theorem does_2 [Dom] (w : World) (X B : Nat) (m : PM) (st : Bool) (x y : S37) (A3 B3 : Option Addr) (c3 d3 : Nat) (A4 B4 : Option Addr) (c4 d4 : Nat) (hm : MapAt pairV VInt w B m) (h1 : x.f0 = 2) (h2 : y.f0 = 2) :
    Calls Tryd.prog 114 #[.pointer (some ⟨X, 0, none⟩), nodeV x A3 c3 A4 c4, nodeV y B3 d3 B4 d4] w (Told B w m (doesB st x y)) := by
  unfold nodeV
  have HM := Lib.hid hm
  have HD := Lib.hid (show ∀ R, doesB st x y R = true from fun R => by unfold doesB; rw [if_neg (by omega), decide_eq_true (by omega)]; simp [h1])
  have hbW : Below w.heap.size w (((w.alloc (Obj.cells #[Value.int IntKind.i64 x.f0, Value.int IntKind.i64 x.f1, Value.string x.f2, Value.slice A3 x.f3.length c3, Value.slice A4 x.f4.length c4] 37)).alloc (Obj.cells #[Value.int IntKind.i64 y.f0, Value.int IntKind.i64 y.f1, Value.string y.f2, Value.slice B3 y.f3.length d3, Value.slice B4 y.f4.length d4] 37)).alloc (Obj.cells #[Value.nilFunc, Value.nilFunc, Value.func (Fn.func 143) #[] #[], Value.func (Fn.func 143) #[] #[], Value.func (Fn.func 143) #[] #[], Value.func (Fn.func 144) #[] #[], Value.nilFunc, Value.func (Fn.func 145) #[] #[], Value.nilFunc, Value.func (Fn.func 146) #[] #[]] 152)) := (((Below.refl _ _).alloc (Nat.le_refl _) _).alloc (by simp) _).alloc (by simp; omega) _
  have HmW := Lib.hid (show MapAt pairV VInt (((w.alloc (Obj.cells #[Value.int IntKind.i64 x.f0, Value.int IntKind.i64 x.f1, Value.string x.f2, Value.slice A3 x.f3.length c3, Value.slice A4 x.f4.length c4] 37)).alloc (Obj.cells #[Value.int IntKind.i64 y.f0, Value.int IntKind.i64 y.f1, Value.string y.f2, Value.slice B3 y.f3.length d3, Value.slice B4 y.f4.length d4] 37)).alloc (Obj.cells #[Value.nilFunc, Value.nilFunc, Value.func (Fn.func 143) #[] #[], Value.func (Fn.func 143) #[] #[], Value.func (Fn.func 143) #[] #[], Value.func (Fn.func 144) #[] #[], Value.nilFunc, Value.func (Fn.func 145) #[] #[], Value.nilFunc, Value.func (Fn.func 146) #[] #[]] 152)) B m from hm.of_block (hbW.block _ hm.lt))
  have HKW := Lib.hid (show Kp B w (((w.alloc (Obj.cells #[Value.int IntKind.i64 x.f0, Value.int IntKind.i64 x.f1, Value.string x.f2, Value.slice A3 x.f3.length c3, Value.slice A4 x.f4.length c4] 37)).alloc (Obj.cells #[Value.int IntKind.i64 y.f0, Value.int IntKind.i64 y.f1, Value.string y.f2, Value.slice B3 y.f3.length d3, Value.slice B4 y.f4.length d4] 37)).alloc (Obj.cells #[Value.nilFunc, Value.nilFunc, Value.func (Fn.func 143) #[] #[], Value.func (Fn.func 143) #[] #[], Value.func (Fn.func 143) #[] #[], Value.func (Fn.func 144) #[] #[], Value.nilFunc, Value.func (Fn.func 145) #[] #[], Value.nilFunc, Value.func (Fn.func 146) #[] #[]] 152)) from ((Kp.alloc _ _ _).trans (Kp.alloc _ _ _)).trans (Kp.alloc _ _ _))
  clear hm
  rw [h1, h2] at hbW HmW HKW
  go_enter Tryd.func114, Tryd.ntmps114
  rw [h1, h2]
  have H12 := Lib.hid (show _ ∧ _ from ⟨h1, h2⟩)
  clear h1 h2
  go_wp2
  generalize hW : ((w.alloc (Obj.cells #[Value.int IntKind.i64 2, Value.int IntKind.i64 x.f1, Value.string x.f2, Value.slice A3 x.f3.length c3, Value.slice A4 x.f4.length c4] 37)).alloc (Obj.cells #[Value.int IntKind.i64 2, Value.int IntKind.i64 y.f1, Value.string y.f2, Value.slice B3 y.f3.length d3, Value.slice B4 y.f4.length d4] 37)).alloc (Obj.cells #[Value.nilFunc, Value.nilFunc, Value.func (Fn.func 143) #[] #[], Value.func (Fn.func 143) #[] #[], Value.func (Fn.func 143) #[] #[], Value.func (Fn.func 144) #[] #[], Value.nilFunc, Value.func (Fn.func 145) #[] #[], Value.nilFunc, Value.func (Fn.func 146) #[] #[]] 152) = W at *
  have p0 : W.cell? ⟨w.heap.size, 0, none⟩ = some (.int .i64 2) := by rw [← hW]; exact cell_alloc _ (by simp)
  have p1 : W.cell? ⟨w.heap.size, 1, none⟩ = some (.int .i64 x.f1) := by rw [← hW]; exact cell_alloc _ (by simp)
  have p2 : W.cell? ⟨w.heap.size, 2, none⟩ = some (.string x.f2) := by rw [← hW]; exact cell_alloc _ (by simp)
  have p3 : W.cell? ⟨w.heap.size, 3, none⟩ = some (.slice A3 x.f3.length c3) := by rw [← hW]; exact cell_alloc _ (by simp)
  have p4 : W.cell? ⟨w.heap.size, 4, none⟩ = some (.slice A4 x.f4.length c4) := by rw [← hW]; exact cell_alloc _ (by simp)
  have q0 : W.cell? ⟨w.heap.size + 1, 0, none⟩ = some (.int .i64 2) := by rw [← hW]; exact cell_alloc _ (by simp)
  have q1 : W.cell? ⟨w.heap.size + 1, 1, none⟩ = some (.int .i64 y.f1) := by rw [← hW]; exact cell_alloc _ (by simp)
  have q2 : W.cell? ⟨w.heap.size + 1, 2, none⟩ = some (.string y.f2) := by rw [← hW]; exact cell_alloc _ (by simp)
  have q3 : W.cell? ⟨w.heap.size + 1, 3, none⟩ = some (.slice B3 y.f3.length d3) := by rw [← hW]; exact cell_alloc _ (by simp)
  have q4 : W.cell? ⟨w.heap.size + 1, 4, none⟩ = some (.slice B4 y.f4.length d4) := by rw [← hW]; exact cell_alloc _ (by simp)
  have r0 : W.cell? ⟨w.heap.size + 1 + 1, 2, none⟩ = some (.func (.func 143) #[] #[]) := by rw [← hW]; rw [World.cell?_alloc_at _ _ _ _ (by simp)]; rfl
  have HC : Calls Tryd.prog 143 #[.pointer (some ⟨X, 0, none⟩), .agg #[.int .i64 2, .int .i64 x.f1, .string x.f2, .slice A3 x.f3.length c3, .slice A4 x.f4.length c4], .agg #[.int .i64 2, .int .i64 y.f1, .string y.f2, .slice B3 y.f3.length d3, .slice B4 y.f4.length d4]] W.drew (Told B W.drew m (fun _ => true)) := by
    have := (show Calls Tryd.prog 143 #[.pointer (some ⟨X, 0, none⟩), nodeV x A3 c3 A4 c4, nodeV y B3 d3 B4 d4] W.drew (Told B W.drew m (fun _ => true)) from (by refine (base_calls _ x y A3 B3 c3 d3 A4 B4 c4 d4 W.drew).mono ?_; rintro e w' ⟨rfl, hb⟩; exact Told.const true ((HmW.out.of_block (w' := W.drew) rfl).of_block (hb.block _ HmW.out.lt)) ⟨hb.os, hb.tape, hb.output, hb.size, fun i hi _ => hb.block i hi⟩ (fun _ => rfl)))
    simpa only [nodeV, H12.out.1, H12.out.2] using this
  have HCh := Lib.hid HC
  clear HC hW hbW
  refine wp_region_still_tail 13 (by kernel_rfl) (by kernel_rfl) ?_
  simp only [List.take_succ_cons, List.take_zero, List.drop_succ_cons, List.drop_zero]
  change wpStill _ _ W.drew _ _ _
  repeat still_step
  try refine wpStill_nil ?_
  change wpList _ _ _ _ _ W.drew
  go_wp2_with fail
  refine HCh.out.mono ?_
  rintro e w' ⟨r, m', rfl, hm', hK', hG, hA⟩
  have HE := Lib.hid (show _ ∧ _ ∧ _ ∧ _ from ⟨hm', hK', hG, hA⟩)
  clear hm' hK' hG hA
  go_wp2
  go_ret
  exact ⟨r, m', rfl, HE.out.1, (HKW.out.trans (Kp.drew _ _)).trans HE.out.2.1, HE.out.2.2.1, fun R r1 r2 => by rw [HD.out]; exact HE.out.2.2.2 R r1 r2⟩
set_option maxRecDepth 100000 in
set_option maxHeartbeats 1000000 in
theorem does_3 [Dom] (w : World) (X B : Nat) (m : PM) (st : Bool) (x y : S37) (A3 B3 : Option Addr) (c3 d3 : Nat) (A4 B4 : Option Addr) (c4 d4 : Nat) (hm : MapAt pairV VInt w B m) (h1 : x.f0 = 3) (h2 : y.f0 = 3) :
    Calls Tryd.prog 114 #[.pointer (some ⟨X, 0, none⟩), nodeV x A3 c3 A4 c4, nodeV y B3 d3 B4 d4] w (Told B w m (doesB st x y)) := by
  unfold nodeV
  have HM := Lib.hid hm
  have HD := Lib.hid (show ∀ R, doesB st x y R = true from fun R => by unfold doesB; rw [if_neg (by omega), decide_eq_true (by omega)]; simp [h1])
  have hbW : Below w.heap.size w (((w.alloc (Obj.cells #[Value.int IntKind.i64 x.f0, Value.int IntKind.i64 x.f1, Value.string x.f2, Value.slice A3 x.f3.length c3, Value.slice A4 x.f4.length c4] 37)).alloc (Obj.cells #[Value.int IntKind.i64 y.f0, Value.int IntKind.i64 y.f1, Value.string y.f2, Value.slice B3 y.f3.length d3, Value.slice B4 y.f4.length d4] 37)).alloc (Obj.cells #[Value.nilFunc, Value.nilFunc, Value.func (Fn.func 143) #[] #[], Value.func (Fn.func 143) #[] #[], Value.func (Fn.func 143) #[] #[], Value.func (Fn.func 144) #[] #[], Value.nilFunc, Value.func (Fn.func 145) #[] #[], Value.nilFunc, Value.func (Fn.func 146) #[] #[]] 152)) := (((Below.refl _ _).alloc (Nat.le_refl _) _).alloc (by simp) _).alloc (by simp; omega) _
  have HmW := Lib.hid (show MapAt pairV VInt (((w.alloc (Obj.cells #[Value.int IntKind.i64 x.f0, Value.int IntKind.i64 x.f1, Value.string x.f2, Value.slice A3 x.f3.length c3, Value.slice A4 x.f4.length c4] 37)).alloc (Obj.cells #[Value.int IntKind.i64 y.f0, Value.int IntKind.i64 y.f1, Value.string y.f2, Value.slice B3 y.f3.length d3, Value.slice B4 y.f4.length d4] 37)).alloc (Obj.cells #[Value.nilFunc, Value.nilFunc, Value.func (Fn.func 143) #[] #[], Value.func (Fn.func 143) #[] #[], Value.func (Fn.func 143) #[] #[], Value.func (Fn.func 144) #[] #[], Value.nilFunc, Value.func (Fn.func 145) #[] #[], Value.nilFunc, Value.func (Fn.func 146) #[] #[]] 152)) B m from hm.of_block (hbW.block _ hm.lt))
  have HKW := Lib.hid (show Kp B w (((w.alloc (Obj.cells #[Value.int IntKind.i64 x.f0, Value.int IntKind.i64 x.f1, Value.string x.f2, Value.slice A3 x.f3.length c3, Value.slice A4 x.f4.length c4] 37)).alloc (Obj.cells #[Value.int IntKind.i64 y.f0, Value.int IntKind.i64 y.f1, Value.string y.f2, Value.slice B3 y.f3.length d3, Value.slice B4 y.f4.length d4] 37)).alloc (Obj.cells #[Value.nilFunc, Value.nilFunc, Value.func (Fn.func 143) #[] #[], Value.func (Fn.func 143) #[] #[], Value.func (Fn.func 143) #[] #[], Value.func (Fn.func 144) #[] #[], Value.nilFunc, Value.func (Fn.func 145) #[] #[], Value.nilFunc, Value.func (Fn.func 146) #[] #[]] 152)) from ((Kp.alloc _ _ _).trans (Kp.alloc _ _ _)).trans (Kp.alloc _ _ _))
  clear hm
  rw [h1, h2] at hbW HmW HKW
  go_enter Tryd.func114, Tryd.ntmps114
  rw [h1, h2]
  have H12 := Lib.hid (show _ ∧ _ from ⟨h1, h2⟩)
  clear h1 h2
  go_wp2
  generalize hW : ((w.alloc (Obj.cells #[Value.int IntKind.i64 3, Value.int IntKind.i64 x.f1, Value.string x.f2, Value.slice A3 x.f3.length c3, Value.slice A4 x.f4.length c4] 37)).alloc (Obj.cells #[Value.int IntKind.i64 3, Value.int IntKind.i64 y.f1, Value.string y.f2, Value.slice B3 y.f3.length d3, Value.slice B4 y.f4.length d4] 37)).alloc (Obj.cells #[Value.nilFunc, Value.nilFunc, Value.func (Fn.func 143) #[] #[], Value.func (Fn.func 143) #[] #[], Value.func (Fn.func 143) #[] #[], Value.func (Fn.func 144) #[] #[], Value.nilFunc, Value.func (Fn.func 145) #[] #[], Value.nilFunc, Value.func (Fn.func 146) #[] #[]] 152) = W at *
  have p0 : W.cell? ⟨w.heap.size, 0, none⟩ = some (.int .i64 3) := by rw [← hW]; exact cell_alloc _ (by simp)
  have p1 : W.cell? ⟨w.heap.size, 1, none⟩ = some (.int .i64 x.f1) := by rw [← hW]; exact cell_alloc _ (by simp)
  have p2 : W.cell? ⟨w.heap.size, 2, none⟩ = some (.string x.f2) := by rw [← hW]; exact cell_alloc _ (by simp)
  have p3 : W.cell? ⟨w.heap.size, 3, none⟩ = some (.slice A3 x.f3.length c3) := by rw [← hW]; exact cell_alloc _ (by simp)
  have p4 : W.cell? ⟨w.heap.size, 4, none⟩ = some (.slice A4 x.f4.length c4) := by rw [← hW]; exact cell_alloc _ (by simp)
  have q0 : W.cell? ⟨w.heap.size + 1, 0, none⟩ = some (.int .i64 3) := by rw [← hW]; exact cell_alloc _ (by simp)
  have q1 : W.cell? ⟨w.heap.size + 1, 1, none⟩ = some (.int .i64 y.f1) := by rw [← hW]; exact cell_alloc _ (by simp)
  have q2 : W.cell? ⟨w.heap.size + 1, 2, none⟩ = some (.string y.f2) := by rw [← hW]; exact cell_alloc _ (by simp)
  have q3 : W.cell? ⟨w.heap.size + 1, 3, none⟩ = some (.slice B3 y.f3.length d3) := by rw [← hW]; exact cell_alloc _ (by simp)
  have q4 : W.cell? ⟨w.heap.size + 1, 4, none⟩ = some (.slice B4 y.f4.length d4) := by rw [← hW]; exact cell_alloc _ (by simp)
  have r0 : W.cell? ⟨w.heap.size + 1 + 1, 3, none⟩ = some (.func (.func 143) #[] #[]) := by rw [← hW]; rw [World.cell?_alloc_at _ _ _ _ (by simp)]; rfl
  have HC : Calls Tryd.prog 143 #[.pointer (some ⟨X, 0, none⟩), .agg #[.int .i64 3, .int .i64 x.f1, .string x.f2, .slice A3 x.f3.length c3, .slice A4 x.f4.length c4], .agg #[.int .i64 3, .int .i64 y.f1, .string y.f2, .slice B3 y.f3.length d3, .slice B4 y.f4.length d4]] W.drew (Told B W.drew m (fun _ => true)) := by
    have := (show Calls Tryd.prog 143 #[.pointer (some ⟨X, 0, none⟩), nodeV x A3 c3 A4 c4, nodeV y B3 d3 B4 d4] W.drew (Told B W.drew m (fun _ => true)) from (by refine (base_calls _ x y A3 B3 c3 d3 A4 B4 c4 d4 W.drew).mono ?_; rintro e w' ⟨rfl, hb⟩; exact Told.const true ((HmW.out.of_block (w' := W.drew) rfl).of_block (hb.block _ HmW.out.lt)) ⟨hb.os, hb.tape, hb.output, hb.size, fun i hi _ => hb.block i hi⟩ (fun _ => rfl)))
    simpa only [nodeV, H12.out.1, H12.out.2] using this
  have HCh := Lib.hid HC
  clear HC hW hbW
  refine wp_region_still_tail 13 (by kernel_rfl) (by kernel_rfl) ?_
  simp only [List.take_succ_cons, List.take_zero, List.drop_succ_cons, List.drop_zero]
  change wpStill _ _ W.drew _ _ _
  repeat still_step
  try refine wpStill_nil ?_
  change wpList _ _ _ _ _ W.drew
  go_wp2_with fail
  refine HCh.out.mono ?_
  rintro e w' ⟨r, m', rfl, hm', hK', hG, hA⟩
  have HE := Lib.hid (show _ ∧ _ ∧ _ ∧ _ from ⟨hm', hK', hG, hA⟩)
  clear hm' hK' hG hA
  go_wp2
  go_ret
  exact ⟨r, m', rfl, HE.out.1, (HKW.out.trans (Kp.drew _ _)).trans HE.out.2.1, HE.out.2.2.1, fun R r1 r2 => by rw [HD.out]; exact HE.out.2.2.2 R r1 r2⟩
set_option maxRecDepth 100000 in
set_option maxHeartbeats 1000000 in
theorem does_4 [Dom] (w : World) (X B : Nat) (m : PM) (st : Bool) (x y : S37) (A3 B3 : Option Addr) (c3 d3 : Nat) (A4 B4 : Option Addr) (c4 d4 : Nat) (hm : MapAt pairV VInt w B m) (h1 : x.f0 = 4) (h2 : y.f0 = 4) :
    Calls Tryd.prog 114 #[.pointer (some ⟨X, 0, none⟩), nodeV x A3 c3 A4 c4, nodeV y B3 d3 B4 d4] w (Told B w m (doesB st x y)) := by
  unfold nodeV
  have HM := Lib.hid hm
  have HD := Lib.hid (show ∀ R, doesB st x y R = true from fun R => by unfold doesB; rw [if_neg (by omega), decide_eq_true (by omega)]; simp [h1])
  have hbW : Below w.heap.size w (((w.alloc (Obj.cells #[Value.int IntKind.i64 x.f0, Value.int IntKind.i64 x.f1, Value.string x.f2, Value.slice A3 x.f3.length c3, Value.slice A4 x.f4.length c4] 37)).alloc (Obj.cells #[Value.int IntKind.i64 y.f0, Value.int IntKind.i64 y.f1, Value.string y.f2, Value.slice B3 y.f3.length d3, Value.slice B4 y.f4.length d4] 37)).alloc (Obj.cells #[Value.nilFunc, Value.nilFunc, Value.func (Fn.func 143) #[] #[], Value.func (Fn.func 143) #[] #[], Value.func (Fn.func 143) #[] #[], Value.func (Fn.func 144) #[] #[], Value.nilFunc, Value.func (Fn.func 145) #[] #[], Value.nilFunc, Value.func (Fn.func 146) #[] #[]] 152)) := (((Below.refl _ _).alloc (Nat.le_refl _) _).alloc (by simp) _).alloc (by simp; omega) _
  have HmW := Lib.hid (show MapAt pairV VInt (((w.alloc (Obj.cells #[Value.int IntKind.i64 x.f0, Value.int IntKind.i64 x.f1, Value.string x.f2, Value.slice A3 x.f3.length c3, Value.slice A4 x.f4.length c4] 37)).alloc (Obj.cells #[Value.int IntKind.i64 y.f0, Value.int IntKind.i64 y.f1, Value.string y.f2, Value.slice B3 y.f3.length d3, Value.slice B4 y.f4.length d4] 37)).alloc (Obj.cells #[Value.nilFunc, Value.nilFunc, Value.func (Fn.func 143) #[] #[], Value.func (Fn.func 143) #[] #[], Value.func (Fn.func 143) #[] #[], Value.func (Fn.func 144) #[] #[], Value.nilFunc, Value.func (Fn.func 145) #[] #[], Value.nilFunc, Value.func (Fn.func 146) #[] #[]] 152)) B m from hm.of_block (hbW.block _ hm.lt))
  have HKW := Lib.hid (show Kp B w (((w.alloc (Obj.cells #[Value.int IntKind.i64 x.f0, Value.int IntKind.i64 x.f1, Value.string x.f2, Value.slice A3 x.f3.length c3, Value.slice A4 x.f4.length c4] 37)).alloc (Obj.cells #[Value.int IntKind.i64 y.f0, Value.int IntKind.i64 y.f1, Value.string y.f2, Value.slice B3 y.f3.length d3, Value.slice B4 y.f4.length d4] 37)).alloc (Obj.cells #[Value.nilFunc, Value.nilFunc, Value.func (Fn.func 143) #[] #[], Value.func (Fn.func 143) #[] #[], Value.func (Fn.func 143) #[] #[], Value.func (Fn.func 144) #[] #[], Value.nilFunc, Value.func (Fn.func 145) #[] #[], Value.nilFunc, Value.func (Fn.func 146) #[] #[]] 152)) from ((Kp.alloc _ _ _).trans (Kp.alloc _ _ _)).trans (Kp.alloc _ _ _))
  clear hm
  rw [h1, h2] at hbW HmW HKW
  go_enter Tryd.func114, Tryd.ntmps114
  rw [h1, h2]
  have H12 := Lib.hid (show _ ∧ _ from ⟨h1, h2⟩)
  clear h1 h2
  go_wp2
  generalize hW : ((w.alloc (Obj.cells #[Value.int IntKind.i64 4, Value.int IntKind.i64 x.f1, Value.string x.f2, Value.slice A3 x.f3.length c3, Value.slice A4 x.f4.length c4] 37)).alloc (Obj.cells #[Value.int IntKind.i64 4, Value.int IntKind.i64 y.f1, Value.string y.f2, Value.slice B3 y.f3.length d3, Value.slice B4 y.f4.length d4] 37)).alloc (Obj.cells #[Value.nilFunc, Value.nilFunc, Value.func (Fn.func 143) #[] #[], Value.func (Fn.func 143) #[] #[], Value.func (Fn.func 143) #[] #[], Value.func (Fn.func 144) #[] #[], Value.nilFunc, Value.func (Fn.func 145) #[] #[], Value.nilFunc, Value.func (Fn.func 146) #[] #[]] 152) = W at *
  have p0 : W.cell? ⟨w.heap.size, 0, none⟩ = some (.int .i64 4) := by rw [← hW]; exact cell_alloc _ (by simp)
  have p1 : W.cell? ⟨w.heap.size, 1, none⟩ = some (.int .i64 x.f1) := by rw [← hW]; exact cell_alloc _ (by simp)
  have p2 : W.cell? ⟨w.heap.size, 2, none⟩ = some (.string x.f2) := by rw [← hW]; exact cell_alloc _ (by simp)
  have p3 : W.cell? ⟨w.heap.size, 3, none⟩ = some (.slice A3 x.f3.length c3) := by rw [← hW]; exact cell_alloc _ (by simp)
  have p4 : W.cell? ⟨w.heap.size, 4, none⟩ = some (.slice A4 x.f4.length c4) := by rw [← hW]; exact cell_alloc _ (by simp)
  have q0 : W.cell? ⟨w.heap.size + 1, 0, none⟩ = some (.int .i64 4) := by rw [← hW]; exact cell_alloc _ (by simp)
  have q1 : W.cell? ⟨w.heap.size + 1, 1, none⟩ = some (.int .i64 y.f1) := by rw [← hW]; exact cell_alloc _ (by simp)
  have q2 : W.cell? ⟨w.heap.size + 1, 2, none⟩ = some (.string y.f2) := by rw [← hW]; exact cell_alloc _ (by simp)
  have q3 : W.cell? ⟨w.heap.size + 1, 3, none⟩ = some (.slice B3 y.f3.length d3) := by rw [← hW]; exact cell_alloc _ (by simp)
  have q4 : W.cell? ⟨w.heap.size + 1, 4, none⟩ = some (.slice B4 y.f4.length d4) := by rw [← hW]; exact cell_alloc _ (by simp)
  have r0 : W.cell? ⟨w.heap.size + 1 + 1, 4, none⟩ = some (.func (.func 143) #[] #[]) := by rw [← hW]; rw [World.cell?_alloc_at _ _ _ _ (by simp)]; rfl
  have HC : Calls Tryd.prog 143 #[.pointer (some ⟨X, 0, none⟩), .agg #[.int .i64 4, .int .i64 x.f1, .string x.f2, .slice A3 x.f3.length c3, .slice A4 x.f4.length c4], .agg #[.int .i64 4, .int .i64 y.f1, .string y.f2, .slice B3 y.f3.length d3, .slice B4 y.f4.length d4]] W.drew (Told B W.drew m (fun _ => true)) := by
    have := (show Calls Tryd.prog 143 #[.pointer (some ⟨X, 0, none⟩), nodeV x A3 c3 A4 c4, nodeV y B3 d3 B4 d4] W.drew (Told B W.drew m (fun _ => true)) from (by refine (base_calls _ x y A3 B3 c3 d3 A4 B4 c4 d4 W.drew).mono ?_; rintro e w' ⟨rfl, hb⟩; exact Told.const true ((HmW.out.of_block (w' := W.drew) rfl).of_block (hb.block _ HmW.out.lt)) ⟨hb.os, hb.tape, hb.output, hb.size, fun i hi _ => hb.block i hi⟩ (fun _ => rfl)))
    simpa only [nodeV, H12.out.1, H12.out.2] using this
  have HCh := Lib.hid HC
  clear HC hW hbW
  refine wp_region_still_tail 13 (by kernel_rfl) (by kernel_rfl) ?_
  simp only [List.take_succ_cons, List.take_zero, List.drop_succ_cons, List.drop_zero]
  change wpStill _ _ W.drew _ _ _
  repeat still_step
  try refine wpStill_nil ?_
  change wpList _ _ _ _ _ W.drew
  go_wp2_with fail
  refine HCh.out.mono ?_
  rintro e w' ⟨r, m', rfl, hm', hK', hG, hA⟩
  have HE := Lib.hid (show _ ∧ _ ∧ _ ∧ _ from ⟨hm', hK', hG, hA⟩)
  clear hm' hK' hG hA
  go_wp2
  go_ret
  exact ⟨r, m', rfl, HE.out.1, (HKW.out.trans (Kp.drew _ _)).trans HE.out.2.1, HE.out.2.2.1, fun R r1 r2 => by rw [HD.out]; exact HE.out.2.2.2 R r1 r2⟩
set_option maxRecDepth 100000 in
set_option maxHeartbeats 1000000 in
theorem does_5 [Dom] (w : World) (X B : Nat) (m : PM) (st : Bool) (x y : S37) (A3 B3 : Option Addr) (c3 d3 : Nat) (A4 B4 : Option Addr) (c4 d4 : Nat) (hm : MapAt pairV VInt w B m) (h1 : x.f0 = 5) (h2 : y.f0 = 5) :
    Calls Tryd.prog 114 #[.pointer (some ⟨X, 0, none⟩), nodeV x A3 c3 A4 c4, nodeV y B3 d3 B4 d4] w (Told B w m (doesB st x y)) := by
  unfold nodeV
  have HM := Lib.hid hm
  have HD := Lib.hid (show ∀ R, doesB st x y R = decide (x.f2 = y.f2) from fun R => by unfold doesB; rw [if_neg (by omega), decide_eq_true (by omega)]; simp [h1])
  have hbW : Below w.heap.size w (((w.alloc (Obj.cells #[Value.int IntKind.i64 x.f0, Value.int IntKind.i64 x.f1, Value.string x.f2, Value.slice A3 x.f3.length c3, Value.slice A4 x.f4.length c4] 37)).alloc (Obj.cells #[Value.int IntKind.i64 y.f0, Value.int IntKind.i64 y.f1, Value.string y.f2, Value.slice B3 y.f3.length d3, Value.slice B4 y.f4.length d4] 37)).alloc (Obj.cells #[Value.nilFunc, Value.nilFunc, Value.func (Fn.func 143) #[] #[], Value.func (Fn.func 143) #[] #[], Value.func (Fn.func 143) #[] #[], Value.func (Fn.func 144) #[] #[], Value.nilFunc, Value.func (Fn.func 145) #[] #[], Value.nilFunc, Value.func (Fn.func 146) #[] #[]] 152)) := (((Below.refl _ _).alloc (Nat.le_refl _) _).alloc (by simp) _).alloc (by simp; omega) _
  have HmW := Lib.hid (show MapAt pairV VInt (((w.alloc (Obj.cells #[Value.int IntKind.i64 x.f0, Value.int IntKind.i64 x.f1, Value.string x.f2, Value.slice A3 x.f3.length c3, Value.slice A4 x.f4.length c4] 37)).alloc (Obj.cells #[Value.int IntKind.i64 y.f0, Value.int IntKind.i64 y.f1, Value.string y.f2, Value.slice B3 y.f3.length d3, Value.slice B4 y.f4.length d4] 37)).alloc (Obj.cells #[Value.nilFunc, Value.nilFunc, Value.func (Fn.func 143) #[] #[], Value.func (Fn.func 143) #[] #[], Value.func (Fn.func 143) #[] #[], Value.func (Fn.func 144) #[] #[], Value.nilFunc, Value.func (Fn.func 145) #[] #[], Value.nilFunc, Value.func (Fn.func 146) #[] #[]] 152)) B m from hm.of_block (hbW.block _ hm.lt))
  have HKW := Lib.hid (show Kp B w (((w.alloc (Obj.cells #[Value.int IntKind.i64 x.f0, Value.int IntKind.i64 x.f1, Value.string x.f2, Value.slice A3 x.f3.length c3, Value.slice A4 x.f4.length c4] 37)).alloc (Obj.cells #[Value.int IntKind.i64 y.f0, Value.int IntKind.i64 y.f1, Value.string y.f2, Value.slice B3 y.f3.length d3, Value.slice B4 y.f4.length d4] 37)).alloc (Obj.cells #[Value.nilFunc, Value.nilFunc, Value.func (Fn.func 143) #[] #[], Value.func (Fn.func 143) #[] #[], Value.func (Fn.func 143) #[] #[], Value.func (Fn.func 144) #[] #[], Value.nilFunc, Value.func (Fn.func 145) #[] #[], Value.nilFunc, Value.func (Fn.func 146) #[] #[]] 152)) from ((Kp.alloc _ _ _).trans (Kp.alloc _ _ _)).trans (Kp.alloc _ _ _))
  clear hm
  rw [h1, h2] at hbW HmW HKW
  go_enter Tryd.func114, Tryd.ntmps114
  rw [h1, h2]
  have H12 := Lib.hid (show _ ∧ _ from ⟨h1, h2⟩)
  clear h1 h2
  go_wp2
  generalize hW : ((w.alloc (Obj.cells #[Value.int IntKind.i64 5, Value.int IntKind.i64 x.f1, Value.string x.f2, Value.slice A3 x.f3.length c3, Value.slice A4 x.f4.length c4] 37)).alloc (Obj.cells #[Value.int IntKind.i64 5, Value.int IntKind.i64 y.f1, Value.string y.f2, Value.slice B3 y.f3.length d3, Value.slice B4 y.f4.length d4] 37)).alloc (Obj.cells #[Value.nilFunc, Value.nilFunc, Value.func (Fn.func 143) #[] #[], Value.func (Fn.func 143) #[] #[], Value.func (Fn.func 143) #[] #[], Value.func (Fn.func 144) #[] #[], Value.nilFunc, Value.func (Fn.func 145) #[] #[], Value.nilFunc, Value.func (Fn.func 146) #[] #[]] 152) = W at *
  have p0 : W.cell? ⟨w.heap.size, 0, none⟩ = some (.int .i64 5) := by rw [← hW]; exact cell_alloc _ (by simp)
  have p1 : W.cell? ⟨w.heap.size, 1, none⟩ = some (.int .i64 x.f1) := by rw [← hW]; exact cell_alloc _ (by simp)
  have p2 : W.cell? ⟨w.heap.size, 2, none⟩ = some (.string x.f2) := by rw [← hW]; exact cell_alloc _ (by simp)
  have p3 : W.cell? ⟨w.heap.size, 3, none⟩ = some (.slice A3 x.f3.length c3) := by rw [← hW]; exact cell_alloc _ (by simp)
  have p4 : W.cell? ⟨w.heap.size, 4, none⟩ = some (.slice A4 x.f4.length c4) := by rw [← hW]; exact cell_alloc _ (by simp)
  have q0 : W.cell? ⟨w.heap.size + 1, 0, none⟩ = some (.int .i64 5) := by rw [← hW]; exact cell_alloc _ (by simp)
  have q1 : W.cell? ⟨w.heap.size + 1, 1, none⟩ = some (.int .i64 y.f1) := by rw [← hW]; exact cell_alloc _ (by simp)
  have q2 : W.cell? ⟨w.heap.size + 1, 2, none⟩ = some (.string y.f2) := by rw [← hW]; exact cell_alloc _ (by simp)
  have q3 : W.cell? ⟨w.heap.size + 1, 3, none⟩ = some (.slice B3 y.f3.length d3) := by rw [← hW]; exact cell_alloc _ (by simp)
  have q4 : W.cell? ⟨w.heap.size + 1, 4, none⟩ = some (.slice B4 y.f4.length d4) := by rw [← hW]; exact cell_alloc _ (by simp)
  have r0 : W.cell? ⟨w.heap.size + 1 + 1, 5, none⟩ = some (.func (.func 144) #[] #[]) := by rw [← hW]; rw [World.cell?_alloc_at _ _ _ _ (by simp)]; rfl
  have HC : Calls Tryd.prog 144 #[.pointer (some ⟨X, 0, none⟩), .agg #[.int .i64 5, .int .i64 x.f1, .string x.f2, .slice A3 x.f3.length c3, .slice A4 x.f4.length c4], .agg #[.int .i64 5, .int .i64 y.f1, .string y.f2, .slice B3 y.f3.length d3, .slice B4 y.f4.length d4]] W.drew (Told B W.drew m (fun _ => decide (x.f2 = y.f2))) := by
    have := (show Calls Tryd.prog 144 #[.pointer (some ⟨X, 0, none⟩), nodeV x A3 c3 A4 c4, nodeV y B3 d3 B4 d4] W.drew (Told B W.drew m (fun _ => decide (x.f2 = y.f2))) from (by refine (tag_calls _ x y A3 B3 c3 d3 A4 B4 c4 d4 W.drew).mono ?_; rintro e w' ⟨rfl, hb⟩; exact Told.const (decide (x.f2 = y.f2)) ((HmW.out.of_block (w' := W.drew) rfl).of_block (hb.block _ HmW.out.lt)) ⟨hb.os, hb.tape, hb.output, hb.size, fun i hi _ => hb.block i hi⟩ (fun _ => rfl)))
    simpa only [nodeV, H12.out.1, H12.out.2] using this
  have HCh := Lib.hid HC
  clear HC hW hbW
  refine wp_region_still_tail 13 (by kernel_rfl) (by kernel_rfl) ?_
  simp only [List.take_succ_cons, List.take_zero, List.drop_succ_cons, List.drop_zero]
  change wpStill _ _ W.drew _ _ _
  repeat still_step
  try refine wpStill_nil ?_
  change wpList _ _ _ _ _ W.drew
  go_wp2_with fail
  refine HCh.out.mono ?_
  rintro e w' ⟨r, m', rfl, hm', hK', hG, hA⟩
  have HE := Lib.hid (show _ ∧ _ ∧ _ ∧ _ from ⟨hm', hK', hG, hA⟩)
  clear hm' hK' hG hA
  go_wp2
  go_ret
  exact ⟨r, m', rfl, HE.out.1, (HKW.out.trans (Kp.drew _ _)).trans HE.out.2.1, HE.out.2.2.1, fun R r1 r2 => by rw [HD.out]; exact HE.out.2.2.2 R r1 r2⟩
set_option maxRecDepth 100000 in
set_option maxHeartbeats 1000000 in
theorem does_7 [Dom] (w : World) (X B : Nat) (m : PM) (st : Bool) (x y : S37) (hDom : ∀ a ∈ x.f4, ∀ b ∈ y.f4, Dom.D (a, b)) (A3 B3 : Option Addr) (c3 d3 : Nat) (A4 B4 : Option Addr) (c4 d4 : Nat) (hm : MapAt pairV VInt w B m) (h1 : x.f0 = 7) (h2 : y.f0 = 7) (hx : w.cell? ⟨X, 2, none⟩ = some (.map (some B))) (hXB : X ≠ B) (hl : x.f4.length = x.f3.length) (kl : y.f4.length = y.f3.length) (hn : x.f3.length ≤ 16) (kn : y.f3.length ≤ 16)
    (w0 : World) (hw0 : Below w0.heap.size w0 w) (hB0 : w0.heap.size ≤ B) (h30 : Kd.C Kd.string w0 A3 x.f3.length x.f3) (k30 : Kd.C Kd.string w0 B3 y.f3.length y.f3) (h40 : Kd.C (Kd.int .i64) w0 A4 x.f4.length x.f4) (k40 : Kd.C (Kd.int .i64) w0 B4 y.f4.length y.f4) :
    Calls Tryd.prog 114 #[.pointer (some ⟨X, 0, none⟩), nodeV x A3 c3 A4 c4, nodeV y B3 d3 B4 d4] w (Told B w m (doesB st x y)) := by
  unfold nodeV
  have HDom := Lib.hid hDom
  clear hDom
  have HM := Lib.hid hm
  have HD := Lib.hid (show ∀ R, doesB st x y R = recordB x y R from fun R => by unfold doesB; rw [if_neg (by omega), decide_eq_true (by omega)]; simp [h1])
  have hbW : Below w.heap.size w (((w.alloc (Obj.cells #[Value.int IntKind.i64 x.f0, Value.int IntKind.i64 x.f1, Value.string x.f2, Value.slice A3 x.f3.length c3, Value.slice A4 x.f4.length c4] 37)).alloc (Obj.cells #[Value.int IntKind.i64 y.f0, Value.int IntKind.i64 y.f1, Value.string y.f2, Value.slice B3 y.f3.length d3, Value.slice B4 y.f4.length d4] 37)).alloc (Obj.cells #[Value.nilFunc, Value.nilFunc, Value.func (Fn.func 143) #[] #[], Value.func (Fn.func 143) #[] #[], Value.func (Fn.func 143) #[] #[], Value.func (Fn.func 144) #[] #[], Value.nilFunc, Value.func (Fn.func 145) #[] #[], Value.nilFunc, Value.func (Fn.func 146) #[] #[]] 152)) := (((Below.refl _ _).alloc (Nat.le_refl _) _).alloc (by simp) _).alloc (by simp; omega) _
  have HmW := Lib.hid (show MapAt pairV VInt (((w.alloc (Obj.cells #[Value.int IntKind.i64 x.f0, Value.int IntKind.i64 x.f1, Value.string x.f2, Value.slice A3 x.f3.length c3, Value.slice A4 x.f4.length c4] 37)).alloc (Obj.cells #[Value.int IntKind.i64 y.f0, Value.int IntKind.i64 y.f1, Value.string y.f2, Value.slice B3 y.f3.length d3, Value.slice B4 y.f4.length d4] 37)).alloc (Obj.cells #[Value.nilFunc, Value.nilFunc, Value.func (Fn.func 143) #[] #[], Value.func (Fn.func 143) #[] #[], Value.func (Fn.func 143) #[] #[], Value.func (Fn.func 144) #[] #[], Value.nilFunc, Value.func (Fn.func 145) #[] #[], Value.nilFunc, Value.func (Fn.func 146) #[] #[]] 152)) B m from hm.of_block (hbW.block _ hm.lt))
  have HKW := Lib.hid (show Kp B w (((w.alloc (Obj.cells #[Value.int IntKind.i64 x.f0, Value.int IntKind.i64 x.f1, Value.string x.f2, Value.slice A3 x.f3.length c3, Value.slice A4 x.f4.length c4] 37)).alloc (Obj.cells #[Value.int IntKind.i64 y.f0, Value.int IntKind.i64 y.f1, Value.string y.f2, Value.slice B3 y.f3.length d3, Value.slice B4 y.f4.length d4] 37)).alloc (Obj.cells #[Value.nilFunc, Value.nilFunc, Value.func (Fn.func 143) #[] #[], Value.func (Fn.func 143) #[] #[], Value.func (Fn.func 143) #[] #[], Value.func (Fn.func 144) #[] #[], Value.nilFunc, Value.func (Fn.func 145) #[] #[], Value.nilFunc, Value.func (Fn.func 146) #[] #[]] 152)) from ((Kp.alloc _ _ _).trans (Kp.alloc _ _ _)).trans (Kp.alloc _ _ _))
  have hxW : (((w.alloc (Obj.cells #[Value.int IntKind.i64 x.f0, Value.int IntKind.i64 x.f1, Value.string x.f2, Value.slice A3 x.f3.length c3, Value.slice A4 x.f4.length c4] 37)).alloc (Obj.cells #[Value.int IntKind.i64 y.f0, Value.int IntKind.i64 y.f1, Value.string y.f2, Value.slice B3 y.f3.length d3, Value.slice B4 y.f4.length d4] 37)).alloc (Obj.cells #[Value.nilFunc, Value.nilFunc, Value.func (Fn.func 143) #[] #[], Value.func (Fn.func 143) #[] #[], Value.func (Fn.func 143) #[] #[], Value.func (Fn.func 144) #[] #[], Value.nilFunc, Value.func (Fn.func 145) #[] #[], Value.nilFunc, Value.func (Fn.func 146) #[] #[]] 152)).cell? ⟨X, 2, none⟩ = some (.map (some B)) := cell_alloc _ (cell_alloc _ (cell_alloc _ hx))
  have hsz := hw0.size
  have hw0W : Below w0.heap.size w0 (((w.alloc (Obj.cells #[Value.int IntKind.i64 x.f0, Value.int IntKind.i64 x.f1, Value.string x.f2, Value.slice A3 x.f3.length c3, Value.slice A4 x.f4.length c4] 37)).alloc (Obj.cells #[Value.int IntKind.i64 y.f0, Value.int IntKind.i64 y.f1, Value.string y.f2, Value.slice B3 y.f3.length d3, Value.slice B4 y.f4.length d4] 37)).alloc (Obj.cells #[Value.nilFunc, Value.nilFunc, Value.func (Fn.func 143) #[] #[], Value.func (Fn.func 143) #[] #[], Value.func (Fn.func 143) #[] #[], Value.func (Fn.func 144) #[] #[], Value.nilFunc, Value.func (Fn.func 145) #[] #[], Value.nilFunc, Value.func (Fn.func 146) #[] #[]] 152)) := hw0.trans (hbW.mono hsz)
  clear hm
  rw [h1, h2] at hbW HmW HKW
  rw [h1, h2] at hxW hw0W
  have H0 := Lib.hid (show _ ∧ _ ∧ _ ∧ _ ∧ _ ∧ _ from ⟨h30, k30, h40, k40, hl, kl⟩)
  clear h30 k30 h40 k40 hl kl hw0 hx hsz
  go_enter Tryd.func114, Tryd.ntmps114
  rw [h1, h2]
  have H12 := Lib.hid (show _ ∧ _ from ⟨h1, h2⟩)
  clear h1 h2
  go_wp2
  generalize hW : ((w.alloc (Obj.cells #[Value.int IntKind.i64 7, Value.int IntKind.i64 x.f1, Value.string x.f2, Value.slice A3 x.f3.length c3, Value.slice A4 x.f4.length c4] 37)).alloc (Obj.cells #[Value.int IntKind.i64 7, Value.int IntKind.i64 y.f1, Value.string y.f2, Value.slice B3 y.f3.length d3, Value.slice B4 y.f4.length d4] 37)).alloc (Obj.cells #[Value.nilFunc, Value.nilFunc, Value.func (Fn.func 143) #[] #[], Value.func (Fn.func 143) #[] #[], Value.func (Fn.func 143) #[] #[], Value.func (Fn.func 144) #[] #[], Value.nilFunc, Value.func (Fn.func 145) #[] #[], Value.nilFunc, Value.func (Fn.func 146) #[] #[]] 152) = W at *
  have p0 : W.cell? ⟨w.heap.size, 0, none⟩ = some (.int .i64 7) := by rw [← hW]; exact cell_alloc _ (by simp)
  have p1 : W.cell? ⟨w.heap.size, 1, none⟩ = some (.int .i64 x.f1) := by rw [← hW]; exact cell_alloc _ (by simp)
  have p2 : W.cell? ⟨w.heap.size, 2, none⟩ = some (.string x.f2) := by rw [← hW]; exact cell_alloc _ (by simp)
  have p3 : W.cell? ⟨w.heap.size, 3, none⟩ = some (.slice A3 x.f3.length c3) := by rw [← hW]; exact cell_alloc _ (by simp)
  have p4 : W.cell? ⟨w.heap.size, 4, none⟩ = some (.slice A4 x.f4.length c4) := by rw [← hW]; exact cell_alloc _ (by simp)
  have q0 : W.cell? ⟨w.heap.size + 1, 0, none⟩ = some (.int .i64 7) := by rw [← hW]; exact cell_alloc _ (by simp)
  have q1 : W.cell? ⟨w.heap.size + 1, 1, none⟩ = some (.int .i64 y.f1) := by rw [← hW]; exact cell_alloc _ (by simp)
  have q2 : W.cell? ⟨w.heap.size + 1, 2, none⟩ = some (.string y.f2) := by rw [← hW]; exact cell_alloc _ (by simp)
  have q3 : W.cell? ⟨w.heap.size + 1, 3, none⟩ = some (.slice B3 y.f3.length d3) := by rw [← hW]; exact cell_alloc _ (by simp)
  have q4 : W.cell? ⟨w.heap.size + 1, 4, none⟩ = some (.slice B4 y.f4.length d4) := by rw [← hW]; exact cell_alloc _ (by simp)
  have r0 : W.cell? ⟨w.heap.size + 1 + 1, 7, none⟩ = some (.func (.func 145) #[] #[]) := by rw [← hW]; rw [World.cell?_alloc_at _ _ _ _ (by simp)]; rfl
  have HC : Calls Tryd.prog 145 #[.pointer (some ⟨X, 0, none⟩), .agg #[.int .i64 7, .int .i64 x.f1, .string x.f2, .slice A3 x.f3.length c3, .slice A4 x.f4.length c4], .agg #[.int .i64 7, .int .i64 y.f1, .string y.f2, .slice B3 y.f3.length d3, .slice B4 y.f4.length d4]] W.drew (Told B W.drew m (recordB x y)) := by
    have := record_calls W.drew X B m x y HDom.out A3 B3 c3 d3 A4 B4 c4 d4 hxW (HmW.out.of_block rfl) H0.out.2.2.2.2.1 H0.out.2.2.2.2.2 (by omega) (by omega) w0 hw0W.drew hB0 H0.out.1 H0.out.2.1 H0.out.2.2.1 H0.out.2.2.2.1 hXB
    simpa only [nodeV, H12.out.1, H12.out.2] using this
  have HCh := Lib.hid HC
  clear HC hW hbW
  refine wp_region_still_tail 13 (by kernel_rfl) (by kernel_rfl) ?_
  simp only [List.take_succ_cons, List.take_zero, List.drop_succ_cons, List.drop_zero]
  change wpStill _ _ W.drew _ _ _
  repeat still_step
  try refine wpStill_nil ?_
  change wpList _ _ _ _ _ W.drew
  go_wp2_with fail
  refine HCh.out.mono ?_
  rintro e w' ⟨r, m', rfl, hm', hK', hG, hA⟩
  have HE := Lib.hid (show _ ∧ _ ∧ _ ∧ _ from ⟨hm', hK', hG, hA⟩)
  clear hm' hK' hG hA
  go_wp2
  go_ret
  exact ⟨r, m', rfl, HE.out.1, (HKW.out.trans (Kp.drew _ _)).trans HE.out.2.1, HE.out.2.2.1, fun R r1 r2 => by rw [HD.out]; exact HE.out.2.2.2 R r1 r2⟩
set_option maxRecDepth 100000 in
set_option maxHeartbeats 1000000 in
theorem does_9 [Dom] (w : World) (X B : Nat) (m : PM) (st : Bool) (x y : S37) (hDom : ∀ a ∈ x.f4, ∀ b ∈ y.f4, Dom.D (a, b)) (A3 B3 : Option Addr) (c3 d3 : Nat) (A4 B4 : Option Addr) (c4 d4 : Nat) (hm : MapAt pairV VInt w B m) (h1 : x.f0 = 9) (h2 : y.f0 = 9) (hx : w.cell? ⟨X, 2, none⟩ = some (.map (some B))) (hl : x.f4.length = 1) (kl : y.f4.length = 1)
    (h40 : Kd.C (Kd.int .i64) w A4 x.f4.length x.f4) (k40 : Kd.C (Kd.int .i64) w B4 y.f4.length y.f4) :
    Calls Tryd.prog 114 #[.pointer (some ⟨X, 0, none⟩), nodeV x A3 c3 A4 c4, nodeV y B3 d3 B4 d4] w (Told B w m (doesB st x y)) := by
  unfold nodeV
  have HDom := Lib.hid hDom
  clear hDom
  have HM := Lib.hid hm
  have HD := Lib.hid (show ∀ R, doesB st x y R = variableB x y R from fun R => by unfold doesB; rw [if_neg (by omega), decide_eq_true (by omega)]; simp [h1])
  have hbW : Below w.heap.size w (((w.alloc (Obj.cells #[Value.int IntKind.i64 x.f0, Value.int IntKind.i64 x.f1, Value.string x.f2, Value.slice A3 x.f3.length c3, Value.slice A4 x.f4.length c4] 37)).alloc (Obj.cells #[Value.int IntKind.i64 y.f0, Value.int IntKind.i64 y.f1, Value.string y.f2, Value.slice B3 y.f3.length d3, Value.slice B4 y.f4.length d4] 37)).alloc (Obj.cells #[Value.nilFunc, Value.nilFunc, Value.func (Fn.func 143) #[] #[], Value.func (Fn.func 143) #[] #[], Value.func (Fn.func 143) #[] #[], Value.func (Fn.func 144) #[] #[], Value.nilFunc, Value.func (Fn.func 145) #[] #[], Value.nilFunc, Value.func (Fn.func 146) #[] #[]] 152)) := (((Below.refl _ _).alloc (Nat.le_refl _) _).alloc (by simp) _).alloc (by simp; omega) _
  have HmW := Lib.hid (show MapAt pairV VInt (((w.alloc (Obj.cells #[Value.int IntKind.i64 x.f0, Value.int IntKind.i64 x.f1, Value.string x.f2, Value.slice A3 x.f3.length c3, Value.slice A4 x.f4.length c4] 37)).alloc (Obj.cells #[Value.int IntKind.i64 y.f0, Value.int IntKind.i64 y.f1, Value.string y.f2, Value.slice B3 y.f3.length d3, Value.slice B4 y.f4.length d4] 37)).alloc (Obj.cells #[Value.nilFunc, Value.nilFunc, Value.func (Fn.func 143) #[] #[], Value.func (Fn.func 143) #[] #[], Value.func (Fn.func 143) #[] #[], Value.func (Fn.func 144) #[] #[], Value.nilFunc, Value.func (Fn.func 145) #[] #[], Value.nilFunc, Value.func (Fn.func 146) #[] #[]] 152)) B m from hm.of_block (hbW.block _ hm.lt))
  have HKW := Lib.hid (show Kp B w (((w.alloc (Obj.cells #[Value.int IntKind.i64 x.f0, Value.int IntKind.i64 x.f1, Value.string x.f2, Value.slice A3 x.f3.length c3, Value.slice A4 x.f4.length c4] 37)).alloc (Obj.cells #[Value.int IntKind.i64 y.f0, Value.int IntKind.i64 y.f1, Value.string y.f2, Value.slice B3 y.f3.length d3, Value.slice B4 y.f4.length d4] 37)).alloc (Obj.cells #[Value.nilFunc, Value.nilFunc, Value.func (Fn.func 143) #[] #[], Value.func (Fn.func 143) #[] #[], Value.func (Fn.func 143) #[] #[], Value.func (Fn.func 144) #[] #[], Value.nilFunc, Value.func (Fn.func 145) #[] #[], Value.nilFunc, Value.func (Fn.func 146) #[] #[]] 152)) from ((Kp.alloc _ _ _).trans (Kp.alloc _ _ _)).trans (Kp.alloc _ _ _))
  have hxW : (((w.alloc (Obj.cells #[Value.int IntKind.i64 x.f0, Value.int IntKind.i64 x.f1, Value.string x.f2, Value.slice A3 x.f3.length c3, Value.slice A4 x.f4.length c4] 37)).alloc (Obj.cells #[Value.int IntKind.i64 y.f0, Value.int IntKind.i64 y.f1, Value.string y.f2, Value.slice B3 y.f3.length d3, Value.slice B4 y.f4.length d4] 37)).alloc (Obj.cells #[Value.nilFunc, Value.nilFunc, Value.func (Fn.func 143) #[] #[], Value.func (Fn.func 143) #[] #[], Value.func (Fn.func 143) #[] #[], Value.func (Fn.func 144) #[] #[], Value.nilFunc, Value.func (Fn.func 145) #[] #[], Value.nilFunc, Value.func (Fn.func 146) #[] #[]] 152)).cell? ⟨X, 2, none⟩ = some (.map (some B)) := cell_alloc _ (cell_alloc _ (cell_alloc _ hx))
  have h4W : Kd.C (Kd.int .i64) (((w.alloc (Obj.cells #[Value.int IntKind.i64 x.f0, Value.int IntKind.i64 x.f1, Value.string x.f2, Value.slice A3 x.f3.length c3, Value.slice A4 x.f4.length c4] 37)).alloc (Obj.cells #[Value.int IntKind.i64 y.f0, Value.int IntKind.i64 y.f1, Value.string y.f2, Value.slice B3 y.f3.length d3, Value.slice B4 y.f4.length d4] 37)).alloc (Obj.cells #[Value.nilFunc, Value.nilFunc, Value.func (Fn.func 143) #[] #[], Value.func (Fn.func 143) #[] #[], Value.func (Fn.func 143) #[] #[], Value.func (Fn.func 144) #[] #[], Value.nilFunc, Value.func (Fn.func 145) #[] #[], Value.nilFunc, Value.func (Fn.func 146) #[] #[]] 152)) A4 x.f4.length x.f4 := Kd.C_below h40 hbW
  have k4W : Kd.C (Kd.int .i64) (((w.alloc (Obj.cells #[Value.int IntKind.i64 x.f0, Value.int IntKind.i64 x.f1, Value.string x.f2, Value.slice A3 x.f3.length c3, Value.slice A4 x.f4.length c4] 37)).alloc (Obj.cells #[Value.int IntKind.i64 y.f0, Value.int IntKind.i64 y.f1, Value.string y.f2, Value.slice B3 y.f3.length d3, Value.slice B4 y.f4.length d4] 37)).alloc (Obj.cells #[Value.nilFunc, Value.nilFunc, Value.func (Fn.func 143) #[] #[], Value.func (Fn.func 143) #[] #[], Value.func (Fn.func 143) #[] #[], Value.func (Fn.func 144) #[] #[], Value.nilFunc, Value.func (Fn.func 145) #[] #[], Value.nilFunc, Value.func (Fn.func 146) #[] #[]] 152)) B4 y.f4.length y.f4 := Kd.C_below k40 hbW
  clear hm
  rw [h1, h2] at hbW HmW HKW
  rw [h1, h2] at hxW h4W k4W
  have H0 := Lib.hid (show _ ∧ _ ∧ _ ∧ _ from ⟨h4W, k4W, hl, kl⟩)
  clear h40 k40 h4W k4W hl kl hx
  go_enter Tryd.func114, Tryd.ntmps114
  rw [h1, h2]
  have H12 := Lib.hid (show _ ∧ _ from ⟨h1, h2⟩)
  clear h1 h2
  go_wp2
  generalize hW : ((w.alloc (Obj.cells #[Value.int IntKind.i64 9, Value.int IntKind.i64 x.f1, Value.string x.f2, Value.slice A3 x.f3.length c3, Value.slice A4 x.f4.length c4] 37)).alloc (Obj.cells #[Value.int IntKind.i64 9, Value.int IntKind.i64 y.f1, Value.string y.f2, Value.slice B3 y.f3.length d3, Value.slice B4 y.f4.length d4] 37)).alloc (Obj.cells #[Value.nilFunc, Value.nilFunc, Value.func (Fn.func 143) #[] #[], Value.func (Fn.func 143) #[] #[], Value.func (Fn.func 143) #[] #[], Value.func (Fn.func 144) #[] #[], Value.nilFunc, Value.func (Fn.func 145) #[] #[], Value.nilFunc, Value.func (Fn.func 146) #[] #[]] 152) = W at *
  have p0 : W.cell? ⟨w.heap.size, 0, none⟩ = some (.int .i64 9) := by rw [← hW]; exact cell_alloc _ (by simp)
  have p1 : W.cell? ⟨w.heap.size, 1, none⟩ = some (.int .i64 x.f1) := by rw [← hW]; exact cell_alloc _ (by simp)
  have p2 : W.cell? ⟨w.heap.size, 2, none⟩ = some (.string x.f2) := by rw [← hW]; exact cell_alloc _ (by simp)
  have p3 : W.cell? ⟨w.heap.size, 3, none⟩ = some (.slice A3 x.f3.length c3) := by rw [← hW]; exact cell_alloc _ (by simp)
  have p4 : W.cell? ⟨w.heap.size, 4, none⟩ = some (.slice A4 x.f4.length c4) := by rw [← hW]; exact cell_alloc _ (by simp)
  have q0 : W.cell? ⟨w.heap.size + 1, 0, none⟩ = some (.int .i64 9) := by rw [← hW]; exact cell_alloc _ (by simp)
  have q1 : W.cell? ⟨w.heap.size + 1, 1, none⟩ = some (.int .i64 y.f1) := by rw [← hW]; exact cell_alloc _ (by simp)
  have q2 : W.cell? ⟨w.heap.size + 1, 2, none⟩ = some (.string y.f2) := by rw [← hW]; exact cell_alloc _ (by simp)
  have q3 : W.cell? ⟨w.heap.size + 1, 3, none⟩ = some (.slice B3 y.f3.length d3) := by rw [← hW]; exact cell_alloc _ (by simp)
  have q4 : W.cell? ⟨w.heap.size + 1, 4, none⟩ = some (.slice B4 y.f4.length d4) := by rw [← hW]; exact cell_alloc _ (by simp)
  have r0 : W.cell? ⟨w.heap.size + 1 + 1, 9, none⟩ = some (.func (.func 146) #[] #[]) := by rw [← hW]; rw [World.cell?_alloc_at _ _ _ _ (by simp)]; rfl
  have HC : Calls Tryd.prog 146 #[.pointer (some ⟨X, 0, none⟩), .agg #[.int .i64 9, .int .i64 x.f1, .string x.f2, .slice A3 x.f3.length c3, .slice A4 x.f4.length c4], .agg #[.int .i64 9, .int .i64 y.f1, .string y.f2, .slice B3 y.f3.length d3, .slice B4 y.f4.length d4]] W.drew (Told B W.drew m (variableB x y)) := by
    have := variable_calls W.drew X B m x y HDom.out A3 B3 c3 d3 A4 B4 c4 d4 hxW (HmW.out.of_block rfl) (Kd.C_drew H0.out.1) (Kd.C_drew H0.out.2.1) (by rw [H0.out.2.2.1]; omega) (by rw [H0.out.2.2.2]; omega)
    simpa only [nodeV, H12.out.1, H12.out.2] using this
  have HCh := Lib.hid HC
  clear HC hW hbW
  refine wp_region_still_tail 13 (by kernel_rfl) (by kernel_rfl) ?_
  simp only [List.take_succ_cons, List.take_zero, List.drop_succ_cons, List.drop_zero]
  change wpStill _ _ W.drew _ _ _
  repeat still_step
  try refine wpStill_nil ?_
  change wpList _ _ _ _ _ W.drew
  go_wp2_with fail
  refine HCh.out.mono ?_
  rintro e w' ⟨r, m', rfl, hm', hK', hG, hA⟩
  have HE := Lib.hid (show _ ∧ _ ∧ _ ∧ _ from ⟨hm', hK', hG, hA⟩)
  clear hm' hK' hG hA
  go_wp2
  go_ret
  exact ⟨r, m', rfl, HE.out.1, (HKW.out.trans (Kp.drew _ _)).trans HE.out.2.1, HE.out.2.2.1, fun R r1 r2 => by rw [HD.out]; exact HE.out.2.2.2 R r1 r2⟩
end Go.Proofs.YtcljgfpcdlnlkaaDoor.Q
namespace Go.Proofs.YtcljgfpcdlnlkaaDoor.Q
open Go.RowKit Go.Proofs.YtcljgfpcdlnlkaaDoorW.PrintWords Mp
/-- The solver as it lies in memory; the graph lies since w0. -/
structure Sol [Dom] (w0 w : World) (X B : Nat) (A : Option Addr) (c : Nat) (g : List S37) (st : Bool) (m : PM) : Prop where
  graph : Kd.C k37 w0 A g.length g
  base : Below w0.heap.size w0 w
  lB : w0.heap.size ≤ B
  ne : X ≠ B
  x0 : w.cell? ⟨X, 0, none⟩ = some (.slice A g.length c)
  x1 : w.cell? ⟨X, 1, none⟩ = some (.bool st)
  x2 : w.cell? ⟨X, 2, none⟩ = some (.map (some B))
  map : MapAt pairV VInt w B m
  dom : ∀ a b : Int, 0 ≤ a → a < g.length → 0 ≤ b → b < g.length → Dom.D (a, b)
theorem Sol.step [Dom] {w0 w w' : World} {X B : Nat} {A : Option Addr} {c : Nat} {g : List S37} {st : Bool} {m m' : PM} (h : Sol w0 w X B A c g st m) (hK : Kp B w w') (hm : MapAt pairV VInt w' B m') : Sol w0 w' X B A c g st m' :=
  ⟨h.graph, h.base.trans (hK.below h.lB h.base.size), h.lB, h.ne, hK.cell h.x0 h.ne, hK.cell h.x1 h.ne, hK.cell h.x2 h.ne, hm, h.dom⟩
theorem Sol.kp [Dom] {w0 w w' : World} {X B : Nat} {A : Option Addr} {c : Nat} {g : List S37} {st : Bool} {m : PM} (h : Sol w0 w X B A c g st m) (hK : Kp B w w') (hb : w'.heap[B]? = w.heap[B]?) : Sol w0 w' X B A c g st m := h.step hK (h.map.of_block hb)
theorem Sol.below [Dom] {w0 w w' : World} {X B : Nat} {A : Option Addr} {c : Nat} {g : List S37} {st : Bool} {m : PM} (h : Sol w0 w X B A c g st m) (hb : Below w.heap.size w w') : Sol w0 w' X B A c g st m :=
  h.kp ⟨hb.os, hb.tape, hb.output, hb.size, fun i hi _ => hb.block i hi⟩ (hb.block _ h.map.lt)
theorem Kp.of_below {b : Nat} {w w' : World} (hb : Below w.heap.size w w') : Kp b w w' := ⟨hb.os, hb.tape, hb.output, hb.size, fun i hi _ => hb.block i hi⟩
theorem does_calls [Dom] {w0 w : World} {X B : Nat} {A : Option Addr} {c : Nat} {g : List S37} {st : Bool} {m : PM} (h : Sol w0 w X B A c g st m) (x y : S37) (hDom : ∀ a ∈ x.f4, ∀ b ∈ y.f4, Dom.D (a, b)) (A3 B3 : Option Addr) (c3 d3 : Nat) (A4 B4 : Option Addr) (c4 d4 : Nat) (fx : Fine x) (fy : Fine y)
    (h30 : Kd.C Kd.string w0 A3 x.f3.length x.f3) (k30 : Kd.C Kd.string w0 B3 y.f3.length y.f3) (h40 : Kd.C (Kd.int .i64) w0 A4 x.f4.length x.f4) (k40 : Kd.C (Kd.int .i64) w0 B4 y.f4.length y.f4) :
    Calls Tryd.prog 114 #[.pointer (some ⟨X, 0, none⟩), nodeV x A3 c3 A4 c4, nodeV y B3 d3 B4 d4] w (Told B w m (doesB st x y)) := by
  by_cases e1 : x.f0 = 1 ∨ y.f0 = 1
  · exact does_dyn w X B m st x y A3 B3 c3 d3 A4 B4 c4 d4 h.x1 h.map e1
  by_cases e2 : x.f0 = y.f0
  · have hy : ∀ k : Int, x.f0 = k → y.f0 = k := fun k e => by rw [← e2]; exact e
    rcases fx.kind with k | k | k | k | k | k | k
    · exact absurd (.inl k) e1
    · exact does_2 w X B m st x y A3 B3 c3 d3 A4 B4 c4 d4 h.map k (hy _ k)
    · exact does_3 w X B m st x y A3 B3 c3 d3 A4 B4 c4 d4 h.map k (hy _ k)
    · exact does_4 w X B m st x y A3 B3 c3 d3 A4 B4 c4 d4 h.map k (hy _ k)
    · exact does_5 w X B m st x y A3 B3 c3 d3 A4 B4 c4 d4 h.map k (hy _ k)
    · exact does_7 w X B m st x y hDom A3 B3 c3 d3 A4 B4 c4 d4 h.map k (hy _ k) h.x2 h.ne (fx.recs k) (fy.recs (hy _ k)) fx.lim fy.lim w0 h.base h.lB h30 k30 h40 k40
    · exact does_9 w X B m st x y hDom A3 B3 c3 d3 A4 B4 c4 d4 h.map k (hy _ k) h.x2 (fx.vars k) (fy.vars (hy _ k)) (Kd.C_below h40 h.base) (Kd.C_below k40 h.base)
  · exact does_unlike w X B m st x y A3 B3 c3 d3 A4 B4 c4 d4 h.map (fun e => e1 (.inl e)) (fun e => e1 (.inr e)) e2
/-! graphs that may be -/
structure Valid (g : List S37) : Prop where
  len : g.length ≤ 2000
  may : ∀ x ∈ g, mayB g x = true
theorem valid_of_check {g : List S37} (h : checkP g = 0) : Valid g := by
  unfold checkP at h
  split at h
  · omega
  · split at h
    · rename_i h1 h2
      exact ⟨by omega, fun x hx => List.all_eq_true.1 h2 x hx⟩
    · omega
theorem rd_in {g : List S37} {k : Int} (h0 : 0 ≤ k) (h1 : k < g.length) : rd_T37 g k ∈ g := by
  obtain ⟨n, rfl⟩ : ∃ n : Nat, k = n := ⟨k.toNat, by omega⟩
  rw [rd_get g n (by omega)]
  exact List.getElem_mem _
theorem may_parts {g : List S37} {x : S37} (h : mayB g x = true) : headB g.length x = false := by
  unfold mayB at h
  cases e : headB g.length x with
  | false => rfl
  | true => rw [e] at h; simp at h
theorem may_fine {g : List S37} {x : S37} (h : mayB g x = true) (h8 : x.f0 ≠ 8) : Fine x := by
  have hh := may_parts h
  unfold mayB at h
  rw [hh] at h
  simp only [headB, Bool.or_eq_false_iff, Bool.and_eq_false_iff, decide_eq_false_iff_not, Nat.not_lt] at hh
  obtain ⟨⟨⟨_, _⟩, _⟩, h3⟩ := hh
  simp only [Bool.false_eq_true, if_false] at h
  split at h
  · rename_i hk
    exact ⟨by omega, fun e => by omega, fun e => by omega, by omega⟩
  split at h
  · rename_i hk
    exact ⟨by omega, fun e => by omega, fun e => by omega, by omega⟩
  split at h
  · rename_i hk
    simp only [Bool.and_eq_true, decide_eq_true_eq] at h
    exact ⟨by omega, fun _ => h.1.1.1, fun e => by omega, h.1.1.2⟩
  split at h
  · rename_i hk
    simp only [Bool.and_eq_true, decide_eq_true_eq] at h
    exact ⟨by omega, fun e => by omega, fun _ => h.2, by omega⟩
  · cases h
theorem may_union {g : List S37} {x : S37} (h : mayB g x = true) (h8 : x.f0 = 8) : (∀ k ∈ x.f4, (rd_T37 g k).f0 ≠ 8) ∧ 2 ≤ x.f4.length ∧ distinctB x.f4 = true := by
  have hh := may_parts h
  unfold mayB at h
  rw [hh] at h
  simp only [Bool.false_eq_true, if_false] at h
  rw [if_neg (by omega), if_neg (by omega), if_neg (by omega), if_pos h8] at h
  simp only [Bool.and_eq_true, decide_eq_true_eq, List.all_eq_true] at h
  exact ⟨h.1.1, h.1.2, h.2⟩
theorem may_in {g : List S37} {x : S37} (h : mayB g x = true) (k : Int) (hk : k ∈ x.f4) : 0 ≤ k ∧ k < g.length := by
  have hh := may_parts h
  simp only [headB, Bool.or_eq_false_iff] at hh
  have := List.any_eq_false.1 hh.1.1.1 k hk
  simp only [outB, Bool.or_eq_true, decide_eq_true_eq, not_or] at this
  omega
theorem distinct_len (n : Nat) : ∀ l : List Int, distinctB l = true → (∀ k ∈ l, 0 ≤ k ∧ k < n) → l.length ≤ n := by
  have aux : ∀ (n : Nat) (l : List Int), l.Nodup → (∀ k ∈ l, 0 ≤ k ∧ k < (n : Int)) → l.length ≤ n := by
    intro n
    induction n with
    | zero =>
      intro l _ h
      cases l with
      | nil => simp
      | cons x l => have := h x List.mem_cons_self; omega
    | succ n ih =>
      intro l hd h
      have := ih (l.erase n) (hd.erase _) (fun k hk => by
        have h1 := h k (List.mem_of_mem_erase hk)
        have h2 : k ≠ n := fun e => by rw [e] at hk; exact (List.Nodup.not_mem_erase hd) hk
        omega)
      by_cases hm : (n : Int) ∈ l
      · rw [List.length_erase_of_mem hm] at this
        omega
      · rw [List.erase_of_not_mem hm] at this
        omega
  intro l hd h
  refine aux n l ?_ h
  clear h
  induction l with
  | nil => exact List.nodup_nil
  | cons x l ih =>
    simp only [distinctB, Bool.and_eq_true, Bool.not_eq_true'] at hd
    exact List.nodup_cons.2 ⟨fun e => by simp [e] at hd, ih hd.2⟩
/-! what Valid gives -/
theorem Valid.fine {g : List S37} (h : Valid g) {k : Int} (h0 : 0 ≤ k) (h1 : k < g.length) (h8 : (rd_T37 g k).f0 ≠ 8) : Fine (rd_T37 g k) := may_fine (h.may _ (rd_in h0 h1)) h8
theorem Valid.inside {g : List S37} (h : Valid g) {k : Int} (h0 : 0 ≤ k) (h1 : k < g.length) (j : Int) (hj : j ∈ (rd_T37 g k).f4) : 0 ≤ j ∧ j < g.length := may_in (h.may _ (rd_in h0 h1)) j hj
theorem Valid.small {g : List S37} (h : Valid g) {k : Int} (h0 : 0 ≤ k) (h1 : k < g.length) : (rd_T37 g k).f3.length ≤ 16 ∧ (rd_T37 g k).f4.length ≤ 2000 := by
  have hm := h.may _ (rd_in h0 h1)
  by_cases h8 : (rd_T37 g k).f0 = 8
  · have hu := may_union hm h8
    have hl := h.len
    have := distinct_len g.length _ hu.2.2 (fun j hj => may_in hm j hj)
    have hh := may_parts hm
    simp only [headB, Bool.or_eq_false_iff, Bool.and_eq_false_iff, decide_eq_false_iff_not, Nat.not_lt] at hh
    exact ⟨by omega, by omega⟩
  · have hf := may_fine hm h8
    refine ⟨hf.lim, ?_⟩
    have h16 := hf.lim
    unfold mayB at hm
    rw [may_parts (h.may _ (rd_in h0 h1))] at hm
    rcases hf.kind with e | e | e | e | e | e | e
    · rw [if_neg (by simp), if_pos (by omega)] at hm; have := of_decide_eq_true hm; omega
    · rw [if_neg (by simp), if_pos (by omega)] at hm; have := of_decide_eq_true hm; omega
    · rw [if_neg (by simp), if_pos (by omega)] at hm; have := of_decide_eq_true hm; omega
    · rw [if_neg (by simp), if_pos (by omega)] at hm; have := of_decide_eq_true hm; omega
    · rw [if_neg (by simp), if_neg (by omega), if_pos e, Bool.and_eq_true] at hm; have := of_decide_eq_true hm.1; omega
    · have := hf.recs e; omega
    · have := hf.vars e; omega
theorem Valid.members {g : List S37} (h : Valid g) {b : Int} (h0 : 0 ≤ b) (h1 : b < g.length) : (∀ k ∈ membersL g b, 0 ≤ k ∧ k < g.length ∧ (rd_T37 g k).f0 ≠ 8) ∧ (membersL g b).length ≤ 2000 := by
  unfold membersL
  rw [if_neg (by omega)]
  by_cases h8 : (rd_T37 g b).f0 = 8
  · rw [if_pos h8]
    refine ⟨fun k hk => ?_, (h.small h0 h1).2⟩
    have := h.inside h0 h1 k hk
    exact ⟨this.1, this.2, (may_union (h.may _ (rd_in h0 h1)) h8).1 k hk⟩
  · rw [if_neg h8]
    refine ⟨fun k hk => ?_, by simp⟩
    rw [List.mem_singleton.1 hk]
    exact ⟨h0, h1, h8⟩
end Go.Proofs.YtcljgfpcdlnlkaaDoor.Q
namespace Go.Proofs.YtcljgfpcdlnlkaaDoor.Q
open Go.RowKit Go.Proofs.YtcljgfpcdlnlkaaDoorW.PrintWords Mp
def ToldI [Dom] (B : Nat) (w : World) (m : PM) (f : (Int × Int → Bool) → Int) (e : Ending) (w' : World) : Prop :=
  ∃ (r : Int) (m' : PM), e = .returned (.int .i64 r) ∧ MapAt pairV VInt w' B m' ∧ Kp B w w' ∧ Grow m m' ∧ Ans m m' f r
theorem R_kp {α : Type} {d : Kd α} {e : Nat} {w w1 : World} {base B : Nat} {v : Value} {xs : List α} (h : d.R e w base (fun k => k ≠ B) v xs) (hK : Kp B w w1) : d.R e w1 base (fun k => k ≠ B) v xs :=
  Kd.R_step h (fun k hk hlt => hK.block k hlt hk)
theorem R_apartB {α : Type} {d : Kd α} {e : Nat} {w : World} {base B : Nat} {v : Value} {xs : List α} (h : d.R e w base (fun _ => True) v xs) (hB : B < base) : d.R e w base (fun k => k ≠ B) v xs :=
  Kd.R_mono (Kd.R_bound h) (fun k hk => by have := hk.2.1; omega)
theorem pickFrom_skip {st : Bool} {g : List S37} {s : S37} {R : Int × Int → Bool} (l : List Int) (i k : Nat) (hk : k ≤ l.length) (h : ∀ j, j < k → doesB st s (rd_T37 g (l.getD j 0)) R = false) :
    pickFrom st g s R l i = pickFrom st g s R (l.drop k) (i + k) := by
  induction k generalizing l i with
  | zero => simp
  | succ k ih =>
    cases l with
    | nil => simp at hk
    | cons x l =>
      have h0 := h 0 (by omega)
      simp only [List.getD_cons_zero] at h0
      simp only [pickFrom, h0, Bool.false_eq_true, if_false, List.drop_succ_cons]
      rw [ih l (i + 1) (by simpa using hk) (fun j hj => by simpa using h (j + 1) (by omega))]
      congr 1
      omega
set_option maxRecDepth 100000 in
set_option maxHeartbeats 1000000 in
theorem pick_calls [Dom] {w0 w : World} {X B : Nat} {A : Option Addr} {c : Nat} {g : List S37} {st : Bool} {m : PM} (h : Sol w0 w X B A c g st m) (hv : Valid g) (a b : Int) (ha0 : 0 ≤ a) (ha1 : a < g.length) (ha8 : (rd_T37 g a).f0 ≠ 8) (hb0 : 0 ≤ b) (hb1 : b < g.length) :
    Calls Tryd.prog 71 #[.pointer (some ⟨X, 0, none⟩), .int .i64 a, .int .i64 b] w (ToldI B w m (pickB st g a b)) := by
  have H := Lib.hid h
  have HV := Lib.hid hv
  have hx0 := h.x0
  have hXl : X < w.heap.size := World.block_lt_of_cell? w _ hx0
  obtain ⟨ad, A3, c3, A4, c4, hA, hk0, hk1, hk2, hk3, hk4, _, g3, _, g4⟩ := at_T37 h.graph a ha0 ha1
  have HS := Lib.hid (show _ ∧ _ from ⟨g3, g4⟩)
  have e0 := (h.base.cell (World.block_lt_of_cell? w0 _ hk0)).trans hk0
  have e1 := (h.base.cell (World.block_lt_of_cell? w0 _ hk1)).trans hk1
  have e2 := (h.base.cell (World.block_lt_of_cell? w0 _ hk2)).trans hk2
  have e3 := (h.base.cell (World.block_lt_of_cell? w0 _ hk3)).trans hk3
  have e4 := (h.base.cell (World.block_lt_of_cell? w0 _ hk4)).trans hk4
  have HF := Lib.hid (hv.fine ha0 ha1 ha8)
  have HIn := Lib.hid (fun k hk => hv.inside ha0 ha1 k hk)
  have HBb := Lib.hid (show _ ∧ _ from ⟨hb0, hb1⟩)
  clear hk0 hk1 hk2 hk3 hk4 g3 g4 h hv
  subst hA
  obtain ⟨x, hxx⟩ : ∃ x, x = rd_T37 g a := ⟨_, rfl⟩
  rw [← hxx] at e0 e1 e2 e3 e4 HS HF HIn ha8
  have HX := Lib.hid hxx
  clear hxx
  have HMem := Lib.hid (HV.out.members hb0 hb1)
  have hW1 : Below w.heap.size w (w.alloc (Obj.cells #[Value.int IntKind.i64 x.f0, Value.int IntKind.i64 x.f1, Value.string x.f2, Value.slice A3 x.f3.length c3, Value.slice A4 x.f4.length c4] 37)) := (Below.refl _ _).alloc (Nat.le_refl _) _
  have HC := Lib.hid (members_calls (some ad) c g b _ (Kd.C_below H.out.graph (H.out.base.trans (hW1.mono H.out.base.size))) (by have := (HV.out.small hb0 hb1).2; omega))
  have HS1 := Lib.hid (H.out.below hW1)
  have HKp1 := Lib.hid (show Kp B w _ from Kp.of_below hW1)
  have hs1 : w.heap.size < (w.alloc (Obj.cells #[Value.int IntKind.i64 x.f0, Value.int IntKind.i64 x.f1, Value.string x.f2, Value.slice A3 x.f3.length c3, Value.slice A4 x.f4.length c4] 37)).heap.size := by simp
  have f0 : (w.alloc (Obj.cells #[Value.int IntKind.i64 x.f0, Value.int IntKind.i64 x.f1, Value.string x.f2, Value.slice A3 x.f3.length c3, Value.slice A4 x.f4.length c4] 37)).cell? ⟨w.heap.size, 0, none⟩ = some (.int .i64 x.f0) := by simp
  have f1 : (w.alloc (Obj.cells #[Value.int IntKind.i64 x.f0, Value.int IntKind.i64 x.f1, Value.string x.f2, Value.slice A3 x.f3.length c3, Value.slice A4 x.f4.length c4] 37)).cell? ⟨w.heap.size, 1, none⟩ = some (.int .i64 x.f1) := by simp
  have f2 : (w.alloc (Obj.cells #[Value.int IntKind.i64 x.f0, Value.int IntKind.i64 x.f1, Value.string x.f2, Value.slice A3 x.f3.length c3, Value.slice A4 x.f4.length c4] 37)).cell? ⟨w.heap.size, 2, none⟩ = some (.string x.f2) := by simp
  have f3 : (w.alloc (Obj.cells #[Value.int IntKind.i64 x.f0, Value.int IntKind.i64 x.f1, Value.string x.f2, Value.slice A3 x.f3.length c3, Value.slice A4 x.f4.length c4] 37)).cell? ⟨w.heap.size, 3, none⟩ = some (.slice A3 x.f3.length c3) := by simp
  have f4 : (w.alloc (Obj.cells #[Value.int IntKind.i64 x.f0, Value.int IntKind.i64 x.f1, Value.string x.f2, Value.slice A3 x.f3.length c3, Value.slice A4 x.f4.length c4] 37)).cell? ⟨w.heap.size, 4, none⟩ = some (.slice A4 x.f4.length c4) := by simp
  clear hW1
  go_enter Tryd.func71, Tryd.ntmps71
  go_wp2_with fail
  generalize w.alloc (Obj.cells #[Value.int IntKind.i64 x.f0, Value.int IntKind.i64 x.f1, Value.string x.f2, Value.slice A3 x.f3.length c3, Value.slice A4 x.f4.length c4] 37) = W1 at *
  refine HC.out.mono ?_
  rintro e w1 ⟨v, rfl, hr, hb⟩
  clear e0 e1 e2 e3 e4 hx0
  obtain ⟨AL, cL, rfl, hcL, hCL⟩ := Kd.R_reads hr
  have HR := Lib.hid (R_apartB hr (by have := HS1.out.map.lt; exact this))
  have b0 := (hb.cell (p := ⟨w.heap.size, 0, none⟩) hs1).trans f0
  have b1 := (hb.cell (p := ⟨w.heap.size, 1, none⟩) hs1).trans f1
  have b2 := (hb.cell (p := ⟨w.heap.size, 2, none⟩) hs1).trans f2
  have b3 := (hb.cell (p := ⟨w.heap.size, 3, none⟩) hs1).trans f3
  have b4 := (hb.cell (p := ⟨w.heap.size, 4, none⟩) hs1).trans f4
  have HS2 := Lib.hid (HS1.out.below hb)
  have HK2 := Lib.hid (HKp1.out.trans (Kp.of_below hb))
  have nB : w.heap.size ≠ B := by have := H.out.map.lt; omega
  have hLl : (membersL g b).length ≤ 2000 := HMem.out.2
  clear f0 f1 f2 f3 f4 hb hr hCL hcL hs1
  obtain ⟨L, hL⟩ : ∃ L, L = membersL g b := ⟨_, rfl⟩
  rw [← hL] at HMem HR hLl ⊢
  have HLL := Lib.hid hL
  clear hL
  go_wp2
  go_loopw [24] (fun i W => ∃ k : Nat, k ≤ L.length ∧ i = .int .i64 k ∧ Hid (∃ m', MapAt pairV VInt W B m' ∧ Kp B w1 W ∧ Grow m m' ∧ ∀ j : Nat, j < k → Ans m m' (doesB st x (rd_T37 g (L.getD j 0))) false)) (fun i _ => L.length - (intOf i).toNat)
  case atStart => exact ⟨0, Nat.zero_le _, rfl, Lib.hid ⟨m, HS2.out.map, Kp.refl _ _, Grow.refl _, fun j hj => absurd hj (by omega)⟩⟩
  case round =>
    obtain ⟨k, hk, rfl, HI⟩ := hrel
    obtain ⟨m1, hm1, hK1, hG1, hA1⟩ := HI.out
    have HSr := Lib.hid (HS2.out.step hK1 hm1)
    have HK1 := Lib.hid hK1
    have HG1 := Lib.hid hG1
    have HA1 := Lib.hid hA1
    have b0r := HK1.out.cell b0 nB
    have b1r := HK1.out.cell b1 nB
    have b2r := HK1.out.cell b2 nB
    have b3r := HK1.out.cell b3 nB
    have b4r := HK1.out.cell b4 nB
    have x0r := HSr.out.x0
    clear hm1 hK1 hG1 hA1 HI b0 b1 b2 b3 b4
    by_cases hlt : k < L.length
    · obtain ⟨aL, rfl, hcL⟩ := int_cell (Kd.R_reads' (R_kp HR.out HK1.out)).2.2 k hlt
      have hmem := HMem.out.1 (L.getD k 0) (by rw [List.getD_eq_getElem?_getD, List.getElem?_eq_getElem hlt]; exact List.getElem_mem _)
      obtain ⟨q, hq⟩ : ∃ q, q = L.getD k 0 := ⟨_, rfl⟩
      rw [← hq] at hmem
      rw [show rd L (k : Int) = L.getD k 0 from rfl, ← hq] at hcL
      have HQ := Lib.hid hq
      clear hq
      obtain ⟨ad', B3, d3, B4, d4, hA', hk0, hk1, hk2, hk3, hk4, _, g3, _, g4⟩ := at_T37 HSr.out.graph q hmem.1 hmem.2.1
      obtain rfl := Option.some.inj hA'
      have y0 := (HSr.out.base.cell (World.block_lt_of_cell? w0 _ hk0)).trans hk0
      have y1 := (HSr.out.base.cell (World.block_lt_of_cell? w0 _ hk1)).trans hk1
      have y2 := (HSr.out.base.cell (World.block_lt_of_cell? w0 _ hk2)).trans hk2
      have y3 := (HSr.out.base.cell (World.block_lt_of_cell? w0 _ hk3)).trans hk3
      have y4 := (HSr.out.base.cell (World.block_lt_of_cell? w0 _ hk4)).trans hk4
      have HD := Lib.hid (does_calls (HSr.out.kp (Kp.drew B wr) rfl) x (rd_T37 g q) (fun p hp r hr => HSr.out.dom p r (HIn.out p hp).1 (HIn.out p hp).2 (HV.out.inside hmem.1 hmem.2.1 r hr).1 (HV.out.inside hmem.1 hmem.2.1 r hr).2) A3 B3 c3 d3 A4 B4 c4 d4 HF.out (HV.out.fine hmem.1 hmem.2.1 hmem.2.2) HS.out.1 g3 HS.out.2 g4)
      have i0 := hmem.1
      have i1 := hmem.2.1
      clear hk0 hk1 hk2 hk3 hk4 g3 g4 hmem hA'
      unfold nodeV at HD
      go_wp2
      refine wp_region_still_tail 9 (by kernel_rfl) (by kernel_rfl) ?_
      simp only [List.take_succ_cons, List.take_zero, List.drop_succ_cons, List.drop_zero]
      change wpStill _ _ wr.drew _ _ _
      repeat still_step
      try refine wpStill_nil ?_
      change wpList _ _ _ _ _ wr.drew
      go_wp2_with fail
      refine HD.out.mono ?_
      rintro e w' ⟨r, m2, rfl, hm', hK', hG', hA'⟩
      have HM2 := Lib.hid hm'
      have HK3 := Lib.hid (show Kp B w1 w' from (HK1.out.trans (Kp.drew _ _)).trans hK')
      have HG2 := Lib.hid hG'
      have HA2 := Lib.hid (show Ans m m2 (doesB st x (rd_T37 g q)) r from hA'.from HG1.out)
      clear hm' hK' hG' hA'
      cases r with
      | true =>
        go_wp2
        go_ret
        refine ⟨(k : Int), m2, rfl, HM2.out, HK2.out.trans HK3.out, HG1.out.trans HG2.out, fun R r1 r2 => ?_⟩
        unfold pickB
        rw [← HLL.out, ← HX.out, pickFrom_skip L 0 k hk (fun j hj => ((HA1.out j hj).grow HG2.out) R r1 r2), List.drop_eq_getElem_cons hlt, pickFrom]
        have e1 : L[k] = q := by rw [HQ.out, List.getD_eq_getElem?_getD, List.getElem?_eq_getElem hlt]; rfl
        rw [e1, if_pos (HA2.out R r1 r2)]
        simp
      | false =>
        go_wp2
        go_roundw
        case rel => exact ⟨k + 1, by omega, by go_num, Lib.hid ⟨m2, HM2.out, HK3.out, HG1.out.trans HG2.out, fun j hj => if h : j = k then by rw [h, ← HQ.out]; exact HA2.out else (HA1.out j (by omega)).grow HG2.out⟩⟩
        case measure => simp [intOf]; omega
    · obtain rfl : k = L.length := by omega
      have HP := Lib.hid (show ∀ R, (∀ p, posB m1 p = true → R p = true) → (∀ p, R p = true → okB m p = true) → pickFrom st g x R L 0 = none from fun R r1 r2 => by
        rw [pickFrom_skip L 0 L.length (Nat.le_refl _) (fun j hj => HA1.out j hj R r1 r2), List.drop_length]; rfl)
      by_cases e9 : x.f0 = 9
      · have n9 : (x.f0 == 9) = true := by simp [e9]
        obtain ⟨a4, rfl, hc4⟩ := int_cell0 (Kd.C_below HS.out.2 HSr.out.base) (by rw [HF.out.vars e9]; omega)
        have hl1 : 0 < x.f4.length := by rw [HF.out.vars e9]; omega
        have HGr := Lib.hid (granted_calls wr X B (rd x.f4 0) b m1 HSr.out.x2 HSr.out.map)
        have E9 := Lib.hid e9
        clear e9
        go_wp2_with fail
        refine HGr.out.mono ?_
        rintro e w' ⟨rfl, hm', hK'⟩
        have HM2 := Lib.hid hm'
        have HK3 := Lib.hid (HK1.out.trans hK')
        have HG2 := Lib.hid (grow_grant m1 (rd x.f4 0, b) (HSr.out.dom _ _ (HIn.out _ (rd_memI (by omega) (by omega))).1 (HIn.out _ (rd_memI (by omega) (by omega))).2 HBb.out.1 HBb.out.2))
        have HA2 := Lib.hid (show Ans m _ (fun R => R (rd x.f4 0, b)) _ from (ans_grant m1 (rd x.f4 0, b)).from HG1.out)
        clear hm' hK'
        generalize grant m1 (rd x.f4 0, b) = gr at HM2 HG2 HA2
        obtain ⟨r, m2⟩ := gr
        cases r with
        | true =>
          go_wp2
          go_ret
          refine ⟨-1, m2, rfl, HM2.out, HK2.out.trans HK3.out, HG1.out.trans HG2.out, fun R r1 r2 => ?_⟩
          unfold pickB
          rw [← HLL.out, ← HX.out, HP.out R (fun p hp => r1 p (HG2.out.pos p hp)) r2]
          exact if_pos ⟨E9.out, HA2.out R r1 r2⟩
        | false =>
          go_wp2
          go_ret
          refine ⟨-2, m2, rfl, HM2.out, HK2.out.trans HK3.out, HG1.out.trans HG2.out, fun R r1 r2 => ?_⟩
          unfold pickB
          rw [← HLL.out, ← HX.out, HP.out R (fun p hp => r1 p (HG2.out.pos p hp)) r2]
          exact if_neg (fun e => by have h1 := HA2.out R r1 r2; have h2 := e.2; rw [show R (rd x.f4 0, b) = false from h1] at h2; cases h2)
      · have n9 : (x.f0 == 9) = false := by simp [e9]
        have E9 := Lib.hid e9
        clear e9
        go_wp2
        go_ret
        refine ⟨-2, m1, rfl, HSr.out.map, HK2.out.trans HK1.out, HG1.out, fun R r1 r2 => ?_⟩
        unfold pickB
        rw [← HLL.out, ← HX.out, HP.out R r1 r2]
        exact if_neg (fun e => E9.out e.1)
end Go.Proofs.YtcljgfpcdlnlkaaDoor.Q
namespace Go.Proofs.YtcljgfpcdlnlkaaDoor.Q
open Go.RowKit Go.Proofs.YtcljgfpcdlnlkaaDoorW.PrintWords Go.Proofs.YtcljgfpcdlnlkaaDoorW.PrintLast Mp
set_option maxRecDepth 100000 in
set_option maxHeartbeats 1000000 in
theorem holds1_calls [Dom] {w0 w : World} {X B : Nat} {A : Option Addr} {c : Nat} {g : List S37} {st : Bool} {m : PM} (h : Sol w0 w X B A c g st m) (hv : Valid g) (s b : Int) (hs0 : 0 ≤ s) (hs1 : s < g.length) (hs8 : (rd_T37 g s).f0 ≠ 8) (hb0 : 0 ≤ b) (hb1 : b < g.length)
    (Y Z : Nat) (hY : w.cell? ⟨Y, 0, none⟩ = some (.pointer (some ⟨X, 0, none⟩))) (hZ : w.cell? ⟨Z, 1, none⟩ = some (.int .i64 b)) :
    Calls Tryd.prog 137 #[.int .i64 s, .pointer (some ⟨Y, 0, none⟩), .pointer (some ⟨Z, 0, none⟩)] w fun e w' => ∃ (k : Int) (m' : PM), e = .returned (.bool (decide (k = -2))) ∧ MapAt pairV VInt w' B m' ∧ Kp B w w' ∧ Grow m m' ∧ Ans m m' (pickB st g s b) k := by
  have HP := Lib.hid (pick_calls h hv s b hs0 hs1 hs8 hb0 hb1)
  clear h hv hs0 hs1 hs8 hb0 hb1
  go_enter Tryd.func137, Tryd.ntmps137
  go_wp2_with fail
  refine HP.out.mono ?_
  rintro e w' ⟨r, m', rfl, hm', hK', hG, hA⟩
  have HE := Lib.hid (show _ ∧ _ ∧ _ ∧ _ from ⟨hm', hK', hG, hA⟩)
  clear hm' hK' hG hA
  go_wp2
  go_ret
  refine ⟨r, m', ?_, HE.out.1, HE.out.2.1, HE.out.2.2.1, HE.out.2.2.2⟩
  show Ending.returned (.bool (r == -2)) = _
  rw [show (r == -2) = decide (r = -2) by rw [Bool.eq_iff_iff]; simp]
/-- It holds; and each part of it is known. -/
def AnsH (st : Bool) (g : List S37) (m m' : PM) (p : Int × Int) : Prop := Ans m m' (holdsB st g p) true ∧ ∀ s ∈ membersL g p.1, ∃ k, Ans m m' (pickB st g s p.2) k
theorem AnsH.grow [Dom] {st : Bool} {g : List S37} {a b c : PM} {p : Int × Int} (h : AnsH st g a b p) (k : Grow b c) : AnsH st g a c p := ⟨h.1.grow k, fun s hs => (h.2 s hs).imp fun _ h => h.grow k⟩
theorem AnsH.from [Dom] {st : Bool} {g : List S37} {a b c : PM} {p : Int × Int} (h : AnsH st g b c p) (k : Grow a b) : AnsH st g a c p := ⟨h.1.from k, fun s hs => (h.2 s hs).imp fun _ h => h.from k⟩
theorem enters137 : EntersAt 137 := enters_at Tryd.func137 (by kernel_rfl) rfl
set_option maxRecDepth 100000 in
set_option maxHeartbeats 1000000 in
theorem holds_calls [Dom] {w0 w : World} {X B : Nat} {A : Option Addr} {c : Nat} {g : List S37} {st : Bool} {m : PM} (h : Sol w0 w X B A c g st m) (hv : Valid g) (a b : Int) (ha0 : 0 ≤ a) (ha1 : a < g.length) (hb0 : 0 ≤ b) (hb1 : b < g.length) :
    Calls Tryd.prog 110 #[.pointer (some ⟨X, 0, none⟩), .agg #[.int .i64 a, .int .i64 b]] w fun e w' => ∃ (r : Bool) (m' : PM), e = .returned (.bool r) ∧ MapAt pairV VInt w' B m' ∧ Kp B w w' ∧ Grow m m' ∧ Ans m m' (holdsB st g (a, b)) r ∧ (r = true → AnsH st g m m' (a, b)) := by
  have H := Lib.hid h
  have HV := Lib.hid hv
  have HMem := Lib.hid (hv.members ha0 ha1)
  have hx0 := h.x0
  have hXl : X < w.heap.size := World.block_lt_of_cell? w _ hx0
  clear h hv
  go_enter Tryd.func110, Tryd.ntmps110
  go_wp2
  generalize hW : (w.alloc (Obj.cells #[Value.pointer (some ⟨X, 0, none⟩)] 76)).alloc (Obj.cells #[Value.int IntKind.i64 a, Value.int IntKind.i64 b] 81) = W
  have t0 : W.cell? ⟨w.heap.size, 0, none⟩ = some (.pointer (some ⟨X, 0, none⟩)) := by rw [← hW]; simp
  have t1 : W.cell? ⟨w.heap.size + 1, 0, none⟩ = some (.int .i64 a) := by rw [← hW]; simp
  have t2 : W.cell? ⟨w.heap.size + 1, 1, none⟩ = some (.int .i64 b) := by rw [← hW]; simp
  have t3 : W.cell? ⟨X, 0, none⟩ = some (.slice A g.length c) := by rw [← hW]; exact cell_alloc _ (cell_alloc _ hx0)
  have HbW := Lib.hid (show Below w.heap.size w W by rw [← hW]; exact ((Below.refl _ _).alloc (Nat.le_refl _) _).alloc (by simp) _)
  have HsW := Lib.hid (show w.heap.size + 2 ≤ W.heap.size by rw [← hW]; simp)
  clear hW hx0
  refine start_ (n := 11) (S := fun w' => w'.cell? ⟨w.heap.size, 0, none⟩ = some (.pointer (some ⟨X, 0, none⟩)) ∧ w'.cell? ⟨w.heap.size + 1, 0, none⟩ = some (.int .i64 a) ∧ w'.cell? ⟨X, 0, none⟩ = some (.slice A g.length c)) (ds := [6, 8]) #[false, false, false, false, false, false, false, false, false, false, false] (by kernel_rfl) rfl rfl ⟨t0, t1, t3⟩ (fun hHeld => ?_)
  have HSd := Lib.hid (H.out.below (HbW.out.drew))
  have HKd := Lib.hid (show Kp B w W.drew from Kp.of_below HbW.out.drew)
  have t0d : W.drew.cell? ⟨w.heap.size, 0, none⟩ = some (.pointer (some ⟨X, 0, none⟩)) := t0
  have t2d : W.drew.cell? ⟨w.heap.size + 1, 1, none⟩ = some (.int .i64 b) := t2
  have Hsd := Lib.hid (show w.heap.size + 2 ≤ W.drew.heap.size from HsW.out)
  clear t0 t1 t2 t3 HbW HsW
  generalize W.drew = w1 at *
  refine pure_ (i := 7) (N := some 12) (v := ?_) (a' := ?_) #[false, false, false, false, false, false, false, true, false, false, false] rfl rfl (by kernel_rfl) (fun _ _ _ h => h) (Or.inl ⟨by rfl, ?_⟩) ?_ ?_
  rotate_left
  · intro w'
    go_simp
    with_reducible rfl
  rotate_left
  · simp only [Act.put, List.setIfInBounds_toArray, List.set_cons_zero, List.set_cons_succ]
    rfl
  refine take_ (i := 0) (N := some 5) (v := ?_) (a' := ?_) #[true, false, false, false, false, false, false, true, false, false, false] rfl rfl (by kernel_rfl) (fun _ _ _ h => h) (Or.inl ⟨by rfl, ?_⟩) hHeld ?_ ?_
  rotate_left
  · rintro w' ⟨s0, s1, s2⟩
    go_simp
    with_reducible rfl
  rotate_left
  · simp only [Act.put, List.setIfInBounds_toArray, List.set_cons_zero, List.set_cons_succ]
    rfl
  refine pure_ (i := 1) (N := some 6) (v := ?_) (a' := ?_) #[true, true, false, false, false, false, false, true, false, false, false] rfl rfl (by kernel_rfl) (fun _ _ _ h => h) (Or.inl ⟨by rfl, ?_⟩) ?_ ?_
  rotate_left
  · intro w'
    go_simp
    with_reducible rfl
  rotate_left
  · simp only [Act.put, List.setIfInBounds_toArray, List.set_cons_zero, List.set_cons_succ]
    rfl
  refine pure_ (i := 2) (N := some 7) (v := ?_) (a' := ?_) #[true, true, true, false, false, false, false, true, false, false, false] rfl rfl (by kernel_rfl) (fun _ _ _ h => h) (Or.inl ⟨by rfl, ?_⟩) ?_ ?_
  rotate_left
  · intro w'
    go_simp
    with_reducible rfl
  rotate_left
  · simp only [Act.put, List.setIfInBounds_toArray, List.set_cons_zero, List.set_cons_succ]
    rfl
  refine take_ (i := 3) (N := some 8) (v := ?_) (a' := ?_) #[true, true, true, true, false, false, false, true, false, false, false] rfl rfl (by kernel_rfl) (fun _ _ _ h => h) (Or.inl ⟨by rfl, ?_⟩) hHeld ?_ ?_
  rotate_left
  · rintro w' ⟨s0, s1, s2⟩
    go_simp
    with_reducible rfl
  rotate_left
  · simp only [Act.put, List.setIfInBounds_toArray, List.set_cons_zero, List.set_cons_succ]
    rfl
  refine pure_ (i := 4) (N := some 9) (v := ?_) (a' := ?_) #[true, true, true, true, true, false, false, true, false, false, false] rfl rfl (by kernel_rfl) (fun _ _ _ h => h) (Or.inl ⟨by rfl, ?_⟩) ?_ ?_
  rotate_left
  · intro w'
    go_simp
    with_reducible rfl
  rotate_left
  · simp only [Act.put, List.setIfInBounds_toArray, List.set_cons_zero, List.set_cons_succ]
    rfl
  refine take_ (i := 5) (N := some 10) (v := ?_) (a' := ?_) #[true, true, true, true, true, true, false, true, false, false, false] rfl rfl (by kernel_rfl) (fun _ _ _ h => h) (Or.inl ⟨by rfl, ?_⟩) hHeld ?_ ?_
  rotate_left
  · rintro w' ⟨s0, s1, s2⟩
    go_simp
    with_reducible rfl
  rotate_left
  · simp only [Act.put, List.setIfInBounds_toArray, List.set_cons_zero, List.set_cons_succ]
    rfl
  have HC := Lib.hid (members_calls A c g a w1 (Kd.C_below HSd.out.graph HSd.out.base) (by have := (HV.out.small ha0 ha1).2; omega))
  refine last_ (i := 6) (N := some 11) #[true, true, true, true, true, true, true, true, false, false, false] rfl rfl (by kernel_rfl) (by decide) (fun K hK => ?_)
  refine goes_ Tryd.func26 (by kernel_rfl) rfl #[.slice A g.length c, .int .i64 a] (by rfl) rfl rfl (by simp only [List.map_toArray, List.map_cons, List.map_nil]; rfl) ?_
  refine HC.out.mono ?_
  rintro e w2 ⟨v, rfl, hr, hb⟩
  refine ⟨v, rfl, hK.out _ _ ?_⟩
  clear hK K
  obtain ⟨AL, cL, rfl, hcL, hCL⟩ := Kd.R_reads hr
  have HR := Lib.hid (R_apartB hr (by have := HSd.out.map.lt; exact this))
  have HS2 := Lib.hid (HSd.out.below hb)
  have HK2 := Lib.hid (HKd.out.trans (Kp.of_below hb))
  have u0 := (hb.cell (p := ⟨w.heap.size, 0, none⟩) (by have := Hsd.out; show w.heap.size < _; omega)).trans t0d
  have u2 := (hb.cell (p := ⟨w.heap.size + 1, 1, none⟩) (by have := Hsd.out; show w.heap.size + 1 < _; omega)).trans t2d
  have nB0 : w.heap.size ≠ B := by have := H.out.map.lt; omega
  have nB1 : w.heap.size + 1 ≠ B := by have := H.out.map.lt; omega
  have hLl : (membersL g a).length ≤ 2000 := HMem.out.2
  clear hb hr hCL hcL hHeld t0d t2d
  have HH : Calls Tryd.prog 65 #[.slice AL (membersL g a).length cL, .func (.func 137) #[] #[.pointer (some ⟨w.heap.size, 0, none⟩), .pointer (some ⟨w.heap.size + 1, 0, none⟩)]] w2 (fun e w' => ∃ (r : Bool) (m' : PM), e = .returned (.bool r) ∧ MapAt pairV VInt w' B m' ∧ Kp B w2 w' ∧ Grow m m' ∧ Ans m m' (fun R => (membersL g a).any fun s => decide (pickB st g s b R = -2)) r ∧ (r = false → ∀ s ∈ membersL g a, ∃ k, Ans m m' (pickB st g s b) k)) := by
    refine (has65 AL (membersL g a).length cL 137 #[.pointer (some ⟨w.heap.size, 0, none⟩), .pointer (some ⟨w.heap.size + 1, 0, none⟩)] (fun i => .int .i64 (rd (membersL g a) i))
      (fun i W' => ∃ m', MapAt pairV VInt W' B m' ∧ Kp B w2 W' ∧ Grow m m' ∧ ∀ j, j < i → ∃ k : Int, k ≠ -2 ∧ Ans m m' (pickB st g ((membersL g a).getD j 0) b) k)
      (fun i W' => ∃ m', MapAt pairV VInt W' B m' ∧ Kp B w2 W' ∧ Grow m m' ∧ i < (membersL g a).length ∧ Ans m m' (pickB st g ((membersL g a).getD i 0) b) (-2)) w2 (by omega) enters137
      ⟨m, HS2.out.map, Kp.refl _ _, Grow.refl _, fun j hj => absurd hj (by omega)⟩ ?_ ?_).mono ?_
    · rintro i W' ⟨m', hm', hK', hG', _⟩ hi
      exact int_cell (Kd.R_reads' (R_kp HR.out hK')).2.2 i hi
    · rintro i W' hi ⟨m1, hm1, hK1, hG1, hA1⟩
      have hmem := HMem.out.1 ((membersL g a).getD i 0) (by rw [List.getD_eq_getElem?_getD, List.getElem?_eq_getElem hi]; exact List.getElem_mem _)
      refine (holds1_calls (HS2.out.step hK1 hm1) HV.out ((membersL g a).getD i 0) b hmem.1 hmem.2.1 hmem.2.2 hb0 hb1 w.heap.size (w.heap.size + 1) (hK1.cell u0 nB0) (hK1.cell u2 nB1)).mono ?_
      rintro e W2 ⟨q, m2, rfl, hm2, hK2, hG2, hA2⟩
      by_cases hq : q = -2
      · subst hq
        exact .inl ⟨rfl, m2, hm2, hK1.trans hK2, hG1.trans hG2, hi, hA2.from hG1⟩
      · rw [decide_eq_false hq]
        exact .inr ⟨rfl, m2, hm2, hK1.trans hK2, hG1.trans hG2, fun j hj => if h : j = i then by rw [h]; exact ⟨q, hq, hA2.from hG1⟩ else (hA1 j (by omega)).imp fun _ hk => ⟨hk.1, hk.2.grow hG2⟩⟩
    · rintro e W' (⟨i, _, rfl, m', hm', hK', hG', hi, hA'⟩ | ⟨rfl, m', hm', hK', hG', hA'⟩)
      · exact ⟨true, m', rfl, hm', hK', hG', fun R r1 r2 => any_of_idx _ 0 _ i hi (by rw [hA' R r1 r2]; rfl), fun h => (by cases h)⟩
      · refine ⟨false, m', rfl, hm', hK', hG', fun R r1 r2 => any_none _ 0 _ (fun j hj => ?_), fun _ s hs => ?_⟩
        · obtain ⟨k, hk, ha⟩ := hA' j hj
          rw [ha R r1 r2]
          exact decide_eq_false hk
        · obtain ⟨j, hj, rfl⟩ := List.getElem_of_mem hs
          obtain ⟨k, _, ha⟩ := hA' j hj
          rw [List.getD_eq_getElem?_getD, List.getElem?_eq_getElem hj] at ha
          exact ⟨k, ha⟩
  refine last_ (i := 8) (N := some 13) #[true, true, true, true, true, true, true, true, true, false, false] rfl rfl (by kernel_rfl) (by decide) (fun K hK => ?_)
  refine goes_ Tryd.func65 (by kernel_rfl) rfl #[.slice AL (membersL g a).length cL, .func (.func 137) #[] #[.pointer (some ⟨w.heap.size, 0, none⟩), .pointer (some ⟨w.heap.size + 1, 0, none⟩)]] (by rfl) rfl rfl (by simp only [List.map_toArray, List.map_cons, List.map_nil]; rfl) ?_
  refine HH.mono ?_
  rintro e w3 ⟨r, m', rfl, hm', hK', hG', hA', hN'⟩
  refine ⟨_, rfl, hK.out _ _ ?_⟩
  clear hK K HH
  have HE := Lib.hid (show _ ∧ _ ∧ _ ∧ _ from ⟨hm', hK', hG', hA'⟩)
  have HN := Lib.hid hN'
  clear hm' hK' hG' hA' hN'
  refine pure_ (i := 9) (N := some 14) (v := ?_) (a' := ?_) #[true, true, true, true, true, true, true, true, true, true, false] rfl rfl (by kernel_rfl) (fun _ _ _ h => h) (Or.inl ⟨by rfl, ?_⟩) ?_ ?_
  rotate_left
  · intro w'
    go_simp
    with_reducible rfl
  rotate_left
  · simp only [Act.put, List.setIfInBounds_toArray, List.set_cons_zero, List.set_cons_succ]
    rfl
  refine pure_ (i := 10) (N := some 4) (v := ?_) (a' := ?_) #[true, true, true, true, true, true, true, true, true, true, true] rfl rfl (by kernel_rfl) (fun _ _ _ h => h) (Or.inl ⟨by rfl, ?_⟩) ?_ ?_
  rotate_left
  · intro w'
    go_simp
    with_reducible rfl
  rotate_left
  · simp only [Act.put, List.setIfInBounds_toArray, List.set_cons_zero, List.set_cons_succ]
    rfl
  refine done_ (by kernel_rfl) ?_
  go_wp2
  go_ret
  have hAH : Ans m m' (holdsB st g (a, b)) (!r) := fun R r1 r2 => by
    unfold holdsB
    exact congrArg (fun z => !z) (HE.out.2.2.2 R r1 r2)
  refine ⟨!r, m', rfl, HE.out.1, HK2.out.trans HE.out.2.1, HE.out.2.2.1, hAH, fun h => ?_⟩
  have hr : r = false := by cases r <;> simp_all
  rw [h] at hAH
  exact ⟨hAH, HN.out hr⟩
end Go.Proofs.YtcljgfpcdlnlkaaDoor.Q
namespace Go.Proofs.YtcljgfpcdlnlkaaDoor.Q
open Go.RowKit Go.Proofs.YtcljgfpcdlnlkaaDoorW.PrintWords Mp
abbrev Rel := Int × Int → Bool
def Le (R S : Rel) : Prop := ∀ p, R p = true → S p = true
theorem fieldB_mono {R S : Rel} (h : Le R S) (s t : S37) (i : Nat) (hf : fieldB s t i R = true) : fieldB s t i S = true := by
  unfold fieldB at hf ⊢
  simp only [Bool.and_eq_true] at hf ⊢
  exact ⟨hf.1, h _ hf.2⟩
theorem recordB_mono {R S : Rel} (h : Le R S) (s t : S37) (hf : recordB s t R = true) : recordB s t S = true := by
  unfold recordB at hf ⊢
  rw [List.all_eq_true] at hf ⊢
  exact fun i hi => fieldB_mono h s t i (hf i hi)
theorem variableB_mono {R S : Rel} (h : Le R S) (s t : S37) (hf : variableB s t R = true) : variableB s t S = true := by
  unfold variableB at hf ⊢
  simp only [Bool.and_eq_true] at hf ⊢
  exact ⟨hf.1, h _ hf.2⟩
theorem doesB_mono {R S : Rel} (h : Le R S) (st : Bool) (s t : S37) (hf : doesB st s t R = true) : doesB st s t S = true := by
  unfold doesB at hf ⊢
  by_cases h1 : s.f0 = 1 ∨ t.f0 = 1
  · rw [if_pos h1] at hf ⊢; exact hf
  rw [if_neg h1] at hf ⊢
  simp only [Bool.and_eq_true] at hf ⊢
  refine ⟨hf.1, ?_⟩
  by_cases h5 : s.f0 = 5
  · have := hf.2; rw [if_pos h5] at this ⊢; exact this
  by_cases h7 : s.f0 = 7
  · have := hf.2; rw [if_neg h5, if_pos h7] at this ⊢; exact recordB_mono h s t this
  by_cases h9 : s.f0 = 9
  · have := hf.2; rw [if_neg h5, if_neg h7, if_pos h9] at this ⊢; exact variableB_mono h s t this
  · rw [if_neg h5, if_neg h7, if_neg h9]
theorem pickFrom_none {st : Bool} {g : List S37} {s : S37} {R : Rel} {l : List Int} {i : Nat} : pickFrom st g s R l i = none ↔ ∀ k ∈ l, doesB st s (rd_T37 g k) R = false := by
  induction l generalizing i with
  | nil => simp [pickFrom]
  | cons k l ih =>
    simp only [pickFrom, List.mem_cons, forall_eq_or_imp]
    by_cases e : doesB st s (rd_T37 g k) R = true
    · rw [if_pos e]; simp [e]
    · rw [if_neg e, ih]; simp [e]
theorem pickB_none {st : Bool} {g : List S37} {a b : Int} {R : Rel} : pickB st g a b R = -2 ↔ (∀ k ∈ membersL g b, doesB st (rd_T37 g a) (rd_T37 g k) R = false) ∧ ¬ ((rd_T37 g a).f0 = 9 ∧ R (rd (rd_T37 g a).f4 0, b) = true) := by
  unfold pickB
  cases e : pickFrom st g (rd_T37 g a) R (membersL g b) 0 with
  | some i =>
    have : ¬ pickFrom st g (rd_T37 g a) R (membersL g b) 0 = none := by rw [e]; simp
    rw [pickFrom_none] at this
    simp only
    constructor
    · intro h; omega
    · intro h; exact absurd h.1 this
  | none =>
    have := pickFrom_none.1 e
    simp only
    split
    · rename_i h; constructor
      · intro h'; omega
      · intro h'; exact absurd h h'.2
    · rename_i h; exact ⟨fun _ => ⟨this, h⟩, fun _ => rfl⟩
theorem pickB_mono {R S : Rel} (h : Le R S) {st : Bool} {g : List S37} {a b : Int} (hf : pickB st g a b R ≠ -2) : pickB st g a b S ≠ -2 := by
  intro e
  apply hf
  rw [pickB_none] at e ⊢
  refine ⟨fun k hk => ?_, fun h9 => e.2 ⟨h9.1, h _ h9.2⟩⟩
  cases hd : doesB st (rd_T37 g a) (rd_T37 g k) R with
  | false => rfl
  | true => exact absurd (e.1 k hk) (by rw [doesB_mono h st _ _ hd]; decide)
theorem holdsB_iff {st : Bool} {g : List S37} {p : Int × Int} {R : Rel} : holdsB st g p R = true ↔ ∀ s ∈ membersL g p.1, pickB st g s p.2 R ≠ -2 := by
  unfold holdsB
  rw [Bool.not_eq_true', List.any_eq_false]
  simp
theorem holdsB_mono {R S : Rel} (h : Le R S) {st : Bool} {g : List S37} {p : Int × Int} (hf : holdsB st g p R = true) : holdsB st g p S = true := by
  rw [holdsB_iff] at hf ⊢
  exact fun s hs => pickB_mono h (hf s hs)
/-- A pair stands: it is in a relation all of whose pairs hold by their rule. -/
def Stands (st : Bool) (g : List S37) (p : Int × Int) : Prop := ∃ R : Rel, R p = true ∧ ∀ q, R q = true → holdsB st g q R = true
noncomputable def standsB (st : Bool) (g : List S37) : Rel := fun p => @decide (Stands st g p) (Classical.propDecidable _)
theorem standsB_iff {st : Bool} {g : List S37} {p : Int × Int} : standsB st g p = true ↔ Stands st g p := by unfold standsB; exact @decide_eq_true_iff _ (Classical.propDecidable _)
/-- It holds by its rule, as far as the greatest relation says. -/
theorem stands_holds {st : Bool} {g : List S37} {p : Int × Int} (h : standsB st g p = true) : holdsB st g p (standsB st g) = true := by
  obtain ⟨R, hp, hR⟩ := standsB_iff.1 h
  exact holdsB_mono (fun q hq => standsB_iff.2 ⟨R, hq, hR⟩) (hR p hp)
theorem stands_of {st : Bool} {g : List S37} (R : Rel) (hR : ∀ q, R q = true → holdsB st g q R = true) : Le R (standsB st g) := fun _ hq => standsB_iff.2 ⟨R, hq, hR⟩
/-- What solving keeps. -/
structure Inv (st : Bool) (g : List S37) (m : PM) : Prop where
  sound : ∀ p, standsB st g p = true → okB m p = true
  nodup : (m.map (·.1)).Nodup
  dom : ∀ p : Int × Int, p ∈ m.map (·.1) → 0 ≤ p.1 ∧ p.1 < g.length ∧ 0 ≤ p.2 ∧ p.2 < g.length
  bits : ∀ p v, get m p = some v → v = 0 ∨ v = 1
  out : ∀ p, get m p = some 0 → holdsB st g p (okB m) = false
theorem nodup_put {m : PM} {k : Int × Int} {v : Int} (h : (m.map (·.1)).Nodup) : ((put m k v).map (·.1)).Nodup := by
  rw [put_keys]
  split
  · rename_i e
    rw [List.nodup_append]
    refine ⟨h, by simp, ?_⟩
    intro a ha b hb hab
    simp only [List.mem_singleton] at hb
    subst hb hab
    exact get_ne_none.2 ha e
  · exact h
end Go.Proofs.YtcljgfpcdlnlkaaDoor.Q
namespace Go.Proofs.YtcljgfpcdlnlkaaDoor.Q
open Go.RowKit Go.Proofs.YtcljgfpcdlnlkaaDoorW.PrintWords Mp
open Go.ChangeMaps (setBlock)
/-- A range over a map is under way: what has come, how many are left at most. -/
def RngAt (w : World) (b r : Nat) (m : PM) (got : List (Int × Int)) (left : Nat) : Prop :=
  ∃ es clock since seen c0, w.heap[b]? = some (.map es clock) ∧ es.toList.map (fun e => (e.key, e.val)) = m.map (fun p => (pairV p.1, VInt p.2)) ∧ (es.toList.map (·.born)).Pairwise (· < ·) ∧ (∀ e ∈ es.toList, e.born < clock) ∧
    w.heap[r]? = some (.mapIter (some b) since seen c0) ∧ (∀ x ∈ es.toList, x.born < since) ∧ since ≤ c0 ∧ since ≤ clock ∧
    (∀ e ∈ es.toList, seen.contains e.born = true → ∃ k ∈ got, e.key = pairV k) ∧ (∀ k ∈ got, k ∈ m.map (·.1)) ∧ (leftOf es seen).size ≤ left ∧ got.length + left ≤ m.length
theorem RngAt.map {w : World} {b r : Nat} {m : PM} {got : List (Int × Int)} {left : Nat} (h : RngAt w b r m got left) : MapAt pairV VInt w b m := by
  obtain ⟨es, clock, since, seen, c0, hb, hm, hp, hl, _⟩ := h
  exact ⟨es, clock, hb, hm, hp, hl⟩
theorem RngAt.lt {w : World} {b r : Nat} {m : PM} {got : List (Int × Int)} {left : Nat} (h : RngAt w b r m got left) : r < w.heap.size := by
  obtain ⟨es, clock, since, seen, c0, hb, hm, hp, hl, hr, _⟩ := h
  exact (Array.getElem?_eq_some_iff.1 hr).1
theorem RngAt.of_blocks {w w' : World} {b r : Nat} {m : PM} {got : List (Int × Int)} {left : Nat} (h : RngAt w b r m got left) (e1 : w'.heap[b]? = w.heap[b]?) (e2 : w'.heap[r]? = w.heap[r]?) : RngAt w' b r m got left := by
  obtain ⟨es, clock, since, seen, c0, hb, hm, hp, hl, hr, rest⟩ := h
  exact ⟨es, clock, since, seen, c0, e1.trans hb, hm, hp, hl, e2.trans hr, rest⟩
theorem RngAt.got {w : World} {b r : Nat} {m : PM} {got : List (Int × Int)} {left : Nat} (h : RngAt w b r m got left) : (∀ k ∈ got, k ∈ m.map (·.1)) ∧ got.length ≤ m.length := by
  obtain ⟨es, clock, since, seen, c0, hb, hm, hp, hl, hr, _, _, _, _, h1, _, h2⟩ := h
  exact ⟨h1, by omega⟩
theorem range_start {w : World} {b : Nat} {m : PM} (h : MapAt pairV VInt w b m) :
    (Instr.range 84 (.map (some b))).run Tryd.prog w = .ok (.pointer (some ⟨w.heap.size, 0, none⟩)) (w.alloc (match (w.heap[b]?) with | some (.map _ clock) => .mapIter (some b) clock #[] clock | _ => .cells #[] 0)) ∧
      RngAt (w.alloc (match (w.heap[b]?) with | some (.map _ clock) => .mapIter (some b) clock #[] clock | _ => .cells #[] 0)) b w.heap.size m [] m.length := by
  have hlt := h.lt
  obtain ⟨es, clock, hb, hm, hp, hl⟩ := h
  rw [hb]
  refine ⟨run_range_map w 84 81 3 b es clock Tryd.underlying84 hb, es, clock, clock, #[], clock, (Below.heap_alloc _ _ _ hlt).trans hb, hm, hp, hl, (MapKept.heap_alloc w _).1, hl, Nat.le_refl _, Nat.le_refl _, ?_, ?_, ?_, ?_⟩
  · intro e _ h; simp at h
  · intro k hk; cases hk
  · have : es.toList.length = m.length := by simpa using congrArg List.length hm
    have e1 : leftOf es #[] = es := by unfold leftOf; exact Array.filter_eq_self.2 (by simp)
    rw [e1]
    simpa using Nat.le_of_eq this
  · simp
theorem range_at {w : World} {b : Nat} {m : PM} (h : MapAt pairV VInt w b m) : ∃ w', (Instr.range 84 (.map (some b))).run Tryd.prog w = .ok (.pointer (some ⟨w.heap.size, 0, none⟩)) w' ∧ RngAt w' b w.heap.size m [] m.length ∧ Below w.heap.size w w' ∧ w'.heap.size = w.heap.size + 1 :=
  ⟨_, (range_start h).1, (range_start h).2, (Below.refl _ _).alloc (Nat.le_refl _) _, by simp⟩
theorem RngAt.next {w : World} {b r : Nat} {m : PM} {got : List (Int × Int)} {left : Nat} (h : RngAt w b r m got left) (ty : TypeId) :
    ((∀ k ∈ m.map (·.1), k ∈ got) ∧ (Instr.next (.pointer (some ⟨r, 0, none⟩)) false ty).run Tryd.prog w = .ok (.tuple #[.bool false]) w) ∨
    ∃ k v w' left', left' < left ∧ (Instr.next (.pointer (some ⟨r, 0, none⟩)) false ty).run Tryd.prog w = .ok (.tuple #[.bool true, pairV k, VInt v]) w' ∧ RngAt w' b r m (got ++ [k]) left' ∧ Kp r w w' ∧ w'.heap.size = w.heap.size ∧
      (Instr.entry (.pointer (some ⟨r, 0, none⟩))).run Tryd.prog w' = .ok (.tuple #[pairV k, VInt v]) w' := by
  have hrl := h.lt
  obtain ⟨es, clock, since, seen, c0, hb, hm, hp, hl, hr, hold, hsc, hsk, hg, hgm, hleft, hlen⟩ := h
  have hne : r ≠ b := fun e => by rw [e, hb] at hr; cases hr
  have hbl : b < w.heap.size := (Array.getElem?_eq_some_iff.1 hb).1
  rcases run_next_at (P := Tryd.prog) w ty r b since c0 seen es clock hr hb hold hsc with ⟨h0, hrun⟩ | ⟨e, he, w1, hal, hrun⟩
  · refine .inl ⟨fun k hk => ?_, hrun⟩
    obtain ⟨⟨k', v⟩, hp', rfl⟩ := List.mem_map.1 hk
    have hin : (pairV k', VInt v) ∈ es.toList.map (fun e => (e.key, e.val)) := by rw [hm]; exact List.mem_map.2 ⟨_, hp', rfl⟩
    obtain ⟨e, he, hek⟩ := List.mem_map.1 hin
    obtain ⟨k2, hk2, hke⟩ := hg e he (all_seen es seen h0 e he)
    have : pairV k' = pairV k2 := by rw [← hke]; exact (congrArg Prod.fst hek).symm
    have e2 : k' = k2 := by
      obtain ⟨a, b⟩ := k'
      obtain ⟨c, d⟩ := k2
      simp only [pairV, Value.agg.injEq, Array.mk.injEq, List.cons.injEq, Value.int.injEq, true_and, and_true] at this
      rw [this.1, this.2]
    rw [e2]
    exact hk2
  · have hel := mem_left he
    have hin : (e.key, e.val) ∈ m.map (fun p => (pairV p.1, VInt p.2)) := by rw [← hm]; exact List.mem_map.2 ⟨e, hel.1, rfl⟩
    obtain ⟨⟨k, v⟩, hkm, hkv⟩ := List.mem_map.1 hin
    have ek : e.key = pairV k := (congrArg Prod.fst hkv).symm
    have ev : e.val = VInt v := (congrArg Prod.snd hkv).symm
    have hsh := left_shrinks es seen e he
    have hw1 : Kp r w w1 ∧ w1.heap = w.heap := by rcases hal with rfl | rfl; exact ⟨Kp.refl _ _, rfl⟩; exact ⟨Kp.drew _ _, rfl⟩
    have hb' : (setBlock w1 r (.mapIter (some b) since (seen.push e.born) clock)).heap[b]? = some (.map es clock) := by
      simp only [setBlock, hw1.2]
      rw [Array.getElem?_setIfInBounds_ne hne]; exact hb
    have hr' : (setBlock w1 r (.mapIter (some b) since (seen.push e.born) clock)).heap[r]? = some (.mapIter (some b) since (seen.push e.born) clock) := by
      simp only [setBlock, hw1.2]
      rw [Array.getElem?_setIfInBounds_self_of_lt hrl]
    refine .inr ⟨k, v, _, (leftOf es (seen.push e.born)).size, by omega, by rw [hrun, ek, ev], ⟨es, clock, since, seen.push e.born, clock, hb', hm, hp, hl, hr', hold, hsk, hsk, ?_, ?_, Nat.le_refl _, by simp; omega⟩, hw1.1.trans (Kp.setBlock _ _ _), by simp [setBlock, hw1.2], ?_⟩
    · intro x hx hxs
      rw [contains_push, Bool.or_eq_true] at hxs
      rcases hxs with hxs | hxs
      · obtain ⟨k2, hk2, hke⟩ := hg x hx hxs
        exact ⟨k2, List.mem_append_left _ hk2, hke⟩
      · have : x.born = e.born := by simpa using hxs
        have hnd : (es.toList.map (·.born)).Nodup := hp.imp (fun h => by omega)
        have : x = e := by
          have h1 := find_born x es.toList hnd hx
          have h2 := find_born e es.toList hnd hel.1
          rw [this] at h1
          exact Option.some.inj (h1.symm.trans h2)
        rw [this]
        exact ⟨k, by simp, ek⟩
    · intro q hq
      rcases List.mem_append.1 hq with hq | hq
      · exact hgm q hq
      · rw [List.mem_singleton.1 hq]; exact List.mem_map.2 ⟨_, hkm, rfl⟩
    · have := run_entry_at (P := Tryd.prog) _ r b since seen es clock e hr' hb' hel.1 (hp.imp (fun h => by omega))
      rw [this, ek, ev]
/-! rows of pairs -/
def k81 : Kd (Int × Int) := Kd.pair (Kd.int .i64) (Kd.int .i64)
theorem info81 : (Tryd.prog.info? 81).map (fun i => (i.zero, i.size, i.bytes)) = some (some (.agg #[.int .i64 0, .int .i64 0]), 2, 16) := by kernel_rfl
theorem k81_mk (w : World) (base : Nat) (ok : Nat → Prop) (a b : Int) : k81.M w base ok (a, b) [.int .i64 a, .int .i64 b] := ⟨[.int .i64 a], [.int .i64 b], rfl, rfl, rfl⟩
theorem at_pair {w : World} {A : Option Addr} {n : Nat} {xs : List (Int × Int)} (h : Kd.C k81 w A n xs) (k : Nat) (hk : k < n) : ∃ ad, A = some ad ∧ w.cell? (ad.add (k * 2)) = some (.int .i64 (xs.getD k (0, 0)).1) ∧ w.cell? ⟨(ad.add (k * 2)).block, (ad.add (k * 2)).off + 1, none⟩ = some (.int .i64 (xs.getD k (0, 0)).2) := by
  obtain ⟨ad, c, e, _, hK, hc0⟩ := Kd.C_get h ((0, 0) : Int × Int) k (by omega) (by omega)
  have hc : ∀ j u, c[j]? = some u → w.cell? (ad.add (((k : Int)).toNat * 2 + j)) = some u := hc0
  obtain ⟨_, _, rfl, rfl, rfl⟩ := hK
  simp only [Int.toNat_natCast] at hc
  exact ⟨ad, e, hc 0 _ rfl, by rw [← add_field _ _ 1 (by omega)]; exact hc 1 _ rfl⟩
/-- 'make([]pair, 0, n)'. -/
theorem make_pairs (w : World) (n : Nat) (hn : n ≤ 4000000) : ∃ w', (Instr.makeSlice 79 (.int .i64 0) (.int .i64 (n : Int))).run Tryd.prog w = .ok (.slice (some ⟨w.heap.size, 0, none⟩) 0 n) w' ∧ k81.R 81 w' w.heap.size (fun _ => True) (.slice (some ⟨w.heap.size, 0, none⟩) 0 n) [] ∧ Below w.heap.size w w' ∧ w'.heap.size = w.heap.size + 1 := by
  obtain ⟨i0, hi, hzz⟩ := Option.map_eq_some_iff.1 info81
  simp only [Prod.mk.injEq] at hzz
  obtain ⟨hz0, hz1, hz2⟩ := hzz
  have hr := run_make (P := Tryd.prog) w 79 81 i0 _ Tryd.underlying79 hi hz0 .i64 .i64 0 (n : Int) (by omega) (by omega) (by rw [hz2]; omega) (by omega)
  rw [hz1] at hr
  refine ⟨_, hr, ⟨fun _ _ => trivial, [], ⟨by simp, .inr ⟨w.heap.size, n, _, rfl, Nat.le_refl _, Array.getElem?_push_size, by simp, by simp [maxLen]; omega, by simp [size_madeCells]; rfl, by simp⟩⟩, Reps.none _ _⟩, (Below.refl _ _).alloc (Nat.le_refl _) _, by simp⟩
end Go.Proofs.YtcljgfpcdlnlkaaDoor.Q
namespace Go.Proofs.YtcljgfpcdlnlkaaDoor.Q
open Go.RowKit Go.Proofs.YtcljgfpcdlnlkaaDoorW.PrintWords Mp
/-- All pairs of places of a graph. -/
def InG (g : List S37) (p : Int × Int) : Prop := 0 ≤ p.1 ∧ p.1 < g.length ∧ 0 ≤ p.2 ∧ p.2 < g.length
@[reducible] def domG (g : List S37) : Dom := ⟨InG g⟩
def sq (n : Nat) : List (Int × Int) := (List.range n).flatMap fun (a : Nat) => (List.range n).map fun (b : Nat) => ((a : Int), (b : Int))
theorem sq_len (n : Nat) : (sq n).length = n * n := by
  unfold sq
  rw [List.length_flatMap]
  simp only [List.length_map, List.length_range, List.map_const', List.sum_replicate_nat]
theorem mem_sq {g : List S37} {p : Int × Int} (h : InG g p) : p ∈ sq g.length := by
  obtain ⟨a, b⟩ := p
  obtain ⟨h1, h2, h3, h4⟩ := h
  simp only at h1 h2 h3 h4
  refine List.mem_flatMap.2 ⟨a.toNat, List.mem_range.2 (by omega), List.mem_map.2 ⟨b.toNat, List.mem_range.2 (by omega), ?_⟩⟩
  rw [Int.toNat_of_nonneg h1, Int.toNat_of_nonneg h3]
theorem len_le {α : Type} [BEq α] [LawfulBEq α] : ∀ {l s : List α}, l.Nodup → (∀ x ∈ l, x ∈ s) → l.length ≤ s.length
  | [], s, _, _ => by simp
  | x :: l, s, hn, hs => by
    have h1 := List.nodup_cons.1 hn
    have := len_le (l := l) (s := s.erase x) h1.2 (fun y hy => (List.mem_erase_of_ne (fun e => h1.1 (by rw [← e]; exact hy))).2 (hs y (List.mem_cons_of_mem _ hy)))
    have hx := hs x List.mem_cons_self
    rw [List.length_erase_of_mem hx] at this
    have := List.length_pos_of_mem hx
    simp only [List.length_cons]
    omega
theorem Inv.len {st : Bool} {g : List S37} {m : PM} (h : Inv st g m) : m.length ≤ g.length * g.length := by
  have := len_le h.nodup (s := sq g.length) (fun p hp => mem_sq (h.dom p hp))
  rw [sq_len] at this
  simpa using this
theorem Inv.grow {st : Bool} {g : List S37} {m m' : PM} (h : Inv st g m) (k : @Grow (domG g) m m') : Inv st g m' := by
  letI := domG g
  have hok : okB m' = okB m := funext fun p => k.ok p
  refine ⟨fun p hp => by rw [k.ok]; exact h.sound p hp, k.nodup h.nodup, fun p hp => ?_, fun p v hv => ?_, fun p hp => ?_⟩
  · rcases k.dom p hp with h1 | h1
    · exact h.dom p h1
    · exact h1
  · cases e : get m p with
    | none =>
      rcases k.new p e with h1 | h1
      · rw [h1] at hv; cases hv
      · rw [h1] at hv; exact .inr (Option.some.inj hv).symm
    | some v' =>
      have := k.old p v' e
      rw [this] at hv
      cases hv
      exact h.bits p _ e
  · rw [hok]
    cases e : get m p with
    | none =>
      rcases k.new p e with h1 | h1
      · rw [h1] at hp; cases hp
      · rw [h1] at hp; cases hp
    | some v' =>
      have := k.old p v' e
      rw [this] at hp
      cases hp
      exact h.out p e
theorem okB_put {m : PM} {p q : Int × Int} : okB (put m p 0) q = if q = p then false else okB m q := by
  unfold okB
  rw [get_put]
  by_cases e : q = p
  · simp [e]
  · rw [if_neg e, if_neg e]
/-- What holds may say no of is taken away rightly. -/
theorem Inv.clear {st : Bool} {g : List S37} {m m' : PM} {p : Int × Int} (h : Inv st g m) (k : @Grow (domG g) m m') (hp : p ∈ m.map (·.1)) (ha : Ans m m' (holdsB st g p) false) : Inv st g (put m' p 0) := by
  letI := domG g
  have hno := ha (okB m) (fun q hq => by rw [← k.ok]; exact pos_ok _ _ hq) (fun q hq => hq)
  have hns : standsB st g p = false := by
    cases e : standsB st g p with
    | false => rfl
    | true =>
      have h1 := holdsB_mono (S := okB m) (fun q hq => h.sound q hq) (stands_holds e)
      rw [h1] at hno
      cases hno
  have hle : Le (okB (put m' p 0)) (okB m) := fun q hq => by
    rw [okB_put] at hq
    split at hq
    · cases hq
    · rwa [k.ok] at hq
  have h' := h.grow k
  refine ⟨fun q hq => ?_, nodup_put h'.nodup, fun q hq => ?_, fun q v hv => ?_, fun q hq => ?_⟩
  · rw [okB_put]
    split
    · rename_i e; rw [e, hns] at hq; cases hq
    · exact h'.sound q hq
  · rw [put_keys] at hq
    split at hq
    · rcases List.mem_append.1 hq with h1 | h1
      · exact h'.dom q h1
      · rw [List.mem_singleton.1 h1]; exact h.dom p hp
    · exact h'.dom q hq
  · rw [get_put] at hv
    split at hv
    · exact .inl (Option.some.inj hv).symm
    · exact h'.bits q v hv
  · cases e : holdsB st g q (okB (put m' p 0)) with
    | false => rfl
    | true =>
      have h1 := holdsB_mono hle e
      rw [get_put] at hq
      split at hq
      · rename_i hqp
        rw [hqp, hno] at h1
        cases h1
      · have h2 := h'.out q hq
        rw [show okB m' = okB m from funext fun r => k.ok r, h1] at h2
        cases h2
/-- How many pairs are not taken away. -/
def okN (g : List S37) (m : PM) : Nat := (sq g.length).countP (okB m)
theorem okN_le (g : List S37) (m : PM) : okN g m ≤ g.length * g.length := by
  have := List.countP_le_length (p := okB m) (l := sq g.length)
  rw [sq_len] at this
  exact this
theorem okN_grow {g : List S37} {m m' : PM} [Dom] (k : Grow m m') : okN g m' = okN g m := by
  unfold okN
  congr 1
  funext p
  exact k.ok p
theorem countP_lt {α : Type} {f f' : α → Bool} (hf : ∀ x, f' x = true → f x = true) {p : α} (h1 : f p = true) (h2 : f' p = false) : ∀ {l : List α}, p ∈ l → l.countP f' < l.countP f
  | [], h => by cases h
  | x :: l, h => by
    have hle : l.countP f' ≤ l.countP f := List.countP_mono_left (fun y _ => hf y)
    simp only [List.countP_cons]
    rcases List.mem_cons.1 h with rfl | h
    · rw [h1, h2]; simp; omega
    · have := countP_lt hf h1 h2 h
      cases e : f' x with
      | true => rw [hf x e]; simpa using this
      | false => cases f x <;> simp <;> omega
theorem okN_clear {g : List S37} {m : PM} {p : Int × Int} (hp : InG g p) (ho : okB m p = true) : okN g (put m p 0) < okN g m := by
  unfold okN
  refine countP_lt (p := p) (fun q hq => ?_) ho ?_ (mem_sq hp)
  · rw [okB_put] at hq
    split at hq
    · cases hq
    · exact hq
  · rw [okB_put, if_pos rfl]
/-- What is still to come, at most. -/
def todo (g : List S37) (m : PM) : Nat := okN g m * (g.length * g.length + 1) + (g.length * g.length - m.length)
theorem todo_grow {st : Bool} {g : List S37} {m m' : PM} (h : Inv st g m) (k : @Grow (domG g) m m') (hl : m.length < m'.length) : todo g m' < todo g m := by
  letI := domG g
  have h1 := okN_grow (g := g) k
  have h2 := (h.grow k).len
  unfold todo
  rw [h1]
  omega
theorem todo_clear {g : List S37} {m m' : PM} (h : okN g m' < okN g m) : todo g m' < todo g m := by
  unfold todo
  have : (okN g m' + 1) * (g.length * g.length + 1) ≤ okN g m * (g.length * g.length + 1) := Nat.mul_le_mul_right _ h
  rw [Nat.add_mul] at this
  omega
/-- The end: what is granted stands, and what stands is granted. -/
theorem Inv.done {st : Bool} {g : List S37} {m : PM} (h : Inv st g m) (hall : ∀ p ∈ m.map (·.1), posB m p = true → Ans m m (holdsB st g p) true) (p : Int × Int) (hp : p ∈ m.map (·.1)) : get m p = some (if standsB st g p then 1 else 0) := by
  have hle := stands_of (st := st) (g := g) (posB m) (fun q hq => by
    have hm : q ∈ m.map (·.1) := by
      refine get_ne_none.1 ?_
      intro e
      unfold posB at hq
      rw [e] at hq
      cases hq
    exact hall q hm hq (posB m) (fun _ h => h) (fun r hr => pos_ok _ _ hr))
  cases e : get m p with
  | none => exact absurd e (get_ne_none.2 hp)
  | some v =>
    rcases h.bits p v e with rfl | rfl
    · cases es : standsB st g p with
      | false => rfl
      | true =>
        have := h.sound p es
        unfold okB at this
        rw [e] at this
        cases this
    · rw [hle p (by unfold posB; rw [e]; rfl)]
      rfl
theorem Inv.nil (st : Bool) (g : List S37) : Inv st g [] := ⟨fun _ _ => rfl, List.nodup_nil, fun p hp => (by cases hp), fun p v h => (by cases h), fun p h => (by cases h)⟩
end Go.Proofs.YtcljgfpcdlnlkaaDoor.Q
namespace Go.Proofs.YtcljgfpcdlnlkaaDoor.Q
open Go.RowKit Go.Proofs.YtcljgfpcdlnlkaaDoorW.PrintWords Mp
theorem grant_key (m : PM) (p : Int × Int) : p ∈ (grant m p).2.map (·.1) := by
  unfold grant
  cases e : get m p with
  | none => simp only [put_keys, e, if_true]; simp
  | some n => exact get_ne_none.1 (by rw [e]; simp)
theorem Grow.keys [Dom] {m m' : PM} (h : Grow m m') {p : Int × Int} (hp : p ∈ m.map (·.1)) : p ∈ m'.map (·.1) := by
  obtain ⟨v, hv⟩ := Option.ne_none_iff_exists'.1 (get_ne_none.2 hp)
  exact get_ne_none.1 (by rw [h.old p v hv]; simp)
theorem todo_le {st : Bool} {g : List S37} {m m' : PM} (h : Inv st g m) (k : @Grow (domG g) m m') : todo g m' ≤ todo g m := by
  have h1 := @Grow.len (domG g) m m' k
  by_cases e : m'.length = m.length
  · rw [@Grow.same (domG g) m m' k e]; exact Nat.le_refl _
  · exact Nat.le_of_lt (todo_grow h k (by omega))
set_option maxRecDepth 100000 in
set_option maxHeartbeats 1000000 in
theorem solve_calls {w0 w : World} {X B : Nat} {A : Option Addr} {c : Nat} {g : List S37} {st : Bool} {m : PM} (h : @Sol (domG g) w0 w X B A c g st m) (hv : Valid g) (hI : Inv st g m) (F : Option Addr) (cF : Nat) (first : List (Int × Int))
    (hF : ∀ W, Kp B w W → Kd.C k81 W F first.length first) (hin : ∀ p ∈ first, InG g p) (hl : first.length ≤ 4000000) :
    Calls Tryd.prog 64 #[.pointer (some ⟨X, 0, none⟩), .slice F first.length cF] w fun e w' => ∃ m', e = .returned (.tuple #[]) ∧ MapAt pairV VInt w' B m' ∧ Kp B w w' ∧ (∀ p ∈ first, p ∈ m'.map (·.1)) ∧ Inv st g m' ∧ ∀ p ∈ m'.map (·.1), get m' p = some (if standsB st g p then 1 else 0) ∧ (posB m' p = true → AnsH st g m' m' p) := by
  letI := domG g
  have H := Lib.hid h
  have HV := Lib.hid hv
  have HI := Lib.hid hI
  have HF := Lib.hid hF
  have HIn := Lib.hid hin
  clear h hv hI hF hin
  go_enter Tryd.func64, Tryd.ntmps64
  go_wp2
  go_step3
  go_wp2
  go_loopw [13] (fun i wr => ∃ k : Nat, k ≤ first.length ∧ i = .int .i64 k ∧ Hid (∃ m', MapAt pairV VInt wr B m' ∧ Kp B w wr ∧ Grow m m' ∧ ∀ j : Nat, j < k → first.getD j (0, 0) ∈ m'.map (·.1))) (fun i _ => first.length - (intOf i).toNat)
  case atStart => exact ⟨0, Nat.zero_le _, rfl, Lib.hid ⟨m, H.out.map, Kp.refl _ _, Grow.refl _, fun j hj => absurd hj (by omega)⟩⟩
  case round =>
    obtain ⟨k, hk, rfl, HI1⟩ := hrel
    obtain ⟨m1, hm1, hK1, hG1, hA1⟩ := HI1.out
    have HM1 := Lib.hid hm1
    have HK1 := Lib.hid hK1
    have HG1 := Lib.hid hG1
    have HA1 := Lib.hid hA1
    clear hm1 hK1 hG1 hA1 HI1
    by_cases hlt : k < first.length
    · obtain ⟨ad, rfl, hc0, hc1⟩ := at_pair (HF.out wr HK1.out) k hlt
      obtain ⟨⟨a, b⟩, hab⟩ : ∃ p, p = first.getD k (0, 0) := ⟨_, rfl⟩
      rw [← hab] at hc0 hc1
      have HAB := Lib.hid hab
      clear hab
      have HSr := Lib.hid (H.out.step HK1.out HM1.out)
      have hW2 : Below wr.heap.size wr (wr.alloc (.cells #[.int .i64 a, .int .i64 b] 81)) := (Below.refl _ _).alloc (Nat.le_refl _) _
      have HG := Lib.hid (granted_calls _ X B a b m1 (HSr.out.below hW2).x2 (HSr.out.below hW2).map)
      clear hW2
      go_wp2_with fail
      refine HG.out.mono ?_
      rintro e w' ⟨rfl, hm', hK'⟩
      have HM2 := Lib.hid hm'
      have HK2 := Lib.hid (show Kp B w w' from (HK1.out.trans (Kp.alloc _ _ _)).trans hK')
      have HDp := Lib.hid (show InG g (a, b) from HIn.out _ (by rw [HAB.out, List.getD_eq_getElem?_getD, List.getElem?_eq_getElem hlt]; exact List.getElem_mem _))
      have HG2 := Lib.hid (HG1.out.trans (grow_grant m1 (a, b) HDp.out))
      have HG3 := Lib.hid (grow_grant m1 (a, b) HDp.out)
      have HKy := Lib.hid (grant_key m1 (a, b))
      clear hm' hK'
      generalize grant m1 (a, b) = gr at HM2 HG2 HG3 HKy
      obtain ⟨r, m2⟩ := gr
      go_wp2
      go_roundw
      case rel => exact ⟨k + 1, by omega, by go_num, Lib.hid ⟨m2, HM2.out, HK2.out, HG2.out, fun j hj => if hjk : j = k then by rw [hjk, ← HAB.out]; exact HKy.out else HG3.out.keys (HA1.out j (by omega))⟩⟩
      case measure => simp [intOf]; omega
    · obtain rfl : k = first.length := by omega
      have HFin := Lib.hid (show ∀ p ∈ first, p ∈ m1.map (·.1) from fun p hp => by
        obtain ⟨j, hj, rfl⟩ := List.getElem_of_mem hp
        have := HA1.out j hj
        rwa [List.getD_eq_getElem?_getD, List.getElem?_eq_getElem hj] at this)
      have HI1 := Lib.hid (HI.out.grow HG1.out)
      clear hk HA1 hlt
      go_wp2
      go_step3
      go_wp2
      go_loopg [7] (todo g m1) (fun k s7 W => Hid (∃ m', MapAt pairV VInt W B m' ∧ Kp B w W ∧ (∀ p ∈ first, p ∈ m'.map (·.1)) ∧ Inv st g m' ∧ todo g m' ≤ k))
      case atStart => exact Lib.hid ⟨m1, HM1.out, HK1.out, HFin.out, HI1.out, Nat.le_refl _⟩
      case round =>
        clear HM1 HK1 HG1 HFin HI1
        clear m1
        obtain ⟨m1, hm1, hK1, hfin, hI1, hk⟩ := hrel.out
        have HM1 := Lib.hid hm1
        have HK1 := Lib.hid hK1
        have HFin := Lib.hid hfin
        have HI1 := Lib.hid hI1
        have HTd := Lib.hid hk
        have HSr := Lib.hid (H.out.step HK1.out HM1.out)
        clear hrel hm1 hK1 hfin hI1 hk
        have hmN : m1.length ≤ 4000000 := by
          have h1 := HI1.out.len
          have h2 : g.length * g.length ≤ 2000 * 2000 := Nat.mul_le_mul HV.out.len HV.out.len
          omega
        have hlen := HM1.out.len (rt := 3) Tryd.underlying84
        obtain ⟨w2, hmk, hR2, hb2, hs2⟩ := make_pairs wr m1.length hmN
        have HS2 := Lib.hid (HSr.out.below hb2)
        obtain ⟨w3, hrg, hRg, hb3, hs3⟩ := range_at HS2.out.map
        have hx2 := HSr.out.x2
        have hx22 := HS2.out.x2
        go_wp2
        have HB23 := Lib.hid (hb2.trans (hb3.mono (by omega)))
        have HR3 := Lib.hid (show k81.R 81 w3 wr.heap.size (fun k => k ≠ w2.heap.size) (.slice (some ⟨wr.heap.size, 0, none⟩) 0 m1.length) [] from ⟨fun k hk => by simp [Value.ownBlock] at hk; omega, (Kd.R_move (Kd.R_mono (Kd.R_bound hR2) (ok' := fun k => k < w2.heap.size) (fun k hk => hk.2.2.1)) (fun k hk => hb3.block k hk)).2.imp_ (fun _ _ hp => hp)⟩)
        have HRg := Lib.hid hRg
        rw [hs2] at HRg HR3
        obtain ⟨r, hr⟩ : ∃ r, r = wr.heap.size + 1 := ⟨_, rfl⟩
        rw [← hr] at HRg HR3 ⊢
        have hrB : wr.heap.size < r := by rw [hr]; omega
        have hBw : B < wr.heap.size := HSr.out.map.lt
        clear hb2 hb3 hR2 hRg hmk hrg hlen hs2 hs3 hr HS2 hx22
        obtain ⟨w1, hw1⟩ : ∃ w1, w1 = wr := ⟨_, rfl⟩
        subst hw1
        go_loopg [7] m1.length (fun k s7 W => Hid (∃ got, RngAt W B r m1 got k ∧ k81.R 81 W w1.heap.size (fun k => k ≠ r) s7 got ∧ Below w1.heap.size w1 W))
        case atStart => exact Lib.hid ⟨[], HRg.out, HR3.out, HB23.out⟩
        case round =>
          clear HRg HR3 HB23
          obtain ⟨got, hRg, hR, hB⟩ := hrel.out
          have HR := Lib.hid hR
          have HB := Lib.hid hB
          have HRg := Lib.hid hRg
          clear hrel hRg hR hB
          rcases HRg.out.next 0 with ⟨hall, hnx⟩ | ⟨⟨a, b⟩, v, W2, left', hlt, hnx, hRg2, hK2, hs2, hen⟩
          · have HAll := Lib.hid hall
            have HGl := Lib.hid HRg.out.got
            have hgl := HRg.out.got.2
            have HSq := Lib.hid (HSr.out.below (HB.out.mono (Nat.le_refl _)))
            have HKq := Lib.hid (HK1.out.trans (Kp.of_below HB.out))
            have HRq := Lib.hid (show k81.R 81 wr w1.heap.size (fun k => k ≠ B) _ got from Kd.R_mono (Kd.R_bound HR.out) (fun k hk => by have := hk.2.1; omega))
            clear hall HR HRg HB
            obtain ⟨AL, cL, rfl, hcL, hCL⟩ := Kd.R_reads HRq.out
            clear hCL
            go_wp2
            obtain ⟨wq, hwq⟩ : ∃ wq, wq = wr := ⟨_, rfl⟩
            subst hwq
            go_loopw [6, 43] (fun s6 s43 W => ∃ k : Nat, k ≤ got.length ∧ s43 = .int .i64 k ∧ ∃ many : Int, s6 = .int .i64 many ∧ Hid (∃ m', MapAt pairV VInt W B m' ∧ Kp B wq W ∧ Inv st g m' ∧ (∀ p ∈ m1.map (·.1), p ∈ m'.map (·.1)) ∧ ((many = -1 ∧ todo g m' < todo g m1) ∨ (many = m1.length ∧ Grow m1 m' ∧ ∀ j : Nat, j < k → posB m1 (got.getD j (0, 0)) = true → AnsH st g m1 m' (got.getD j (0, 0)))))) (fun _ s43 _ => got.length - (intOf s43).toNat)
            case atStart => exact ⟨0, Nat.zero_le _, rfl, _, rfl, Lib.hid ⟨m1, HSq.out.map, Kp.refl _ _, HI1.out, fun _ h => h, .inr ⟨rfl, Grow.refl _, fun j hj => absurd hj (by omega)⟩⟩⟩
            case round =>
              obtain ⟨k, hk, rfl, many, rfl, HI2⟩ := hrel
              obtain ⟨m2, hm2, hK2, hI2, hky2, hor⟩ := HI2.out
              have HM2 := Lib.hid hm2
              have HK2 := Lib.hid hK2
              have HI3 := Lib.hid hI2
              have HKy := Lib.hid hky2
              have HOr := Lib.hid hor
              clear hm2 hK2 hI2 hky2 hor HI2
              have HS2 := Lib.hid (HSq.out.step HK2.out HM2.out)
              by_cases hlt : k < got.length
              · obtain ⟨ad, rfl, hc0, hc1⟩ := at_pair (Kd.R_reads' (R_kp HRq.out HK2.out)).2.2 k hlt
                have hmem : got.getD k (0, 0) ∈ got := by rw [List.getD_eq_getElem?_getD, List.getElem?_eq_getElem hlt]; exact List.getElem_mem _
                obtain ⟨⟨a, b⟩, hab⟩ : ∃ p, p = got.getD k (0, 0) := ⟨_, rfl⟩
                rw [← hab] at hc0 hc1 hmem
                have HAB := Lib.hid hab
                have hmk1 := HGl.out.1 _ hmem
                have HP1 := Lib.hid hmk1
                have HP2 := Lib.hid (HKy.out _ hmk1)
                have HIn2 := Lib.hid (HI3.out.dom _ (HKy.out _ hmk1))
                obtain ⟨v, hv⟩ := Option.ne_none_iff_exists'.1 (get_ne_none.2 (HKy.out _ hmk1))
                have hW2 : Below wr.heap.size wr (wr.alloc (.cells #[.int .i64 a, .int .i64 b] 81)) := (Below.refl _ _).alloc (Nat.le_refl _) _
                have HSW := Lib.hid (HS2.out.below hW2)
                have HKW := Lib.hid (HK2.out.trans (Kp.of_below hW2))
                have HPos := Lib.hid (show posB m2 (a, b) = decide (0 < v) by unfold posB; rw [hv])
                have hx2W := HSW.out.x2
                have pa : (wr.alloc (.cells #[.int .i64 a, .int .i64 b] 81)).cell? ⟨wr.heap.size, 0, none⟩ = some (.int .i64 a) := by simp
                have pb : (wr.alloc (.cells #[.int .i64 a, .int .i64 b] 81)).cell? ⟨wr.heap.size, 1, none⟩ = some (.int .i64 b) := by simp
                have hlk := fun n => (MapAt.of_block (w' := (wr.alloc (.cells #[.int .i64 a, .int .i64 b] 81)).drewN n) HSW.out.map rfl).lookup1 pairKey Tryd.underlying84 zero3 (a, b)
                have hld := (MapAt.of_block (w' := (wr.alloc (.cells #[.int .i64 a, .int .i64 b] 81)).drew) HSW.out.map rfl).lookup1 pairKey Tryd.underlying84 zero3 (a, b)
                simp only [hv, pairV, Option.map_some, Option.getD_some] at hlk hld
                clear hab hmem hmk1 hv hW2
                by_cases hvp : 0 < v
                · have dv : decide (0 < v) = true := decide_eq_true hvp
                  have HH := Lib.hid (holds_calls (HSW.out.kp (Kp.drew B _) rfl) HV.out a b HIn2.out.1 HIn2.out.2.1 HIn2.out.2.2.1 HIn2.out.2.2.2)
                  have HOk := Lib.hid (show okB m2 (a, b) = true from pos_ok _ _ (by rw [HPos.out]; exact dv))
                  clear hvp HPos
                  go_wp2
                  generalize wr.alloc (.cells #[.int .i64 a, .int .i64 b] 81) = W at HSW HKW hx2W pa pb hlk hld HH ⊢
                  refine wp_region_still_tail 10 (by kernel_rfl) (by kernel_rfl) ?_
                  simp only [List.take_succ_cons, List.take_zero, List.drop_succ_cons, List.drop_zero]
                  change wpStill _ _ W.drew _ _ _
                  repeat still_step
                  try refine wpStill_nil ?_
                  change wpList _ _ _ _ _ W.drew
                  go_wp2_with fail
                  refine HH.out.mono ?_
                  rintro e w' ⟨r1, m3, rfl, hm', hK', hG', hA', hN'⟩
                  have HM3 := Lib.hid hm'
                  have HK3 := Lib.hid (show Kp B W w' from (Kp.drew B W).trans hK')
                  have HG3 := Lib.hid hG'
                  have HA3 := Lib.hid hA'
                  have HN3 := Lib.hid hN'
                  clear hm' hK' hG' hA' hN' HH hlk hld
                  cases r1 with
                  | true =>
                    go_wp2
                    go_roundw
                    case rel =>
                      refine ⟨k + 1, by omega, by go_num, many, rfl, Lib.hid ⟨m3, HM3.out, HKW.out.trans HK3.out, HI3.out.grow HG3.out, fun p hp => HG3.out.keys (HKy.out p hp), ?_⟩⟩
                      rcases HOr.out with ⟨h1, h2⟩ | ⟨h1, h2, h3⟩
                      · exact .inl ⟨h1, Nat.lt_of_le_of_lt (todo_le HI3.out HG3.out) h2⟩
                      · refine .inr ⟨h1, h2.trans HG3.out, fun j hj => ?_⟩
                        by_cases hjk : j = k
                        · rw [hjk, ← HAB.out]; exact fun _ => (HN3.out (by simp)).from h2
                        · exact fun hp => (h3 j (by omega) hp).grow HG3.out
                    case measure => simp [intOf]; omega
                  | false =>
                    have pb2 := HK3.out.cell pb (by have := HS2.out.map.lt; show wr.heap.size ≠ B; omega)
                    have pa2 := HK3.out.cell pa (by have := HS2.out.map.lt; show wr.heap.size ≠ B; omega)
                    have hx3 := (HSW.out.step HK3.out HM3.out).x2
                    obtain ⟨o, hu, hm4⟩ := (MapAt.of_block (w' := w'.drew) HM3.out rfl).update pairKey Tryd.underlying84 (a, b) 0
                    simp only [pairV] at hu
                    have HM4 := Lib.hid hm4
                    clear hm4
                    go_wp2
                    refine wp_region_still_tail 5 (by kernel_rfl) (by kernel_rfl) ?_
                    simp only [List.take_succ_cons, List.take_zero, List.drop_succ_cons, List.drop_zero]
                    change wpStill _ _ w'.drew _ _ _
                    repeat still_step
                    try refine wpStill_nil ?_
                    change wpList _ _ _ _ _ w'.drew
                    go_wp2
                    go_roundw
                    case rel =>
                      refine ⟨k + 1, by omega, by go_num, -1, rfl, Lib.hid ⟨put m3 (a, b) 0, HM4.out, HKW.out.trans ((HK3.out.trans (Kp.drew _ _)).trans (Kp.setBlock _ _ _)), HI3.out.clear HG3.out HP2.out HA3.out, fun p hp => ?_, .inl ⟨rfl, ?_⟩⟩⟩
                      · have := HG3.out.keys (HKy.out p hp)
                        rw [put_keys]
                        split
                        · exact List.mem_append_left _ this
                        · exact this
                      · have h1 : todo g (put m3 (a, b) 0) < todo g m3 := todo_clear (okN_clear HIn2.out (by rw [HG3.out.ok]; exact HOk.out))
                        have h2 := todo_le HI3.out HG3.out
                        have h3 : todo g m2 ≤ todo g m1 := by
                          rcases HOr.out with h | h
                          · exact Nat.le_of_lt h.2
                          · exact todo_le HI1.out h.2.1
                        omega
                    case measure => simp [intOf]; omega
                · have dv : decide (0 < v) = false := decide_eq_false hvp
                  go_wp2
                  generalize wr.alloc (.cells #[.int .i64 a, .int .i64 b] 81) = W at HSW HKW hx2W pa pb hlk hld ⊢
                  go_quiet (fail)
                  go_wp2
                  go_roundw
                  case rel =>
                    refine ⟨k + 1, by omega, by go_num, many, rfl, Lib.hid ⟨m2, HSW.out.map.of_block rfl, HKW.out.trans (Kp.drewN _ _ _), HI3.out, HKy.out, ?_⟩⟩
                    rcases HOr.out with h1 | ⟨h1, h2, h3⟩
                    · exact .inl h1
                    · refine .inr ⟨h1, h2, fun j hj => ?_⟩
                      by_cases hjk : j = k
                      · rw [hjk, ← HAB.out]
                        intro hp
                        have := h2.pos _ hp
                        rw [HPos.out, dv] at this
                        cases this
                      · exact h3 j (by omega)
                  case measure => simp [intOf]; omega
              · obtain rfl : k = got.length := by omega
                have HLen := HS2.out.map.len (rt := 3) Tryd.underlying84
                have hx2r := HS2.out.x2
                by_cases hd : many = m2.length
                · have dd : (many == (m2.length : Int)) = true := by simp [hd]
                  have HEq := Lib.hid (show m2 = m1 ∧ ∀ j : Nat, j < got.length → posB m1 (got.getD j (0, 0)) = true → AnsH st g m1 m2 (got.getD j (0, 0)) from by
                    rcases HOr.out with h | h
                    · have := h.1; omega
                    · exact ⟨h.2.1.same (by have := h.1; omega), h.2.2⟩)
                  go_wp2
                  refine bodyPost_end (results_none rfl _ _ _) rfl ?_
                  have hall : ∀ p ∈ m2.map (·.1), posB m2 p = true → AnsH st g m2 m2 p := fun p hp hpos => by
                    obtain ⟨e1, e2⟩ := HEq.out
                    rw [e1] at hp hpos e2 ⊢
                    obtain ⟨j, hj, hje⟩ := List.getElem_of_mem (HAll.out p hp)
                    have := e2 j hj
                    rw [List.getD_eq_getElem?_getD, List.getElem?_eq_getElem hj, Option.getD_some, hje] at this
                    exact this hpos
                  exact ⟨m2, rfl, HM2.out, HKq.out.trans HK2.out, fun p hp => HKy.out p (HFin.out p hp), HI3.out, fun p hp => ⟨HI3.out.done (fun q hq hqs => (hall q hq hqs).1) p hp, hall p hp⟩⟩
                · have dd : (many == (m2.length : Int)) = false := by simp [hd]
                  have HLt := Lib.hid (show todo g m2 < todo g m1 from by
                    rcases HOr.out with h | h
                    · exact h.2
                    · exact todo_grow HI1.out h.2.1 (by have := h.2.1.len; have := h.1; omega))
                  go_wp2
                  go_roundg (todo g m2)
                  case measure => exact Nat.lt_of_lt_of_le HLt.out HTd.out
                  case rel => exact Lib.hid ⟨m2, HM2.out, HKq.out.trans HK2.out, fun p hp => HKy.out p (HFin.out p hp), HI3.out, Nat.le_refl _⟩
          · have HRg2 := Lib.hid hRg2
            have HK3 := Lib.hid (hK2.trans (Kp.alloc r W2 (.cells #[.int .i64 a, .int .i64 b] 81)))
            clear hRg2 hK2
            simp only [pairV] at hnx hen
            have HR3 := Lib.hid (show k81.R 81 (W2.alloc (.cells #[.int .i64 a, .int .i64 b] 81)) _ _ _ _ from R_kp HR.out HK3.out)
            have HSz := HB.out.size
            have HB3 := Lib.hid (HB.out.trans (HK3.out.below (by omega) HSz))
            have HRg3 := Lib.hid (show RngAt (W2.alloc (.cells #[.int .i64 a, .int .i64 b] 81)) B r m1 (got ++ [(a, b)]) left' from HRg2.out.of_blocks (Below.heap_alloc _ _ _ HRg2.out.map.lt) (Below.heap_alloc _ _ _ HRg2.out.lt))
            have hgl := HRg.out.got.2
            have hrl := HRg2.out.lt
            have HS2 := Lib.hid hs2
            clear HR HB HRg HRg2 hs2
            go_wp2_with (at_builtin; refine Aside.out ?_)
            rw [show W2.heap.size + 1 = (W2.alloc (.cells #[.int .i64 a, .int .i64 b] 81)).heap.size from (World.size_alloc _ _).symm]
            have hWs : wr.heap.size ≤ (W2.alloc (.cells #[.int .i64 a, .int .i64 b] 81)).heap.size := by rw [World.size_alloc, HS2.out]; omega
            have hrl2 : r < (W2.alloc (.cells #[.int .i64 a, .int .i64 b] 81)).heap.size := by rw [World.size_alloc]; omega
            generalize W2.alloc (.cells #[.int .i64 a, .int .i64 b] 81) = W at HR3 HB3 HRg3 HK3 hWs hrl2 ⊢
            show wpList _ _ _ _ _ _
            refine Kd.R_append k81 (w0 := w1) w1.heap.size rfl (.tmp 37) (.tmp 39) 79 81 (.agg #[.int .i64 0, .int .i64 0]) 16 rfl Tryd.underlying79 info81 rfl (by decide) (by omega) u7 got (a, b) [.int .i64 a, .int .i64 b] (fun k => k ≠ r) (fun _ => False) rfl rfl ?aP (fun _ hk => hk.elim) ?aF ?aO ?aB ?aS ?aL ?_
            case aP => exact k81_mk _ _ _ a b
            case aF => intro k hk; omega
            case aO => exact HR3.out
            case aB => exact HB3.out
            case aS => omega
            case aL => omega
            intro v1 wA hR4 hB4 hg4 _
            have HR4 := Lib.hid hR4
            have HB4 := Lib.hid hB4
            have HRg4 := Lib.hid (HRg3.out.of_blocks ((hB4.block B hBw).trans (HB3.out.block B hBw).symm) (hg4.block r hrl2 (fun e => HR3.out.1 r e.symm rfl)))
            clear HR3 HB3 HRg3 hR4 hB4 hg4
            go_wp2
            go_roundg left'
            case measure => exact hlt
            case rel => exact Lib.hid ⟨_, HRg4.out, HR4.out, HB4.out⟩
end Go.Proofs.YtcljgfpcdlnlkaaDoor.Q
