/- The functions that SubTells reaches, as functions of what they are given, part 2. Conditions: those of each theorem's own statement. -/
import Derived.Test.YtcljgfpcdlnlkaaDoorJSubTellsA
import Derived.Maps.RangeRun
import Derived.WalkMore
import Derived.Carry
namespace Go.Proofs.YtcljgfpcdlnlkaaDoor.Q
open Go.RowKit Go.Proofs.YtcljgfpcdlnlkaaDoorW.PrintWords Go.Proofs.YtcljgfpcdlnlkaaDoorW.PrintLast Mp
set_option maxRecDepth 100000 in
set_option maxHeartbeats 1000000 in
theorem holds1_calls [Dom] {w0 w : World} {X B : Nat} {A : Option Addr} {c : Nat} {g : List S37} {st : Bool} {m : PM} (h : Sol w0 w X B A c g st m) (hv : Valid g) (s b : Int) (hs0 : 0 ≤ s) (hs1 : s < g.length) (hs8 : (rd_T37 g s).f0 ≠ 8) (hb0 : 0 ≤ b) (hb1 : b < g.length)
    (Y Z : Nat) (hY : w.cell? ⟨Y, 0, none⟩ = some (.pointer (some ⟨X, 0, none⟩))) (hZ : w.cell? ⟨Z, 1, none⟩ = some (.int .i64 b)) :
    Calls Tryd.prog 137 #[.int .i64 s, .pointer (some ⟨Y, 0, none⟩), .pointer (some ⟨Z, 0, none⟩)] w fun e w' => ∃ (k : Int) (m' : PM), e = .returned (.bool (decide (k = -2))) ∧ MapAt pairV VInt w' B m' ∧ Kp B w w' ∧ Grow m m' ∧ Ans m m' (pickB st g s b) k := by
  have HP := Lib.hid (pick_calls h hv s b hs0 hs1 hs8 hb0 hb1)
  clear h hv hs0 hs1 hs8 hb0 hb1
  go_enter Tryd.func137, Tryd.ntmps137
  go_wp2_with fail
  refine HP.out.mono ?_
  rintro e w' ⟨r, m', rfl, hm', hK', hG, hA⟩
  have HE := Lib.hid (show _ ∧ _ ∧ _ ∧ _ from ⟨hm', hK', hG, hA⟩)
  clear hm' hK' hG hA
  go_wp2
  go_ret
  refine ⟨r, m', ?_, HE.out.1, HE.out.2.1, HE.out.2.2.1, HE.out.2.2.2⟩
  show Ending.returned (.bool (r == -2)) = _
  rw [show (r == -2) = decide (r = -2) by rw [Bool.eq_iff_iff]; simp]
/-- It holds; and each part of it is known. -/
def AnsH (st : Bool) (g : List S37) (m m' : PM) (p : Int × Int) : Prop := Ans m m' (holdsB st g p) true ∧ ∀ s ∈ membersL g p.1, ∃ k, Ans m m' (pickB st g s p.2) k
theorem AnsH.grow [Dom] {st : Bool} {g : List S37} {a b c : PM} {p : Int × Int} (h : AnsH st g a b p) (k : Grow b c) : AnsH st g a c p := ⟨h.1.grow k, fun s hs => (h.2 s hs).imp fun _ h => h.grow k⟩
theorem AnsH.from [Dom] {st : Bool} {g : List S37} {a b c : PM} {p : Int × Int} (h : AnsH st g b c p) (k : Grow a b) : AnsH st g a c p := ⟨h.1.from k, fun s hs => (h.2 s hs).imp fun _ h => h.from k⟩
theorem enters137 : EntersAt 137 := enters_at Tryd.func137 (by kernel_rfl) rfl
set_option maxRecDepth 100000 in
set_option maxHeartbeats 1000000 in
theorem holds_calls [Dom] {w0 w : World} {X B : Nat} {A : Option Addr} {c : Nat} {g : List S37} {st : Bool} {m : PM} (h : Sol w0 w X B A c g st m) (hv : Valid g) (a b : Int) (ha0 : 0 ≤ a) (ha1 : a < g.length) (hb0 : 0 ≤ b) (hb1 : b < g.length) :
    Calls Tryd.prog 110 #[.pointer (some ⟨X, 0, none⟩), .agg #[.int .i64 a, .int .i64 b]] w fun e w' => ∃ (r : Bool) (m' : PM), e = .returned (.bool r) ∧ MapAt pairV VInt w' B m' ∧ Kp B w w' ∧ Grow m m' ∧ Ans m m' (holdsB st g (a, b)) r ∧ (r = true → AnsH st g m m' (a, b)) := by
  have H := Lib.hid h
  have HV := Lib.hid hv
  have HMem := Lib.hid (hv.members ha0 ha1)
  have hx0 := h.x0
  have hXl : X < w.heap.size := World.block_lt_of_cell? w _ hx0
  clear h hv
  go_enter Tryd.func110, Tryd.ntmps110
  go_wp2
  generalize hW : (w.alloc (Obj.cells #[Value.pointer (some ⟨X, 0, none⟩)] 76)).alloc (Obj.cells #[Value.int IntKind.i64 a, Value.int IntKind.i64 b] 81) = W
  have t0 : W.cell? ⟨w.heap.size, 0, none⟩ = some (.pointer (some ⟨X, 0, none⟩)) := by rw [← hW]; simp
  have t1 : W.cell? ⟨w.heap.size + 1, 0, none⟩ = some (.int .i64 a) := by rw [← hW]; simp
  have t2 : W.cell? ⟨w.heap.size + 1, 1, none⟩ = some (.int .i64 b) := by rw [← hW]; simp
  have t3 : W.cell? ⟨X, 0, none⟩ = some (.slice A g.length c) := by rw [← hW]; exact cell_alloc _ (cell_alloc _ hx0)
  have HbW := Lib.hid (show Below w.heap.size w W by rw [← hW]; exact ((Below.refl _ _).alloc (Nat.le_refl _) _).alloc (by simp) _)
  have HsW := Lib.hid (show w.heap.size + 2 ≤ W.heap.size by rw [← hW]; simp)
  clear hW hx0
  refine start_ (n := 11) (S := fun w' => w'.cell? ⟨w.heap.size, 0, none⟩ = some (.pointer (some ⟨X, 0, none⟩)) ∧ w'.cell? ⟨w.heap.size + 1, 0, none⟩ = some (.int .i64 a) ∧ w'.cell? ⟨X, 0, none⟩ = some (.slice A g.length c)) (ds := [6, 8]) #[false, false, false, false, false, false, false, false, false, false, false] (by kernel_rfl) rfl rfl ⟨t0, t1, t3⟩ (fun hHeld => ?_)
  have HSd := Lib.hid (H.out.below (HbW.out.drew))
  have HKd := Lib.hid (show Kp B w W.drew from Kp.of_below HbW.out.drew)
  have t0d : W.drew.cell? ⟨w.heap.size, 0, none⟩ = some (.pointer (some ⟨X, 0, none⟩)) := t0
  have t2d : W.drew.cell? ⟨w.heap.size + 1, 1, none⟩ = some (.int .i64 b) := t2
  have Hsd := Lib.hid (show w.heap.size + 2 ≤ W.drew.heap.size from HsW.out)
  clear t0 t1 t2 t3 HbW HsW
  generalize W.drew = w1 at *
  refine pure_ (i := 7) (N := some 12) (v := ?_) (a' := ?_) #[false, false, false, false, false, false, false, true, false, false, false] rfl rfl (by kernel_rfl) (fun _ _ _ h => h) (Or.inl ⟨by rfl, ?_⟩) ?_ ?_
  rotate_left
  · intro w'
    go_simp
    with_reducible rfl
  rotate_left
  · simp only [Act.put, List.setIfInBounds_toArray, List.set_cons_zero, List.set_cons_succ]
    rfl
  refine take_ (i := 0) (N := some 5) (v := ?_) (a' := ?_) #[true, false, false, false, false, false, false, true, false, false, false] rfl rfl (by kernel_rfl) (fun _ _ _ h => h) (Or.inl ⟨by rfl, ?_⟩) hHeld ?_ ?_
  rotate_left
  · rintro w' ⟨s0, s1, s2⟩
    go_simp
    with_reducible rfl
  rotate_left
  · simp only [Act.put, List.setIfInBounds_toArray, List.set_cons_zero, List.set_cons_succ]
    rfl
  refine pure_ (i := 1) (N := some 6) (v := ?_) (a' := ?_) #[true, true, false, false, false, false, false, true, false, false, false] rfl rfl (by kernel_rfl) (fun _ _ _ h => h) (Or.inl ⟨by rfl, ?_⟩) ?_ ?_
  rotate_left
  · intro w'
    go_simp
    with_reducible rfl
  rotate_left
  · simp only [Act.put, List.setIfInBounds_toArray, List.set_cons_zero, List.set_cons_succ]
    rfl
  refine pure_ (i := 2) (N := some 7) (v := ?_) (a' := ?_) #[true, true, true, false, false, false, false, true, false, false, false] rfl rfl (by kernel_rfl) (fun _ _ _ h => h) (Or.inl ⟨by rfl, ?_⟩) ?_ ?_
  rotate_left
  · intro w'
    go_simp
    with_reducible rfl
  rotate_left
  · simp only [Act.put, List.setIfInBounds_toArray, List.set_cons_zero, List.set_cons_succ]
    rfl
  refine take_ (i := 3) (N := some 8) (v := ?_) (a' := ?_) #[true, true, true, true, false, false, false, true, false, false, false] rfl rfl (by kernel_rfl) (fun _ _ _ h => h) (Or.inl ⟨by rfl, ?_⟩) hHeld ?_ ?_
  rotate_left
  · rintro w' ⟨s0, s1, s2⟩
    go_simp
    with_reducible rfl
  rotate_left
  · simp only [Act.put, List.setIfInBounds_toArray, List.set_cons_zero, List.set_cons_succ]
    rfl
  refine pure_ (i := 4) (N := some 9) (v := ?_) (a' := ?_) #[true, true, true, true, true, false, false, true, false, false, false] rfl rfl (by kernel_rfl) (fun _ _ _ h => h) (Or.inl ⟨by rfl, ?_⟩) ?_ ?_
  rotate_left
  · intro w'
    go_simp
    with_reducible rfl
  rotate_left
  · simp only [Act.put, List.setIfInBounds_toArray, List.set_cons_zero, List.set_cons_succ]
    rfl
  refine take_ (i := 5) (N := some 10) (v := ?_) (a' := ?_) #[true, true, true, true, true, true, false, true, false, false, false] rfl rfl (by kernel_rfl) (fun _ _ _ h => h) (Or.inl ⟨by rfl, ?_⟩) hHeld ?_ ?_
  rotate_left
  · rintro w' ⟨s0, s1, s2⟩
    go_simp
    with_reducible rfl
  rotate_left
  · simp only [Act.put, List.setIfInBounds_toArray, List.set_cons_zero, List.set_cons_succ]
    rfl
  have HC := Lib.hid (members_calls A c g a w1 (Kd.C_below HSd.out.graph HSd.out.base) (by have := (HV.out.small ha0 ha1).2; omega))
  refine last_ (i := 6) (N := some 11) #[true, true, true, true, true, true, true, true, false, false, false] rfl rfl (by kernel_rfl) (by decide) (fun K hK => ?_)
  refine goes_ Tryd.func26 (by kernel_rfl) rfl #[.slice A g.length c, .int .i64 a] (by rfl) rfl rfl (by simp only [List.map_toArray, List.map_cons, List.map_nil]; rfl) ?_
  refine HC.out.mono ?_
  rintro e w2 ⟨v, rfl, hr, hb⟩
  refine ⟨v, rfl, hK.out _ _ ?_⟩
  clear hK K
  obtain ⟨AL, cL, rfl, hcL, hCL⟩ := Kd.R_reads hr
  have HR := Lib.hid (R_apartB hr (by have := HSd.out.map.lt; exact this))
  have HS2 := Lib.hid (HSd.out.below hb)
  have HK2 := Lib.hid (HKd.out.trans (Kp.of_below hb))
  have u0 := (hb.cell (p := ⟨w.heap.size, 0, none⟩) (by have := Hsd.out; show w.heap.size < _; omega)).trans t0d
  have u2 := (hb.cell (p := ⟨w.heap.size + 1, 1, none⟩) (by have := Hsd.out; show w.heap.size + 1 < _; omega)).trans t2d
  have nB0 : w.heap.size ≠ B := by have := H.out.map.lt; omega
  have nB1 : w.heap.size + 1 ≠ B := by have := H.out.map.lt; omega
  have hLl : (membersL g a).length ≤ 2000 := HMem.out.2
  clear hb hr hCL hcL hHeld t0d t2d
  have HH : Calls Tryd.prog 65 #[.slice AL (membersL g a).length cL, .func (.func 137) #[] #[.pointer (some ⟨w.heap.size, 0, none⟩), .pointer (some ⟨w.heap.size + 1, 0, none⟩)]] w2 (fun e w' => ∃ (r : Bool) (m' : PM), e = .returned (.bool r) ∧ MapAt pairV VInt w' B m' ∧ Kp B w2 w' ∧ Grow m m' ∧ Ans m m' (fun R => (membersL g a).any fun s => decide (pickB st g s b R = -2)) r ∧ (r = false → ∀ s ∈ membersL g a, ∃ k, Ans m m' (pickB st g s b) k)) := by
    refine (has65 AL (membersL g a).length cL 137 #[.pointer (some ⟨w.heap.size, 0, none⟩), .pointer (some ⟨w.heap.size + 1, 0, none⟩)] (fun i => .int .i64 (rd (membersL g a) i))
      (fun i W' => ∃ m', MapAt pairV VInt W' B m' ∧ Kp B w2 W' ∧ Grow m m' ∧ ∀ j, j < i → ∃ k : Int, k ≠ -2 ∧ Ans m m' (pickB st g ((membersL g a).getD j 0) b) k)
      (fun i W' => ∃ m', MapAt pairV VInt W' B m' ∧ Kp B w2 W' ∧ Grow m m' ∧ i < (membersL g a).length ∧ Ans m m' (pickB st g ((membersL g a).getD i 0) b) (-2)) w2 (by omega) enters137
      ⟨m, HS2.out.map, Kp.refl _ _, Grow.refl _, fun j hj => absurd hj (by omega)⟩ ?_ ?_).mono ?_
    · rintro i W' ⟨m', hm', hK', hG', _⟩ hi
      exact int_cell (Kd.R_reads' (R_kp HR.out hK')).2.2 i hi
    · rintro i W' hi ⟨m1, hm1, hK1, hG1, hA1⟩
      have hmem := HMem.out.1 ((membersL g a).getD i 0) (by rw [List.getD_eq_getElem?_getD, List.getElem?_eq_getElem hi]; exact List.getElem_mem _)
      refine (holds1_calls (HS2.out.step hK1 hm1) HV.out ((membersL g a).getD i 0) b hmem.1 hmem.2.1 hmem.2.2 hb0 hb1 w.heap.size (w.heap.size + 1) (hK1.cell u0 nB0) (hK1.cell u2 nB1)).mono ?_
      rintro e W2 ⟨q, m2, rfl, hm2, hK2, hG2, hA2⟩
      by_cases hq : q = -2
      · subst hq
        exact .inl ⟨rfl, m2, hm2, hK1.trans hK2, hG1.trans hG2, hi, hA2.from hG1⟩
      · rw [decide_eq_false hq]
        exact .inr ⟨rfl, m2, hm2, hK1.trans hK2, hG1.trans hG2, fun j hj => if h : j = i then by rw [h]; exact ⟨q, hq, hA2.from hG1⟩ else (hA1 j (by omega)).imp fun _ hk => ⟨hk.1, hk.2.grow hG2⟩⟩
    · rintro e W' (⟨i, _, rfl, m', hm', hK', hG', hi, hA'⟩ | ⟨rfl, m', hm', hK', hG', hA'⟩)
      · exact ⟨true, m', rfl, hm', hK', hG', fun R r1 r2 => any_of_idx _ 0 _ i hi (by rw [hA' R r1 r2]; rfl), fun h => (by cases h)⟩
      · refine ⟨false, m', rfl, hm', hK', hG', fun R r1 r2 => any_none _ 0 _ (fun j hj => ?_), fun _ s hs => ?_⟩
        · obtain ⟨k, hk, ha⟩ := hA' j hj
          rw [ha R r1 r2]
          exact decide_eq_false hk
        · obtain ⟨j, hj, rfl⟩ := List.getElem_of_mem hs
          obtain ⟨k, _, ha⟩ := hA' j hj
          rw [List.getD_eq_getElem?_getD, List.getElem?_eq_getElem hj] at ha
          exact ⟨k, ha⟩
  refine last_ (i := 8) (N := some 13) #[true, true, true, true, true, true, true, true, true, false, false] rfl rfl (by kernel_rfl) (by decide) (fun K hK => ?_)
  refine goes_ Tryd.func65 (by kernel_rfl) rfl #[.slice AL (membersL g a).length cL, .func (.func 137) #[] #[.pointer (some ⟨w.heap.size, 0, none⟩), .pointer (some ⟨w.heap.size + 1, 0, none⟩)]] (by rfl) rfl rfl (by simp only [List.map_toArray, List.map_cons, List.map_nil]; rfl) ?_
  refine HH.mono ?_
  rintro e w3 ⟨r, m', rfl, hm', hK', hG', hA', hN'⟩
  refine ⟨_, rfl, hK.out _ _ ?_⟩
  clear hK K HH
  have HE := Lib.hid (show _ ∧ _ ∧ _ ∧ _ from ⟨hm', hK', hG', hA'⟩)
  have HN := Lib.hid hN'
  clear hm' hK' hG' hA' hN'
  refine pure_ (i := 9) (N := some 14) (v := ?_) (a' := ?_) #[true, true, true, true, true, true, true, true, true, true, false] rfl rfl (by kernel_rfl) (fun _ _ _ h => h) (Or.inl ⟨by rfl, ?_⟩) ?_ ?_
  rotate_left
  · intro w'
    go_simp
    with_reducible rfl
  rotate_left
  · simp only [Act.put, List.setIfInBounds_toArray, List.set_cons_zero, List.set_cons_succ]
    rfl
  refine pure_ (i := 10) (N := some 4) (v := ?_) (a' := ?_) #[true, true, true, true, true, true, true, true, true, true, true] rfl rfl (by kernel_rfl) (fun _ _ _ h => h) (Or.inl ⟨by rfl, ?_⟩) ?_ ?_
  rotate_left
  · intro w'
    go_simp
    with_reducible rfl
  rotate_left
  · simp only [Act.put, List.setIfInBounds_toArray, List.set_cons_zero, List.set_cons_succ]
    rfl
  refine done_ (by kernel_rfl) ?_
  go_wp2
  go_ret
  have hAH : Ans m m' (holdsB st g (a, b)) (!r) := fun R r1 r2 => by
    unfold holdsB
    exact congrArg (fun z => !z) (HE.out.2.2.2 R r1 r2)
  refine ⟨!r, m', rfl, HE.out.1, HK2.out.trans HE.out.2.1, HE.out.2.2.1, hAH, fun h => ?_⟩
  have hr : r = false := by cases r <;> simp_all
  rw [h] at hAH
  exact ⟨hAH, HN.out hr⟩
end Go.Proofs.YtcljgfpcdlnlkaaDoor.Q
namespace Go.Proofs.YtcljgfpcdlnlkaaDoor.Q
open Go.RowKit Go.Proofs.YtcljgfpcdlnlkaaDoorW.PrintWords Mp
abbrev Rel := Int × Int → Bool
def Le (R S : Rel) : Prop := ∀ p, R p = true → S p = true
theorem fieldB_mono {R S : Rel} (h : Le R S) (s t : S37) (i : Nat) (hf : fieldB s t i R = true) : fieldB s t i S = true := by
  unfold fieldB at hf ⊢
  simp only [Bool.and_eq_true] at hf ⊢
  exact ⟨hf.1, h _ hf.2⟩
theorem recordB_mono {R S : Rel} (h : Le R S) (s t : S37) (hf : recordB s t R = true) : recordB s t S = true := by
  unfold recordB at hf ⊢
  rw [List.all_eq_true] at hf ⊢
  exact fun i hi => fieldB_mono h s t i (hf i hi)
theorem variableB_mono {R S : Rel} (h : Le R S) (s t : S37) (hf : variableB s t R = true) : variableB s t S = true := by
  unfold variableB at hf ⊢
  simp only [Bool.and_eq_true] at hf ⊢
  exact ⟨hf.1, h _ hf.2⟩
theorem doesB_mono {R S : Rel} (h : Le R S) (st : Bool) (s t : S37) (hf : doesB st s t R = true) : doesB st s t S = true := by
  unfold doesB at hf ⊢
  by_cases h1 : s.f0 = 1 ∨ t.f0 = 1
  · rw [if_pos h1] at hf ⊢; exact hf
  rw [if_neg h1] at hf ⊢
  simp only [Bool.and_eq_true] at hf ⊢
  refine ⟨hf.1, ?_⟩
  by_cases h5 : s.f0 = 5
  · have := hf.2; rw [if_pos h5] at this ⊢; exact this
  by_cases h7 : s.f0 = 7
  · have := hf.2; rw [if_neg h5, if_pos h7] at this ⊢; exact recordB_mono h s t this
  by_cases h9 : s.f0 = 9
  · have := hf.2; rw [if_neg h5, if_neg h7, if_pos h9] at this ⊢; exact variableB_mono h s t this
  · rw [if_neg h5, if_neg h7, if_neg h9]
theorem pickFrom_none {st : Bool} {g : List S37} {s : S37} {R : Rel} {l : List Int} {i : Nat} : pickFrom st g s R l i = none ↔ ∀ k ∈ l, doesB st s (rd_T37 g k) R = false := by
  induction l generalizing i with
  | nil => simp [pickFrom]
  | cons k l ih =>
    simp only [pickFrom, List.mem_cons, forall_eq_or_imp]
    by_cases e : doesB st s (rd_T37 g k) R = true
    · rw [if_pos e]; simp [e]
    · rw [if_neg e, ih]; simp [e]
theorem pickB_none {st : Bool} {g : List S37} {a b : Int} {R : Rel} : pickB st g a b R = -2 ↔ (∀ k ∈ membersL g b, doesB st (rd_T37 g a) (rd_T37 g k) R = false) ∧ ¬ ((rd_T37 g a).f0 = 9 ∧ R (rd (rd_T37 g a).f4 0, b) = true) := by
  unfold pickB
  cases e : pickFrom st g (rd_T37 g a) R (membersL g b) 0 with
  | some i =>
    have : ¬ pickFrom st g (rd_T37 g a) R (membersL g b) 0 = none := by rw [e]; simp
    rw [pickFrom_none] at this
    simp only
    constructor
    · intro h; omega
    · intro h; exact absurd h.1 this
  | none =>
    have := pickFrom_none.1 e
    simp only
    split
    · rename_i h; constructor
      · intro h'; omega
      · intro h'; exact absurd h h'.2
    · rename_i h; exact ⟨fun _ => ⟨this, h⟩, fun _ => rfl⟩
theorem pickB_mono {R S : Rel} (h : Le R S) {st : Bool} {g : List S37} {a b : Int} (hf : pickB st g a b R ≠ -2) : pickB st g a b S ≠ -2 := by
  intro e
  apply hf
  rw [pickB_none] at e ⊢
  refine ⟨fun k hk => ?_, fun h9 => e.2 ⟨h9.1, h _ h9.2⟩⟩
  cases hd : doesB st (rd_T37 g a) (rd_T37 g k) R with
  | false => rfl
  | true => exact absurd (e.1 k hk) (by rw [doesB_mono h st _ _ hd]; decide)
theorem holdsB_iff {st : Bool} {g : List S37} {p : Int × Int} {R : Rel} : holdsB st g p R = true ↔ ∀ s ∈ membersL g p.1, pickB st g s p.2 R ≠ -2 := by
  unfold holdsB
  rw [Bool.not_eq_true', List.any_eq_false]
  simp
theorem holdsB_mono {R S : Rel} (h : Le R S) {st : Bool} {g : List S37} {p : Int × Int} (hf : holdsB st g p R = true) : holdsB st g p S = true := by
  rw [holdsB_iff] at hf ⊢
  exact fun s hs => pickB_mono h (hf s hs)
/-- A pair stands: it is in a relation all of whose pairs hold by their rule. -/
def Stands (st : Bool) (g : List S37) (p : Int × Int) : Prop := ∃ R : Rel, R p = true ∧ ∀ q, R q = true → holdsB st g q R = true
noncomputable def standsB (st : Bool) (g : List S37) : Rel := fun p => @decide (Stands st g p) (Classical.propDecidable _)
theorem standsB_iff {st : Bool} {g : List S37} {p : Int × Int} : standsB st g p = true ↔ Stands st g p := by unfold standsB; exact @decide_eq_true_iff _ (Classical.propDecidable _)
/-- It holds by its rule, as far as the greatest relation says. -/
theorem stands_holds {st : Bool} {g : List S37} {p : Int × Int} (h : standsB st g p = true) : holdsB st g p (standsB st g) = true := by
  obtain ⟨R, hp, hR⟩ := standsB_iff.1 h
  exact holdsB_mono (fun q hq => standsB_iff.2 ⟨R, hq, hR⟩) (hR p hp)
theorem stands_of {st : Bool} {g : List S37} (R : Rel) (hR : ∀ q, R q = true → holdsB st g q R = true) : Le R (standsB st g) := fun _ hq => standsB_iff.2 ⟨R, hq, hR⟩
/-- What solving keeps. -/
structure Inv (st : Bool) (g : List S37) (m : PM) : Prop where
  sound : ∀ p, standsB st g p = true → okB m p = true
  nodup : (m.map (·.1)).Nodup
  dom : ∀ p : Int × Int, p ∈ m.map (·.1) → 0 ≤ p.1 ∧ p.1 < g.length ∧ 0 ≤ p.2 ∧ p.2 < g.length
  bits : ∀ p v, get m p = some v → v = 0 ∨ v = 1
  out : ∀ p, get m p = some 0 → holdsB st g p (okB m) = false
theorem nodup_put {m : PM} {k : Int × Int} {v : Int} (h : (m.map (·.1)).Nodup) : ((put m k v).map (·.1)).Nodup := by
  rw [put_keys]
  split
  · rename_i e
    rw [List.nodup_append]
    refine ⟨h, by simp, ?_⟩
    intro a ha b hb hab
    simp only [List.mem_singleton] at hb
    subst hb hab
    exact get_ne_none.2 ha e
  · exact h
end Go.Proofs.YtcljgfpcdlnlkaaDoor.Q
namespace Go.Proofs.YtcljgfpcdlnlkaaDoor.Q
open Go.RowKit Go.Proofs.YtcljgfpcdlnlkaaDoorW.PrintWords Mp
open Go.ChangeMaps (setBlock)
/-- A range over a map is under way: what has come, how many are left at most. -/
def RngAt (w : World) (b r : Nat) (m : PM) (got : List (Int × Int)) (left : Nat) : Prop :=
  ∃ es clock since seen c0, w.heap[b]? = some (.map es clock) ∧ es.toList.map (fun e => (e.key, e.val)) = m.map (fun p => (pairV p.1, VInt p.2)) ∧ (es.toList.map (·.born)).Pairwise (· < ·) ∧ (∀ e ∈ es.toList, e.born < clock) ∧
    w.heap[r]? = some (.mapIter (some b) since seen c0) ∧ (∀ x ∈ es.toList, x.born < since) ∧ since ≤ c0 ∧ since ≤ clock ∧
    (∀ e ∈ es.toList, seen.contains e.born = true → ∃ k ∈ got, e.key = pairV k) ∧ (∀ k ∈ got, k ∈ m.map (·.1)) ∧ (leftOf es seen).size ≤ left ∧ got.length + left ≤ m.length
theorem RngAt.map {w : World} {b r : Nat} {m : PM} {got : List (Int × Int)} {left : Nat} (h : RngAt w b r m got left) : MapAt pairV VInt w b m := by
  obtain ⟨es, clock, since, seen, c0, hb, hm, hp, hl, _⟩ := h
  exact ⟨es, clock, hb, hm, hp, hl⟩
theorem RngAt.lt {w : World} {b r : Nat} {m : PM} {got : List (Int × Int)} {left : Nat} (h : RngAt w b r m got left) : r < w.heap.size := by
  obtain ⟨es, clock, since, seen, c0, hb, hm, hp, hl, hr, _⟩ := h
  exact (Array.getElem?_eq_some_iff.1 hr).1
theorem RngAt.of_blocks {w w' : World} {b r : Nat} {m : PM} {got : List (Int × Int)} {left : Nat} (h : RngAt w b r m got left) (e1 : w'.heap[b]? = w.heap[b]?) (e2 : w'.heap[r]? = w.heap[r]?) : RngAt w' b r m got left := by
  obtain ⟨es, clock, since, seen, c0, hb, hm, hp, hl, hr, rest⟩ := h
  exact ⟨es, clock, since, seen, c0, e1.trans hb, hm, hp, hl, e2.trans hr, rest⟩
theorem RngAt.got {w : World} {b r : Nat} {m : PM} {got : List (Int × Int)} {left : Nat} (h : RngAt w b r m got left) : (∀ k ∈ got, k ∈ m.map (·.1)) ∧ got.length ≤ m.length := by
  obtain ⟨es, clock, since, seen, c0, hb, hm, hp, hl, hr, _, _, _, _, h1, _, h2⟩ := h
  exact ⟨h1, by omega⟩
theorem range_start {w : World} {b : Nat} {m : PM} (h : MapAt pairV VInt w b m) :
    (Instr.range 84 (.map (some b))).run Tryd.prog w = .ok (.pointer (some ⟨w.heap.size, 0, none⟩)) (w.alloc (match (w.heap[b]?) with | some (.map _ clock) => .mapIter (some b) clock #[] clock | _ => .cells #[] 0)) ∧
      RngAt (w.alloc (match (w.heap[b]?) with | some (.map _ clock) => .mapIter (some b) clock #[] clock | _ => .cells #[] 0)) b w.heap.size m [] m.length := by
  have hlt := h.lt
  obtain ⟨es, clock, hb, hm, hp, hl⟩ := h
  rw [hb]
  refine ⟨run_range_map w 84 81 3 b es clock Tryd.underlying84 hb, es, clock, clock, #[], clock, (Below.heap_alloc _ _ _ hlt).trans hb, hm, hp, hl, (MapKept.heap_alloc w _).1, hl, Nat.le_refl _, Nat.le_refl _, ?_, ?_, ?_, ?_⟩
  · intro e _ h; simp at h
  · intro k hk; cases hk
  · have : es.toList.length = m.length := by simpa using congrArg List.length hm
    have e1 : leftOf es #[] = es := by unfold leftOf; exact Array.filter_eq_self.2 (by simp)
    rw [e1]
    simpa using Nat.le_of_eq this
  · simp
theorem range_at {w : World} {b : Nat} {m : PM} (h : MapAt pairV VInt w b m) : ∃ w', (Instr.range 84 (.map (some b))).run Tryd.prog w = .ok (.pointer (some ⟨w.heap.size, 0, none⟩)) w' ∧ RngAt w' b w.heap.size m [] m.length ∧ Below w.heap.size w w' ∧ w'.heap.size = w.heap.size + 1 :=
  ⟨_, (range_start h).1, (range_start h).2, (Below.refl _ _).alloc (Nat.le_refl _) _, by simp⟩
theorem RngAt.next {w : World} {b r : Nat} {m : PM} {got : List (Int × Int)} {left : Nat} (h : RngAt w b r m got left) (ty : TypeId) :
    ((∀ k ∈ m.map (·.1), k ∈ got) ∧ (Instr.next (.pointer (some ⟨r, 0, none⟩)) false ty).run Tryd.prog w = .ok (.tuple #[.bool false]) w) ∨
    ∃ k v w' left', left' < left ∧ (Instr.next (.pointer (some ⟨r, 0, none⟩)) false ty).run Tryd.prog w = .ok (.tuple #[.bool true, pairV k, VInt v]) w' ∧ RngAt w' b r m (got ++ [k]) left' ∧ Kp r w w' ∧ w'.heap.size = w.heap.size ∧
      (Instr.entry (.pointer (some ⟨r, 0, none⟩))).run Tryd.prog w' = .ok (.tuple #[pairV k, VInt v]) w' := by
  have hrl := h.lt
  obtain ⟨es, clock, since, seen, c0, hb, hm, hp, hl, hr, hold, hsc, hsk, hg, hgm, hleft, hlen⟩ := h
  have hne : r ≠ b := fun e => by rw [e, hb] at hr; cases hr
  have hbl : b < w.heap.size := (Array.getElem?_eq_some_iff.1 hb).1
  rcases run_next_at (P := Tryd.prog) w ty r b since c0 seen es clock hr hb hold hsc with ⟨h0, hrun⟩ | ⟨e, he, w1, hal, hrun⟩
  · refine .inl ⟨fun k hk => ?_, hrun⟩
    obtain ⟨⟨k', v⟩, hp', rfl⟩ := List.mem_map.1 hk
    have hin : (pairV k', VInt v) ∈ es.toList.map (fun e => (e.key, e.val)) := by rw [hm]; exact List.mem_map.2 ⟨_, hp', rfl⟩
    obtain ⟨e, he, hek⟩ := List.mem_map.1 hin
    obtain ⟨k2, hk2, hke⟩ := hg e he (all_seen es seen h0 e he)
    have : pairV k' = pairV k2 := by rw [← hke]; exact (congrArg Prod.fst hek).symm
    have e2 : k' = k2 := by
      obtain ⟨a, b⟩ := k'
      obtain ⟨c, d⟩ := k2
      simp only [pairV, Value.agg.injEq, Array.mk.injEq, List.cons.injEq, Value.int.injEq, true_and, and_true] at this
      rw [this.1, this.2]
    rw [e2]
    exact hk2
  · have hel := mem_left he
    have hin : (e.key, e.val) ∈ m.map (fun p => (pairV p.1, VInt p.2)) := by rw [← hm]; exact List.mem_map.2 ⟨e, hel.1, rfl⟩
    obtain ⟨⟨k, v⟩, hkm, hkv⟩ := List.mem_map.1 hin
    have ek : e.key = pairV k := (congrArg Prod.fst hkv).symm
    have ev : e.val = VInt v := (congrArg Prod.snd hkv).symm
    have hsh := left_shrinks es seen e he
    have hw1 : Kp r w w1 ∧ w1.heap = w.heap := by rcases hal with rfl | rfl; exact ⟨Kp.refl _ _, rfl⟩; exact ⟨Kp.drew _ _, rfl⟩
    have hb' : (setBlock w1 r (.mapIter (some b) since (seen.push e.born) clock)).heap[b]? = some (.map es clock) := by
      simp only [setBlock, hw1.2]
      rw [Array.getElem?_setIfInBounds_ne hne]; exact hb
    have hr' : (setBlock w1 r (.mapIter (some b) since (seen.push e.born) clock)).heap[r]? = some (.mapIter (some b) since (seen.push e.born) clock) := by
      simp only [setBlock, hw1.2]
      rw [Array.getElem?_setIfInBounds_self_of_lt hrl]
    refine .inr ⟨k, v, _, (leftOf es (seen.push e.born)).size, by omega, by rw [hrun, ek, ev], ⟨es, clock, since, seen.push e.born, clock, hb', hm, hp, hl, hr', hold, hsk, hsk, ?_, ?_, Nat.le_refl _, by simp; omega⟩, hw1.1.trans (Kp.setBlock _ _ _), by simp [setBlock, hw1.2], ?_⟩
    · intro x hx hxs
      rw [contains_push, Bool.or_eq_true] at hxs
      rcases hxs with hxs | hxs
      · obtain ⟨k2, hk2, hke⟩ := hg x hx hxs
        exact ⟨k2, List.mem_append_left _ hk2, hke⟩
      · have : x.born = e.born := by simpa using hxs
        have hnd : (es.toList.map (·.born)).Nodup := hp.imp (fun h => by omega)
        have : x = e := by
          have h1 := find_born x es.toList hnd hx
          have h2 := find_born e es.toList hnd hel.1
          rw [this] at h1
          exact Option.some.inj (h1.symm.trans h2)
        rw [this]
        exact ⟨k, by simp, ek⟩
    · intro q hq
      rcases List.mem_append.1 hq with hq | hq
      · exact hgm q hq
      · rw [List.mem_singleton.1 hq]; exact List.mem_map.2 ⟨_, hkm, rfl⟩
    · have := run_entry_at (P := Tryd.prog) _ r b since seen es clock e hr' hb' hel.1 (hp.imp (fun h => by omega))
      rw [this, ek, ev]
/-! rows of pairs -/
def k81 : Kd (Int × Int) := Kd.pair (Kd.int .i64) (Kd.int .i64)
theorem info81 : (Tryd.prog.info? 81).map (fun i => (i.zero, i.size, i.bytes)) = some (some (.agg #[.int .i64 0, .int .i64 0]), 2, 16) := by kernel_rfl
theorem k81_mk (w : World) (base : Nat) (ok : Nat → Prop) (a b : Int) : k81.M w base ok (a, b) [.int .i64 a, .int .i64 b] := ⟨[.int .i64 a], [.int .i64 b], rfl, rfl, rfl⟩
theorem at_pair {w : World} {A : Option Addr} {n : Nat} {xs : List (Int × Int)} (h : Kd.C k81 w A n xs) (k : Nat) (hk : k < n) : ∃ ad, A = some ad ∧ w.cell? (ad.add (k * 2)) = some (.int .i64 (xs.getD k (0, 0)).1) ∧ w.cell? ⟨(ad.add (k * 2)).block, (ad.add (k * 2)).off + 1, none⟩ = some (.int .i64 (xs.getD k (0, 0)).2) := by
  obtain ⟨ad, c, e, _, hK, hc0⟩ := Kd.C_get h ((0, 0) : Int × Int) k (by omega) (by omega)
  have hc : ∀ j u, c[j]? = some u → w.cell? (ad.add (((k : Int)).toNat * 2 + j)) = some u := hc0
  obtain ⟨_, _, rfl, rfl, rfl⟩ := hK
  simp only [Int.toNat_natCast] at hc
  exact ⟨ad, e, hc 0 _ rfl, by rw [← add_field _ _ 1 (by omega)]; exact hc 1 _ rfl⟩
/-- 'make([]pair, 0, n)'. -/
theorem make_pairs (w : World) (n : Nat) (hn : n ≤ 4000000) : ∃ w', (Instr.makeSlice 79 (.int .i64 0) (.int .i64 (n : Int))).run Tryd.prog w = .ok (.slice (some ⟨w.heap.size, 0, none⟩) 0 n) w' ∧ k81.R 81 w' w.heap.size (fun _ => True) (.slice (some ⟨w.heap.size, 0, none⟩) 0 n) [] ∧ Below w.heap.size w w' ∧ w'.heap.size = w.heap.size + 1 := by
  obtain ⟨i0, hi, hzz⟩ := Option.map_eq_some_iff.1 info81
  simp only [Prod.mk.injEq] at hzz
  obtain ⟨hz0, hz1, hz2⟩ := hzz
  have hr := run_make (P := Tryd.prog) w 79 81 i0 _ Tryd.underlying79 hi hz0 .i64 .i64 0 (n : Int) (by omega) (by omega) (by rw [hz2]; omega) (by omega)
  rw [hz1] at hr
  refine ⟨_, hr, ⟨fun _ _ => trivial, [], ⟨by simp, .inr ⟨w.heap.size, n, _, rfl, Nat.le_refl _, Array.getElem?_push_size, by simp, by simp [maxLen]; omega, by simp [size_madeCells]; rfl, by simp⟩⟩, Reps.none _ _⟩, (Below.refl _ _).alloc (Nat.le_refl _) _, by simp⟩
end Go.Proofs.YtcljgfpcdlnlkaaDoor.Q
namespace Go.Proofs.YtcljgfpcdlnlkaaDoor.Q
open Go.RowKit Go.Proofs.YtcljgfpcdlnlkaaDoorW.PrintWords Mp
/-- All pairs of places of a graph. -/
def InG (g : List S37) (p : Int × Int) : Prop := 0 ≤ p.1 ∧ p.1 < g.length ∧ 0 ≤ p.2 ∧ p.2 < g.length
@[reducible] def domG (g : List S37) : Dom := ⟨InG g⟩
def sq (n : Nat) : List (Int × Int) := (List.range n).flatMap fun (a : Nat) => (List.range n).map fun (b : Nat) => ((a : Int), (b : Int))
theorem sq_len (n : Nat) : (sq n).length = n * n := by
  unfold sq
  rw [List.length_flatMap]
  simp only [List.length_map, List.length_range, List.map_const', List.sum_replicate_nat]
theorem mem_sq {g : List S37} {p : Int × Int} (h : InG g p) : p ∈ sq g.length := by
  obtain ⟨a, b⟩ := p
  obtain ⟨h1, h2, h3, h4⟩ := h
  simp only at h1 h2 h3 h4
  refine List.mem_flatMap.2 ⟨a.toNat, List.mem_range.2 (by omega), List.mem_map.2 ⟨b.toNat, List.mem_range.2 (by omega), ?_⟩⟩
  rw [Int.toNat_of_nonneg h1, Int.toNat_of_nonneg h3]
theorem len_le {α : Type} [BEq α] [LawfulBEq α] : ∀ {l s : List α}, l.Nodup → (∀ x ∈ l, x ∈ s) → l.length ≤ s.length
  | [], s, _, _ => by simp
  | x :: l, s, hn, hs => by
    have h1 := List.nodup_cons.1 hn
    have := len_le (l := l) (s := s.erase x) h1.2 (fun y hy => (List.mem_erase_of_ne (fun e => h1.1 (by rw [← e]; exact hy))).2 (hs y (List.mem_cons_of_mem _ hy)))
    have hx := hs x List.mem_cons_self
    rw [List.length_erase_of_mem hx] at this
    have := List.length_pos_of_mem hx
    simp only [List.length_cons]
    omega
theorem Inv.len {st : Bool} {g : List S37} {m : PM} (h : Inv st g m) : m.length ≤ g.length * g.length := by
  have := len_le h.nodup (s := sq g.length) (fun p hp => mem_sq (h.dom p hp))
  rw [sq_len] at this
  simpa using this
theorem Inv.grow {st : Bool} {g : List S37} {m m' : PM} (h : Inv st g m) (k : @Grow (domG g) m m') : Inv st g m' := by
  letI := domG g
  have hok : okB m' = okB m := funext fun p => k.ok p
  refine ⟨fun p hp => by rw [k.ok]; exact h.sound p hp, k.nodup h.nodup, fun p hp => ?_, fun p v hv => ?_, fun p hp => ?_⟩
  · rcases k.dom p hp with h1 | h1
    · exact h.dom p h1
    · exact h1
  · cases e : get m p with
    | none =>
      rcases k.new p e with h1 | h1
      · rw [h1] at hv; cases hv
      · rw [h1] at hv; exact .inr (Option.some.inj hv).symm
    | some v' =>
      have := k.old p v' e
      rw [this] at hv
      cases hv
      exact h.bits p _ e
  · rw [hok]
    cases e : get m p with
    | none =>
      rcases k.new p e with h1 | h1
      · rw [h1] at hp; cases hp
      · rw [h1] at hp; cases hp
    | some v' =>
      have := k.old p v' e
      rw [this] at hp
      cases hp
      exact h.out p e
theorem okB_put {m : PM} {p q : Int × Int} : okB (put m p 0) q = if q = p then false else okB m q := by
  unfold okB
  rw [get_put]
  by_cases e : q = p
  · simp [e]
  · rw [if_neg e, if_neg e]
/-- What holds may say no of is taken away rightly. -/
theorem Inv.clear {st : Bool} {g : List S37} {m m' : PM} {p : Int × Int} (h : Inv st g m) (k : @Grow (domG g) m m') (hp : p ∈ m.map (·.1)) (ha : Ans m m' (holdsB st g p) false) : Inv st g (put m' p 0) := by
  letI := domG g
  have hno := ha (okB m) (fun q hq => by rw [← k.ok]; exact pos_ok _ _ hq) (fun q hq => hq)
  have hns : standsB st g p = false := by
    cases e : standsB st g p with
    | false => rfl
    | true =>
      have h1 := holdsB_mono (S := okB m) (fun q hq => h.sound q hq) (stands_holds e)
      rw [h1] at hno
      cases hno
  have hle : Le (okB (put m' p 0)) (okB m) := fun q hq => by
    rw [okB_put] at hq
    split at hq
    · cases hq
    · rwa [k.ok] at hq
  have h' := h.grow k
  refine ⟨fun q hq => ?_, nodup_put h'.nodup, fun q hq => ?_, fun q v hv => ?_, fun q hq => ?_⟩
  · rw [okB_put]
    split
    · rename_i e; rw [e, hns] at hq; cases hq
    · exact h'.sound q hq
  · rw [put_keys] at hq
    split at hq
    · rcases List.mem_append.1 hq with h1 | h1
      · exact h'.dom q h1
      · rw [List.mem_singleton.1 h1]; exact h.dom p hp
    · exact h'.dom q hq
  · rw [get_put] at hv
    split at hv
    · exact .inl (Option.some.inj hv).symm
    · exact h'.bits q v hv
  · cases e : holdsB st g q (okB (put m' p 0)) with
    | false => rfl
    | true =>
      have h1 := holdsB_mono hle e
      rw [get_put] at hq
      split at hq
      · rename_i hqp
        rw [hqp, hno] at h1
        cases h1
      · have h2 := h'.out q hq
        rw [show okB m' = okB m from funext fun r => k.ok r, h1] at h2
        cases h2
/-- How many pairs are not taken away. -/
def okN (g : List S37) (m : PM) : Nat := (sq g.length).countP (okB m)
theorem okN_le (g : List S37) (m : PM) : okN g m ≤ g.length * g.length := by
  have := List.countP_le_length (p := okB m) (l := sq g.length)
  rw [sq_len] at this
  exact this
theorem okN_grow {g : List S37} {m m' : PM} [Dom] (k : Grow m m') : okN g m' = okN g m := by
  unfold okN
  congr 1
  funext p
  exact k.ok p
theorem countP_lt {α : Type} {f f' : α → Bool} (hf : ∀ x, f' x = true → f x = true) {p : α} (h1 : f p = true) (h2 : f' p = false) : ∀ {l : List α}, p ∈ l → l.countP f' < l.countP f
  | [], h => by cases h
  | x :: l, h => by
    have hle : l.countP f' ≤ l.countP f := List.countP_mono_left (fun y _ => hf y)
    simp only [List.countP_cons]
    rcases List.mem_cons.1 h with rfl | h
    · rw [h1, h2]; simp; omega
    · have := countP_lt hf h1 h2 h
      cases e : f' x with
      | true => rw [hf x e]; simpa using this
      | false => cases f x <;> simp <;> omega
theorem okN_clear {g : List S37} {m : PM} {p : Int × Int} (hp : InG g p) (ho : okB m p = true) : okN g (put m p 0) < okN g m := by
  unfold okN
  refine countP_lt (p := p) (fun q hq => ?_) ho ?_ (mem_sq hp)
  · rw [okB_put] at hq
    split at hq
    · cases hq
    · exact hq
  · rw [okB_put, if_pos rfl]
/-- What is still to come, at most. -/
def todo (g : List S37) (m : PM) : Nat := okN g m * (g.length * g.length + 1) + (g.length * g.length - m.length)
theorem todo_grow {st : Bool} {g : List S37} {m m' : PM} (h : Inv st g m) (k : @Grow (domG g) m m') (hl : m.length < m'.length) : todo g m' < todo g m := by
  letI := domG g
  have h1 := okN_grow (g := g) k
  have h2 := (h.grow k).len
  unfold todo
  rw [h1]
  omega
theorem todo_clear {g : List S37} {m m' : PM} (h : okN g m' < okN g m) : todo g m' < todo g m := by
  unfold todo
  have : (okN g m' + 1) * (g.length * g.length + 1) ≤ okN g m * (g.length * g.length + 1) := Nat.mul_le_mul_right _ h
  rw [Nat.add_mul] at this
  omega
/-- The end: what is granted stands, and what stands is granted. -/
theorem Inv.done {st : Bool} {g : List S37} {m : PM} (h : Inv st g m) (hall : ∀ p ∈ m.map (·.1), posB m p = true → Ans m m (holdsB st g p) true) (p : Int × Int) (hp : p ∈ m.map (·.1)) : get m p = some (if standsB st g p then 1 else 0) := by
  have hle := stands_of (st := st) (g := g) (posB m) (fun q hq => by
    have hm : q ∈ m.map (·.1) := by
      refine get_ne_none.1 ?_
      intro e
      unfold posB at hq
      rw [e] at hq
      cases hq
    exact hall q hm hq (posB m) (fun _ h => h) (fun r hr => pos_ok _ _ hr))
  cases e : get m p with
  | none => exact absurd e (get_ne_none.2 hp)
  | some v =>
    rcases h.bits p v e with rfl | rfl
    · cases es : standsB st g p with
      | false => rfl
      | true =>
        have := h.sound p es
        unfold okB at this
        rw [e] at this
        cases this
    · rw [hle p (by unfold posB; rw [e]; rfl)]
      rfl
theorem Inv.nil (st : Bool) (g : List S37) : Inv st g [] := ⟨fun _ _ => rfl, List.nodup_nil, fun p hp => (by cases hp), fun p v h => (by cases h), fun p h => (by cases h)⟩
end Go.Proofs.YtcljgfpcdlnlkaaDoor.Q
namespace Go.Proofs.YtcljgfpcdlnlkaaDoor.Q
open Go.RowKit Go.Proofs.YtcljgfpcdlnlkaaDoorW.PrintWords Mp
theorem grant_key (m : PM) (p : Int × Int) : p ∈ (grant m p).2.map (·.1) := by
  unfold grant
  cases e : get m p with
  | none => simp only [put_keys, e, if_true]; simp
  | some n => exact get_ne_none.1 (by rw [e]; simp)
theorem Grow.keys [Dom] {m m' : PM} (h : Grow m m') {p : Int × Int} (hp : p ∈ m.map (·.1)) : p ∈ m'.map (·.1) := by
  obtain ⟨v, hv⟩ := Option.ne_none_iff_exists'.1 (get_ne_none.2 hp)
  exact get_ne_none.1 (by rw [h.old p v hv]; simp)
theorem todo_le {st : Bool} {g : List S37} {m m' : PM} (h : Inv st g m) (k : @Grow (domG g) m m') : todo g m' ≤ todo g m := by
  have h1 := @Grow.len (domG g) m m' k
  by_cases e : m'.length = m.length
  · rw [@Grow.same (domG g) m m' k e]; exact Nat.le_refl _
  · exact Nat.le_of_lt (todo_grow h k (by omega))
set_option maxRecDepth 100000 in
set_option maxHeartbeats 1000000 in
theorem solve_calls {w0 w : World} {X B : Nat} {A : Option Addr} {c : Nat} {g : List S37} {st : Bool} {m : PM} (h : @Sol (domG g) w0 w X B A c g st m) (hv : Valid g) (hI : Inv st g m) (F : Option Addr) (cF : Nat) (first : List (Int × Int))
    (hF : ∀ W, Kp B w W → Kd.C k81 W F first.length first) (hin : ∀ p ∈ first, InG g p) (hl : first.length ≤ 4000000) :
    Calls Tryd.prog 64 #[.pointer (some ⟨X, 0, none⟩), .slice F first.length cF] w fun e w' => ∃ m', e = .returned (.tuple #[]) ∧ MapAt pairV VInt w' B m' ∧ Kp B w w' ∧ (∀ p ∈ first, p ∈ m'.map (·.1)) ∧ Inv st g m' ∧ ∀ p ∈ m'.map (·.1), get m' p = some (if standsB st g p then 1 else 0) ∧ (posB m' p = true → AnsH st g m' m' p) := by
  letI := domG g
  have H := Lib.hid h
  have HV := Lib.hid hv
  have HI := Lib.hid hI
  have HF := Lib.hid hF
  have HIn := Lib.hid hin
  clear h hv hI hF hin
  go_enter Tryd.func64, Tryd.ntmps64
  go_wp2
  go_step3
  go_wp2
  go_loopw [13] (fun i wr => ∃ k : Nat, k ≤ first.length ∧ i = .int .i64 k ∧ Hid (∃ m', MapAt pairV VInt wr B m' ∧ Kp B w wr ∧ Grow m m' ∧ ∀ j : Nat, j < k → first.getD j (0, 0) ∈ m'.map (·.1))) (fun i _ => first.length - (intOf i).toNat)
  case atStart => exact ⟨0, Nat.zero_le _, rfl, Lib.hid ⟨m, H.out.map, Kp.refl _ _, Grow.refl _, fun j hj => absurd hj (by omega)⟩⟩
  case round =>
    obtain ⟨k, hk, rfl, HI1⟩ := hrel
    obtain ⟨m1, hm1, hK1, hG1, hA1⟩ := HI1.out
    have HM1 := Lib.hid hm1
    have HK1 := Lib.hid hK1
    have HG1 := Lib.hid hG1
    have HA1 := Lib.hid hA1
    clear hm1 hK1 hG1 hA1 HI1
    by_cases hlt : k < first.length
    · obtain ⟨ad, rfl, hc0, hc1⟩ := at_pair (HF.out wr HK1.out) k hlt
      obtain ⟨⟨a, b⟩, hab⟩ : ∃ p, p = first.getD k (0, 0) := ⟨_, rfl⟩
      rw [← hab] at hc0 hc1
      have HAB := Lib.hid hab
      clear hab
      have HSr := Lib.hid (H.out.step HK1.out HM1.out)
      have hW2 : Below wr.heap.size wr (wr.alloc (.cells #[.int .i64 a, .int .i64 b] 81)) := (Below.refl _ _).alloc (Nat.le_refl _) _
      have HG := Lib.hid (granted_calls _ X B a b m1 (HSr.out.below hW2).x2 (HSr.out.below hW2).map)
      clear hW2
      go_wp2_with fail
      refine HG.out.mono ?_
      rintro e w' ⟨rfl, hm', hK'⟩
      have HM2 := Lib.hid hm'
      have HK2 := Lib.hid (show Kp B w w' from (HK1.out.trans (Kp.alloc _ _ _)).trans hK')
      have HDp := Lib.hid (show InG g (a, b) from HIn.out _ (by rw [HAB.out, List.getD_eq_getElem?_getD, List.getElem?_eq_getElem hlt]; exact List.getElem_mem _))
      have HG2 := Lib.hid (HG1.out.trans (grow_grant m1 (a, b) HDp.out))
      have HG3 := Lib.hid (grow_grant m1 (a, b) HDp.out)
      have HKy := Lib.hid (grant_key m1 (a, b))
      clear hm' hK'
      generalize grant m1 (a, b) = gr at HM2 HG2 HG3 HKy
      obtain ⟨r, m2⟩ := gr
      go_wp2
      go_roundw
      case rel => exact ⟨k + 1, by omega, by go_num, Lib.hid ⟨m2, HM2.out, HK2.out, HG2.out, fun j hj => if hjk : j = k then by rw [hjk, ← HAB.out]; exact HKy.out else HG3.out.keys (HA1.out j (by omega))⟩⟩
      case measure => simp [intOf]; omega
    · obtain rfl : k = first.length := by omega
      have HFin := Lib.hid (show ∀ p ∈ first, p ∈ m1.map (·.1) from fun p hp => by
        obtain ⟨j, hj, rfl⟩ := List.getElem_of_mem hp
        have := HA1.out j hj
        rwa [List.getD_eq_getElem?_getD, List.getElem?_eq_getElem hj] at this)
      have HI1 := Lib.hid (HI.out.grow HG1.out)
      clear hk HA1 hlt
      go_wp2
      go_step3
      go_wp2
      go_loopg [7] (todo g m1) (fun k s7 W => Hid (∃ m', MapAt pairV VInt W B m' ∧ Kp B w W ∧ (∀ p ∈ first, p ∈ m'.map (·.1)) ∧ Inv st g m' ∧ todo g m' ≤ k))
      case atStart => exact Lib.hid ⟨m1, HM1.out, HK1.out, HFin.out, HI1.out, Nat.le_refl _⟩
      case round =>
        clear HM1 HK1 HG1 HFin HI1
        clear m1
        obtain ⟨m1, hm1, hK1, hfin, hI1, hk⟩ := hrel.out
        have HM1 := Lib.hid hm1
        have HK1 := Lib.hid hK1
        have HFin := Lib.hid hfin
        have HI1 := Lib.hid hI1
        have HTd := Lib.hid hk
        have HSr := Lib.hid (H.out.step HK1.out HM1.out)
        clear hrel hm1 hK1 hfin hI1 hk
        have hmN : m1.length ≤ 4000000 := by
          have h1 := HI1.out.len
          have h2 : g.length * g.length ≤ 2000 * 2000 := Nat.mul_le_mul HV.out.len HV.out.len
          omega
        have hlen := HM1.out.len (rt := 3) Tryd.underlying84
        obtain ⟨w2, hmk, hR2, hb2, hs2⟩ := make_pairs wr m1.length hmN
        have HS2 := Lib.hid (HSr.out.below hb2)
        obtain ⟨w3, hrg, hRg, hb3, hs3⟩ := range_at HS2.out.map
        have hx2 := HSr.out.x2
        have hx22 := HS2.out.x2
        go_wp2
        have HB23 := Lib.hid (hb2.trans (hb3.mono (by omega)))
        have HR3 := Lib.hid (show k81.R 81 w3 wr.heap.size (fun k => k ≠ w2.heap.size) (.slice (some ⟨wr.heap.size, 0, none⟩) 0 m1.length) [] from ⟨fun k hk => by simp [Value.ownBlock] at hk; omega, (Kd.R_move (Kd.R_mono (Kd.R_bound hR2) (ok' := fun k => k < w2.heap.size) (fun k hk => hk.2.2.1)) (fun k hk => hb3.block k hk)).2.imp_ (fun _ _ hp => hp)⟩)
        have HRg := Lib.hid hRg
        rw [hs2] at HRg HR3
        obtain ⟨r, hr⟩ : ∃ r, r = wr.heap.size + 1 := ⟨_, rfl⟩
        rw [← hr] at HRg HR3 ⊢
        have hrB : wr.heap.size < r := by rw [hr]; omega
        have hBw : B < wr.heap.size := HSr.out.map.lt
        clear hb2 hb3 hR2 hRg hmk hrg hlen hs2 hs3 hr HS2 hx22
        obtain ⟨w1, hw1⟩ : ∃ w1, w1 = wr := ⟨_, rfl⟩
        subst hw1
        go_loopg [7] m1.length (fun k s7 W => Hid (∃ got, RngAt W B r m1 got k ∧ k81.R 81 W w1.heap.size (fun k => k ≠ r) s7 got ∧ Below w1.heap.size w1 W))
        case atStart => exact Lib.hid ⟨[], HRg.out, HR3.out, HB23.out⟩
        case round =>
          clear HRg HR3 HB23
          obtain ⟨got, hRg, hR, hB⟩ := hrel.out
          have HR := Lib.hid hR
          have HB := Lib.hid hB
          have HRg := Lib.hid hRg
          clear hrel hRg hR hB
          rcases HRg.out.next 0 with ⟨hall, hnx⟩ | ⟨⟨a, b⟩, v, W2, left', hlt, hnx, hRg2, hK2, hs2, hen⟩
          · have HAll := Lib.hid hall
            have HGl := Lib.hid HRg.out.got
            have hgl := HRg.out.got.2
            have HSq := Lib.hid (HSr.out.below (HB.out.mono (Nat.le_refl _)))
            have HKq := Lib.hid (HK1.out.trans (Kp.of_below HB.out))
            have HRq := Lib.hid (show k81.R 81 wr w1.heap.size (fun k => k ≠ B) _ got from Kd.R_mono (Kd.R_bound HR.out) (fun k hk => by have := hk.2.1; omega))
            clear hall HR HRg HB
            obtain ⟨AL, cL, rfl, hcL, hCL⟩ := Kd.R_reads HRq.out
            clear hCL
            go_wp2
            obtain ⟨wq, hwq⟩ : ∃ wq, wq = wr := ⟨_, rfl⟩
            subst hwq
            go_loopw [6, 43] (fun s6 s43 W => ∃ k : Nat, k ≤ got.length ∧ s43 = .int .i64 k ∧ ∃ many : Int, s6 = .int .i64 many ∧ Hid (∃ m', MapAt pairV VInt W B m' ∧ Kp B wq W ∧ Inv st g m' ∧ (∀ p ∈ m1.map (·.1), p ∈ m'.map (·.1)) ∧ ((many = -1 ∧ todo g m' < todo g m1) ∨ (many = m1.length ∧ Grow m1 m' ∧ ∀ j : Nat, j < k → posB m1 (got.getD j (0, 0)) = true → AnsH st g m1 m' (got.getD j (0, 0)))))) (fun _ s43 _ => got.length - (intOf s43).toNat)
            case atStart => exact ⟨0, Nat.zero_le _, rfl, _, rfl, Lib.hid ⟨m1, HSq.out.map, Kp.refl _ _, HI1.out, fun _ h => h, .inr ⟨rfl, Grow.refl _, fun j hj => absurd hj (by omega)⟩⟩⟩
            case round =>
              obtain ⟨k, hk, rfl, many, rfl, HI2⟩ := hrel
              obtain ⟨m2, hm2, hK2, hI2, hky2, hor⟩ := HI2.out
              have HM2 := Lib.hid hm2
              have HK2 := Lib.hid hK2
              have HI3 := Lib.hid hI2
              have HKy := Lib.hid hky2
              have HOr := Lib.hid hor
              clear hm2 hK2 hI2 hky2 hor HI2
              have HS2 := Lib.hid (HSq.out.step HK2.out HM2.out)
              by_cases hlt : k < got.length
              · obtain ⟨ad, rfl, hc0, hc1⟩ := at_pair (Kd.R_reads' (R_kp HRq.out HK2.out)).2.2 k hlt
                have hmem : got.getD k (0, 0) ∈ got := by rw [List.getD_eq_getElem?_getD, List.getElem?_eq_getElem hlt]; exact List.getElem_mem _
                obtain ⟨⟨a, b⟩, hab⟩ : ∃ p, p = got.getD k (0, 0) := ⟨_, rfl⟩
                rw [← hab] at hc0 hc1 hmem
                have HAB := Lib.hid hab
                have hmk1 := HGl.out.1 _ hmem
                have HP1 := Lib.hid hmk1
                have HP2 := Lib.hid (HKy.out _ hmk1)
                have HIn2 := Lib.hid (HI3.out.dom _ (HKy.out _ hmk1))
                obtain ⟨v, hv⟩ := Option.ne_none_iff_exists'.1 (get_ne_none.2 (HKy.out _ hmk1))
                have hW2 : Below wr.heap.size wr (wr.alloc (.cells #[.int .i64 a, .int .i64 b] 81)) := (Below.refl _ _).alloc (Nat.le_refl _) _
                have HSW := Lib.hid (HS2.out.below hW2)
                have HKW := Lib.hid (HK2.out.trans (Kp.of_below hW2))
                have HPos := Lib.hid (show posB m2 (a, b) = decide (0 < v) by unfold posB; rw [hv])
                have hx2W := HSW.out.x2
                have pa : (wr.alloc (.cells #[.int .i64 a, .int .i64 b] 81)).cell? ⟨wr.heap.size, 0, none⟩ = some (.int .i64 a) := by simp
                have pb : (wr.alloc (.cells #[.int .i64 a, .int .i64 b] 81)).cell? ⟨wr.heap.size, 1, none⟩ = some (.int .i64 b) := by simp
                have hlk := fun n => (MapAt.of_block (w' := (wr.alloc (.cells #[.int .i64 a, .int .i64 b] 81)).drewN n) HSW.out.map rfl).lookup1 pairKey Tryd.underlying84 zero3 (a, b)
                have hld := (MapAt.of_block (w' := (wr.alloc (.cells #[.int .i64 a, .int .i64 b] 81)).drew) HSW.out.map rfl).lookup1 pairKey Tryd.underlying84 zero3 (a, b)
                simp only [hv, pairV, Option.map_some, Option.getD_some] at hlk hld
                clear hab hmem hmk1 hv hW2
                by_cases hvp : 0 < v
                · have dv : decide (0 < v) = true := decide_eq_true hvp
                  have HH := Lib.hid (holds_calls (HSW.out.kp (Kp.drew B _) rfl) HV.out a b HIn2.out.1 HIn2.out.2.1 HIn2.out.2.2.1 HIn2.out.2.2.2)
                  have HOk := Lib.hid (show okB m2 (a, b) = true from pos_ok _ _ (by rw [HPos.out]; exact dv))
                  clear hvp HPos
                  go_wp2
                  generalize wr.alloc (.cells #[.int .i64 a, .int .i64 b] 81) = W at HSW HKW hx2W pa pb hlk hld HH ⊢
                  refine wp_region_still_tail 10 (by kernel_rfl) (by kernel_rfl) ?_
                  simp only [List.take_succ_cons, List.take_zero, List.drop_succ_cons, List.drop_zero]
                  change wpStill _ _ W.drew _ _ _
                  repeat still_step
                  try refine wpStill_nil ?_
                  change wpList _ _ _ _ _ W.drew
                  go_wp2_with fail
                  refine HH.out.mono ?_
                  rintro e w' ⟨r1, m3, rfl, hm', hK', hG', hA', hN'⟩
                  have HM3 := Lib.hid hm'
                  have HK3 := Lib.hid (show Kp B W w' from (Kp.drew B W).trans hK')
                  have HG3 := Lib.hid hG'
                  have HA3 := Lib.hid hA'
                  have HN3 := Lib.hid hN'
                  clear hm' hK' hG' hA' hN' HH hlk hld
                  cases r1 with
                  | true =>
                    go_wp2
                    go_roundw
                    case rel =>
                      refine ⟨k + 1, by omega, by go_num, many, rfl, Lib.hid ⟨m3, HM3.out, HKW.out.trans HK3.out, HI3.out.grow HG3.out, fun p hp => HG3.out.keys (HKy.out p hp), ?_⟩⟩
                      rcases HOr.out with ⟨h1, h2⟩ | ⟨h1, h2, h3⟩
                      · exact .inl ⟨h1, Nat.lt_of_le_of_lt (todo_le HI3.out HG3.out) h2⟩
                      · refine .inr ⟨h1, h2.trans HG3.out, fun j hj => ?_⟩
                        by_cases hjk : j = k
                        · rw [hjk, ← HAB.out]; exact fun _ => (HN3.out (by simp)).from h2
                        · exact fun hp => (h3 j (by omega) hp).grow HG3.out
                    case measure => simp [intOf]; omega
                  | false =>
                    have pb2 := HK3.out.cell pb (by have := HS2.out.map.lt; show wr.heap.size ≠ B; omega)
                    have pa2 := HK3.out.cell pa (by have := HS2.out.map.lt; show wr.heap.size ≠ B; omega)
                    have hx3 := (HSW.out.step HK3.out HM3.out).x2
                    obtain ⟨o, hu, hm4⟩ := (MapAt.of_block (w' := w'.drew) HM3.out rfl).update pairKey Tryd.underlying84 (a, b) 0
                    simp only [pairV] at hu
                    have HM4 := Lib.hid hm4
                    clear hm4
                    go_wp2
                    refine wp_region_still_tail 5 (by kernel_rfl) (by kernel_rfl) ?_
                    simp only [List.take_succ_cons, List.take_zero, List.drop_succ_cons, List.drop_zero]
                    change wpStill _ _ w'.drew _ _ _
                    repeat still_step
                    try refine wpStill_nil ?_
                    change wpList _ _ _ _ _ w'.drew
                    go_wp2
                    go_roundw
                    case rel =>
                      refine ⟨k + 1, by omega, by go_num, -1, rfl, Lib.hid ⟨put m3 (a, b) 0, HM4.out, HKW.out.trans ((HK3.out.trans (Kp.drew _ _)).trans (Kp.setBlock _ _ _)), HI3.out.clear HG3.out HP2.out HA3.out, fun p hp => ?_, .inl ⟨rfl, ?_⟩⟩⟩
                      · have := HG3.out.keys (HKy.out p hp)
                        rw [put_keys]
                        split
                        · exact List.mem_append_left _ this
                        · exact this
                      · have h1 : todo g (put m3 (a, b) 0) < todo g m3 := todo_clear (okN_clear HIn2.out (by rw [HG3.out.ok]; exact HOk.out))
                        have h2 := todo_le HI3.out HG3.out
                        have h3 : todo g m2 ≤ todo g m1 := by
                          rcases HOr.out with h | h
                          · exact Nat.le_of_lt h.2
                          · exact todo_le HI1.out h.2.1
                        omega
                    case measure => simp [intOf]; omega
                · have dv : decide (0 < v) = false := decide_eq_false hvp
                  go_wp2
                  generalize wr.alloc (.cells #[.int .i64 a, .int .i64 b] 81) = W at HSW HKW hx2W pa pb hlk hld ⊢
                  go_quiet (fail)
                  go_wp2
                  go_roundw
                  case rel =>
                    refine ⟨k + 1, by omega, by go_num, many, rfl, Lib.hid ⟨m2, HSW.out.map.of_block rfl, HKW.out.trans (Kp.drewN _ _ _), HI3.out, HKy.out, ?_⟩⟩
                    rcases HOr.out with h1 | ⟨h1, h2, h3⟩
                    · exact .inl h1
                    · refine .inr ⟨h1, h2, fun j hj => ?_⟩
                      by_cases hjk : j = k
                      · rw [hjk, ← HAB.out]
                        intro hp
                        have := h2.pos _ hp
                        rw [HPos.out, dv] at this
                        cases this
                      · exact h3 j (by omega)
                  case measure => simp [intOf]; omega
              · obtain rfl : k = got.length := by omega
                have HLen := HS2.out.map.len (rt := 3) Tryd.underlying84
                have hx2r := HS2.out.x2
                by_cases hd : many = m2.length
                · have dd : (many == (m2.length : Int)) = true := by simp [hd]
                  have HEq := Lib.hid (show m2 = m1 ∧ ∀ j : Nat, j < got.length → posB m1 (got.getD j (0, 0)) = true → AnsH st g m1 m2 (got.getD j (0, 0)) from by
                    rcases HOr.out with h | h
                    · have := h.1; omega
                    · exact ⟨h.2.1.same (by have := h.1; omega), h.2.2⟩)
                  go_wp2
                  refine bodyPost_end (results_none rfl _ _ _) rfl ?_
                  have hall : ∀ p ∈ m2.map (·.1), posB m2 p = true → AnsH st g m2 m2 p := fun p hp hpos => by
                    obtain ⟨e1, e2⟩ := HEq.out
                    rw [e1] at hp hpos e2 ⊢
                    obtain ⟨j, hj, hje⟩ := List.getElem_of_mem (HAll.out p hp)
                    have := e2 j hj
                    rw [List.getD_eq_getElem?_getD, List.getElem?_eq_getElem hj, Option.getD_some, hje] at this
                    exact this hpos
                  exact ⟨m2, rfl, HM2.out, HKq.out.trans HK2.out, fun p hp => HKy.out p (HFin.out p hp), HI3.out, fun p hp => ⟨HI3.out.done (fun q hq hqs => (hall q hq hqs).1) p hp, hall p hp⟩⟩
                · have dd : (many == (m2.length : Int)) = false := by simp [hd]
                  have HLt := Lib.hid (show todo g m2 < todo g m1 from by
                    rcases HOr.out with h | h
                    · exact h.2
                    · exact todo_grow HI1.out h.2.1 (by have := h.2.1.len; have := h.1; omega))
                  go_wp2
                  go_roundg (todo g m2)
                  case measure => exact Nat.lt_of_lt_of_le HLt.out HTd.out
                  case rel => exact Lib.hid ⟨m2, HM2.out, HKq.out.trans HK2.out, fun p hp => HKy.out p (HFin.out p hp), HI3.out, Nat.le_refl _⟩
          · have HRg2 := Lib.hid hRg2
            have HK3 := Lib.hid (hK2.trans (Kp.alloc r W2 (.cells #[.int .i64 a, .int .i64 b] 81)))
            clear hRg2 hK2
            simp only [pairV] at hnx hen
            have HR3 := Lib.hid (show k81.R 81 (W2.alloc (.cells #[.int .i64 a, .int .i64 b] 81)) _ _ _ _ from R_kp HR.out HK3.out)
            have HSz := HB.out.size
            have HB3 := Lib.hid (HB.out.trans (HK3.out.below (by omega) HSz))
            have HRg3 := Lib.hid (show RngAt (W2.alloc (.cells #[.int .i64 a, .int .i64 b] 81)) B r m1 (got ++ [(a, b)]) left' from HRg2.out.of_blocks (Below.heap_alloc _ _ _ HRg2.out.map.lt) (Below.heap_alloc _ _ _ HRg2.out.lt))
            have hgl := HRg.out.got.2
            have hrl := HRg2.out.lt
            have HS2 := Lib.hid hs2
            clear HR HB HRg HRg2 hs2
            go_wp2_with (at_builtin; refine Aside.out ?_)
            rw [show W2.heap.size + 1 = (W2.alloc (.cells #[.int .i64 a, .int .i64 b] 81)).heap.size from (World.size_alloc _ _).symm]
            have hWs : wr.heap.size ≤ (W2.alloc (.cells #[.int .i64 a, .int .i64 b] 81)).heap.size := by rw [World.size_alloc, HS2.out]; omega
            have hrl2 : r < (W2.alloc (.cells #[.int .i64 a, .int .i64 b] 81)).heap.size := by rw [World.size_alloc]; omega
            generalize W2.alloc (.cells #[.int .i64 a, .int .i64 b] 81) = W at HR3 HB3 HRg3 HK3 hWs hrl2 ⊢
            show wpList _ _ _ _ _ _
            refine Kd.R_append k81 (w0 := w1) w1.heap.size rfl (.tmp 37) (.tmp 39) 79 81 (.agg #[.int .i64 0, .int .i64 0]) 16 rfl Tryd.underlying79 info81 rfl (by decide) (by omega) u7 got (a, b) [.int .i64 a, .int .i64 b] (fun k => k ≠ r) (fun _ => False) rfl rfl ?aP (fun _ hk => hk.elim) ?aF ?aO ?aB ?aS ?aL ?_
            case aP => exact k81_mk _ _ _ a b
            case aF => intro k hk; omega
            case aO => exact HR3.out
            case aB => exact HB3.out
            case aS => omega
            case aL => omega
            intro v1 wA hR4 hB4 hg4 _
            have HR4 := Lib.hid hR4
            have HB4 := Lib.hid hB4
            have HRg4 := Lib.hid (HRg3.out.of_blocks ((hB4.block B hBw).trans (HB3.out.block B hBw).symm) (hg4.block r hrl2 (fun e => HR3.out.1 r e.symm rfl)))
            clear HR3 HB3 HRg3 hR4 hB4 hg4
            go_wp2
            go_roundg left'
            case measure => exact hlt
            case rel => exact Lib.hid ⟨_, HRg4.out, HR4.out, HB4.out⟩
end Go.Proofs.YtcljgfpcdlnlkaaDoor.Q
namespace Go.Proofs.YtcljgfpcdlnlkaaDoor.Q
open Go.RowKit Go.Proofs.YtcljgfpcdlnlkaaDoorW.PrintWords Mp
theorem below_drewN {B : Nat} {w w' : World} (h : Below B w w') (n : Nat) : Below B w (w'.drewN n) := ⟨h.os, h.tape, h.output, h.size, h.block⟩
theorem enters108 : EntersAt 108 := enters_at Tryd.func108 (by kernel_rfl) rfl
set_option maxRecDepth 100000 in
set_option maxHeartbeats 400000 in
theorem of1_calls (w : World) (Y : Nat) (A : Option Addr) (n c : Nat) (k : Int) (hY : w.cell? ⟨Y, 0, none⟩ = some (.slice A n c)) :
    Calls Tryd.prog 108 #[.int .i64 k, .pointer (some ⟨Y, 0, none⟩)] w fun e w' => e = .returned (.bool (outB n k)) ∧ w' = w := by
  by_cases h1 : k < 0
  · have d1 : decide (k < 0) = true := decide_eq_true h1
    have HO := Lib.hid (show outB n k = true by simp [outB, h1])
    go_enter Tryd.func108, Tryd.ntmps108
    go_wp2
    go_ret
    exact ⟨by rw [HO.out]; rfl, rfl⟩
  · have d1 : decide (k < 0) = false := decide_eq_false h1
    have HO := Lib.hid (show outB n k = decide ((n : Int) ≤ k) by simp [outB, h1])
    go_enter Tryd.func108, Tryd.ntmps108
    go_wp2
    go_ret
    exact ⟨by rw [HO.out]; rfl, rfl⟩
/-- May a solver be made? -/
def mayOf (g : List S37) (l : List Int) : Bool := decide (checkP g = 0) && !(l.any (outB g.length))
theorem mayOf_iff {g : List S37} {l : List Int} : mayOf g l = true ↔ checkP g = 0 ∧ ∀ k ∈ l, 0 ≤ k ∧ k < g.length := by
  unfold mayOf
  rw [Bool.and_eq_true, decide_eq_true_eq, Bool.not_eq_true', List.any_eq_false]
  simp only [outB, Bool.or_eq_true, decide_eq_true_eq, not_or, Int.not_lt, Int.not_le]
set_option maxRecDepth 100000 in
set_option maxHeartbeats 400000 in
theorem of_calls (w : World) (A : Option Addr) (c : Nat) (g : List S37) (st : Bool) (P : Option Addr) (cP : Nat) (l : List Int) (hk : KeysIn w) (hg : Kd.C k37 w A g.length g) (hs : ∀ x ∈ g, x.f3.length ≤ 9223372036854775807 ∧ x.f4.length ≤ 9223372036854775807) (hl : Kd.C (Kd.int .i64) w P l.length l) (hl2 : l.length ≤ 9223372036854775807) :
    Calls Tryd.prog 63 #[.slice A g.length c, .bool st, .slice P l.length cP] w fun e w' => Below w.heap.size w w' ∧ ((mayOf g l = false ∧ e = .returned (.tuple #[.pointer none, .bool false])) ∨
      (mayOf g l = true ∧ ∃ X B, e = .returned (.tuple #[.pointer (some ⟨X, 0, none⟩), .bool true]) ∧ X < w'.heap.size ∧ @Sol (domG g) w w' X B A c g st [])) := by
  have HG := Lib.hid hg
  have HL := Lib.hid hl
  have hB0 : Below w.heap.size w (w.alloc (.cells #[.slice A g.length c] 22)) := (Below.refl _ _).alloc (Nat.le_refl _) _
  have HCk := Lib.hid (check_calls A g c _ (hk.below hB0) (Kd.C_below hg hB0) hs)
  have HB0 := Lib.hid hB0
  have pY : (w.alloc (.cells #[.slice A g.length c] 22)).cell? ⟨w.heap.size, 0, none⟩ = some (.slice A g.length c) := by simp
  clear hg hl hk hs hB0
  go_enter Tryd.func63, Tryd.ntmps63
  go_wp2_with fail
  refine HCk.out.mono ?_
  rintro e w1 ⟨rfl, hb1⟩
  have HB1 := Lib.hid (HB0.out.trans (hb1.mono HB0.out.size))
  have pY1 := (hb1.cell (p := ⟨w.heap.size, 0, none⟩) (by simp)).trans pY
  clear hb1 HCk pY HB0
  by_cases hq : checkP g = 0
  · have HQ := Lib.hid hq
    rw [hq]
    clear hq
    have HH := Lib.hid (has65 P l.length cP 108 #[.pointer (some ⟨w.heap.size, 0, none⟩)] (fun i => .int .i64 (rd l i)) (fun i W => W = w1 ∧ ∀ j : Nat, j < i → outB g.length (rd l j) = false) (fun i W => W = w1 ∧ outB g.length (rd l i) = true) w1 hl2 enters108 ⟨rfl, fun j hj => absurd hj (by omega)⟩
      (by
        rintro i W ⟨rfl, _⟩ hi
        exact int_cell (Kd.C_below HL.out HB1.out) i hi)
      (by
        rintro i W hi ⟨rfl, h0⟩
        refine (of1_calls W w.heap.size A g.length c (rd l i) pY1).mono ?_
        rintro e W' ⟨rfl, rfl⟩
        cases ho : outB g.length (rd l i) with
        | true => exact .inl ⟨rfl, rfl, rfl⟩
        | false => exact .inr ⟨rfl, rfl, fun j hj => if h : j = i then by rw [h]; exact ho else h0 j (by omega)⟩))
    go_wp2_with fail
    refine HH.out.mono ?_
    clear HH
    rintro e w' (⟨i, hi, rfl, hww, ho⟩ | ⟨rfl, hww, ho⟩)
    · replace hww := hww.symm
      subst hww
      have HM := Lib.hid (show mayOf g l = false from by
        cases e : mayOf g l with
        | false => rfl
        | true =>
          have h2 := (mayOf_iff.1 e).2 (rd l i) (by unfold rd; rw [Int.toNat_natCast, List.getD_eq_getElem?_getD, List.getElem?_eq_getElem hi]; exact List.getElem_mem _)
          simp only [outB, Bool.or_eq_true, decide_eq_true_eq] at ho
          omega)
      clear ho
      go_wp2
      refine bodyPost_ret (results_tmp2 rfl _ _ _) rfl ?_
      exact ⟨HB1.out, .inl ⟨HM.out, rfl⟩⟩
    · replace hww := hww.symm
      subst hww
      have HM := Lib.hid (show mayOf g l = true from mayOf_iff.2 ⟨HQ.out, fun k hk => by
        obtain ⟨j, hj, rfl⟩ := List.getElem_of_mem hk
        have := ho j hj
        unfold rd at this
        rw [Int.toNat_natCast, List.getD_eq_getElem?_getD, List.getElem?_eq_getElem hj] at this
        simp only [outB, Option.getD_some, Bool.or_eq_false_iff, decide_eq_false_iff_not] at this
        omega⟩)
      clear ho
      have hmm := @run_makeMap Tryd.prog
      go_wp2
      refine bodyPost_ret (results_tmp2 rfl _ _ _) rfl ?_
      have hbA : Below w.heap.size w ((w1.alloc (Obj.map #[] 0)).alloc (Obj.cells #[Value.slice A g.length c, Value.bool st, Value.map (some w1.heap.size)] 86)) := (HB1.out.alloc HB1.out.size _).alloc (by have := HB1.out.size; simp; omega) _
      refine ⟨hbA, .inr ⟨HM.out, w1.heap.size + 1, w1.heap.size, rfl, by simp, ?_⟩⟩
      refine @Sol.mk (domG g) _ _ _ _ _ _ _ _ _ HG.out hbA HB1.out.size (by omega) ?_ ?_ ?_ ((MapAt.new _ _ w1).of_block (Below.heap_alloc _ _ _ (by simp))) (fun a b h1 h2 h3 h4 => ⟨h1, h2, h3, h4⟩)
      all_goals simp
  · have d1 : (checkP g != 0) = true := by simp [hq]
    have HM := Lib.hid (show mayOf g l = false from by simp [mayOf, hq])
    clear hq
    generalize checkP g = q at d1
    go_wp2
    refine bodyPost_ret (results_tmp2 rfl _ _ _) rfl ?_
    exact ⟨HB1.out, .inl ⟨HM.out, rfl⟩⟩
theorem R_two (w : World) (a b : Int) : (Kd.int .i64).R 3 (w.alloc (.cells #[.int .i64 a, .int .i64 b] 3)) w.heap.size (fun _ => True) (.slice (some ⟨w.heap.size, 0, none⟩) 2 2) [a, b] :=
  ⟨fun _ _ => trivial, [.int .i64 a, .int .i64 b], ⟨by simp [Kd.int, Kd.scalar], .inr ⟨w.heap.size, 2, #[.int .i64 a, .int .i64 b], rfl, Nat.le_refl _, Array.getElem?_push_size, Nat.le_refl _, by decide, by simp [Kd.int, Kd.scalar], by simp [Kd.int, Kd.scalar]⟩⟩, by
    refine ⟨by simp [Kd.int, Kd.scalar], fun j p hj => ?_⟩
    match j, hj with
    | 0, hj => simp at hj; subst hj; rfl
    | 1, hj => simp at hj; subst hj; rfl
    | j + 2, hj => simp at hj⟩
theorem R_pair (w : World) (a b : Int) : k81.R 81 (w.alloc (.cells #[.int .i64 a, .int .i64 b] 81)) w.heap.size (fun _ => True) (.slice (some ⟨w.heap.size, 0, none⟩) 1 1) [(a, b)] :=
  ⟨fun _ _ => trivial, [.int .i64 a, .int .i64 b], ⟨by rfl, .inr ⟨w.heap.size, 1, #[.int .i64 a, .int .i64 b], rfl, Nat.le_refl _, Array.getElem?_push_size, Nat.le_refl _, by decide, by rfl, by rfl⟩⟩, by
    refine ⟨by rfl, fun j p hj => ?_⟩
    match j, hj with
    | 0, hj => simp at hj; subst hj; exact k81_mk _ _ _ a b
    | j + 1, hj => simp at hj⟩
/-- What asked answers. -/
noncomputable def askB (st : Bool) (g : List S37) (a b : Int) : Bool := mayOf g [a, b] && standsB st g (a, b)
set_option maxRecDepth 100000 in
set_option maxHeartbeats 400000 in
theorem asked_calls (w : World) (A : Option Addr) (c : Nat) (g : List S37) (st : Bool) (a b : Int) (hk : KeysIn w) (hg : Kd.C k37 w A g.length g) (hs : ∀ x ∈ g, x.f3.length ≤ 9223372036854775807 ∧ x.f4.length ≤ 9223372036854775807) :
    Calls Tryd.prog 73 #[.slice A g.length c, .bool st, .agg #[.int .i64 a, .int .i64 b]] w fun e w' => e = .returned (.bool (askB st g a b)) ∧ Below w.heap.size w w' := by
  letI := domG g
  have hB0 : Below w.heap.size w ((w.alloc (.cells #[.int .i64 a, .int .i64 b] 81)).alloc (.cells #[.int .i64 a, .int .i64 b] 3)) := ((Below.refl _ _).alloc (Nat.le_refl _) _).alloc (by simp) _
  have hR2 := R_two (w.alloc (.cells #[.int .i64 a, .int .i64 b] 81)) a b
  have hOf := of_calls ((w.alloc (.cells #[.int .i64 a, .int .i64 b] 81)).alloc (.cells #[.int .i64 a, .int .i64 b] 3)) A c g st _ 2 [a, b] (hk.below hB0) (Kd.C_below hg hB0) hs (Kd.R_reads' hR2).2.2 (by simp)
  rw [World.size_alloc w, show [a, b].length = 2 from rfl] at hOf
  have HOf := Lib.hid hOf
  clear hOf
  have pa : ((w.alloc (.cells #[.int .i64 a, .int .i64 b] 81)).alloc (.cells #[.int .i64 a, .int .i64 b] 3)).cell? ⟨w.heap.size, 0, none⟩ = some (.int .i64 a) := cell_alloc _ (by simp)
  have pb : ((w.alloc (.cells #[.int .i64 a, .int .i64 b] 81)).alloc (.cells #[.int .i64 a, .int .i64 b] 3)).cell? ⟨w.heap.size, 1, none⟩ = some (.int .i64 b) := cell_alloc _ (by simp)
  have HB0 := Lib.hid hB0
  clear hk hg hs hR2 hB0
  go_enter Tryd.func73, Tryd.ntmps73
  go_wp2_with fail
  refine HOf.out.mono ?_
  clear HOf
  generalize (w.alloc (.cells #[.int .i64 a, .int .i64 b] 81)).alloc (.cells #[.int .i64 a, .int .i64 b] 3) = w0 at HB0 pa pb
  rintro e w1 ⟨hb1, ⟨hm, rfl⟩ | ⟨hm, X, B, rfl, hX, hS⟩⟩
  · have HB1 := Lib.hid (HB0.out.trans (hb1.mono HB0.out.size))
    have HM := Lib.hid (show askB st g a b = false by rw [askB, hm]; rfl)
    clear hb1 hm
    go_wp2
    go_ret
    exact ⟨by rw [HM.out]; rfl, HB1.out⟩
  · have HB1 := Lib.hid (HB0.out.trans (hb1.mono HB0.out.size))
    have HM := Lib.hid hm
    have HS := Lib.hid hS
    have pa1 := (hb1.cell (World.block_lt_of_cell? w0 _ pa)).trans pa
    have pb1 := (hb1.cell (World.block_lt_of_cell? w0 _ pb)).trans pb
    have hV := mayOf_iff.1 hm
    have HP := Lib.hid (show InG g (a, b) from ⟨(hV.2 a (by simp)).1, (hV.2 a (by simp)).2, (hV.2 b (by simp)).1, (hV.2 b (by simp)).2⟩)
    have hb2 : Below w1.heap.size w1 (w1.alloc (.cells #[.int .i64 a, .int .i64 b] 81)) := (Below.refl _ _).alloc (Nat.le_refl _) _
    have HB2 := Lib.hid hb2
    have hBl : B < w1.heap.size := hS.map.lt
    have hRp : k81.R 81 (w1.alloc (.cells #[.int .i64 a, .int .i64 b] 81)) w1.heap.size (fun k => k ≠ B) (.slice (some ⟨w1.heap.size, 0, none⟩) 1 1) [(a, b)] := R_apartB (R_pair w1 a b) hBl
    have HSo := Lib.hid (solve_calls (hS.below hb2) (valid_of_check hV.1) (Inv.nil st g) (some ⟨w1.heap.size, 0, none⟩) 1 [(a, b)] (fun W hW => (Kd.R_reads' (R_kp hRp hW)).2.2) (fun p hp => by rw [List.mem_singleton.1 hp]; exact HP.out) (by simp))
    have pa2 : (w1.alloc (.cells #[.int .i64 a, .int .i64 b] 81)).cell? ⟨w.heap.size, 0, none⟩ = some (.int .i64 a) := cell_alloc _ pa1
    have pb2 : (w1.alloc (.cells #[.int .i64 a, .int .i64 b] 81)).cell? ⟨w.heap.size, 1, none⟩ = some (.int .i64 b) := cell_alloc _ pb1
    have hx2 : (w1.alloc (.cells #[.int .i64 a, .int .i64 b] 81)).cell? ⟨X, 2, none⟩ = some (.map (some B)) := cell_alloc _ hS.x2
    have hXB := hS.ne
    have hwB : w.heap.size ≠ B := by have := hS.lB; have := World.block_lt_of_cell? w0 _ pa; simp only at this; omega
    clear hb1 hm hS hb2 hRp pa pb hV hX
    go_wp2_with fail
    refine HSo.out.mono ?_
    rintro e w2 ⟨m2, rfl, hM2, hK2, hF2, _, hV2⟩
    have hget := (hV2 (a, b) (hF2 _ (by simp))).1
    have pa3 := hK2.cell pa2 hwB
    have pb3 := hK2.cell pb2 hwB
    have hx3 := hK2.cell hx2 hXB
    have hlk := fun n => (MapAt.of_block (w' := w2.drewN n) hM2 rfl).lookup1 pairKey Tryd.underlying84 zero3 (a, b)
    have HB3 := Lib.hid (HB1.out.trans ((HB2.out.mono HB1.out.size).trans (hK2.below (B := w.heap.size) (by have := HS.out.lB; have := HB0.out.size; omega) (by have := HB1.out.size; have := HB2.out.size; omega))))
    simp only [hget, pairV, Option.map_some, Option.getD_some] at hlk
    clear HSo hM2 hK2 hF2 hV2 hget pa2 pb2 hx2 pa1 pb1
    have HAs := Lib.hid (show askB st g a b = standsB st g (a, b) by rw [askB, HM.out]; rfl)
    cases hst : standsB st g (a, b) with
    | true =>
      rw [hst] at HAs
      simp only [hst, if_true] at hlk
      clear hst
      go_wp2
      go_quiet (fail)
      go_wp2
      go_ret
      exact ⟨by rw [HAs.out]; rfl, below_drewN HB3.out _⟩
    | false =>
      rw [hst] at HAs
      simp only [hst] at hlk
      clear hst
      go_wp2
      go_quiet (fail)
      go_wp2
      go_ret
      exact ⟨by rw [HAs.out]; rfl, below_drewN HB3.out _⟩
theorem may_calls2 (w : World) (A : Option Addr) (c : Nat) (g : List S37) (a b : Int) (hk : KeysIn w) (hg : Kd.C k37 w A g.length g) (hs : ∀ x ∈ g, x.f3.length ≤ 9223372036854775807 ∧ x.f4.length ≤ 9223372036854775807) :
    Calls Tryd.prog 27 #[.slice A g.length c, .int .i64 a, .int .i64 b] w fun e w' => e = .returned (.bool (askB false g a b)) ∧ Below w.heap.size w w' := by
  have HA := Lib.hid (asked_calls w A c g false a b hk hg hs)
  go_enter Tryd.func27, Tryd.ntmps27
  go_wp2_with fail
  refine HA.out.mono ?_
  rintro e w1 ⟨rfl, hb⟩
  go_wp2
  go_ret
  exact ⟨rfl, hb⟩
theorem strict_calls (w : World) (A : Option Addr) (c : Nat) (g : List S37) (a b : Int) (hk : KeysIn w) (hg : Kd.C k37 w A g.length g) (hs : ∀ x ∈ g, x.f3.length ≤ 9223372036854775807 ∧ x.f4.length ≤ 9223372036854775807) :
    Calls Tryd.prog 33 #[.slice A g.length c, .int .i64 a, .int .i64 b] w fun e w' => e = .returned (.bool (askB true g a b)) ∧ Below w.heap.size w w' := by
  have HA := Lib.hid (asked_calls w A c g true a b hk hg hs)
  go_enter Tryd.func33, Tryd.ntmps33
  go_wp2_with fail
  refine HA.out.mono ?_
  rintro e w1 ⟨rfl, hb⟩
  go_wp2
  go_ret
  exact ⟨rfl, hb⟩
/-- What Pick answers. -/
noncomputable def pickP (g : List S37) (a b : Int) : Int := if mayOf g [a, b] = true ∧ (rd_T37 g a).f0 ≠ 8 then pickB false g a b (standsB false g) else -2
set_option maxRecDepth 100000 in
set_option maxHeartbeats 400000 in
theorem pick25_calls (w : World) (A : Option Addr) (c : Nat) (g : List S37) (a b : Int) (hk : KeysIn w) (hg : Kd.C k37 w A g.length g) (hs : ∀ x ∈ g, x.f3.length ≤ 9223372036854775807 ∧ x.f4.length ≤ 9223372036854775807) :
    Calls Tryd.prog 25 #[.slice A g.length c, .int .i64 a, .int .i64 b] w fun e w' => e = .returned (.int .i64 (pickP g a b)) ∧ Below w.heap.size w w' := by
  letI := domG g
  have hB0 : Below w.heap.size w (w.alloc (.cells #[.int .i64 a, .int .i64 b] 3)) := (Below.refl _ _).alloc (Nat.le_refl _) _
  have hR2 := R_two w a b
  have hOf := of_calls (w.alloc (.cells #[.int .i64 a, .int .i64 b] 3)) A c g false _ 2 [a, b] (hk.below hB0) (Kd.C_below hg hB0) hs (Kd.R_reads' hR2).2.2 (by simp)
  rw [show [a, b].length = 2 from rfl] at hOf
  have HOf := Lib.hid hOf
  have HG := Lib.hid hg
  have HB0 := Lib.hid hB0
  clear hk hg hs hR2 hB0 hOf
  go_enter Tryd.func25, Tryd.ntmps25
  go_wp2_with fail
  refine HOf.out.mono ?_
  clear HOf
  generalize w.alloc (.cells #[.int .i64 a, .int .i64 b] 3) = w0 at HB0
  rintro e w1 ⟨hb1, ⟨hm, rfl⟩ | ⟨hm, X, B, rfl, hX, hS⟩⟩
  · have HB1 := Lib.hid (HB0.out.trans (hb1.mono HB0.out.size))
    have HM := Lib.hid (show pickP g a b = -2 by simp [pickP, hm])
    clear hb1 hm
    go_wp2
    go_ret
    exact ⟨by rw [HM.out]; rfl, HB1.out⟩
  · have hb01 := HB0.out.trans (hb1.mono HB0.out.size)
    have HB1 := Lib.hid hb01
    have HM := Lib.hid hm
    have HS := Lib.hid hS
    have hV := mayOf_iff.1 hm
    have hP : InG g (a, b) := ⟨(hV.2 a (by simp)).1, (hV.2 a (by simp)).2, (hV.2 b (by simp)).1, (hV.2 b (by simp)).2⟩
    have HP := Lib.hid hP
    have HVa := Lib.hid (valid_of_check hV.1)
    obtain ⟨ad, A3, c3, A4, c4, rfl, k0, _⟩ := at_T37 HG.out a hP.1 hP.2.1
    have k0' := (hb01.cell (World.block_lt_of_cell? w _ k0)).trans k0
    have i0 := hP.1
    have i1 := hP.2.1
    clear k0 hP hV
    by_cases h8 : (rd_T37 g a).f0 = 8
    · have n8 : ((rd_T37 g a).f0 == 8) = true := by simp [h8]
      have HQ := Lib.hid (show pickP g a b = -2 by simp [pickP, h8])
      clear hb1 hm hS hb01 h8
      go_wp2
      go_ret
      exact ⟨by rw [HQ.out]; rfl, HB1.out⟩
    · have n8 : ((rd_T37 g a).f0 == 8) = false := by simp [h8]
      have HQ := Lib.hid (show pickP g a b = pickB false g a b (standsB false g) by simp [pickP, h8, hm])
      have HN8 := Lib.hid h8
      have hb2 : Below w1.heap.size w1 (w1.alloc (.cells #[.int .i64 a, .int .i64 b] 81)) := (Below.refl _ _).alloc (Nat.le_refl _) _
      have HB2 := Lib.hid hb2
      have hBl : B < w1.heap.size := hS.map.lt
      have hRp : k81.R 81 (w1.alloc (.cells #[.int .i64 a, .int .i64 b] 81)) w1.heap.size (fun k => k ≠ B) (.slice (some ⟨w1.heap.size, 0, none⟩) 1 1) [(a, b)] := R_apartB (R_pair w1 a b) hBl
      have HS2 := Lib.hid (hS.below hb2)
      have HSo := Lib.hid (solve_calls (hS.below hb2) HVa.out (Inv.nil false g) (some ⟨w1.heap.size, 0, none⟩) 1 [(a, b)] (fun W hW => (Kd.R_reads' (R_kp hRp hW)).2.2) (fun p hp => by rw [List.mem_singleton.1 hp]; exact HP.out) (by simp))
      clear hb1 hm hS hb2 hRp hb01 h8
      go_wp2_with fail
      refine HSo.out.mono ?_
      rintro e w2 ⟨m2, rfl, hM2, hK2, hF2, hI2, hV2⟩
      have HS3 := Lib.hid (HS2.out.step hK2 hM2)
      have HB3 := Lib.hid (HB1.out.trans ((HB2.out.mono HB1.out.size).trans (hK2.below (B := w.heap.size) (by have := HS.out.lB; have := HB0.out.size; omega) (by have := HB1.out.size; have := HB2.out.size; omega))))
      have HPk := Lib.hid (pick_calls HS3.out HVa.out a b HP.out.1 HP.out.2.1 HN8.out HP.out.2.2.1 HP.out.2.2.2)
      have hab := hF2 (a, b) (by simp)
      have HR := Lib.hid (show ∀ m3 k, Grow m2 m3 → Ans m2 m3 (pickB false g a b) k → k = pickB false g a b (standsB false g) from fun m3 k hG hA => by
        have h1 := hA (okB m2) (fun p hp => by rw [← hG.ok]; exact pos_ok _ _ hp) (fun p hp => hp)
        have hmem : membersL g a = [a] := by
          unfold membersL
          rw [if_neg (by have := HP.out.1; have := HP.out.2.1; simp only at *; omega), if_neg HN8.out]
        cases es : standsB false g (a, b) with
        | true =>
          have hv := (hV2 _ hab).1
          rw [es] at hv
          obtain ⟨k2, hk2⟩ := ((hV2 _ hab).2 (by unfold posB; rw [hv]; rfl)).2 a (by show a ∈ membersL g a; rw [hmem]; simp)
          have h2 := hk2 (okB m2) (fun p hp => pos_ok _ _ hp) (fun p hp => hp)
          have h3 := hk2 (standsB false g) (fun p hp => by
            have hp1 : p ∈ m2.map (·.1) := by
              refine get_ne_none.1 fun e => ?_
              unfold posB at hp
              rw [e] at hp
              cases hp
            have := (hV2 p hp1).1
            cases e : standsB false g p with
            | true => rfl
            | false =>
              rw [e] at this
              unfold posB at hp
              rw [this] at hp
              cases hp) (fun p hp => hI2.sound p hp)
          rw [h3, ← h1]
          exact h2
        | false =>
          have hv := (hV2 _ hab).1
          rw [es] at hv
          have ho := hI2.out _ hv
          have h2 : pickB false g a b (okB m2) = -2 := by
            apply Classical.byContradiction
            intro hne
            have := holdsB_iff.2 (show ∀ s ∈ membersL g (a, b).1, pickB false g s (a, b).2 (okB m2) ≠ -2 from fun s hs => by
              have e : s = a := by have : s ∈ membersL g a := hs; rw [hmem] at this; exact List.mem_singleton.1 this
              rw [e]; exact hne)
            rw [ho] at this
            cases this
          have h3 : pickB false g a b (standsB false g) = -2 := by
            apply Classical.byContradiction
            intro hne
            exact pickB_mono (S := okB m2) (fun p hp => hI2.sound p hp) hne h2
          rw [h3, ← h1]
          exact h2)
      have hBX := HS.out.lB
      clear HSo hM2 hK2 hF2 hV2 hI2 hab
      go_wp2_with fail
      refine HPk.out.mono ?_
      rintro e w3 ⟨r, m3, rfl, hM3, hK3, hG3, hA3⟩
      have HE := Lib.hid (HR.out m3 r hG3 hA3)
      have HB4 := Lib.hid (HB3.out.trans (hK3.below (B := w.heap.size) (by have := HB0.out.size; omega) HB3.out.size))
      clear hM3 hK3 hG3 hA3
      go_wp2
      go_ret
      exact ⟨by rw [HQ.out, ← HE.out]; rfl, HB4.out⟩
end Go.Proofs.YtcljgfpcdlnlkaaDoor.Q
namespace Go.Proofs.YtcljgfpcdlnlkaaDoor.Q
open Go.RowKit Go.Proofs.YtcljgfpcdlnlkaaDoorW.PrintWords Mp
/-- The pairs ahead of (a, b). -/
def pre (n a b : Nat) : List (Int × Int) := ((List.range a).flatMap fun (i : Nat) => (List.range n).map fun (j : Nat) => ((i : Int), (j : Int))) ++ (List.range b).map fun (j : Nat) => ((a : Int), (j : Int))
theorem pre_step (n a b : Nat) : pre n a b ++ [((a : Int), (b : Int))] = pre n a (b + 1) := by
  unfold pre
  rw [List.range_succ (n := b), List.map_append, List.append_assoc]
  rfl
theorem pre_row (n a : Nat) : pre n a n = pre n (a + 1) 0 := by
  unfold pre
  rw [List.range_succ (n := a), List.flatMap_append]
  simp
theorem pre_len (n a b : Nat) : (pre n a b).length = a * n + b := by
  unfold pre
  rw [List.length_append, List.length_flatMap]
  simp only [List.length_map, List.length_range, List.map_const', List.sum_replicate_nat]
theorem pre_all (n : Nat) : pre n n 0 = sq n := by unfold pre sq; simp
theorem sq_in {g : List S37} {p : Int × Int} (h : p ∈ sq g.length) : InG g p := by
  unfold sq at h
  obtain ⟨a, ha, h⟩ := List.mem_flatMap.1 h
  obtain ⟨b, hb, rfl⟩ := List.mem_map.1 h
  have := List.mem_range.1 ha
  have := List.mem_range.1 hb
  exact ⟨by simp only; omega, by simp only; omega, by simp only; omega, by simp only; omega⟩
/-- 'make([]bool, n)'. -/
theorem make_bools (w : World) (n : Nat) (hn : n ≤ 4000000) : ∃ w', (Instr.makeSlice 45 (.int .i64 (n : Int)) (.int .i64 (n : Int))).run Tryd.prog w = .ok (.slice (some ⟨w.heap.size, 0, none⟩) n n) w' ∧ Kd.bool.R 4 w' w.heap.size (fun _ => True) (.slice (some ⟨w.heap.size, 0, none⟩) n n) (List.replicate n false) ∧ Below w.heap.size w w' ∧ w'.heap.size = w.heap.size + 1 := by
  obtain ⟨i0, hi, hzz⟩ := Option.map_eq_some_iff.1 info4
  simp only [Prod.mk.injEq] at hzz
  obtain ⟨hz0, hz1, hz2⟩ := hzz
  have hr := run_make (P := Tryd.prog) w 45 4 i0 _ Tryd.underlying45 hi hz0 .i64 .i64 (n : Int) (n : Int) (by omega) (by omega) (by rw [hz2]; omega) (by omega)
  rw [hz1] at hr
  have hsz : Kd.bool.sz = 1 := rfl
  refine ⟨_, hr, ⟨fun _ _ => trivial, (madeCells (Value.bool false).cells (n * 1)).toList, ⟨by simp [size_madeCells, hsz], .inr ⟨w.heap.size, n, madeCells (Value.bool false).cells (n * 1), by rw [List.length_replicate], Nat.le_refl _, Array.getElem?_push_size, ?_, ?_, ?_, ?_⟩⟩, Kd.reps_made (R := Kd.bool.M (w.alloc (Obj.cells (madeCells (Value.bool false).cells ((n : Int).toNat * 1)) 4)) w.heap.size fun k => (fun _ => True) k ∧ some k ≠ (Value.slice (some { block := w.heap.size, off := 0 }) n n).ownBlock) (z := .bool false) (size := 1) (z0 := false) rfl (by omega) rfl n⟩, (Below.refl _ _).alloc (Nat.le_refl _) _, by simp⟩
  · simp
  · simp [maxLen]; omega
  · simp [size_madeCells, hsz]
  · rw [hsz, List.length_replicate]
    exact List.take_of_length_le (by simp [size_madeCells])
theorem row_zero (n : Nat) (f : Nat → Bool) : ((List.range n).map fun b => if b < 0 then f b else false) = List.replicate n false := by
  simp [List.map_const']
theorem row_set (n j : Nat) (f : Nat → Bool) (v : Bool) (hv : f j = v) : ((List.range n).map fun b => if b < j then f b else false).set j v = (List.range n).map fun b => if b < j + 1 then f b else false := by
  subst hv
  refine List.ext_getElem (by simp) fun i h1 h2 => ?_
  rw [List.getElem_set]
  simp only [List.getElem_map, List.getElem_range]
  split
  · rename_i e; subst e; rw [if_pos (by omega)]
  · by_cases h : i < j
    · rw [if_pos h, if_pos (by omega)]
    · rw [if_neg h, if_neg (by omega)]
theorem row_full (n : Nat) (f : Nat → Bool) : ((List.range n).map fun b => if b < n then f b else false) = (List.range n).map f := by
  refine List.ext_getElem (by simp) fun i h1 h2 => ?_
  simp only [List.getElem_map, List.getElem_range]
  rw [if_pos (by simpa using h1)]
theorem info45 : (Tryd.prog.info? 45).map (fun i => (i.zero, i.size, i.bytes)) = some (some (.slice none 0 0), 1, 24) := by kernel_rfl
/-- The table's row. -/
noncomputable def rowB (st : Bool) (g : List S37) (a : Nat) : List Bool := (List.range g.length).map fun (b : Nat) => standsB st g ((a : Int), (b : Int))
noncomputable def tableB (st : Bool) (g : List S37) (k : Nat) : List (List Bool) := (List.range k).map (rowB st g)
set_option maxRecDepth 100000 in
set_option maxHeartbeats 1000000 in
theorem all_calls (w : World) (A : Option Addr) (c : Nat) (g : List S37) (st : Bool) (hk : KeysIn w) (hg : Kd.C k37 w A g.length g) (hs : ∀ x ∈ g, x.f3.length ≤ 9223372036854775807 ∧ x.f4.length ≤ 9223372036854775807) :
    Calls Tryd.prog 29 #[.slice A g.length c, .bool st] w fun e w' => Below w.heap.size w w' ∧ ((checkP g ≠ 0 ∧ e = .returned (.tuple #[.slice none 0 0, .int .i64 (checkP g)])) ∨
      (checkP g = 0 ∧ ∃ v, e = .returned (.tuple #[v, .int .i64 0]) ∧ Kd.R (Kd.slice 4 Kd.bool) 45 w' w.heap.size (fun _ => True) v (tableB st g g.length))) := by
  letI := domG g
  have HG := Lib.hid hg
  have HK := Lib.hid hk
  have HS0 := Lib.hid hs
  have HCk := Lib.hid (check_calls A g c _ hk hg hs)
  clear hg hk hs
  go_enter Tryd.func29, Tryd.ntmps29
  go_wp2_with fail
  refine HCk.out.mono ?_
  rintro e w1 ⟨rfl, hb1⟩
  have HB1 := Lib.hid hb1
  clear HCk hb1
  by_cases hq : checkP g = 0
  · have HQ := Lib.hid hq
    rw [hq]
    clear hq
    have HOf := Lib.hid (of_calls w1 A c g st none 0 [] (HK.out.below HB1.out) (Kd.C_below HG.out HB1.out) HS0.out (Kd.R_reads' (Kd.R_nil (Kd.int .i64) 3 w1 0 (fun _ => True))).2.2 (by simp))
    go_wp2_with fail
    refine HOf.out.mono ?_
    clear HOf
    rintro e w2 ⟨hb2, ⟨hm, _⟩ | ⟨hm, X, B, rfl, hX, hS⟩⟩
    · exact absurd (show mayOf g [] = true from mayOf_iff.2 ⟨HQ.out, fun k hk => by simp at hk⟩) (by rw [hm]; decide)
    have HB2 := Lib.hid (HB1.out.trans (hb2.mono HB1.out.size))
    have HS := Lib.hid hS
    have HV := Lib.hid (valid_of_check HQ.out)
    have hn : g.length ≤ 2000 := HV.out.len
    have hBl : B < w2.heap.size := hS.map.lt
    have hBw : w.heap.size ≤ B := by have := hS.lB; have := HB1.out.size; omega
    clear hb2 hm hS hX
    go_wp2
    go_loopw [9, 28] (fun s9 s28 W => ∃ k : Nat, k ≤ g.length ∧ s28 = .int .i64 k ∧ Hid (k81.R 81 W w2.heap.size (fun _ => True) s9 (pre g.length k 0) ∧ Below w2.heap.size w2 W)) (fun _ s28 _ => g.length - (intOf s28).toNat)
    case atStart => exact ⟨0, Nat.zero_le _, rfl, Lib.hid ⟨Kd.R_nil _ _ _ _ _, Below.refl _ _⟩⟩
    case round =>
      obtain ⟨k, hk, rfl, HI⟩ := hrel
      by_cases hlt : k < g.length
      · go_wp2
        go_loopw [9, 33] (fun s9 s33 W => ∃ j : Nat, j ≤ g.length ∧ s33 = .int .i64 j ∧ Hid (k81.R 81 W w2.heap.size (fun _ => True) s9 (pre g.length k j) ∧ Below w2.heap.size w2 W)) (fun _ s33 _ => g.length - (intOf s33).toNat)
        case atStart => exact ⟨0, Nat.zero_le _, rfl, HI⟩
        case round =>
          clear HI
          obtain ⟨j, hj, rfl, HI⟩ := hrel
          by_cases hjt : j < g.length
          · have hlen : ((pre g.length k j).length + 1) * 16 ≤ 140737488355328 := by
              rw [pre_len]
              have : k * g.length ≤ 2000 * 2000 := Nat.mul_le_mul (by omega) hn
              omega
            have hsz := HI.out.2.size
            go_wp2_with (at_builtin; refine Kd.R_append k81 (w0 := w2) w2.heap.size rfl (.tmp 36) (.tmp 40) 79 81 (.agg #[.int .i64 0, .int .i64 0]) 16 rfl Tryd.underlying79 info81 rfl (by decide) (by omega) _ (pre g.length k j) (k, j) [.int .i64 k, .int .i64 j] (fun _ => True) (fun _ => False) rfl rfl (k81_mk _ _ _ k j) (fun _ hk => hk.elim) (fun _ _ => trivial) HI.out.1 HI.out.2 hsz hlen ?_; intro v1 wA hR4 hB4 _ _; have HR4 := Lib.hid hR4; have HB4 := Lib.hid hB4; clear hR4 hB4)
            go_roundw
            case rel => exact ⟨j + 1, by omega, by go_num, Lib.hid ⟨by rw [← pre_step]; exact HR4.out, HB4.out⟩⟩
            case measure => simp [intOf]; omega
          · obtain rfl : j = g.length := by omega
            go_wp2
            go_roundw
            case rel => exact ⟨k + 1, by omega, by go_num, Lib.hid ⟨by rw [← pre_row]; exact HI.out.1, HI.out.2⟩⟩
            case measure => simp [intOf]; omega
      · obtain rfl : k = g.length := by omega
        obtain ⟨A9, c9, he9, hc9, _⟩ := Kd.R_reads HI.out.1
        subst he9
        have hlen : (pre g.length g.length 0).length ≤ 4000000 := by
          rw [pre_len]
          have : g.length * g.length ≤ 2000 * 2000 := Nat.mul_le_mul hn hn
          omega
        have HSw := Lib.hid (HS.out.below (HI.out.2))
        have HBr := Lib.hid (HB2.out.trans (HI.out.2.mono HB2.out.size))
        have HSo := Lib.hid (solve_calls HSw.out HV.out (Inv.nil st g) A9 c9 (pre g.length g.length 0) (fun W hW => (Kd.R_reads' (R_kp (R_apartB HI.out.1 hBl) hW)).2.2) (fun p hp => by rw [pre_all] at hp; exact sq_in hp) hlen)
        clear HI hc9
        go_wp2_with fail
        refine HSo.out.mono ?_
        clear HSo
        rintro e w3 ⟨m3, rfl, hM3, hK3, hF3, _, hV3⟩
        have HS3 := Lib.hid (HSw.out.step hK3 hM3)
        have HB3 := Lib.hid (HBr.out.trans (hK3.below (B := w.heap.size) hBw HBr.out.size))
        have HGet := Lib.hid (show ∀ a b : Nat, a < g.length → b < g.length → get m3 ((a : Int), (b : Int)) = some (if standsB st g ((a : Int), (b : Int)) then 1 else 0) from fun a b ha hb =>
          (hV3 _ (hF3 _ (by rw [pre_all]; exact mem_sq ⟨by simp only; omega, by simp only; omega, by simp only; omega, by simp only; omega⟩))).1)
        clear hM3 hK3 hF3 hV3 HSw HBr hlen
        go_wp2
        have hwB := HB3.out.size
        go_loopw [4, 49] (fun s4 s49 W => ∃ k : Nat, k ≤ g.length ∧ s49 = .int .i64 k ∧ Hid ((Kd.slice 4 Kd.bool).R 45 W w3.heap.size (fun _ => True) s4 (tableB st g k) ∧ Below w3.heap.size w3 W)) (fun _ s49 _ => g.length - (intOf s49).toNat)
        case atStart => exact ⟨0, Nat.zero_le _, rfl, Lib.hid ⟨Kd.R_nil _ _ _ _ _, Below.refl _ _⟩⟩
        case round =>
          obtain ⟨k, hk, rfl, HI⟩ := hrel
          by_cases hlt : k < g.length
          · obtain ⟨w4, hmk, hR4, hb4, hs4⟩ := make_bools wr g.length (by omega)
            have HR4 := Lib.hid hR4
            have HB4 := Lib.hid hb4
            clear hR4 hb4
            have hBs := HI.out.2.size
            obtain ⟨wa, hwa⟩ : ∃ wa, wa = wr := ⟨_, rfl⟩
            subst hwa
            go_wp2
            clear hmk
            go_loopw [57] (fun s57 W => ∃ j : Nat, j ≤ g.length ∧ s57 = .int .i64 j ∧ Hid (Kd.bool.R 4 W wa.heap.size (fun _ => True) (.slice (some ⟨wa.heap.size, 0, none⟩) g.length g.length) ((List.range g.length).map fun b => if b < j then standsB st g ((k : Int), (b : Int)) else false) ∧ Below wa.heap.size wa W)) (fun s57 _ => g.length - (intOf s57).toNat)
            case atStart => exact ⟨0, Nat.zero_le _, rfl, Lib.hid ⟨by rw [row_zero]; exact HR4.out, HB4.out⟩⟩
            case round =>
              obtain ⟨j, hj, rfl, HJ⟩ := hrel
              by_cases hjt : j < g.length
              · have hbW := (HI.out.2.trans (HJ.out.2.mono hBs))
                have HbW := Lib.hid hbW
                have HSx := Lib.hid (HS3.out.below hbW)
                have hx2 := HSx.out.x2
                have hlk := HSx.out.map.lookup1 pairKey Tryd.underlying84 zero3 ((k : Int), (j : Int))
                simp only [HGet.out k j hlt hjt, pairV, Option.map_some, Option.getD_some] at hlk
                obtain ⟨hcell, hfz⟩ := Kd.R_celln false HJ.out.1 (j : Int) (by omega) (by omega)
                have HPut := Lib.hid (Kd.R_putn HJ.out.1 (j : Int) (standsB st g ((k : Int), (j : Int))))
                simp only [Int.toNat_natCast] at hcell hfz
                have HJ2 := Lib.hid HJ.out.2
                clear hbW HJ
                cases hst : standsB st g ((k : Int), (j : Int)) with
                | true =>
                  simp only [hst, if_true] at hlk
                  rw [hst] at HPut
                  have HSt := Lib.hid hst
                  clear hst
                  go_wp2
                  go_roundw
                  case rel => exact ⟨j + 1, by omega, by go_num, Lib.hid ⟨by have h := HPut.out; rw [Int.toNat_natCast, row_set g.length j (fun b => standsB st g ((k : Int), (b : Int))) _ HSt.out] at h; exact h, HJ2.out.setCell (Nat.le_refl _) _⟩⟩
                  case measure => simp [intOf]; omega
                | false =>
                  simp only [hst] at hlk
                  rw [hst] at HPut
                  have HSt := Lib.hid hst
                  clear hst
                  go_wp2
                  go_roundw
                  case rel => exact ⟨j + 1, by omega, by go_num, Lib.hid ⟨by have h := HPut.out; rw [Int.toNat_natCast, row_set g.length j (fun b => standsB st g ((k : Int), (b : Int))) _ HSt.out] at h; exact h, HJ2.out.setCell (Nat.le_refl _) _⟩⟩
                  case measure => simp [intOf]; omega
              · obtain rfl : j = g.length := by omega
                have HRw := Lib.hid (show Kd.bool.R 4 wr wa.heap.size (fun _ => True) _ (rowB st g k) from by have h := HJ.out.1; rwa [row_full g.length (fun b => standsB st g ((k : Int), (b : Int)))] at h)
                have HOut := Lib.hid (Kd.R_step HI.out.1 (fun b _ hb => HJ.out.2.block b hb))
                have HbW := Lib.hid (HI.out.2.trans (HJ.out.2.mono hBs))
                have hszw := HbW.out.size
                have hown := fun b (hb : wa.heap.size ≤ b) => (show True ∧ some b ≠ _ from ⟨trivial, fun he => by have := ((Kd.R_bound HI.out.1).1 b he.symm).2.2.1; omega⟩)
                have HRp := Lib.hid (Kd.R_lower (Kd.R_mono (Kd.R_bound HRw.out) (ok' := fun b => wa.heap.size ≤ b) (fun b hb => hb.2.1)) hBs)
                have htl : ((tableB st g k).length + 1) * 24 ≤ 140737488355328 := by unfold tableB; simp; omega
                clear hs4
                go_wp2_with (at_builtin; refine Kd.R_append (Kd.slice 4 Kd.bool) (w0 := w3) w3.heap.size rfl (.tmp 73) (.tmp 75) 41 45 (.slice none 0 0) 24 rfl Tryd.underlying41 info45 rfl (by decide) (by omega) _ (tableB st g k) (rowB st g k) [.slice (some ⟨wa.heap.size, 0, none⟩) g.length g.length] (fun _ => True) (fun b => wa.heap.size ≤ b) rfl rfl ⟨_, rfl, HRp.out⟩ hown (fun _ _ => trivial) HOut.out HbW.out hszw htl ?_; intro v1 wA hR5 hB5 _ _; have HR5 := Lib.hid hR5; have HB5 := Lib.hid hB5; clear hR5 hB5)
                go_roundw
                case rel => exact ⟨k + 1, by omega, by go_num, Lib.hid ⟨by unfold tableB; rw [List.range_succ, List.map_append]; exact HR5.out, HB5.out⟩⟩
                case measure => simp [intOf]; omega
          · obtain rfl : k = g.length := by omega
            go_wp2
            refine bodyPost_ret (results_tmp2 rfl _ _ _) rfl ?_
            exact ⟨HB3.out.trans (HI.out.2.mono hwB), .inr ⟨HQ.out, _, rfl, Kd.R_lower HI.out.1 hwB⟩⟩
  · have d1 : (checkP g != 0) = true := by simp [hq]
    have HQ := Lib.hid hq
    clear hq
    obtain ⟨q, hqq⟩ : ∃ q, q = checkP g := ⟨_, rfl⟩
    rw [← hqq] at d1 ⊢
    have HE := Lib.hid hqq
    clear hqq
    go_wp2
    refine bodyPost_ret (results_tmp2 rfl _ _ _) rfl ?_
    exact ⟨HB1.out, .inl ⟨HQ.out, by rw [← HE.out]; rfl⟩⟩
end Go.Proofs.YtcljgfpcdlnlkaaDoor.Q
namespace Go.Proofs.YtcljgfpcdlnlkaaDoor.Q
open Go.RowKit Go.Proofs.YtcljgfpcdlnlkaaDoorW.PrintWords Mp
theorem stands_fix (st : Bool) (g : List S37) (p : Int × Int) : standsB st g p = holdsB st g p (standsB st g) := by
  rw [Bool.eq_iff_iff]
  refine ⟨stands_holds, fun h => ?_⟩
  refine stands_of (fun q => standsB st g q || decide (q = p)) (fun q hq => ?_) p (by simp)
  rcases Bool.or_eq_true _ _ ▸ hq with h1 | h1
  · exact holdsB_mono (fun r hr => by simp [hr]) (stands_holds h1)
  · rw [of_decide_eq_true h1]
    exact holdsB_mono (fun r hr => by simp [hr]) h
theorem members_one {g : List S37} {a : Int} (h0 : 0 ≤ a) (h1 : a < g.length) (h8 : (rd_T37 g a).f0 ≠ 8) : membersL g a = [a] := by
  unfold membersL
  rw [if_neg (by omega), if_neg h8]
/-- Of what is no union: it stands just if it is picked by something. -/
theorem stands_pick {st : Bool} {g : List S37} {a b : Int} (h0 : 0 ≤ a) (h1 : a < g.length) (h8 : (rd_T37 g a).f0 ≠ 8) : standsB st g (a, b) = true ↔ pickB st g a b (standsB st g) ≠ -2 := by
  rw [stands_fix, holdsB_iff]
  show (∀ s ∈ membersL g a, _) ↔ _
  rw [members_one h0 h1 h8]
  simp
theorem pickFrom_some {st : Bool} {g : List S37} {s : S37} {R : Rel} {l : List Int} {i j : Nat} (h : pickFrom st g s R l i = some j) :
    i ≤ j ∧ j < i + l.length ∧ doesB st s (rd_T37 g (rd l ((j - i : Nat) : Int))) R = true ∧ ∀ k : Nat, k < j - i → doesB st s (rd_T37 g (rd l (k : Int))) R = false := by
  induction l generalizing i with
  | nil => cases h
  | cons x l ih =>
    simp only [pickFrom] at h
    by_cases hd : doesB st s (rd_T37 g x) R = true
    · rw [if_pos hd] at h
      cases h
      refine ⟨Nat.le_refl _, by simp, ?_, fun k hk => absurd hk (by omega)⟩
      rw [Nat.sub_self]
      exact hd
    · rw [if_neg hd] at h
      obtain ⟨h1, h2, h3, h4⟩ := ih h
      refine ⟨by omega, by simp only [List.length_cons]; omega, ?_, fun k hk => ?_⟩
      · rw [show j - i = (j - (i + 1)) + 1 by omega]
        exact h3
      · cases k with
        | zero =>
        show doesB st s (rd_T37 g x) R = false
        simpa using hd
        | succ k => exact h4 k (by omega)
theorem pickB_cases (st : Bool) (g : List S37) (a b : Int) (R : Rel) :
    (∃ j : Nat, pickB st g a b R = j ∧ j < (membersL g b).length ∧ doesB st (rd_T37 g a) (rd_T37 g (rd (membersL g b) (j : Int))) R = true ∧ ∀ k : Nat, k < j → doesB st (rd_T37 g a) (rd_T37 g (rd (membersL g b) (k : Int))) R = false) ∨
    (pickB st g a b R = -1 ∧ (rd_T37 g a).f0 = 9 ∧ R (rd (rd_T37 g a).f4 0, b) = true) ∨ pickB st g a b R = -2 := by
  unfold pickB
  cases e : pickFrom st g (rd_T37 g a) R (membersL g b) 0 with
  | some j =>
    obtain ⟨_, h2, h3, h4⟩ := pickFrom_some e
    exact .inl ⟨j, rfl, by omega, by simpa using h3, fun k hk => h4 k (by omega)⟩
  | none =>
    by_cases h : (rd_T37 g a).f0 = 9 ∧ R (rd (rd_T37 g a).f4 0, b) = true
    · exact .inr (.inl ⟨if_pos h, h.1, h.2⟩)
    · exact .inr (.inr (if_neg h))
theorem check_all {g : List S37} (h : checkP g = 0) : ∀ x ∈ g, mayB g x = true := (valid_of_check h).may
theorem rd37_mem {g : List S37} {a : Int} (h0 : 0 ≤ a) (h1 : a < g.length) : rd_T37 g a ∈ g := rd_in h0 h1
theorem may_var {g : List S37} {x : S37} (h : mayB g x = true) (h9 : x.f0 = 9) : ∃ k, x.f4 = [k] ∧ 0 ≤ k ∧ k < g.length := by
  have h1 := (may_fine h (by omega)).vars h9
  match hx : x.f4, h1 with
  | [k], _ => exact ⟨k, rfl, may_in h k (by rw [hx]; simp)⟩
/-- What a type is of, in a graph that may be: places, no unions. -/
theorem members_in {g : List S37} (h : ∀ x ∈ g, mayB g x = true) {b k : Int} (hk : k ∈ membersL g b) : 0 ≤ k ∧ k < g.length ∧ (rd_T37 g k).f0 ≠ 8 := by
  unfold membersL at hk
  split at hk
  · cases hk
  · rename_i hb
    have hm := h _ (rd37_mem (g := g) (a := b) (by omega) (by omega))
    split at hk
    · rename_i h8
      exact ⟨(may_in hm k hk).1, (may_in hm k hk).2, (may_union hm h8).1 k hk⟩
    · rename_i h8
      rw [List.mem_singleton.1 hk]
      exact ⟨by omega, by omega, h8⟩
theorem mayOf_two {g : List S37} {a b : Int} (ha : 0 ≤ a ∧ a < g.length) (hb : 0 ≤ b ∧ b < g.length) : mayOf g [a, b] = decide (checkP g = 0) := by
  rw [Bool.eq_iff_iff, mayOf_iff, decide_eq_true_eq]
  constructor
  · exact fun h => h.1
  · intro h
    refine ⟨h, fun k hk => ?_⟩
    rcases List.mem_cons.1 hk with rfl | hk
    · exact ha
    · rw [List.mem_singleton.1 hk]; exact hb
/-- What is asked of a non union and of one of its like. -/
theorem ask_pick {st : Bool} {g : List S37} {a b : Int} (hc : checkP g = 0) (ha : 0 ≤ a ∧ a < g.length) (hb : 0 ≤ b ∧ b < g.length) (h8 : (rd_T37 g a).f0 ≠ 8) : askB st g a b = true ↔ pickB st g a b (standsB st g) ≠ -2 := by
  unfold askB
  rw [mayOf_two ha hb, decide_eq_true hc, Bool.true_and]
  exact stands_pick ha.1 ha.2 h8
structure PickLaw (g : List S37) (a b : Int) : Prop where
  low : -2 ≤ pickP g a b
  high : pickP g a b < (membersL g b).length
  may : askB false g a b = !decide (pickP g a b = -2)
  ahead : ∀ i : Nat, i < (membersL g b).length → (i : Int) < pickP g a b → (rd_T37 g a).f0 ≠ 9 → askB false g a (rd (membersL g b) (i : Int)) = false
  here : ∀ i : Nat, i < (membersL g b).length → (i : Int) = pickP g a b → askB false g a (rd (membersL g b) (i : Int)) = true
  bound : pickP g a b = -1 → (rd_T37 g a).f0 = 9 ∧ askB false g (rd (rd_T37 g a).f4 0) b = true
theorem pick_law {g : List S37} {a b : Int} (ha : 0 ≤ a ∧ a < g.length) (hb : 0 ≤ b ∧ b < g.length) (h8 : (rd_T37 g a).f0 ≠ 8) : PickLaw g a b := by
  by_cases hc : checkP g = 0
  · have hP : pickP g a b = pickB false g a b (standsB false g) := by
      unfold pickP
      rw [mayOf_two ha hb, decide_eq_true hc, if_pos ⟨rfl, h8⟩]
    have hall := check_all hc
    have hask := ask_pick (st := false) hc ha hb h8
    rw [← hP] at hask
    have hone : ∀ i : Nat, i < (membersL g b).length → (askB false g a (rd (membersL g b) (i : Int)) = true ↔ doesB false (rd_T37 g a) (rd_T37 g (rd (membersL g b) (i : Int))) (standsB false g) = true ∨ ((rd_T37 g a).f0 = 9 ∧ standsB false g (rd (rd_T37 g a).f4 0, rd (membersL g b) (i : Int)) = true)) := by
      intro i hi
      have hm := members_in hall (rd_memI (l := membersL g b) (i := (i : Int)) (by omega) (by omega))
      rw [ask_pick hc ha ⟨hm.1, hm.2.1⟩ h8, ne_eq, pickB_none, members_one hm.1 hm.2.1 hm.2.2]
      simp only [List.mem_singleton, forall_eq]
      cases doesB false (rd_T37 g a) (rd_T37 g (rd (membersL g b) (i : Int))) (standsB false g) <;> simp
    refine ⟨?_, ?_, ?_, ?_, ?_, ?_⟩
    · rw [hP]
      rcases pickB_cases false g a b (standsB false g) with ⟨j, h1, _⟩ | ⟨h1, _⟩ | h1 <;> rw [h1] <;> omega
    · rw [hP]
      rcases pickB_cases false g a b (standsB false g) with ⟨j, h1, h2, _⟩ | ⟨h1, _⟩ | h1 <;> rw [h1] <;> omega
    · rw [Bool.eq_iff_iff, hask]; simp
    · intro i hi hik h9
      rw [hP] at hik
      apply Bool.eq_false_iff.2
      intro ht
      rcases (hone i hi).1 ht with h | h
      · rcases pickB_cases false g a b (standsB false g) with ⟨j, h1, _, _, h4⟩ | ⟨h1, _⟩ | h1
        · rw [h4 i (by omega)] at h; cases h
        · omega
        · omega
      · exact h9 h.1
    · intro i hi hik
      rw [hP] at hik
      rcases pickB_cases false g a b (standsB false g) with ⟨j, h1, _, h3, _⟩ | ⟨h1, _⟩ | h1
      · obtain rfl : i = j := by omega
        exact (hone i hi).2 (.inl h3)
      · omega
      · omega
    · intro h
      rw [hP] at h
      rcases pickB_cases false g a b (standsB false g) with ⟨j, h1, _⟩ | ⟨h1, h2, h3⟩ | h1
      · omega
      · obtain ⟨k, hk, hk0, hk1⟩ := may_var (hall _ (rd37_mem ha.1 ha.2)) h2
        refine ⟨h2, ?_⟩
        have hr : rd (rd_T37 g a).f4 0 = k := by rw [hk]; rfl
        rw [hr] at h3 ⊢
        unfold askB
        rw [mayOf_two ⟨hk0, hk1⟩ hb, decide_eq_true hc, h3]
        rfl
      · omega
  · have hno : ∀ x y, askB false g x y = false := fun x y => by
      have : mayOf g [x, y] = false := by unfold mayOf; rw [decide_eq_false hc]; rfl
      unfold askB
      rw [this]
      rfl
    have hP : pickP g a b = -2 := by
      unfold pickP
      rw [mayOf_two ha hb, decide_eq_false hc, if_neg (by simp)]
    refine ⟨by omega, by omega, by rw [hno, hP]; rfl, fun i _ h => by omega, fun i _ h => by omega, fun h => by omega⟩
end Go.Proofs.YtcljgfpcdlnlkaaDoor.Q
namespace Go.Proofs.YtcljgfpcdlnlkaaDoor.Q
open Go.RowKit Go.Proofs.YtcljgfpcdlnlkaaDoorW.PrintWords Mp
/-- A key that stands somewhere stands there. -/
theorem keyAt_at {l : List ByteArray} {s : ByteArray} (h : 0 ≤ keyAt l s) : ∃ k : Nat, keyAt l s = k ∧ k < l.length ∧ l.getD k ByteArray.empty = s := by
  induction l with
  | nil => simp [keyAt] at h
  | cons x l ih =>
    by_cases hx : x = s
    · exact ⟨0, by simp only [keyAt, if_pos hx]; rfl, by simp, by simpa using hx⟩
    · simp only [keyAt, if_neg hx] at h ⊢
      by_cases hk : keyAt l s < 0
      · rw [if_pos hk] at h; exact absurd h (by decide)
      · obtain ⟨k, h1, h2, h3⟩ := ih (by omega)
        rw [if_neg hk]
        exact ⟨k + 1, by rw [h1]; simp, by simpa using h2, by simpa using h3⟩
theorem keyAt_nodup {l : List ByteArray} (h : l.Nodup) {i : Nat} (hi : i < l.length) : keyAt l (l.getD i ByteArray.empty) = i := by
  refine keyAt_some l _ i hi rfl fun j hj he => ?_
  rw [List.getD_eq_getElem?_getD, List.getD_eq_getElem?_getD, List.getElem?_eq_getElem hi, List.getElem?_eq_getElem (show j < l.length by omega)] at he
  exact (List.pairwise_iff_getElem.1 h) j i (by omega) hi hj (by simpa using he)
theorem recordB_iff {s t : S37} {R : Rel} : recordB s t R = true ↔ ∀ i : Nat, i < t.f3.length → 0 ≤ keyAt s.f3 (t.f3.getD i ByteArray.empty) ∧ R (rd s.f4 (keyAt s.f3 (t.f3.getD i ByteArray.empty)), rd t.f4 (i : Int)) = true := by
  unfold recordB
  rw [List.all_eq_true]
  simp only [List.mem_range, fieldB, Bool.and_eq_true, decide_eq_true_eq]
theorem doesB_refl {st : Bool} {s : S37} {R : Rel} (hR : ∀ x, R (x, x) = true) (hk : s.f3.Nodup) : doesB st s s R = true := by
  unfold doesB
  by_cases h1 : s.f0 = 1 ∨ s.f0 = 1
  · rw [if_pos h1]; simp
  rw [if_neg h1, decide_eq_true rfl, Bool.true_and]
  by_cases h5 : s.f0 = 5
  · rw [if_pos h5]; simp
  by_cases h7 : s.f0 = 7
  · rw [if_neg h5, if_pos h7, recordB_iff]
    intro i hi
    rw [keyAt_nodup hk hi]
    exact ⟨by omega, hR _⟩
  by_cases h9 : s.f0 = 9
  · rw [if_neg h5, if_neg h7, if_pos h9]
    unfold variableB
    rw [hR]
    simp
  · rw [if_neg h5, if_neg h7, if_neg h9]
theorem pick_of_does {st : Bool} {g : List S37} {a b k : Int} {R : Rel} (hk : k ∈ membersL g b) (h : doesB st (rd_T37 g a) (rd_T37 g k) R = true) : pickB st g a b R ≠ -2 := by
  rw [ne_eq, pickB_none]
  intro hn
  rw [hn.1 k hk] at h
  cases h
theorem pick_of_bound {st : Bool} {g : List S37} {a b : Int} {R : Rel} (h9 : (rd_T37 g a).f0 = 9) (h : R (rd (rd_T37 g a).f4 0, b) = true) : pickB st g a b R ≠ -2 := by
  rw [ne_eq, pickB_none]
  exact fun hn => hn.2 ⟨h9, h⟩
theorem pick_or {st : Bool} {g : List S37} {a b : Int} {R : Rel} (h : pickB st g a b R ≠ -2) : (∃ k ∈ membersL g b, doesB st (rd_T37 g a) (rd_T37 g k) R = true) ∨ ((rd_T37 g a).f0 = 9 ∧ R (rd (rd_T37 g a).f4 0, b) = true) := by
  rcases Classical.em (∃ k ∈ membersL g b, doesB st (rd_T37 g a) (rd_T37 g k) R = true) with h1 | h1
  · exact .inl h1
  · refine .inr (Classical.byContradiction fun h2 => h (pickB_none.2 ⟨fun k hk => ?_, h2⟩))
    exact Bool.eq_false_iff.2 fun h3 => h1 ⟨k, hk, h3⟩
theorem rd37_keys {g : List S37} (h : ∀ x ∈ g, x.f3.Nodup) (a : Int) : (rd_T37 g a).f3.Nodup := by
  unfold rd_T37
  rw [List.getD_eq_getElem?_getD]
  cases e : g[a.toNat]? with
  | none => exact List.nodup_nil
  | some x => exact h x (List.mem_of_getElem? e)
theorem stands_refl {st : Bool} {g : List S37} (h : ∀ x ∈ g, x.f3.Nodup) (a : Int) : standsB st g (a, a) = true := by
  refine stands_of (fun p => decide (p.1 = p.2)) (fun q hq => ?_) (a, a) (by simp)
  rw [holdsB_iff]
  intro s hs
  rw [← of_decide_eq_true hq]
  exact pick_of_does hs (doesB_refl (fun x => by simp) (rd37_keys h s))
/-- One behind the other. -/
noncomputable def thenB (S T : Rel) : Rel := fun p => @decide (∃ b, S (p.1, b) = true ∧ T (b, p.2) = true) (Classical.propDecidable _)
theorem thenB_iff {S T : Rel} {p : Int × Int} : thenB S T p = true ↔ ∃ b, S (p.1, b) = true ∧ T (b, p.2) = true := by unfold thenB; exact @decide_eq_true_iff _ (Classical.propDecidable _)
theorem does_trans {s k m : S37} {S T : Rel} (h1 : doesB true s k S = true) (h2 : doesB true k m T = true) : doesB true s m (thenB S T) = true := by
  unfold doesB at h1 h2 ⊢
  by_cases a1 : s.f0 = 1 ∨ k.f0 = 1
  · rw [if_pos a1] at h1
    have e1 : s.f0 = k.f0 := by simpa using h1
    rw [if_pos (by omega)] at h2
    have e2 : k.f0 = m.f0 := by simpa using h2
    rw [if_pos (by omega)]
    simp only [Bool.not_true, Bool.false_or, decide_eq_true_eq]
    omega
  · rw [if_neg a1] at h1
    simp only [Bool.and_eq_true, decide_eq_true_eq] at h1
    obtain ⟨e1, h1⟩ := h1
    by_cases a2 : k.f0 = 1 ∨ m.f0 = 1
    · rw [if_pos a2] at h2
      have e2 : k.f0 = m.f0 := by simpa using h2
      omega
    · rw [if_neg a2] at h2
      simp only [Bool.and_eq_true, decide_eq_true_eq] at h2
      obtain ⟨e2, h2⟩ := h2
      rw [if_neg (by omega), decide_eq_true (show s.f0 = m.f0 by omega), Bool.true_and]
      by_cases h5 : s.f0 = 5
      · rw [if_pos h5] at h1 ⊢
        rw [if_pos (by omega)] at h2
        have := of_decide_eq_true h1
        have := of_decide_eq_true h2
        simp_all
      by_cases h7 : s.f0 = 7
      · rw [if_neg h5, if_pos h7] at h1 ⊢
        rw [if_neg (by omega), if_pos (by omega)] at h2
        rw [recordB_iff] at h1 h2 ⊢
        intro i hi
        obtain ⟨g1, g2⟩ := h2 i hi
        obtain ⟨j, hj, hjl, hje⟩ := keyAt_at g1
        have := h1 j hjl
        rw [hje] at this
        rw [hj] at g2
        exact ⟨this.1, thenB_iff.2 ⟨_, this.2, g2⟩⟩
      by_cases h9 : s.f0 = 9
      · rw [if_neg h5, if_neg h7, if_pos h9] at h1 ⊢
        rw [if_neg (by omega), if_neg (by omega), if_pos (by omega)] at h2
        unfold variableB at h1 h2 ⊢
        simp only [Bool.and_eq_true, decide_eq_true_eq] at h1 h2 ⊢
        exact ⟨h1.1.trans h2.1, thenB_iff.2 ⟨_, h1.2, h2.2⟩⟩
      · rw [if_neg h5, if_neg h7, if_neg h9]
theorem does_var {s k : S37} {S : Rel} (h : doesB true s k S = true) (h9 : k.f0 = 9) : s.f0 = 9 ∧ S (rd s.f4 0, rd k.f4 0) = true := by
  unfold doesB at h
  by_cases a1 : s.f0 = 1 ∨ k.f0 = 1
  · rw [if_pos a1] at h
    have e1 : s.f0 = k.f0 := by simpa using h
    omega
  · rw [if_neg a1] at h
    simp only [Bool.and_eq_true, decide_eq_true_eq] at h
    obtain ⟨e1, h⟩ := h
    rw [if_neg (by omega), if_neg (by omega), if_pos (by omega)] at h
    unfold variableB at h
    simp only [Bool.and_eq_true, decide_eq_true_eq] at h
    exact ⟨by omega, h.2⟩
theorem stands_trans {g : List S37} {a b c : Int} (h1 : standsB true g (a, b) = true) (h2 : standsB true g (b, c) = true) : standsB true g (a, c) = true := by
  refine stands_of (thenB (standsB true g) (standsB true g)) (fun q hq => ?_) (a, c) (thenB_iff.2 ⟨b, h1, h2⟩)
  obtain ⟨y, hxy, hyz⟩ := thenB_iff.1 hq
  have hh1 := holdsB_iff.1 (stands_holds hxy)
  have hh2 := holdsB_iff.1 (stands_holds hyz)
  rw [holdsB_iff]
  intro s hs
  rcases pick_or (hh1 s hs) with ⟨k, hk, hd⟩ | ⟨h9, hb⟩
  · rcases pick_or (hh2 k hk) with ⟨m, hm, hd2⟩ | ⟨h9, hb⟩
    · exact pick_of_does hm (does_trans hd hd2)
    · have := does_var hd h9
      exact pick_of_bound this.1 (thenB_iff.2 ⟨_, this.2, hb⟩)
  · exact pick_of_bound h9 (thenB_iff.2 ⟨_, hb, hyz⟩)
end Go.Proofs.YtcljgfpcdlnlkaaDoor.Q
namespace Go.Proofs.YtcljgfpcdlnlkaaDoor.Q
open Go.RowKit Go.Proofs.YtcljgfpcdlnlkaaDoorW.PrintWords Mp
/-- The rule reads pairs of places alone. -/
theorem recordB_in {g : List S37} {s t : S37} {R S : Rel} (hs : s.f4.length = s.f3.length) (ht : t.f4.length = t.f3.length) (is : ∀ k ∈ s.f4, 0 ≤ k ∧ k < g.length) (it : ∀ k ∈ t.f4, 0 ≤ k ∧ k < g.length) (h : ∀ q, InG g q → R q = true → S q = true) (hf : recordB s t R = true) : recordB s t S = true := by
  rw [recordB_iff] at hf ⊢
  intro i hi
  obtain ⟨h1, h2⟩ := hf i hi
  refine ⟨h1, h _ ?_ h2⟩
  have hl := (keyAt_lt s.f3 (t.f3.getD i ByteArray.empty)).2
  have a := is _ (rd_memI (l := s.f4) h1 (by omega))
  have b := it _ (rd_memI (l := t.f4) (i := (i : Int)) (by omega) (by omega))
  exact ⟨a.1, a.2, b.1, b.2⟩
theorem does_in {st : Bool} {g : List S37} {s t : S37} {R S : Rel} (hs : Fine s) (ht : Fine t) (is : ∀ k ∈ s.f4, 0 ≤ k ∧ k < g.length) (it : ∀ k ∈ t.f4, 0 ≤ k ∧ k < g.length) (h : ∀ q, InG g q → R q = true → S q = true) (hf : doesB st s t R = true) : doesB st s t S = true := by
  unfold doesB at hf ⊢
  by_cases h1 : s.f0 = 1 ∨ t.f0 = 1
  · rw [if_pos h1] at hf ⊢; exact hf
  rw [if_neg h1] at hf ⊢
  simp only [Bool.and_eq_true, decide_eq_true_eq] at hf ⊢
  obtain ⟨e, hf⟩ := hf
  refine ⟨e, ?_⟩
  by_cases h5 : s.f0 = 5
  · rw [if_pos h5] at hf ⊢; exact hf
  by_cases h7 : s.f0 = 7
  · rw [if_neg h5, if_pos h7] at hf ⊢
    exact recordB_in (hs.recs h7) (ht.recs (by omega)) is it h hf
  by_cases h9 : s.f0 = 9
  · rw [if_neg h5, if_neg h7, if_pos h9] at hf ⊢
    unfold variableB at hf ⊢
    simp only [Bool.and_eq_true, decide_eq_true_eq] at hf ⊢
    refine ⟨hf.1, h _ ?_ hf.2⟩
    have ls := hs.vars h9
    have lt := ht.vars (by omega)
    have a := is _ (rd_memI (l := s.f4) (i := 0) (by omega) (by omega))
    have b := it _ (rd_memI (l := t.f4) (i := 0) (by omega) (by omega))
    exact ⟨a.1, a.2, b.1, b.2⟩
  · rw [if_neg h5, if_neg h7, if_neg h9]
theorem holdsB_in {st : Bool} {g : List S37} {R S : Rel} (hv : Valid g) (h : ∀ q, InG g q → R q = true → S q = true) {a b : Int} (hp : InG g (a, b)) (hf : holdsB st g (a, b) R = true) : holdsB st g (a, b) S = true := by
  rw [holdsB_iff] at hf ⊢
  intro s hs
  have hsi := (hv.members hp.1 hp.2.1).1 s hs
  rcases pick_or (hf s hs) with ⟨k, hk, hd⟩ | ⟨h9, hb⟩
  · have hki := (hv.members hp.2.2.1 hp.2.2.2).1 k hk
    exact pick_of_does hk (does_in (hv.fine hsi.1 hsi.2.1 hsi.2.2) (hv.fine hki.1 hki.2.1 hki.2.2) (hv.inside hsi.1 hsi.2.1) (hv.inside hki.1 hki.2.1) h hd)
  · have ls := (hv.fine hsi.1 hsi.2.1 hsi.2.2).vars h9
    have a := hv.inside hsi.1 hsi.2.1 _ (rd_memI (l := (rd_T37 g s).f4) (i := 0) (by omega) (by omega))
    exact pick_of_bound h9 (h _ ⟨a.1, a.2, hp.2.2.1, hp.2.2.2⟩ hb)
theorem holdsB_alike {st : Bool} {g : List S37} {R S : Rel} (hv : Valid g) (h : ∀ q, InG g q → R q = S q) {a b : Int} (hp : InG g (a, b)) : holdsB st g (a, b) R = holdsB st g (a, b) S := by
  rw [Bool.eq_iff_iff]
  exact ⟨holdsB_in hv (fun q hq e => by rw [← h q hq]; exact e) hp, holdsB_in hv (fun q hq e => by rw [h q hq]; exact e) hp⟩
/-! tables -/
def getT (M : List (List Bool)) (a b : Nat) : Bool := (M.getD a []).getD b false
def setT (M : List (List Bool)) (a b : Nat) : List (List Bool) := M.set a ((M.getD a []).set b false)
structure Sq (n : Nat) (M : List (List Bool)) : Prop where
  len : M.length = n
  row : ∀ i, i < n → (M.getD i []).length = n
theorem getD_set {α : Type} (l : List α) (d : α) (i j : Nat) (x : α) (hi : i < l.length) : (l.set i x).getD j d = if j = i then x else l.getD j d := by
  rw [List.getD_eq_getElem?_getD, List.getD_eq_getElem?_getD, List.getElem?_set]
  by_cases h : j = i
  · subst h; simp [hi]
  · rw [if_neg h, if_neg (fun e => h e.symm)]
theorem Sq.set {n : Nat} {M : List (List Bool)} (h : Sq n M) {a b : Nat} (ha : a < n) : Sq n (setT M a b) := ⟨by simp [setT, h.len], fun i hi => by
  unfold setT
  rw [getD_set _ _ _ _ _ (by rw [h.len]; exact ha)]
  split
  · rw [List.length_set]; exact h.row a ha
  · exact h.row i hi⟩
theorem getT_set {n : Nat} {M : List (List Bool)} (h : Sq n M) {a b : Nat} (ha : a < n) (hb : b < n) (i j : Nat) : getT (setT M a b) i j = (getT M i j && !(decide (i = a) && decide (j = b))) := by
  unfold getT setT
  rw [getD_set _ _ _ _ _ (by rw [h.len]; exact ha)]
  by_cases hi : i = a
  · subst hi
    rw [if_pos rfl, getD_set _ _ _ _ _ (by rw [h.row i ha]; exact hb)]
    by_cases hj : j = b
    · rw [if_pos hj]; simp [hj]
    · rw [if_neg hj]; simp [hj]
  · rw [if_neg hi]; simp [hi]
def relT (n : Nat) (M : List (List Bool)) : Rel := fun p => (decide (0 ≤ p.1) && decide (p.1 < n) && decide (0 ≤ p.2) && decide (p.2 < n)) && getT M p.1.toNat p.2.toNat
theorem relT_nat {n : Nat} {M : List (List Bool)} {i j : Nat} (hi : i < n) (hj : j < n) : relT n M ((i : Int), (j : Int)) = getT M i j := by
  unfold relT
  simp [hi, hj]
theorem relT_in {g : List S37} {M : List (List Bool)} {p : Int × Int} (h : relT g.length M p = true) : InG g p := by
  unfold relT at h
  simp only [Bool.and_eq_true, decide_eq_true_eq] at h
  exact ⟨h.1.1.1.1, h.1.1.1.2, h.1.1.2, h.1.2⟩
/-- What taking away keeps: what stands is still there. -/
structure Fix (st : Bool) (g : List S37) (M : List (List Bool)) : Prop where
  sq : Sq g.length M
  sound : ∀ i j : Nat, i < g.length → j < g.length → standsB st g ((i : Int), (j : Int)) = true → getT M i j = true
theorem Fix.full (st : Bool) (g : List S37) : Fix st g (List.replicate g.length (List.replicate g.length true)) := ⟨⟨by simp, fun i hi => by simp [List.getD_eq_getElem?_getD, hi]⟩, fun i j hi hj _ => by simp [getT, List.getD_eq_getElem?_getD, hi, hj]⟩
theorem Fix.le {st : Bool} {g : List S37} {M : List (List Bool)} (h : Fix st g M) (q : Int × Int) (hq : InG g q) (hs : standsB st g q = true) : relT g.length M q = true := by
  obtain ⟨a, b⟩ := q
  obtain ⟨h0, h1, h2, h3⟩ := hq
  simp only at h0 h1 h2 h3
  obtain ⟨i, rfl⟩ : ∃ i : Nat, a = i := ⟨a.toNat, by omega⟩
  obtain ⟨j, rfl⟩ : ∃ j : Nat, b = j := ⟨b.toNat, by omega⟩
  rw [relT_nat (by omega) (by omega)]
  exact h.sound i j (by omega) (by omega) hs
theorem Fix.step {st : Bool} {g : List S37} {M : List (List Bool)} (h : Fix st g M) (hv : Valid g) {a b : Nat} (ha : a < g.length) (hb : b < g.length) (hn : holdsB st g ((a : Int), (b : Int)) (relT g.length M) = false) : Fix st g (setT M a b) := ⟨h.sq.set ha, fun i j hi hj hs => by
  rw [getT_set h.sq ha hb, h.sound i j hi hj hs, Bool.true_and, Bool.not_eq_true']
  apply Bool.eq_false_iff.2
  intro e
  simp only [Bool.and_eq_true, decide_eq_true_eq] at e
  obtain ⟨rfl, rfl⟩ := e
  have := holdsB_in hv h.le (a := (i : Int)) (b := (j : Int)) ⟨by simp only; omega, by simp only; omega, by simp only; omega, by simp only; omega⟩ (stands_holds hs)
  rw [hn] at this
  cases this⟩
/-- A table in which nothing is to be taken away is what stands. -/
theorem Fix.done {st : Bool} {g : List S37} {M : List (List Bool)} (h : Fix st g M) (hall : ∀ i j : Nat, i < g.length → j < g.length → getT M i j = true → holdsB st g ((i : Int), (j : Int)) (relT g.length M) = true) : M = tableB st g g.length := by
  have hpost : Le (relT g.length M) (standsB st g) := stands_of _ (fun q hq => by
    have hi := relT_in hq
    obtain ⟨a, b⟩ := q
    obtain ⟨h0, h1, h2, h3⟩ := hi
    simp only at h0 h1 h2 h3
    obtain ⟨i, rfl⟩ : ∃ i : Nat, a = i := ⟨a.toNat, by omega⟩
    obtain ⟨j, rfl⟩ : ∃ j : Nat, b = j := ⟨b.toNat, by omega⟩
    rw [relT_nat (by omega) (by omega)] at hq
    exact hall i j (by omega) (by omega) hq)
  have hget : ∀ i j : Nat, i < g.length → j < g.length → getT M i j = standsB st g ((i : Int), (j : Int)) := fun i j hi hj => by
    rw [Bool.eq_iff_iff]
    refine ⟨fun e => hpost _ (by rw [relT_nat hi hj]; exact e), h.sound i j hi hj⟩
  refine List.ext_getElem (by simp [tableB, h.sq.len]) fun i h1 h2 => ?_
  have hi : i < g.length := by rw [← h.sq.len]; exact h1
  have hrow := h.sq.row i hi
  have e1 : M.getD i [] = M[i] := by rw [List.getD_eq_getElem?_getD, List.getElem?_eq_getElem h1]; rfl
  refine List.ext_getElem (by rw [← e1, hrow]; simp [tableB, rowB]) fun j h3 h4 => ?_
  have hj : j < g.length := by rw [← hrow, e1]; exact h3
  have := hget i j hi hj
  unfold getT at this
  rw [e1, List.getD_eq_getElem?_getD, List.getElem?_eq_getElem h3] at this
  simpa [tableB, rowB] using this
theorem getT_table {st : Bool} {g : List S37} {i j : Nat} (hi : i < g.length) (hj : j < g.length) : getT (tableB st g g.length) i j = standsB st g ((i : Int), (j : Int)) := by
  unfold getT tableB rowB
  simp [List.getD_eq_getElem?_getD, hi, hj]
theorem sq_table (st : Bool) (g : List S37) : Sq g.length (tableB st g g.length) := ⟨by simp [tableB], fun i hi => by simp [tableB, rowB, List.getD_eq_getElem?_getD, hi]⟩
/-! how much there is left to take away -/
def cntR (r : List Bool) : Nat := (r.filter id).length
def cntT (M : List (List Bool)) : Nat := (M.map cntR).sum
theorem cntR_set {r : List Bool} {b : Nat} (h : r.getD b false = true) : cntR (r.set b false) < cntR r := by
  induction r generalizing b with
  | nil => simp at h
  | cons x r ih =>
    cases b with
    | zero =>
      have : x = true := by simpa using h
      subst this
      simp [cntR]
    | succ b =>
      have := ih (b := b) (by simpa using h)
      simp only [cntR, List.set_cons_succ] at this ⊢
      cases x <;> simpa using this
theorem cntT_set {M : List (List Bool)} {a b : Nat} (h : getT M a b = true) : cntT (setT M a b) < cntT M := by
  unfold getT at h
  unfold setT
  induction M generalizing a with
  | nil => simp at h
  | cons r M ih =>
    cases a with
    | zero =>
      have := cntR_set (r := r) (b := b) (by simpa using h)
      simp only [cntT, List.set_cons_zero, List.getD_cons_zero, List.map_cons, List.sum_cons]
      omega
    | succ a =>
      have := ih (a := a) (by simpa using h)
      simp only [cntT, List.set_cons_succ, List.getD_cons_succ, List.map_cons, List.sum_cons] at this ⊢
      omega
end Go.Proofs.YtcljgfpcdlnlkaaDoor.Q
namespace Go.Proofs.YtcljgfpcdlnlkaaDoor.Q
open Go.RowKit Go.Proofs.YtcljgfpcdlnlkaaDoorW.PrintWords Mp
theorem bool_cell {w : World} {A : Option Addr} {n : Nat} {xs : List Bool} (h : Kd.C Kd.bool w A n xs) (i : Nat) (hi : i < n) : ∃ ad, A = some ad ∧ w.cell? (ad.add i) = some (.bool (xs.getD i false)) := by
  obtain ⟨ad, c, e, _, hK, hc⟩ := Kd.C_get h false i (by omega) (by omega)
  have := hc 0 (.bool (xs.getD i false)) (by rw [show c = [Value.bool (xs.getD (i : Int).toNat false)] from hK]; rfl)
  refine ⟨ad, e, ?_⟩
  simpa [Kd.bool, Kd.scalar] using this
abbrev kRow : Kd (List Bool) := Kd.slice 4 Kd.bool
theorem tab_row {w : World} {A : Option Addr} {n : Nat} {M : List (List Bool)} (h : Kd.C kRow w A n M) (i : Nat) (hi : i < n) : ∃ ad B c, A = some ad ∧ w.cell? (ad.add i) = some (.slice B (M.getD i []).length c) ∧ Kd.C Kd.bool w B (M.getD i []).length (M.getD i []) := by
  obtain ⟨ad, c, e, _, hK, hc⟩ := Kd.C_get h [] i (by omega) (by omega)
  obtain ⟨B, b, rfl, _, hB⟩ := hK
  have := hc 0 _ rfl
  rw [Int.toNat_natCast] at this hB
  refine ⟨ad, B, b, e, ?_, hB⟩
  rw [show (i * kRow.sz + 0) = i from by show i * 1 + 0 = i; omega] at this
  exact this
/-- A cell of a table. -/
theorem tab_cell {w : World} {A : Option Addr} {n : Nat} {M : List (List Bool)} (h : Kd.C kRow w A n M) (hs : Sq n M) (i j : Nat) (hi : i < n) (hj : j < n) : ∃ ad bd c, A = some ad ∧ w.cell? (ad.add i) = some (.slice (some bd) n c) ∧ w.cell? (bd.add j) = some (.bool (getT M i j)) := by
  obtain ⟨ad, B, c, e, h1, h2⟩ := tab_row h i hi
  obtain ⟨bd, rfl, h3⟩ := bool_cell h2 j (by rw [hs.row i hi]; exact hj)
  rw [hs.row i hi] at h1
  exact ⟨ad, bd, c, e, h1, h3⟩
structure Told29 (st : Bool) (g : List S37) (M : List (List Bool)) : Prop where
  sq : Sq g.length M
  get : ∀ i j : Nat, i < g.length → j < g.length → getT M i j = standsB st g ((i : Int), (j : Int))
theorem all_told (w : World) (A : Option Addr) (c : Nat) (g : List S37) (st : Bool) (h0 : checkP g = 0) (hk : KeysIn w) (hg : Kd.C k37 w A g.length g) (hs : ∀ x ∈ g, x.f3.length ≤ 9223372036854775807 ∧ x.f4.length ≤ 9223372036854775807) :
    Calls Tryd.prog 29 #[.slice A g.length c, .bool st] w fun e w' => ∃ B b M, e = .returned (.tuple #[.slice B g.length b, .int .i64 0]) ∧ Kd.C kRow w' B g.length M ∧ Told29 st g M ∧ Below w.heap.size w w' := by
  refine (all_calls w A c g st hk hg hs).mono ?_
  rintro e w' ⟨hb, ⟨h1, _⟩ | ⟨_, v, rfl, hR⟩⟩
  · exact absurd h0 h1
  · obtain ⟨B, b, rfl, _, hC⟩ := Kd.R_reads hR
    have hl : (tableB st g g.length).length = g.length := by simp [tableB]
    rw [hl] at hC ⊢
    exact ⟨B, b, _, rfl, hC, ⟨sq_table st g, fun i j hi hj => getT_table hi hj⟩, hb⟩
theorem tab_int {w : World} {A : Option Addr} {n : Nat} {M : List (List Bool)} (h : Kd.C kRow w A n M) (hs : Sq n M) {x y : Int} (hx : 0 ≤ x ∧ x < n) (hy : 0 ≤ y ∧ y < n) : ∃ ad bd c, A = some ad ∧ w.cell? (ad.add x.toNat) = some (.slice (some bd) n c) ∧ w.cell? (bd.add y.toNat) = some (.bool (relT n M (x, y))) := by
  obtain ⟨ad, bd, c, e, h1, h2⟩ := tab_cell h hs x.toNat y.toNat (by omega) (by omega)
  refine ⟨ad, bd, c, e, h1, ?_⟩
  rw [h2]
  unfold relT
  rw [decide_eq_true hx.1, decide_eq_true hx.2, decide_eq_true hy.1, decide_eq_true hy.2]
  rfl
theorem may_keys_len {g : List S37} {x : S37} (h : mayB g x = true) : x.f3.length ≤ x.f4.length := by
  by_cases h0 : 0 < x.f3.length
  · have hh := may_parts h
    simp only [headB, Bool.or_eq_false_iff, Bool.and_eq_false_iff, decide_eq_false_iff_not, Classical.not_not, ne_eq] at hh
    have h7 : x.f0 = 7 := by rcases hh.2 with h | h; exact absurd h0 h; exact h
    have := (may_fine h (by omega)).recs h7
    omega
  · omega
theorem any_rd (l : List Int) (f : Int → Bool) : ((List.range l.length).any fun (j : Nat) => f (rd l (j : Int))) = l.any f := by
  rw [Bool.eq_iff_iff, List.any_eq_true, List.any_eq_true]
  constructor
  · rintro ⟨j, hj, h⟩
    exact ⟨_, rd_memI (by omega) (by have := List.mem_range.1 hj; omega), h⟩
  · rintro ⟨x, hx, h⟩
    obtain ⟨j, hj, rfl⟩ := List.getElem_of_mem hx
    refine ⟨j, List.mem_range.2 hj, ?_⟩
    unfold rd
    rw [Int.toNat_natCast, List.getD_eq_getElem?_getD, List.getElem?_eq_getElem hj]
    exact h
theorem all_rd {l : List Int} {f : Int → Bool} (h : ∀ j : Nat, j < l.length → f (rd l (j : Int)) = true) : l.all f = true := by
  rw [List.all_eq_true]
  intro x hx
  obtain ⟨j, hj, rfl⟩ := List.getElem_of_mem hx
  have := h j hj
  unfold rd at this
  rwa [Int.toNat_natCast, List.getD_eq_getElem?_getD, List.getElem?_eq_getElem hj] at this
end Go.Proofs.YtcljgfpcdlnlkaaDoor.Q
namespace Go.Proofs.YtcljgfpcdlnlkaaDoor.Q
open Go.RowKit Go.Proofs.YtcljgfpcdlnlkaaDoorW.PrintWords Mp
/-- A row of n bools, a block of its own. -/
structure RowAt (w : World) (g n : Nat) (r : List Bool) : Prop where
  blk : ∃ cells, w.heap[g]? = some (.cells cells 4 (0, 0)) ∧ cells.size = n ∧ ∀ j, j < n → cells[j]? = some (.bool (r.getD j false))
  len : r.length = n
theorem RowAt.lt {w : World} {g n : Nat} {r : List Bool} (h : RowAt w g n r) : g < w.heap.size := by
  obtain ⟨cells, hb, _⟩ := h.blk
  exact (Array.getElem?_eq_some_iff.1 hb).1
theorem RowAt.keep {w w' : World} {g n : Nat} {r : List Bool} (h : RowAt w g n r) (hb : w'.heap[g]? = w.heap[g]?) : RowAt w' g n r := by
  obtain ⟨cells, h1, h2, h3⟩ := h.blk
  exact ⟨⟨cells, hb.trans h1, h2, h3⟩, h.len⟩
theorem RowAt.cell {w : World} {g n : Nat} {r : List Bool} (h : RowAt w g n r) (j : Nat) (hj : j < n) : w.cell? ⟨g, j, none⟩ = some (.bool (r.getD j false)) := by
  obtain ⟨cells, h1, _, h3⟩ := h.blk
  unfold World.cell?
  rw [show w.heap[(⟨g, j, none⟩ : Addr).block]? = some (.cells cells 4 (0, 0)) from h1]
  exact h3 j hj
theorem RowAt.frozen {w : World} {g n : Nat} {r : List Bool} (h : RowAt w g n r) (j : Nat) : w.frozen? ⟨g, j, none⟩ = false := by
  obtain ⟨cells, h1, _⟩ := h.blk
  exact blk_frozen h1 j
theorem RowAt.C {w : World} {g n : Nat} {r : List Bool} (h : RowAt w g n r) (hn : n ≤ 9223372036854775807) : Kd.C Kd.bool w (some ⟨g, 0, none⟩) r.length r := by
  refine ⟨rfl, by rw [h.len]; exact hn, fun _ => ⟨_, rfl, fun j p hj => ⟨[.bool p], rfl, rfl, fun i u hu => ?_⟩⟩⟩
  match i, hu with
  | 0, hu =>
    have hjl := (List.getElem?_eq_some_iff.1 hj).1
    simp only [List.getElem?_cons_zero, Option.some.injEq] at hu
    subst hu
    rw [show (j * Kd.bool.sz + 0) = j from by show j * 1 + 0 = j; omega, Addr.add_lit, Nat.zero_add, h.cell j (by rw [← h.len]; exact hjl), List.getD_eq_getElem?_getD, hj]
    rfl
  | i + 1, hu => simp at hu
theorem RowAt.set {w : World} {g n : Nat} {r : List Bool} (h : RowAt w g n r) (j : Nat) (v : Bool) : RowAt (w.setCell ⟨g, j, none⟩ (.bool v)) g n (r.set j v) := by
  obtain ⟨cells, h1, h2, h3⟩ := h.blk
  refine ⟨⟨cells.setIfInBounds j (.bool v), ?_, by simp [h2], fun i hi => ?_⟩, by rw [List.length_set]; exact h.len⟩
  · exact heap_setCell_same w g j cells 4 (.bool v) h1
  · have hl := h.len
    rw [Array.getElem?_setIfInBounds, List.getD_eq_getElem?_getD, List.getElem?_set]
    by_cases e : j = i
    · subst e
      rw [if_pos rfl, if_pos rfl, if_pos (by omega), if_pos (by omega)]
      rfl
    · rw [if_neg e, if_neg e, h3 i hi, List.getD_eq_getElem?_getD]
/-- 'make([]bool, n)' makes a row. -/
theorem RowAt.made (w : World) (n : Nat) (z : Bool) : RowAt (w.alloc (.cells (Array.replicate n (.bool z)) 4)) w.heap.size n (List.replicate n z) := by
  refine ⟨⟨_, Array.getElem?_push_size, by simp, fun j hj => ?_⟩, by simp⟩
  simp [hj, List.getD_eq_getElem?_getD]
/-- The first k rows of a table of n. -/
structure MatAt (w : World) (ad : Addr) (n k : Nat) (rb : Nat → Nat) (M : List (List Bool)) : Prop where
  out : ∀ i, i < k → w.cell? (ad.add i) = some (.slice (some ⟨rb i, 0, none⟩) n n)
  row : ∀ i, i < k → RowAt w (rb i) n (M.getD i [])
  ne : ∀ i, i < k → rb i ≠ ad.block
  inj : ∀ i j, i < k → j < k → rb i = rb j → i = j
  len : M.length = k
theorem MatAt.sq {w : World} {ad : Addr} {n : Nat} {rb : Nat → Nat} {M : List (List Bool)} (h : MatAt w ad n n rb M) : Sq n M := ⟨h.len, fun i hi => (h.row i hi).len⟩
theorem MatAt.C {w : World} {ad : Addr} {n : Nat} {rb : Nat → Nat} {M : List (List Bool)} (h : MatAt w ad n n rb M) (hn : n ≤ 9223372036854775807) : Kd.C kRow w (some ad) n M := by
  refine ⟨h.len, hn, fun _ => ⟨ad, rfl, fun j p hj => ?_⟩⟩
  have hjl := (List.getElem?_eq_some_iff.1 hj).1
  rw [h.len] at hjl
  have hp : M.getD j [] = p := by rw [List.getD_eq_getElem?_getD, hj]; rfl
  have hr := h.row j hjl
  rw [hp] at hr
  refine ⟨[.slice (some ⟨rb j, 0, none⟩) p.length n], rfl, ⟨_, _, rfl, by rw [hr.len]; exact Nat.le_refl _, hr.C hn⟩, fun i u hu => ?_⟩
  match i, hu with
  | 0, hu =>
    simp only [List.getElem?_cons_zero, Option.some.injEq] at hu
    subst hu
    rw [show (j * kRow.sz + 0) = j from by show j * 1 + 0 = j; omega, h.out j hjl, hr.len]
  | i + 1, hu => simp at hu
theorem MatAt.keep {w w' : World} {ad : Addr} {n k : Nat} {rb : Nat → Nat} {M : List (List Bool)} (h : MatAt w ad n k rb M) (ha : ad.block < w.heap.size) (hb : ∀ b, b < w.heap.size → w'.heap[b]? = w.heap[b]?) : MatAt w' ad n k rb M :=
  ⟨fun i hi => by
    have := h.out i hi
    have hbk : (ad.add i).block = ad.block := by unfold Addr.add; split <;> rfl
    rw [← this]
    unfold World.cell?
    rw [hb _ (by rw [hbk]; exact ha)], fun i hi => (h.row i hi).keep (hb _ (h.row i hi).lt), h.ne, h.inj, h.len⟩
theorem MatAt.below {w w' : World} {ad : Addr} {n k : Nat} {rb : Nat → Nat} {M : List (List Bool)} (h : MatAt w ad n k rb M) (ha : ad.block < w.heap.size) (hb : Below w.heap.size w w') : MatAt w' ad n k rb M := h.keep ha (fun b hlt => hb.block b hlt)
/-- One cell is written. -/
theorem MatAt.set {w : World} {ad : Addr} {n k : Nat} {rb : Nat → Nat} {M : List (List Bool)} (h : MatAt w ad n k rb M) (a b : Nat) (ha : a < k) (v : Bool) : MatAt (w.setCell ⟨rb a, b, none⟩ (.bool v)) ad n k rb (M.set a ((M.getD a []).set b v)) := by
  have hbk : ∀ i, (ad.add i).block = ad.block := fun i => by unfold Addr.add; split <;> rfl
  refine ⟨fun i hi => ?_, fun i hi => ?_, h.ne, h.inj, by rw [List.length_set]; exact h.len⟩
  · rw [← h.out i hi]
    unfold World.cell?
    rw [Below.heap_setCell _ _ _ _ (by rw [hbk]; exact (h.ne a ha).symm)]
  · rw [getD_set _ _ _ _ _ (by rw [h.len]; exact ha)]
    by_cases e : i = a
    · subst e
      rw [if_pos rfl]
      exact (h.row i hi).set b v
    · rw [if_neg e]
      exact (h.row i hi).keep (Below.heap_setCell _ _ _ _ (fun he => e (h.inj i a hi ha he)))
theorem MatAt.nil (w : World) (ad : Addr) (n : Nat) (rb : Nat → Nat) : MatAt w ad n 0 rb [] := ⟨fun i hi => absurd hi (by omega), fun i hi => absurd hi (by omega), fun i hi => absurd hi (by omega), fun i j hi => absurd hi (by omega), rfl⟩
/-- One more row. -/
theorem MatAt.snoc {w : World} {ad : Addr} {n k : Nat} {rb : Nat → Nat} {M : List (List Bool)} (h : MatAt w ad n k rb M) {g : Nat} {r : List Bool} (hr : RowAt w g n r) (ho : w.cell? (ad.add k) = some (.slice (some ⟨g, 0, none⟩) n n)) (hg : g ≠ ad.block) (hf : ∀ i, i < k → rb i ≠ g) :
    MatAt w ad n (k + 1) (fun i => if i = k then g else rb i) (M ++ [r]) := by
  have hl := h.len
  have hget : ∀ i, i < k → (M ++ [r]).getD i [] = M.getD i [] := fun i hi => by rw [List.getD_eq_getElem?_getD, List.getD_eq_getElem?_getD, List.getElem?_append_left (by omega)]
  refine ⟨fun i hi => ?_, fun i hi => ?_, fun i hi => ?_, fun i j hi hj he => ?_, by simp [hl]⟩
  · by_cases e : i = k
    · subst e; simp only [if_true]; exact ho
    · simp only [e, if_false]; exact h.out i (by omega)
  · by_cases e : i = k
    · subst e
      simp only [if_true]
      rw [show (M ++ [r]).getD i [] = r by rw [List.getD_eq_getElem?_getD, List.getElem?_append_right (by omega), hl, Nat.sub_self]; rfl]
      exact hr
    · simp only [e, if_false]; rw [hget i (by omega)]; exact h.row i (by omega)
  · by_cases e : i = k
    · simp only [e, if_true]; exact hg
    · simp only [e, if_false]; exact h.ne i (by omega)
  · by_cases e1 : i = k <;> by_cases e2 : j = k
    · omega
    · simp only [e1, e2, if_true, if_false] at he
      exact absurd he.symm (hf j (by omega))
    · simp only [e1, e2, if_true, if_false] at he
      exact absurd he (hf i (by omega))
    · simp only [e1, e2, if_false] at he
      exact h.inj i j (by omega) (by omega) he
end Go.Proofs.YtcljgfpcdlnlkaaDoor.Q
namespace Go.Proofs.YtcljgfpcdlnlkaaDoor.Q
open Go.RowKit Go.Proofs.YtcljgfpcdlnlkaaDoorW.PrintWords Mp
theorem enters66 : EntersAt 66 := enters_at Tryd.func66 (by kernel_rfl) rfl
set_option maxRecDepth 100000 in
set_option maxHeartbeats 400000 in
theorem least1_calls (w : World) (X B Y Z : Nat) (m : PM) (a b v : Int) (hx2 : w.cell? ⟨X, 2, none⟩ = some (.map (some B))) (hm : MapAt pairV VInt w B m) (hY : w.cell? ⟨Y, 0, none⟩ = some (.pointer (some ⟨X, 0, none⟩))) (hZ : w.cell? ⟨Z, 0, none⟩ = some (.int .i64 a)) (hv : get m (a, b) = some v) :
    Calls Tryd.prog 66 #[.int .i64 b, .pointer (some ⟨Y, 0, none⟩), .pointer (some ⟨Z, 0, none⟩)] w fun e w' => e = .returned (.bool (v == 0)) ∧ Below w.heap.size w w' := by
  have hlk := fun n => (MapAt.of_block (w' := w.drewN n) hm rfl).lookup1 pairKey Tryd.underlying84 zero3 (a, b)
  simp only [hv, pairV, Option.map_some, Option.getD_some] at hlk
  clear hm hv
  go_enter Tryd.func66, Tryd.ntmps66
  go_wp2
  go_quiet (fail)
  go_wp2
  go_ret
  exact ⟨rfl, below_drewN (Below.refl _ _) _⟩
/-- The pairs ahead. -/
def preL (l : List Int) (a b : Nat) : List (Int × Int) := ((l.take a).flatMap fun x => l.map fun y => (x, y)) ++ (l.take b).map fun y => (rd l a, y)
theorem rd_take {l : List Int} {b : Nat} (h : b < l.length) : l.take b ++ [rd l b] = l.take (b + 1) := by
  rw [List.take_add_one, List.getElem?_eq_getElem h]
  unfold rd
  rw [Int.toNat_natCast, List.getD_eq_getElem?_getD, List.getElem?_eq_getElem h]
  rfl
theorem preL_step {l : List Int} {a b : Nat} (h : b < l.length) : preL l a b ++ [(rd l a, rd l b)] = preL l a (b + 1) := by
  unfold preL
  rw [← rd_take h, List.map_append, List.append_assoc]
  rfl
theorem preL_row {l : List Int} {a : Nat} (h : a < l.length) : preL l a l.length = preL l (a + 1) 0 := by
  unfold preL
  rw [← rd_take h, List.flatMap_append]
  simp
theorem preL_len {l : List Int} {a b : Nat} (ha : a ≤ l.length) (hb : b ≤ l.length) : (preL l a b).length = a * l.length + b := by
  unfold preL
  rw [List.length_append, List.length_flatMap]
  simp only [List.length_map, List.map_const', List.sum_replicate_nat, List.length_take]
  rw [Nat.min_eq_left ha, Nat.min_eq_left hb]
theorem preL_mem {l : List Int} {a b : Int} : (a, b) ∈ preL l l.length 0 ↔ a ∈ l ∧ b ∈ l := by
  unfold preL
  simp only [List.take_length, List.take_zero, List.map_nil, List.append_nil, List.mem_flatMap, List.mem_map, Prod.mk.injEq]
  constructor
  · rintro ⟨x, hx, y, hy, rfl, rfl⟩; exact ⟨hx, hy⟩
  · rintro ⟨h1, h2⟩; exact ⟨a, h1, b, h2, rfl, rfl⟩
/-- What Least answers. -/
noncomputable def leastP (g : List S37) (l : List Int) : Int × Int :=
  if checkP g ≠ 0 then (0, checkP g) else if mayOf g l = false then (0, 9) else
    match l.find? (fun a => l.all fun b => standsB true g (a, b)) with
    | some a => (a, 0)
    | none => (0, 2)
theorem find_at {α : Type} {f : α → Bool} : ∀ {l : List α} {k : Nat} (hk : k < l.length), (∀ j (hj : j < k), f l[j] = false) → f l[k] = true → l.find? f = some l[k]
  | x :: l, 0, _, _, h => by simp at h; simp [h]
  | x :: l, k + 1, hk, h0, h => by
    have hx : f x = false := h0 0 (by omega)
    rw [List.find?_cons, hx]
    exact find_at (l := l) (k := k) (by simpa using hk) (fun j hj => h0 (j + 1) (by omega)) h
set_option maxRecDepth 100000 in
set_option maxHeartbeats 1000000 in
theorem least_calls (w : World) (A : Option Addr) (c : Nat) (g : List S37) (P : Option Addr) (cP : Nat) (l : List Int) (hk : KeysIn w) (hg : Kd.C k37 w A g.length g) (hs : ∀ x ∈ g, x.f3.length ≤ 9223372036854775807 ∧ x.f4.length ≤ 9223372036854775807) (hl : Kd.C (Kd.int .i64) w P l.length l) (hl2 : l.length ≤ 2000) :
    Calls Tryd.prog 20 #[.slice A g.length c, .slice P l.length cP] w fun e w' => Below w.heap.size w w' ∧ e = .returned (.tuple #[.int .i64 (leastP g l).1, .int .i64 (leastP g l).2]) := by
  letI := domG g
  have HG := Lib.hid hg
  have HL := Lib.hid hl
  have HK := Lib.hid hk
  have HS0 := Lib.hid hs
  have HCk := Lib.hid (check_calls A g c _ hk hg hs)
  clear hg hk hs hl
  go_enter Tryd.func20, Tryd.ntmps20
  go_wp2_with fail
  refine HCk.out.mono ?_
  rintro e w1 ⟨rfl, hb1⟩
  have HB1 := Lib.hid hb1
  clear HCk hb1
  by_cases hq : checkP g = 0
  · have HQ := Lib.hid hq
    rw [hq]
    clear hq
    have HOf := Lib.hid (of_calls w1 A c g true P cP l (HK.out.below HB1.out) (Kd.C_below HG.out HB1.out) HS0.out (Kd.C_below HL.out HB1.out) (by omega))
    go_wp2_with fail
    refine HOf.out.mono ?_
    clear HOf
    rintro e w2 ⟨hb2, ⟨hm, rfl⟩ | ⟨hm, X, B, rfl, hX, hS⟩⟩
    · have HB2 := Lib.hid (HB1.out.trans (hb2.mono HB1.out.size))
      have HA := Lib.hid (show leastP g l = (0, 9) by simp [leastP, HQ.out, hm])
      clear hb2 hm
      go_wp2
      refine bodyPost_ret (results_tmp2 rfl _ _ _) rfl ?_
      exact ⟨HB2.out.alloc HB2.out.size _, by rw [HA.out]; rfl⟩
    have HB2 := Lib.hid (HB1.out.trans (hb2.mono HB1.out.size))
    have HM := Lib.hid hm
    have HS := Lib.hid hS
    have HV := Lib.hid (valid_of_check HQ.out)
    have hBl : B < w2.heap.size := hS.map.lt
    have hBw : w.heap.size ≤ B := by have := hS.lB; have := HB1.out.size; omega
    have hbY : Below w2.heap.size w2 (w2.alloc (.cells #[.pointer (some ⟨X, 0, none⟩)] 76)) := (Below.refl _ _).alloc (Nat.le_refl _) _
    have HbY := Lib.hid hbY
    have pY : (w2.alloc (.cells #[.pointer (some ⟨X, 0, none⟩)] 76)).cell? ⟨w2.heap.size, 0, none⟩ = some (.pointer (some ⟨X, 0, none⟩)) := by simp
    have HsY := Lib.hid (show (w2.alloc (.cells #[.pointer (some ⟨X, 0, none⟩)] 76)).heap.size = w2.heap.size + 1 by simp)
    have HX := Lib.hid (show X < w2.heap.size from hX)
    clear hb2 hm hS hX hbY
    go_wp2
    generalize w2.alloc (.cells #[.pointer (some ⟨X, 0, none⟩)] 76) = wY at HbY pY HsY ⊢
    go_loopw [9, 31] (fun s9 s28 W => ∃ k : Nat, k ≤ l.length ∧ s28 = .int .i64 k ∧ Hid (k81.R 81 W wY.heap.size (fun _ => True) s9 (preL l k 0) ∧ Below wY.heap.size wY W)) (fun _ s28 _ => l.length - (intOf s28).toNat)
    case atStart => exact ⟨0, Nat.zero_le _, rfl, Lib.hid ⟨Kd.R_nil _ _ _ _ _, Below.refl _ _⟩⟩
    case round =>
      obtain ⟨k, hk, rfl, HI⟩ := hrel
      have hsY := HsY.out
      by_cases hlt : k < l.length
      · obtain ⟨aP, rfl, hcP⟩ := int_cell (Kd.C_below HL.out (HB2.out.trans ((HbY.out.trans (HI.out.2.mono (by omega))).mono HB2.out.size))) k hlt
        clear hsY
        go_wp2
        go_loopw [9, 37] (fun s9 s33 W => ∃ j : Nat, j ≤ l.length ∧ s33 = .int .i64 j ∧ Hid (k81.R 81 W wY.heap.size (fun _ => True) s9 (preL l k j) ∧ Below wY.heap.size wY W)) (fun _ s33 _ => l.length - (intOf s33).toNat)
        case atStart => exact ⟨0, Nat.zero_le _, rfl, HI⟩
        case round =>
          clear HI hcP
          obtain ⟨j, hj, rfl, HI⟩ := hrel
          have hsY := HsY.out
          by_cases hjt : j < l.length
          · have hlen : ((preL l k j).length + 1) * 16 ≤ 140737488355328 := by
              rw [preL_len hk hj]
              have : k * l.length ≤ 2000 * 2000 := Nat.mul_le_mul (by omega) hl2
              omega
            have hsz := HI.out.2.size
            obtain ⟨aP', haP, hcP⟩ := int_cell (Kd.C_below HL.out (HB2.out.trans ((HbY.out.trans (HI.out.2.mono (by omega))).mono HB2.out.size))) j hjt
            obtain rfl := Option.some.inj haP
            clear hsY
            go_wp2_with (at_builtin; refine Kd.R_append k81 (w0 := wY) wY.heap.size rfl (.tmp 41) (.tmp 45) 79 81 (.agg #[.int .i64 0, .int .i64 0]) 16 rfl Tryd.underlying79 info81 rfl (by decide) (by omega) _ (preL l k j) (rd l k, rd l j) [.int .i64 (rd l k), .int .i64 (rd l j)] (fun _ => True) (fun _ => False) rfl rfl (k81_mk _ _ _ _ _) (fun _ hk => hk.elim) (fun _ _ => trivial) HI.out.1 HI.out.2 hsz hlen ?_; intro v1 wA hR4 hB4 _ _; have HR4 := Lib.hid hR4; have HB4 := Lib.hid hB4; clear hR4 hB4)
            go_roundw
            case rel => exact ⟨j + 1, by omega, by go_num, Lib.hid ⟨by rw [← preL_step hjt]; exact HR4.out, HB4.out⟩⟩
            case measure => simp [intOf]; omega
          · obtain rfl : j = l.length := by omega
            clear hsY
            go_wp2
            go_roundw
            case rel => exact ⟨k + 1, by omega, by go_num, Lib.hid ⟨by rw [← preL_row hlt]; exact HI.out.1, HI.out.2⟩⟩
            case measure => simp [intOf]; omega
      · obtain rfl : k = l.length := by omega
        obtain ⟨A9, c9, he9, hc9, _⟩ := Kd.R_reads HI.out.1
        subst he9
        have hlen : (preL l l.length 0).length ≤ 4000000 := by
          rw [preL_len (Nat.le_refl _) (Nat.zero_le _)]
          have : l.length * l.length ≤ 2000 * 2000 := Nat.mul_le_mul hl2 hl2
          omega
        have hbw := HbY.out.trans (HI.out.2.mono (by omega))
        have HSw := Lib.hid (HS.out.below hbw)
        have HBr := Lib.hid (HB2.out.trans (hbw.mono HB2.out.size))
        have pYr := (HI.out.2.cell (p := ⟨w2.heap.size, 0, none⟩) (by show w2.heap.size < _; omega)).trans pY
        have HSo := Lib.hid (solve_calls HSw.out HV.out (Inv.nil true g) A9 c9 (preL l l.length 0) (fun W hW => (Kd.R_reads' (R_kp (R_apartB HI.out.1 (by omega)) hW)).2.2) (fun p hp => by
          obtain ⟨a, b⟩ := p
          have h1 := preL_mem.1 hp
          have h2 := (mayOf_iff.1 HM.out).2
          exact ⟨(h2 a h1.1).1, (h2 a h1.1).2, (h2 b h1.2).1, (h2 b h1.2).2⟩) hlen)
        clear HI hc9 hbw hsY
        go_wp2_with fail
        refine HSo.out.mono ?_
        clear HSo
        rintro e w3 ⟨m3, rfl, hM3, hK3, hF3, _, hV3⟩
        have HS3 := Lib.hid (HSw.out.step hK3 hM3)
        have HB3 := Lib.hid (HBr.out.trans (hK3.below (B := w.heap.size) hBw HBr.out.size))
        have pY3 := hK3.cell pYr (by show w2.heap.size ≠ B; omega)
        have HGet := Lib.hid (show ∀ a ∈ l, ∀ b ∈ l, get m3 (a, b) = some (if standsB true g (a, b) then 1 else 0) from fun a ha b hb => (hV3 _ (hF3 _ (preL_mem.2 ⟨ha, hb⟩))).1)
        clear hM3 hK3 hF3 hV3 HSw HBr hlen pYr
        go_wp2
        have hwB := HB3.out.size
        go_loopw [54] (fun s54 W => ∃ k : Nat, k ≤ l.length ∧ s54 = .int .i64 k ∧ Hid (Below w3.heap.size w3 W ∧ ∀ j : Nat, j < k → (l.all fun b => standsB true g (rd l j, b)) = false)) (fun s54 _ => l.length - (intOf s54).toNat)
        case atStart => exact ⟨0, Nat.zero_le _, rfl, Lib.hid ⟨Below.refl _ _, fun j hj => absurd hj (by omega)⟩⟩
        case round =>
          obtain ⟨k, hk, rfl, HI⟩ := hrel
          by_cases hlt : k < l.length
          · have hCr := Kd.C_below HL.out (HB3.out.trans (HI.out.1.mono hwB))
            have HCr := Lib.hid hCr
            obtain ⟨aP, rfl, hcP⟩ := int_cell hCr k hlt
            have hmk : rd l (k : Int) ∈ l := rd_memI (by omega) (by omega)
            obtain ⟨a, ha⟩ : ∃ a, a = rd l (k : Int) := ⟨_, rfl⟩
            rw [← ha] at hcP hmk
            have HA := Lib.hid ha
            have hbZ : Below wr.heap.size wr (wr.alloc (.cells #[.int .i64 a] 3)) := (Below.refl _ _).alloc (Nat.le_refl _) _
            have pZ : (wr.alloc (.cells #[.int .i64 a] 3)).cell? ⟨wr.heap.size, 0, none⟩ = some (.int .i64 a) := by simp
            have hs3 := HI.out.1.size
            have pYz : (wr.alloc (.cells #[.int .i64 a] 3)).cell? ⟨w2.heap.size, 0, none⟩ = some (.pointer (some ⟨X, 0, none⟩)) := cell_alloc _ ((HI.out.1.cell (World.block_lt_of_cell? w3 _ pY3)).trans pY3)
            have HSz := Lib.hid ((HS3.out.below HI.out.1).below hbZ)
            have HbZ := Lib.hid hbZ
            have HH := Lib.hid (has65 (some aP) l.length cP 66 #[.pointer (some ⟨w2.heap.size, 0, none⟩), .pointer (some ⟨wr.heap.size, 0, none⟩)] (fun i => .int .i64 (rd l i))
              (fun i W => Below (wr.alloc (.cells #[.int .i64 a] 3)).heap.size (wr.alloc (.cells #[.int .i64 a] 3)) W ∧ ∀ j : Nat, j < i → standsB true g (a, rd l j) = true)
              (fun i W => Below (wr.alloc (.cells #[.int .i64 a] 3)).heap.size (wr.alloc (.cells #[.int .i64 a] 3)) W ∧ i < l.length ∧ standsB true g (a, rd l i) = false) (wr.alloc (.cells #[.int .i64 a] 3)) (by omega) enters66 ⟨Below.refl _ _, fun j hj => absurd hj (by omega)⟩
              (by
                rintro i W ⟨hb, _⟩ hi
                exact int_cell (Kd.C_below HCr.out (HbZ.out.trans (hb.mono HbZ.out.size))) i hi)
              (by
                rintro i W hi ⟨hb, h0⟩
                have hSW := HSz.out.below hb
                refine (least1_calls W X B w2.heap.size wr.heap.size m3 a (rd l i) _ hSW.x2 hSW.map ((hb.cell (World.block_lt_of_cell? _ _ pYz)).trans pYz) ((hb.cell (World.block_lt_of_cell? _ _ pZ)).trans pZ) (HGet.out a hmk _ (rd_memI (by omega) (by omega)))).mono ?_
                rintro e W' ⟨rfl, hb'⟩
                cases hst : standsB true g (a, rd l i) with
                | true => exact .inr ⟨rfl, hb.trans (hb'.mono hb.size), fun j hj => if h : j = i then by rw [h]; exact hst else h0 j (by omega)⟩
                | false => exact .inl ⟨rfl, hb.trans (hb'.mono hb.size), hi, rfl⟩))
            clear hCr ha hbZ hmk hs3
            go_wp2_with fail
            refine HH.out.mono ?_
            clear HH
            rintro e w4 (⟨i, hi, rfl, hb4, _, hst⟩ | ⟨rfl, hb4, hst⟩)
            · have HB4 := Lib.hid (HI.out.1.trans ((HbZ.out.trans (hb4.mono HbZ.out.size)).mono HI.out.1.size))
              have HNo := Lib.hid (show (l.all fun b => standsB true g (rd l k, b)) = false from List.all_eq_false.2 ⟨rd l i, rd_memI (by omega) (by omega), by rw [← HA.out, hst]; decide⟩)
              clear hb4 hst
              go_wp2
              go_roundw
              case rel => exact ⟨k + 1, by omega, by go_num, Lib.hid ⟨HB4.out, fun j hj => if h : j = k then by rw [h]; exact HNo.out else HI.out.2 j (by omega)⟩⟩
              case measure => simp [intOf]; omega
            · have HB4 := Lib.hid (HI.out.1.trans ((HbZ.out.trans (hb4.mono HbZ.out.size)).mono HI.out.1.size))
              have pZ4 := (hb4.cell (World.block_lt_of_cell? _ _ pZ)).trans pZ
              have hgk : l[k] = a := by rw [HA.out]; unfold rd; rw [Int.toNat_natCast, List.getD_eq_getElem?_getD, List.getElem?_eq_getElem hlt]; rfl
              have HYes := Lib.hid (show leastP g l = (a, 0) by
                unfold leastP
                rw [if_neg (by rw [HQ.out]; decide), if_neg (by rw [HM.out]; decide), find_at (k := k) hlt (fun j hj => by
                  have := HI.out.2 j hj
                  unfold rd at this
                  rwa [Int.toNat_natCast, List.getD_eq_getElem?_getD, List.getElem?_eq_getElem (by omega)] at this) (List.all_eq_true.2 fun b hb => by
                  obtain ⟨j, hj, rfl⟩ := List.getElem_of_mem hb
                  have := hst j hj
                  unfold rd at this
                  rw [Int.toNat_natCast, List.getD_eq_getElem?_getD, List.getElem?_eq_getElem hj] at this
                  rw [hgk]
                  exact this), hgk])
              clear hb4 hst hgk
              go_wp2
              refine bodyPost_ret (results_tmp2 rfl _ _ _) rfl ?_
              exact ⟨HB3.out.trans (HB4.out.mono hwB), by rw [HYes.out]; rfl⟩
          · obtain rfl : k = l.length := by omega
            have HNo := Lib.hid (show leastP g l = (0, 2) by
              unfold leastP
              rw [if_neg (by rw [HQ.out]; decide), if_neg (by rw [HM.out]; decide), List.find?_eq_none.2 (fun a ha => by
                obtain ⟨j, hj, rfl⟩ := List.getElem_of_mem ha
                have := HI.out.2 j hj
                unfold rd at this
                rw [Int.toNat_natCast, List.getD_eq_getElem?_getD, List.getElem?_eq_getElem hj] at this
                rw [show l[j] = (some l[j]).getD 0 from rfl, this]
                decide)])
            go_wp2
            refine bodyPost_ret (results_tmp2 rfl _ _ _) rfl ?_
            exact ⟨HB3.out.trans (HI.out.1.mono hwB), by rw [HNo.out]; rfl⟩
  · have d1 : (checkP g != 0) = true := by simp [hq]
    obtain ⟨q, hqq⟩ : ∃ q, q = checkP g := ⟨_, rfl⟩
    have HE := Lib.hid (show leastP g l = (0, q) by simp [leastP, hq, hqq])
    rw [← hqq] at d1 ⊢
    clear hqq hq
    go_wp2
    refine bodyPost_ret (results_tmp2 rfl _ _ _) rfl ?_
    exact ⟨HB1.out, by rw [HE.out]; rfl⟩
end Go.Proofs.YtcljgfpcdlnlkaaDoor.Q
namespace Go.Proofs.YtcljgfpcdlnlkaaDoor.Q
open Go.RowKit Go.Proofs.YtcljgfpcdlnlkaaDoorW.PrintWords Mp
def nodeOf (k : Int) (ks : List ByteArray) (l : List Int) : S37 := ⟨k, 0, ⟨#[]⟩, ks, l⟩
def kA : ByteArray := ⟨#[97]⟩
def kB : ByteArray := ⟨#[98]⟩
def gC : List S37 := [nodeOf 4 [] [], nodeOf 2 [] [], nodeOf 1 [] [], nodeOf 7 [kA] [0], nodeOf 7 [kA, kB] [0, 1], nodeOf 8 [] [0, 1], nodeOf 7 [kA] [5], nodeOf 9 [] [3], nodeOf 7 [kA] [8], nodeOf 7 [kA] [10], nodeOf 7 [kA, kB] [9, 0]]
/-- Of pairs that hold by their rule, as far as they go, each stands. -/
theorem stands_list {st : Bool} {g : List S37} (L : List (Int × Int)) (h : (L.all fun q => holdsB st g q (fun p => L.contains p)) = true) {p : Int × Int} (hp : L.contains p = true) : standsB st g p = true :=
  stands_of (fun p => L.contains p) (fun q hq => List.all_eq_true.1 h q (by simpa using hq)) p hp
/-- What is left after n rounds, as a function. -/
def roundB (st : Bool) (g : List S37) : Nat → Rel
  | 0 => fun _ => true
  | n + 1 => fun p => holdsB st g p (roundB st g n)
theorem stands_round {st : Bool} {g : List S37} : ∀ n, Le (standsB st g) (roundB st g n)
  | 0, _, _ => rfl
  | n + 1, _, hp => holdsB_mono (stands_round n) (stands_holds hp)
theorem stands_not {st : Bool} {g : List S37} {p : Int × Int} (n : Nat) (h : roundB st g n p = false) : standsB st g p = false := by
  cases e : standsB st g p with
  | false => rfl
  | true => rw [stands_round n p e] at h; cases h
theorem checkC : checkP gC = 0 := by kernel_rfl
theorem mayC (a b : Int) (h : (decide (0 ≤ a ∧ a < 11) && decide (0 ≤ b ∧ b < 11)) = true) : mayOf gC [a, b] = true := by
  rw [Bool.and_eq_true, decide_eq_true_eq, decide_eq_true_eq] at h
  refine mayOf_iff.2 ⟨checkC, fun k hk => ?_⟩
  have : (gC.length : Int) = 11 := rfl
  simp only [List.mem_cons, List.not_mem_nil, or_false] at hk
  omega
theorem ask_yes {st : Bool} {a b : Int} (L : List (Int × Int)) (h0 : (decide (0 ≤ a ∧ a < 11) && decide (0 ≤ b ∧ b < 11)) = true) (h : (L.all fun q => holdsB st gC q (fun p => L.contains p)) = true) (hp : L.contains (a, b) = true) : askB st gC a b = true := by
  rw [askB, mayC a b h0, stands_list L h hp]; rfl
theorem ask_no {st : Bool} {a b : Int} (n : Nat) (h : roundB st gC n (a, b) = false) : askB st gC a b = false := by
  rw [askB, stands_not n h, Bool.and_false]
theorem c43 : askB false gC 4 3 = true := ask_yes [(4, 3), (0, 0)] (by decide) (by kernel_rfl) (by decide)
theorem c34 : askB false gC 3 4 = false := ask_no 1 (by kernel_rfl)
theorem c36 : askB false gC 3 6 = true := ask_yes [(3, 6), (0, 5)] (by decide) (by kernel_rfl) (by decide)
theorem c63 : askB false gC 6 3 = false := ask_no 2 (by kernel_rfl)
theorem c05 : askB false gC 0 5 = true := ask_yes [(0, 5)] (by decide) (by kernel_rfl) (by decide)
theorem c20 : askB false gC 2 0 = true := ask_yes [(2, 0)] (by decide) (by kernel_rfl) (by decide)
theorem c02 : askB false gC 0 2 = true := ask_yes [(0, 2)] (by decide) (by kernel_rfl) (by decide)
theorem s20 : askB true gC 2 0 = false := ask_no 1 (by kernel_rfl)
theorem s02 : askB true gC 0 2 = false := ask_no 1 (by kernel_rfl)
theorem s22 : askB true gC 2 2 = true := ask_yes [(2, 2)] (by decide) (by kernel_rfl) (by decide)
theorem c73 : askB false gC 7 3 = true := ask_yes [(7, 3), (3, 3), (0, 0)] (by decide) (by kernel_rfl) (by decide)
theorem c37 : askB false gC 3 7 = false := ask_no 1 (by kernel_rfl)
theorem c98 : askB false gC 9 8 = true := ask_yes [(9, 8), (10, 8)] (by decide) (by kernel_rfl) (by decide)
theorem c89 : askB false gC 8 9 = false := ask_no 3 (by kernel_rfl)
theorem p73 : pickP gC 7 3 = -1 := by
  rw [pickP, if_pos ⟨mayC 7 3 (by decide), by decide⟩]
  have h : standsB false gC (3, 3) = true := stands_list [(3, 3), (0, 0)] (by kernel_rfl) (by decide)
  have e : ∀ R : Rel, R (3, 3) = true → pickB false gC 7 3 R = -1 := fun R hR => by
    show (if (9 : Int) = 9 ∧ R (3, 3) = true then (-1 : Int) else -2) = -1
    rw [if_pos ⟨rfl, hR⟩]
  exact e _ h
theorem p15 : pickP gC 1 5 = 1 := by
  rw [pickP, if_pos ⟨mayC 1 5 (by decide), by decide⟩]
  have e : ∀ R : Rel, pickB false gC 1 5 R = 1 := fun R => rfl
  exact e _
theorem p55 : pickP gC 5 5 = -2 := by
  rw [pickP, if_neg]
  intro h
  exact h.2 rfl
theorem l43 : leastP gC [4, 3] = (4, 0) := by
  rw [leastP, if_neg (by rw [checkC]; decide), if_neg (by rw [mayC 4 3 (by decide)]; decide)]
  have h1 : standsB true gC (4, 4) = true := stands_list [(4, 4), (0, 0), (1, 1)] (by kernel_rfl) (by decide)
  have h2 : standsB true gC (4, 3) = true := stands_list [(4, 3), (0, 0)] (by kernel_rfl) (by decide)
  simp [h1, h2]
end Go.Proofs.YtcljgfpcdlnlkaaDoor.Q
namespace Go.Proofs.YtcljgfpcdlnlkaaDoor.Q
open Go.RowKit Go.Proofs.YtcljgfpcdlnlkaaDoorW.PrintWords Mp
def kC3 : ByteArray := ⟨#[99]⟩
theorem R_three (w : World) (a b c : ByteArray) : Kd.string.R 9 (w.alloc (.cells #[.string a, .string b, .string c] 9)) w.heap.size (fun _ => True) (.slice (some ⟨w.heap.size, 0, none⟩) 3 3) [a, b, c] :=
  ⟨fun _ _ => trivial, [.string a, .string b, .string c], ⟨by rfl, .inr ⟨w.heap.size, 3, #[.string a, .string b, .string c], rfl, Nat.le_refl _, Array.getElem?_push_size, Nat.le_refl _, by decide, by rfl, by rfl⟩⟩, by
    refine ⟨by rfl, fun j p hj => ?_⟩
    match j, hj with
    | 0, hj => simp at hj; subst hj; rfl
    | 1, hj => simp at hj; subst hj; rfl
    | 2, hj => simp at hj; subst hj; rfl
    | j + 3, hj => simp at hj⟩
set_option maxRecDepth 100000 in
set_option maxHeartbeats 400000 in
theorem rec_calls (w : World) (A : Option Addr) (n c : Nat) (hn : n ≤ 3) :
    Calls Tryd.prog 39 #[.slice A n c] w fun e w' => ∃ b, e = .returned (.agg #[.int .i64 7, .int .i64 0, .string ⟨#[]⟩, .slice (some ⟨b, 0, none⟩) n 3, .slice A n c]) ∧ Kd.string.R 9 w' w.heap.size (fun _ => True) (.slice (some ⟨b, 0, none⟩) n 3) ([kA, kB, kC3].take n) ∧ Below w.heap.size w w' := by
  have d1 : decide (n ≤ 3) = true := decide_eq_true hn
  go_enter Tryd.func39, Tryd.ntmps39
  go_wp2
  have hB1 : Below w.heap.size w (w.alloc (Obj.cells #[Value.int IntKind.i64 7, Value.int IntKind.i64 0, Value.string { data := #[] }, Value.slice (some { block := w.heap.size + 1, off := 0 }) n 3, Value.slice A n c] 37)) := (Below.refl _ _).alloc (Nat.le_refl _) _
  refine bodyPost_ret (v := .agg #[.int .i64 7, .int .i64 0, .string ⟨#[]⟩, .slice (some ⟨w.heap.size + 1, 0, none⟩) n 3, .slice A n c]) ?_ rfl ?_
  · refine results_cell_row (fn := Tryd.f39) (p := 2) (ty := 37) rfl _ _ w.heap.size 37 _ (0, 0) _ rfl ?_ Tryd.underlying37 rfl (by kernel_rfl)
    exact (Below.heap_alloc _ _ _ (by simp)).trans Array.getElem?_push_size
  · refine ⟨w.heap.size + 1, rfl, Kd.R_lower (Kd.R_take (n := 3) (xs := [kA, kB, kC3]) ?_ (by simpa using hn)) (Nat.le_succ _), hB1.alloc (by simp) _⟩
    have := R_three (w.alloc (Obj.cells #[Value.int IntKind.i64 7, Value.int IntKind.i64 0, Value.string { data := #[] }, Value.slice (some { block := w.heap.size + 1, off := 0 }) n 3, Value.slice A n c] 37)) kA kB kC3
    rw [World.size_alloc] at this
    exact this
end Go.Proofs.YtcljgfpcdlnlkaaDoor.Q
namespace Go.Proofs.YtcljgfpcdlnlkaaDoor.Q
open Go.RowKit Go.Proofs.YtcljgfpcdlnlkaaDoorW.PrintWords Mp
theorem C_of_reps {xs : List S37} {cs : List Value} (W : World) (h : Reps (k37.K W) 5 xs cs) (hl : xs.length ≤ 4000000) : Kd.C k37 (W.alloc (.cells cs.toArray 37)) (some ⟨W.heap.size, 0, none⟩) xs.length xs := by
  have hb : Below W.heap.size W (W.alloc (.cells cs.toArray 37)) := (Below.refl _ _).alloc (Nat.le_refl _) _
  refine ⟨rfl, by omega, fun _ => ⟨_, rfl, fun j p hj => ⟨(cs.drop (j * 5)).take 5, ?_, k37.K_below hb (h.2 j p hj), fun i u hu => ?_⟩⟩⟩
  · have h1 := (List.getElem?_eq_some_iff.1 hj).1
    have h2 := h.1
    have : j * 5 + 5 ≤ xs.length * 5 := by omega
    show ((cs.drop (j * 5)).take 5).length = 5
    simp
    omega
  · have hi : i < 5 := by
      have := (List.getElem?_eq_some_iff.1 hu).1
      simp at this
      omega
    rw [List.getElem?_take_of_lt hi, List.getElem?_drop] at hu
    have e : (⟨W.heap.size, 0, none⟩ : Addr).add (j * 5 + i) = ⟨W.heap.size, j * 5 + i, none⟩ := by
      unfold Addr.add
      split
      · rename_i h0; rw [h0]
      · simp
    show (W.alloc _).cell? ((⟨W.heap.size, 0, none⟩ : Addr).add (j * 5 + i)) = _
    rw [e, World.cell?_alloc_at _ _ _ _ rfl]
    simpa using hu
theorem ints1 (w : World) (a : Int) : Kd.C (Kd.int .i64) (w.alloc (.cells #[.int .i64 a] 3)) (some ⟨w.heap.size, 0, none⟩) 1 [a] := (Kd.R_reads' (R_one w a)).2.2
theorem ints2 (w : World) (a b : Int) : Kd.C (Kd.int .i64) (w.alloc (.cells #[.int .i64 a, .int .i64 b] 3)) (some ⟨w.heap.size, 0, none⟩) 2 [a, b] := (Kd.R_reads' (R_two w a b)).2.2
theorem noInts (w : World) : Kd.C (Kd.int .i64) w none 0 [] := (Kd.R_reads' (Kd.R_nil (Kd.int .i64) 3 w 0 (fun _ => True))).2.2
theorem noTexts (w : World) : Kd.C Kd.string w none 0 [] := (Kd.R_reads' (Kd.R_nil Kd.string 9 w 0 (fun _ => True))).2.2
theorem limC : ∀ x ∈ gC, x.f3.length ≤ 9223372036854775807 ∧ x.f4.length ≤ 9223372036854775807 := by
  intro x hx
  simp only [gC, List.mem_cons, List.not_mem_nil, or_false] at hx
  rcases hx with rfl | rfl | rfl | rfl | rfl | rfl | rfl | rfl | rfl | rfl | rfl <;> exact ⟨by decide, by decide⟩
set_option maxRecDepth 100000 in
set_option maxHeartbeats 1000000 in
theorem chapter_calls (w : World) : Calls Tryd.prog 41 #[] w fun e w' => ∃ b, e = .returned (.slice (some ⟨b, 0, none⟩) 11 11) ∧ Kd.C k37 w' (some ⟨b, 0, none⟩) gC.length gC ∧ Below w.heap.size w w' := by
  go_enter Tryd.func41, Tryd.ntmps41
  have HB0 := Lib.hid (Below.refl w.heap.size w)
  have I00 := ints1 (w) 0
  have I0 := Lib.hid I00
  clear I00
  have HW := Lib.hid (show Below w.heap.size w ((w).alloc (.cells #[.int .i64 0] 3)) from HB0.out.alloc HB0.out.size _)
  have HR := Lib.hid (rec_calls ((w).alloc (.cells #[.int .i64 0] 3)) (some ⟨w.heap.size, 0, none⟩) 1 1 (by omega))
  go_wp2_with fail
  refine HR.out.mono ?_
  clear HR
  rintro e w1 ⟨b0, rfl, hR, hB⟩
  replace I0 := Lib.hid (Kd.C_below I0.out hB)
  have S0 := Lib.hid (Kd.R_reads' hR).2.2
  have HB1 := Lib.hid (HW.out.trans (hB.mono HW.out.size))
  clear HW hR hB
  have HL := Lib.hid (show Below w1.heap.size w1 ((w1).alloc (.cells #[.int .i64 0, .int .i64 1] 3)) from (Below.refl _ _).alloc (Nat.le_refl _) _)
  replace I0 := Lib.hid (Kd.C_below I0.out HL.out)
  have I10 := ints2 (w1) 0 1
  have I1 := Lib.hid I10
  clear I10
  have HW := Lib.hid (show Below w.heap.size w ((w1).alloc (.cells #[.int .i64 0, .int .i64 1] 3)) from HB1.out.alloc HB1.out.size _)
  have HR := Lib.hid (rec_calls ((w1).alloc (.cells #[.int .i64 0, .int .i64 1] 3)) (some ⟨w1.heap.size, 0, none⟩) 2 2 (by omega))
  go_wp2_with fail
  refine HR.out.mono ?_
  clear HR
  rintro e w2 ⟨b1, rfl, hR, hB⟩
  replace I0 := Lib.hid (Kd.C_below I0.out hB)
  replace I1 := Lib.hid (Kd.C_below I1.out hB)
  replace S0 := Lib.hid (Kd.C_below (Kd.C_below S0.out HL.out) hB)
  have S1 := Lib.hid (Kd.R_reads' hR).2.2
  have HB2 := Lib.hid (HW.out.trans (hB.mono HW.out.size))
  clear HW hR hB
  have HL := Lib.hid (show Below w2.heap.size w2 (((w2).alloc (.cells #[.int .i64 0, .int .i64 1] 3)).alloc (.cells #[.int .i64 5] 3)) from ((Below.refl _ _).alloc (Nat.le_refl _) _).alloc (by simp) _)
  replace I0 := Lib.hid (Kd.C_below I0.out HL.out)
  replace I1 := Lib.hid (Kd.C_below I1.out HL.out)
  have I20 := ints2 (w2) 0 1
  have I30 := ints1 ((w2).alloc (.cells #[.int .i64 0, .int .i64 1] 3)) 5
  rw [World.size_alloc] at I30
  replace I20 := Kd.C_alloc I20 (.cells #[.int .i64 5] 3)
  have I2 := Lib.hid I20
  clear I20
  have I3 := Lib.hid I30
  clear I30
  have HW := Lib.hid (show Below w.heap.size w (((w2).alloc (.cells #[.int .i64 0, .int .i64 1] 3)).alloc (.cells #[.int .i64 5] 3)) from (HB2.out.alloc HB2.out.size _).alloc (HB2.out.alloc HB2.out.size _).size _)
  have HR := Lib.hid (rec_calls (((w2).alloc (.cells #[.int .i64 0, .int .i64 1] 3)).alloc (.cells #[.int .i64 5] 3)) (some ⟨w2.heap.size + 1, 0, none⟩) 1 1 (by omega))
  go_wp2_with fail
  refine HR.out.mono ?_
  clear HR
  rintro e w3 ⟨b2, rfl, hR, hB⟩
  replace I0 := Lib.hid (Kd.C_below I0.out hB)
  replace I1 := Lib.hid (Kd.C_below I1.out hB)
  replace I2 := Lib.hid (Kd.C_below I2.out hB)
  replace I3 := Lib.hid (Kd.C_below I3.out hB)
  replace S0 := Lib.hid (Kd.C_below (Kd.C_below S0.out HL.out) hB)
  replace S1 := Lib.hid (Kd.C_below (Kd.C_below S1.out HL.out) hB)
  have S2 := Lib.hid (Kd.R_reads' hR).2.2
  have HB3 := Lib.hid (HW.out.trans (hB.mono HW.out.size))
  clear HW hR hB
  have HL := Lib.hid (show Below w3.heap.size w3 (((w3).alloc (.cells #[.int .i64 3] 3)).alloc (.cells #[.int .i64 8] 3)) from ((Below.refl _ _).alloc (Nat.le_refl _) _).alloc (by simp) _)
  replace I0 := Lib.hid (Kd.C_below I0.out HL.out)
  replace I1 := Lib.hid (Kd.C_below I1.out HL.out)
  replace I2 := Lib.hid (Kd.C_below I2.out HL.out)
  replace I3 := Lib.hid (Kd.C_below I3.out HL.out)
  have I40 := ints1 (w3) 3
  have I50 := ints1 ((w3).alloc (.cells #[.int .i64 3] 3)) 8
  rw [World.size_alloc] at I50
  replace I40 := Kd.C_alloc I40 (.cells #[.int .i64 8] 3)
  have I4 := Lib.hid I40
  clear I40
  have I5 := Lib.hid I50
  clear I50
  have HW := Lib.hid (show Below w.heap.size w (((w3).alloc (.cells #[.int .i64 3] 3)).alloc (.cells #[.int .i64 8] 3)) from (HB3.out.alloc HB3.out.size _).alloc (HB3.out.alloc HB3.out.size _).size _)
  have HR := Lib.hid (rec_calls (((w3).alloc (.cells #[.int .i64 3] 3)).alloc (.cells #[.int .i64 8] 3)) (some ⟨w3.heap.size + 1, 0, none⟩) 1 1 (by omega))
  go_wp2_with fail
  refine HR.out.mono ?_
  clear HR
  rintro e w4 ⟨b3, rfl, hR, hB⟩
  replace I0 := Lib.hid (Kd.C_below I0.out hB)
  replace I1 := Lib.hid (Kd.C_below I1.out hB)
  replace I2 := Lib.hid (Kd.C_below I2.out hB)
  replace I3 := Lib.hid (Kd.C_below I3.out hB)
  replace I4 := Lib.hid (Kd.C_below I4.out hB)
  replace I5 := Lib.hid (Kd.C_below I5.out hB)
  replace S0 := Lib.hid (Kd.C_below (Kd.C_below S0.out HL.out) hB)
  replace S1 := Lib.hid (Kd.C_below (Kd.C_below S1.out HL.out) hB)
  replace S2 := Lib.hid (Kd.C_below (Kd.C_below S2.out HL.out) hB)
  have S3 := Lib.hid (Kd.R_reads' hR).2.2
  have HB4 := Lib.hid (HW.out.trans (hB.mono HW.out.size))
  clear HW hR hB
  have HL := Lib.hid (show Below w4.heap.size w4 ((w4).alloc (.cells #[.int .i64 10] 3)) from (Below.refl _ _).alloc (Nat.le_refl _) _)
  replace I0 := Lib.hid (Kd.C_below I0.out HL.out)
  replace I1 := Lib.hid (Kd.C_below I1.out HL.out)
  replace I2 := Lib.hid (Kd.C_below I2.out HL.out)
  replace I3 := Lib.hid (Kd.C_below I3.out HL.out)
  replace I4 := Lib.hid (Kd.C_below I4.out HL.out)
  replace I5 := Lib.hid (Kd.C_below I5.out HL.out)
  have I60 := ints1 (w4) 10
  have I6 := Lib.hid I60
  clear I60
  have HW := Lib.hid (show Below w.heap.size w ((w4).alloc (.cells #[.int .i64 10] 3)) from HB4.out.alloc HB4.out.size _)
  have HR := Lib.hid (rec_calls ((w4).alloc (.cells #[.int .i64 10] 3)) (some ⟨w4.heap.size, 0, none⟩) 1 1 (by omega))
  go_wp2_with fail
  refine HR.out.mono ?_
  clear HR
  rintro e w5 ⟨b4, rfl, hR, hB⟩
  replace I0 := Lib.hid (Kd.C_below I0.out hB)
  replace I1 := Lib.hid (Kd.C_below I1.out hB)
  replace I2 := Lib.hid (Kd.C_below I2.out hB)
  replace I3 := Lib.hid (Kd.C_below I3.out hB)
  replace I4 := Lib.hid (Kd.C_below I4.out hB)
  replace I5 := Lib.hid (Kd.C_below I5.out hB)
  replace I6 := Lib.hid (Kd.C_below I6.out hB)
  replace S0 := Lib.hid (Kd.C_below (Kd.C_below S0.out HL.out) hB)
  replace S1 := Lib.hid (Kd.C_below (Kd.C_below S1.out HL.out) hB)
  replace S2 := Lib.hid (Kd.C_below (Kd.C_below S2.out HL.out) hB)
  replace S3 := Lib.hid (Kd.C_below (Kd.C_below S3.out HL.out) hB)
  have S4 := Lib.hid (Kd.R_reads' hR).2.2
  have HB5 := Lib.hid (HW.out.trans (hB.mono HW.out.size))
  clear HW hR hB
  have HL := Lib.hid (show Below w5.heap.size w5 ((w5).alloc (.cells #[.int .i64 9, .int .i64 0] 3)) from (Below.refl _ _).alloc (Nat.le_refl _) _)
  replace I0 := Lib.hid (Kd.C_below I0.out HL.out)
  replace I1 := Lib.hid (Kd.C_below I1.out HL.out)
  replace I2 := Lib.hid (Kd.C_below I2.out HL.out)
  replace I3 := Lib.hid (Kd.C_below I3.out HL.out)
  replace I4 := Lib.hid (Kd.C_below I4.out HL.out)
  replace I5 := Lib.hid (Kd.C_below I5.out HL.out)
  replace I6 := Lib.hid (Kd.C_below I6.out HL.out)
  have I70 := ints2 (w5) 9 0
  have I7 := Lib.hid I70
  clear I70
  have HW := Lib.hid (show Below w.heap.size w ((w5).alloc (.cells #[.int .i64 9, .int .i64 0] 3)) from HB5.out.alloc HB5.out.size _)
  have HR := Lib.hid (rec_calls ((w5).alloc (.cells #[.int .i64 9, .int .i64 0] 3)) (some ⟨w5.heap.size, 0, none⟩) 2 2 (by omega))
  go_wp2_with fail
  refine HR.out.mono ?_
  clear HR
  rintro e w6 ⟨b5, rfl, hR, hB⟩
  replace I0 := Lib.hid (Kd.C_below I0.out hB)
  replace I1 := Lib.hid (Kd.C_below I1.out hB)
  replace I2 := Lib.hid (Kd.C_below I2.out hB)
  replace I3 := Lib.hid (Kd.C_below I3.out hB)
  replace I4 := Lib.hid (Kd.C_below I4.out hB)
  replace I5 := Lib.hid (Kd.C_below I5.out hB)
  replace I6 := Lib.hid (Kd.C_below I6.out hB)
  replace I7 := Lib.hid (Kd.C_below I7.out hB)
  replace S0 := Lib.hid (Kd.C_below (Kd.C_below S0.out HL.out) hB)
  replace S1 := Lib.hid (Kd.C_below (Kd.C_below S1.out HL.out) hB)
  replace S2 := Lib.hid (Kd.C_below (Kd.C_below S2.out HL.out) hB)
  replace S3 := Lib.hid (Kd.C_below (Kd.C_below S3.out HL.out) hB)
  replace S4 := Lib.hid (Kd.C_below (Kd.C_below S4.out HL.out) hB)
  have S5 := Lib.hid (Kd.R_reads' hR).2.2
  have HB6 := Lib.hid (HW.out.trans (hB.mono HW.out.size))
  clear HW hR hB
  have K0 := Lib.hid (k37_mk w6 (nodeOf 4 [] []) (c3 := 0) (by decide) (noTexts w6) (c4 := 0) (by decide) (noInts w6))
  have K1 := Lib.hid (k37_mk w6 (nodeOf 2 [] []) (c3 := 0) (by decide) (noTexts w6) (c4 := 0) (by decide) (noInts w6))
  have K2 := Lib.hid (k37_mk w6 (nodeOf 1 [] []) (c3 := 0) (by decide) (noTexts w6) (c4 := 0) (by decide) (noInts w6))
  have K3 := Lib.hid (k37_mk w6 (nodeOf 7 [kA] [0]) (c3 := 3) (by decide) S0.out (c4 := 1) (by decide) I0.out)
  have K4 := Lib.hid (k37_mk w6 (nodeOf 7 [kA, kB] [0, 1]) (c3 := 3) (by decide) S1.out (c4 := 2) (by decide) I1.out)
  have K5 := Lib.hid (k37_mk w6 (nodeOf 8 [] [0, 1]) (c3 := 0) (by decide) (noTexts w6) (c4 := 2) (by decide) I2.out)
  have K6 := Lib.hid (k37_mk w6 (nodeOf 7 [kA] [5]) (c3 := 3) (by decide) S2.out (c4 := 1) (by decide) I3.out)
  have K7 := Lib.hid (k37_mk w6 (nodeOf 9 [] [3]) (c3 := 0) (by decide) (noTexts w6) (c4 := 1) (by decide) I4.out)
  have K8 := Lib.hid (k37_mk w6 (nodeOf 7 [kA] [8]) (c3 := 3) (by decide) S3.out (c4 := 1) (by decide) I5.out)
  have K9 := Lib.hid (k37_mk w6 (nodeOf 7 [kA] [10]) (c3 := 3) (by decide) S4.out (c4 := 1) (by decide) I6.out)
  have K10 := Lib.hid (k37_mk w6 (nodeOf 7 [kA, kB] [9, 0]) (c3 := 3) (by decide) S5.out (c4 := 2) (by decide) I7.out)
  go_wp2
  go_ret
  exact ⟨w6.heap.size, rfl, C_of_reps (xs := gC) w6 ((((((((((((Reps.none _ _).snoc K0.out rfl).snoc K1.out rfl).snoc K2.out rfl).snoc K3.out rfl).snoc K4.out rfl).snoc K5.out rfl).snoc K6.out rfl).snoc K7.out rfl).snoc K8.out rfl).snoc K9.out rfl).snoc K10.out rfl) (by decide), HB6.out.alloc HB6.out.size _⟩
end Go.Proofs.YtcljgfpcdlnlkaaDoor.Q
namespace Go.Proofs.YtcljgfpcdlnlkaaDoor.Q
open Go.RowKit Go.Proofs.YtcljgfpcdlnlkaaDoorW.PrintWords Mp
/-- A number, brought to be from 0 to below n. -/
def bringI (i n : Int) : Int := if i.tmod n < 0 then i.tmod n + n else i.tmod n
theorem bring_in {i n : Int} (hn : 0 < n) : 0 ≤ bringI i n ∧ bringI i n < n := by
  have h1 := Int.tmod_lt_of_pos i hn
  have h2 : -n < i.tmod n := by
    have := Int.lt_tmod_of_pos i hn
    omega
  unfold bringI
  split <;> omega
set_option maxRecDepth 100000 in
set_option maxHeartbeats 400000 in
theorem bring_calls (i n : Int) (w : World) (hn : 0 < n) (hn2 : n ≤ 9223372036854775807) : Calls Tryd.prog 24 #[.int .i64 i, .int .i64 n] w fun e w' => e = .returned (.int .i64 (bringI i n)) ∧ w' = w := by
  have h1 := Int.tmod_lt_of_pos i hn
  have h2 : -n < i.tmod n := by
    have := Int.lt_tmod_of_pos i hn
    omega
  have w1 : IntKind.i64.wrap (i.tmod n) = i.tmod n := by rw [IntKind.wrap_i64]; omega
  have n0 : ¬ n = 0 := by omega
  by_cases hneg : i.tmod n < 0
  · have d1 : decide (i.tmod n < 0) = true := decide_eq_true hneg
    have w2 : IntKind.i64.wrap (i.tmod n + n) = i.tmod n + n := by rw [IntKind.wrap_i64]; omega
    have HB := Lib.hid (show bringI i n = i.tmod n + n from if_pos hneg)
    clear h1 h2 hneg
    go_enter Tryd.func24, Tryd.ntmps24
    go_wp2
    go_ret
    exact ⟨by rw [HB.out]; rfl, rfl⟩
  · have d1 : decide (i.tmod n < 0) = false := decide_eq_false hneg
    have HB := Lib.hid (show bringI i n = i.tmod n from if_neg hneg)
    clear h1 h2 hneg
    go_enter Tryd.func24, Tryd.ntmps24
    go_wp2
    go_ret
    exact ⟨by rw [HB.out]; rfl, rfl⟩
/-- Two to four places below n. -/
structure SomeOk (n : Int) (l : List Int) : Prop where
  two : 2 ≤ l.length
  four : l.length ≤ 4
  inn : ∀ x ∈ l, 0 ≤ x ∧ x < n
set_option maxRecDepth 100000 in
set_option maxHeartbeats 400000 in
theorem some_calls (A : Option Addr) (c : Nat) (l : List Int) (n : Int) (w : World) (hn : 0 < n) (hn2 : n ≤ 9223372036854775807) (hl : Kd.C (Kd.int .i64) w A l.length l) :
    Calls Tryd.prog 70 #[.slice A l.length c, .int .i64 n] w fun e w' => ∃ v r, e = .returned v ∧ Kd.R (Kd.int .i64) 3 w' w.heap.size (fun _ => True) v r ∧ SomeOk n r ∧ Below w.heap.size w w' := by
  have HL := Lib.hid hl
  have hl63 := hl.2.1
  clear hl
  go_enter Tryd.func70, Tryd.ntmps70
  go_wp2
  go_loopw [5, 6] (fun s5 s6 W => ∃ k : Nat, k ≤ l.length ∧ k ≤ 4 ∧ s6 = .int .i64 k ∧ Hid (∃ r, Kd.R (Kd.int .i64) 3 W w.heap.size (fun _ => True) s5 r ∧ Below w.heap.size w W ∧ r.length = k ∧ ∀ x ∈ r, 0 ≤ x ∧ x < n)) (fun _ s6 _ => 4 - (intOf s6).toNat)
  case atStart => exact ⟨0, Nat.zero_le _, Nat.zero_le _, rfl, Lib.hid ⟨[], Kd.R_nil _ _ _ _ _, Below.refl _ _, rfl, fun x hx => by cases hx⟩⟩
  case round =>
    obtain ⟨k, hk, hk4, rfl, HI⟩ := hrel
    by_cases hlt : k < l.length
    · by_cases h4 : k < 4
      · obtain ⟨r, hR, hB, hr, hin⟩ := HI.out
        have HR := Lib.hid hR
        have HB := Lib.hid hB
        have HIn := Lib.hid hin
        have HLen := Lib.hid hr
        obtain ⟨ad, rfl, hc⟩ := int_cell (Kd.C_below HL.out hB) k hlt
        have HBr := Lib.hid (bring_calls (rd l k) n wr hn hn2)
        have hsz := hB.size
        have hBi := Lib.hid (bring_in (i := rd l k) hn)
        have htl : (r.length + 1) * 8 ≤ 140737488355328 := by omega
        clear HI hR hB hr hin
        go_wp2_with fail
        refine HBr.out.mono ?_
        rintro e w' ⟨rfl, hww⟩
        replace hww := hww.symm
        subst hww
        generalize bringI (rd l k) n = q at hBi ⊢
        go_wp2_with (at_builtin; refine Kd.R_append (Kd.int .i64) (w0 := w) w.heap.size rfl (.tmp 17) (.tmp 24) 23 3 (.int .i64 0) 8 rfl Tryd.underlying23 info3 rfl (by decide) (by omega) _ r q [.int .i64 q] (fun _ => True) (fun _ => False) rfl rfl rfl (fun _ hk => hk.elim) (fun _ _ => trivial) HR.out HB.out hsz htl ?_; intro v1 wA hR4 hB4 _ _; have HR4 := Lib.hid hR4; have HB4 := Lib.hid hB4; clear hR4 hB4)
        go_roundw
        case rel => exact ⟨k + 1, by omega, by omega, by go_num, Lib.hid ⟨_, HR4.out, HB4.out, by rw [List.length_append, HLen.out]; rfl, fun x hx => by
          rcases List.mem_append.1 hx with h | h
          · exact HIn.out x h
          · rw [List.mem_singleton.1 h]; exact hBi.out⟩⟩
        case measure => simp [intOf]; omega
      · obtain rfl : k = 4 := by omega
        have d4 : decide ((4 : Int) < (l.length : Int)) = true := by simp; omega
        go_wp2
        go_loopg [5] 2 (fun k s5 W => Hid (∃ r, Kd.R (Kd.int .i64) 3 W w.heap.size (fun _ => True) s5 r ∧ Below w.heap.size w W ∧ 2 - r.length ≤ k ∧ r.length ≤ 4 ∧ ∀ x ∈ r, 0 ≤ x ∧ x < n))
        case atStart => obtain ⟨r, h1, h2, h3, h4⟩ := HI.out; exact Lib.hid ⟨r, h1, h2, by omega, by omega, h4⟩
        case round =>
          obtain ⟨r, hR, hB, hk2, hr4, hin⟩ := hrel.out
          obtain ⟨AL, cL, he, hcL, _⟩ := Kd.R_reads hR
          subst he
          have HR := Lib.hid hR
          have HB := Lib.hid hB
          have HIn := Lib.hid hin
          have HK2 := Lib.hid hk2
          have hsz := hB.size
          have htl : (r.length + 1) * 8 ≤ 140737488355328 := by omega
          clear HI hR hB hin hrel hk2
          by_cases h2 : r.length < 2
          · have d2 : decide ((r.length : Int) < 2) = true := by simp; omega
            go_wp2_with (at_builtin; refine Kd.R_append (Kd.int .i64) (w0 := w) w.heap.size rfl (.tmp 29) (.tmp 30) 23 3 (.int .i64 0) 8 rfl Tryd.underlying23 info3 rfl (by decide) (by omega) _ r 0 [.int .i64 0] (fun _ => True) (fun _ => False) rfl rfl rfl (fun _ hk => hk.elim) (fun _ _ => trivial) HR.out HB.out hsz htl ?_; intro v1 wA hR4 hB4 _ _; have HR4 := Lib.hid hR4; have HB4 := Lib.hid hB4; clear hR4 hB4)
            go_roundg (2 - (r.length + 1))
            case measure => have := HK2.out; omega
            case rel => exact Lib.hid ⟨_, HR4.out, HB4.out, by simp, by simp; omega, fun x hx => by
              rcases List.mem_append.1 hx with h | h
              · exact HIn.out x h
              · rw [List.mem_singleton.1 h]; exact ⟨Int.le_refl _, hn⟩⟩
          · have d2 : decide ((r.length : Int) < 2) = false := by simp; omega
            go_wp2
            go_ret
            exact ⟨_, r, rfl, HR.out, ⟨by omega, hr4, HIn.out⟩, HB.out⟩
    · have hkl : k = l.length := by omega
      have dk : decide ((k : Int) < (l.length : Int)) = false := by simp; omega
      clear hkl
      go_wp2
      go_loopg [5] 2 (fun k s5 W => Hid (∃ r, Kd.R (Kd.int .i64) 3 W w.heap.size (fun _ => True) s5 r ∧ Below w.heap.size w W ∧ 2 - r.length ≤ k ∧ r.length ≤ 4 ∧ ∀ x ∈ r, 0 ≤ x ∧ x < n))
      case atStart => obtain ⟨r, h1, h2, h3, h4⟩ := HI.out; exact Lib.hid ⟨r, h1, h2, by omega, by omega, h4⟩
      case round =>
        obtain ⟨r, hR, hB, hk2, hr4, hin⟩ := hrel.out
        obtain ⟨AL, cL, he, hcL, _⟩ := Kd.R_reads hR
        subst he
        have HR := Lib.hid hR
        have HB := Lib.hid hB
        have HIn := Lib.hid hin
        have HK2 := Lib.hid hk2
        have hsz := hB.size
        have htl : (r.length + 1) * 8 ≤ 140737488355328 := by omega
        clear HI hR hB hin hrel hk2
        by_cases h2 : r.length < 2
        · have d2 : decide ((r.length : Int) < 2) = true := by simp; omega
          go_wp2_with (at_builtin; refine Kd.R_append (Kd.int .i64) (w0 := w) w.heap.size rfl (.tmp 29) (.tmp 30) 23 3 (.int .i64 0) 8 rfl Tryd.underlying23 info3 rfl (by decide) (by omega) _ r 0 [.int .i64 0] (fun _ => True) (fun _ => False) rfl rfl rfl (fun _ hk => hk.elim) (fun _ _ => trivial) HR.out HB.out hsz htl ?_; intro v1 wA hR4 hB4 _ _; have HR4 := Lib.hid hR4; have HB4 := Lib.hid hB4; clear hR4 hB4)
          go_roundg (2 - (r.length + 1))
          case measure => have := HK2.out; omega
          case rel => exact Lib.hid ⟨_, HR4.out, HB4.out, by simp, by simp; omega, fun x hx => by
            rcases List.mem_append.1 hx with h | h
            · exact HIn.out x h
            · rw [List.mem_singleton.1 h]; exact ⟨Int.le_refl _, hn⟩⟩
        · have d2 : decide ((r.length : Int) < 2) = false := by simp; omega
          go_wp2
          go_ret
          exact ⟨_, r, rfl, HR.out, ⟨by omega, hr4, HIn.out⟩, HB.out⟩
end Go.Proofs.YtcljgfpcdlnlkaaDoor.Q
namespace Go.Proofs.YtcljgfpcdlnlkaaDoor.Q
open Go.RowKit Go.Proofs.YtcljgfpcdlnlkaaDoorW.PrintWords Mp
/-- Each once, in order. -/
structure OnceOk (l r : List Int) : Prop where
  dist : distinctB r = true
  sub : ∀ x ∈ r, x ∈ l
  sup : ∀ x ∈ l, x ∈ r
  len : r.length ≤ l.length
theorem distinct_snoc {r : List Int} {x : Int} (h : distinctB r = true) (hx : x ∉ r) : distinctB (r ++ [x]) = true := by
  induction r with
  | nil => rfl
  | cons y r ih =>
    simp only [distinctB, Bool.and_eq_true, Bool.not_eq_true', List.cons_append] at h ⊢
    refine ⟨?_, ih h.2 (fun e => hx (List.mem_cons_of_mem _ e))⟩
    have h1 := h.1
    have hne : y ≠ x := fun e => hx (by rw [e]; exact List.mem_cons_self)
    simp_all
theorem take_mem {l : List Int} {k : Nat} (hk : k < l.length) {x : Int} : x ∈ l.take (k + 1) ↔ x ∈ l.take k ∨ x = rd l k := by
  rw [← rd_take hk, List.mem_append, List.mem_singleton]
set_option maxRecDepth 100000 in
set_option maxHeartbeats 1000000 in
theorem once_calls (A : Option Addr) (c : Nat) (l : List Int) (w : World) (hl : Kd.C (Kd.int .i64) w A l.length l) (hl2 : l.length ≤ 4000000) :
    Calls Tryd.prog 40 #[.slice A l.length c] w fun e w' => ∃ v r, e = .returned v ∧ Kd.R (Kd.int .i64) 3 w' w.heap.size (fun _ => True) v r ∧ OnceOk l r ∧ Below w.heap.size w w' := by
  have HL := Lib.hid hl
  clear hl
  go_enter Tryd.func40, Tryd.ntmps40
  go_wp2
  go_loopw [3, 4] (fun s3 s4 W => ∃ k : Nat, k ≤ l.length ∧ s4 = .int .i64 k ∧ Hid (∃ r, Kd.R (Kd.int .i64) 3 W w.heap.size (fun _ => True) s3 r ∧ Below w.heap.size w W ∧ OnceOk (l.take k) r)) (fun _ s4 _ => l.length - (intOf s4).toNat)
  case atStart => exact ⟨0, Nat.zero_le _, rfl, Lib.hid ⟨[], Kd.R_nil _ _ _ _ _, Below.refl _ _, ⟨rfl, fun x hx => (by cases hx), fun x hx => (by simp at hx), by simp⟩⟩⟩
  case round =>
    obtain ⟨k, hk, rfl, HI⟩ := hrel
    obtain ⟨r, hR, hB, hO⟩ := HI.out
    obtain ⟨AL, cL, he, hcL, _⟩ := Kd.R_reads hR
    subst he
    have HR := Lib.hid hR
    have HB := Lib.hid hB
    have HO := Lib.hid hO
    have hrl : r.length ≤ k := by have := hO.len; rw [List.length_take] at this; omega
    clear HI hR hB hO
    by_cases hlt : k < l.length
    · obtain ⟨ad, rfl, hc⟩ := int_cell (Kd.C_below HL.out HB.out) k hlt
      obtain ⟨x, hx⟩ : ∃ x, x = rd l k := ⟨_, rfl⟩
      rw [← hx] at hc
      have HX := Lib.hid hx
      clear hx
      obtain ⟨w1, hw1⟩ : ∃ w1, w1 = wr := ⟨_, rfl⟩
      subst hw1
      go_wp2
      go_loopw [5, 6] (fun s5 s6 W => ∃ j : Nat, j ≤ r.length ∧ s6 = .int .i64 j ∧ ∃ b : Bool, s5 = .bool b ∧ Hid (∃ n, W = w1.drewN n) ∧ Hid (b = (r.take j).any fun y => decide (y = x))) (fun _ s6 _ => r.length - (intOf s6).toNat)
      case atStart => exact ⟨0, Nat.zero_le _, rfl, false, rfl, Lib.hid ⟨0, rfl⟩, Lib.hid rfl⟩
      case round =>
        obtain ⟨j, hj, rfl, b, rfl, HW, HBl⟩ := hrel
        obtain ⟨m, hm⟩ := HW.out
        subst hm
        clear HW
        by_cases hjt : j < r.length
        · obtain ⟨ar, har, hcr⟩ := int_cell (Kd.R_reads' HR.out).2.2 j hjt
          subst har
          have hstep : (r.take (j + 1)).any (fun y => decide (y = x)) = (b || decide (rd r j = x)) := by
            rw [← rd_take hjt, List.any_append, ← HBl.out]; simp
          have HSt := Lib.hid hstep
          clear hstep HBl
          cases b with
          | true =>
            go_wp2
            go_quiet (fail)
            go_wp2
            go_roundw
            case rel => exact ⟨j + 1, by omega, by go_num, _, rfl, Lib.hid ⟨_, rfl⟩, Lib.hid (by rw [HSt.out]; rfl)⟩
            case measure => simp [intOf]; omega
          | false =>
            go_wp2
            go_quiet (fail)
            go_wp2
            go_roundw
            case rel => exact ⟨j + 1, by omega, by go_num, _, rfl, Lib.hid ⟨_, rfl⟩, Lib.hid (by rw [HSt.out, Bool.false_or]; rfl)⟩
            case measure => simp [intOf]; omega
        · obtain rfl : j = r.length := by omega
          have HR2 := Lib.hid (show Kd.R (Kd.int .i64) 3 (w1.drewN m) w.heap.size (fun _ => True) (.slice AL r.length cL) r from Kd.R_step HR.out (fun _ _ _ => rfl))
          have HB2 := Lib.hid (below_drewN HB.out m)
          have hcm : (w1.drewN m).cell? (ad.add k) = some (.int .i64 x) := hc
          have HAny := Lib.hid (show b = decide (x ∈ r) from by
            have := HBl.out
            rw [List.take_length] at this
            rw [this, Bool.eq_iff_iff, List.any_eq_true, decide_eq_true_eq]
            exact ⟨fun ⟨y, hy, he⟩ => by rw [← of_decide_eq_true he]; exact hy, fun h => ⟨x, h, decide_eq_true rfl⟩⟩)
          clear HBl hc
          generalize w1.drewN m = wm at HR2 HB2 hcm ⊢
          cases b with
          | true =>
            have hin : x ∈ r := by have := HAny.out; simpa using this.symm
            have HO2 := Lib.hid (show OnceOk (l.take (k + 1)) r from ⟨HO.out.dist, fun y hy => (take_mem hlt).2 (.inl (HO.out.sub y hy)), fun y hy => by
              rcases (take_mem hlt).1 hy with h | h
              · exact HO.out.sup y h
              · rw [h, ← HX.out]; exact hin, by rw [List.length_take]; omega⟩)
            clear hin
            go_wp2
            go_roundw
            case rel => exact ⟨k + 1, by omega, by go_num, Lib.hid ⟨r, HR2.out, HB2.out, HO2.out⟩⟩
            case measure => simp [intOf]; omega
          | false =>
            have hin : x ∉ r := by have := HAny.out; simpa using this.symm
            have HO2 := Lib.hid (show OnceOk (l.take (k + 1)) (r ++ [x]) from ⟨distinct_snoc HO.out.dist hin, fun y hy => by
              rcases List.mem_append.1 hy with h | h
              · exact (take_mem hlt).2 (.inl (HO.out.sub y h))
              · exact (take_mem hlt).2 (.inr (by rw [List.mem_singleton.1 h, HX.out])), fun y hy => by
              rcases (take_mem hlt).1 hy with h | h
              · exact List.mem_append_left _ (HO.out.sup y h)
              · rw [h, ← HX.out]; simp, by rw [List.length_take, List.length_append]; simp; omega⟩)
            have hsz := HB2.out.size
            have htl : (r.length + 1) * 8 ≤ 140737488355328 := by omega
            clear hin
            go_wp2_with (at_builtin; refine Kd.R_append (Kd.int .i64) (w0 := w) w.heap.size rfl (.tmp 33) (.tmp 38) 23 3 (.int .i64 0) 8 rfl Tryd.underlying23 info3 rfl (by decide) (by omega) _ r x [.int .i64 x] (fun _ => True) (fun _ => False) rfl rfl rfl (fun _ hk => hk.elim) (fun _ _ => trivial) HR2.out HB2.out hsz htl ?_; intro v1 wA hR4 hB4 _ _; have HR4 := Lib.hid hR4; have HB4 := Lib.hid hB4; clear hR4 hB4)
            go_roundw
            case rel => exact ⟨k + 1, by omega, by go_num, Lib.hid ⟨_, HR4.out, HB4.out, HO2.out⟩⟩
            case measure => simp [intOf]; omega
    · obtain rfl : k = l.length := by omega
      have HO2 := Lib.hid (show OnceOk l r from by have := HO.out; rwa [List.take_length] at this)
      go_wp2
      go_ret
      exact ⟨_, r, rfl, HR.out, HO2.out, HB.out⟩
end Go.Proofs.YtcljgfpcdlnlkaaDoor.Q
namespace Go.Proofs.YtcljgfpcdlnlkaaDoor.Q
open Go.RowKit Go.Proofs.YtcljgfpcdlnlkaaDoorW.PrintWords Mp
theorem distinct_iff {l : List Int} : distinctB l = true ↔ l.Nodup := by
  induction l with
  | nil => simp [distinctB]
  | cons x l ih =>
    simp only [distinctB, Bool.and_eq_true, Bool.not_eq_true', List.nodup_cons, ih]
    simp
theorem out_range {n : Nat} {x : Int} : outB n x = false ↔ 0 ≤ x ∧ x < n := by
  unfold outB
  rw [Bool.or_eq_false_iff, decide_eq_false_iff_not, decide_eq_false_iff_not]
  omega
set_option maxRecDepth 100000 in
set_option maxHeartbeats 400000 in
theorem inside_calls (w : World) (A : Option Addr) (n c : Nat) (B : Option Addr) (b : Nat) (l : List Int) (hl : Kd.C (Kd.int .i64) w B l.length l) :
    Calls Tryd.prog 142 #[.slice A n c, .slice B l.length b] w fun e w' => e = .returned (.bool (!(l.any (outB n)))) ∧ w' = w := by
  have hb := hl.2.1
  have HL := Lib.hid hl
  clear hl
  go_enter Tryd.func142, Tryd.ntmps142
  go_wp2
  go_loopw [5] (fun s5 W => ∃ k : Nat, k ≤ l.length ∧ s5 = .int .i64 k ∧ Hid (W = w ∧ ∀ j : Nat, j < k → outB n (rd l (j : Int)) = false)) (fun s5 _ => l.length - (intOf s5).toNat)
  case atStart => exact ⟨0, by omega, rfl, Lib.hid ⟨rfl, fun j hj => absurd hj (by omega)⟩⟩
  case round =>
    obtain ⟨k, hk, rfl, HI⟩ := hrel
    have hww := HI.out.1.symm
    subst hww
    by_cases hlt : k < l.length
    · obtain ⟨u, rfl, z⟩ := int_cell HL.out k hlt
      have HF := Lib.hid (show outB n (rd l (k : Int)) = true → l.any (outB n) = true from fun h => List.any_eq_true.2 ⟨_, rd_memI (by omega) (by omega), h⟩)
      have HN := Lib.hid (show outB n (rd l (k : Int)) = false → ∀ j : Nat, j < k + 1 → outB n (rd l (j : Int)) = false from fun h j hj => if e : j = k then by rw [e]; exact h else HI.out.2 j (by omega))
      generalize rd l (k : Int) = x at z HF HN
      cases d1 : decide (x < 0) with
      | true =>
        have HA := Lib.hid (HF.out (by unfold outB; rw [d1]; rfl))
        go_wp2
        go_ret
        exact ⟨by rw [HA.out]; rfl, rfl⟩
      | false =>
        cases d2 : decide ((n : Int) ≤ x) with
        | true =>
          have HA := Lib.hid (HF.out (by unfold outB; rw [d1, d2]; rfl))
          go_wp2
          go_ret
          exact ⟨by rw [HA.out]; rfl, rfl⟩
        | false =>
          have HA := Lib.hid (HN.out (by unfold outB; rw [d1, d2]; rfl))
          clear HF HN
          go_wp2
          go_roundw
          case rel => exact ⟨k + 1, by omega, by go_num, Lib.hid ⟨by simp, HA.out⟩⟩
          case measure => simp [intOf]; omega
    · obtain rfl : k = l.length := by omega
      have HA := Lib.hid (show l.any (outB n) = false from any_none l 0 _ (fun i hi => HI.out.2 i hi))
      go_wp2
      go_ret
      exact ⟨by rw [HA.out]; rfl, rfl⟩
theorem make_row' (w : World) (n : Nat) (hn : n ≤ 4000000) : ∃ w', (Instr.makeSlice 45 (.int .i64 (n : Int)) (.int .i64 (n : Int))).run Tryd.prog w = .ok (.slice (some ⟨w.heap.size, 0, none⟩) n n) w' ∧ RowAt w' w.heap.size n (List.replicate n false) ∧ Below w.heap.size w w' ∧ w'.heap.size = w.heap.size + 1 := by
  obtain ⟨i0, hi, hzz⟩ := Option.map_eq_some_iff.1 info4
  simp only [Prod.mk.injEq] at hzz
  obtain ⟨hz0, hz1, hz2⟩ := hzz
  have hr := run_make (P := Tryd.prog) w 45 4 i0 _ Tryd.underlying45 hi hz0 .i64 .i64 (n : Int) (n : Int) (by omega) (by omega) (by rw [hz2]; omega) (by omega)
  rw [hz1] at hr
  refine ⟨_, hr, ⟨⟨_, Array.getElem?_push_size, ?_, fun j hj => ?_⟩, by simp⟩, (Below.refl _ _).alloc (Nat.le_refl _) _, by simp⟩
  · simp [size_madeCells]
  · rw [show (Value.bool false).cells = #[Value.bool false] from rfl, ← Array.getElem?_toList, toList_madeCells_one]
    simp [hj, List.getD_eq_getElem?_getD]
set_option maxRecDepth 100000 in
set_option maxHeartbeats 400000 in
theorem places_calls (w : World) (A : Option Addr) (n c : Nat) (B : Option Addr) (b : Nat) (l : List Int) (hn : n ≤ 4000000) (hl : Kd.C (Kd.int .i64) w B l.length l) :
    Calls Tryd.prog 167 #[.slice A n c, .slice B l.length b] w fun e w' => e = .returned (.bool (!(l.any (outB n)) && distinctB l)) ∧ Below w.heap.size w w' := by
  have hb := hl.2.1
  obtain ⟨w1, hmk, hr1, hb1, hs1⟩ := make_row' w n hn
  have HL := Lib.hid hl
  have HR1 := Lib.hid hr1
  have HB1 := Lib.hid hb1
  clear hl hr1 hb1 hs1
  go_enter Tryd.func167, Tryd.ntmps167
  go_wp2
  clear hmk
  obtain ⟨g, hg⟩ : ∃ g, g = w.heap.size := ⟨_, rfl⟩
  rw [← hg] at HR1 ⊢
  have hgle : w.heap.size ≤ g := by omega
  have HGe := Lib.hid hg
  clear hg
  go_loopw [6] (fun s6 W => ∃ k : Nat, k ≤ l.length ∧ s6 = .int .i64 k ∧ Hid (Below w.heap.size w W ∧ (∀ j : Nat, j < k → outB n (rd l (j : Int)) = false) ∧ (l.take k).Nodup ∧ ∃ r, RowAt W g n r ∧ ∀ j : Nat, j < n → (r.getD j false = true ↔ (j : Int) ∈ l.take k))) (fun s6 _ => l.length - (intOf s6).toNat)
  case atStart => exact ⟨0, by omega, rfl, Lib.hid ⟨HB1.out, fun j hj => absurd hj (by omega), by simp, _, HR1.out, fun j hj => by simp [List.getD_eq_getElem?_getD, hj]⟩⟩
  case round =>
    obtain ⟨k, hk, rfl, HI⟩ := hrel
    obtain ⟨hbw, hin, hnd, r, hr, hseen⟩ := HI.out
    by_cases hlt : k < l.length
    · obtain ⟨u, rfl, z⟩ := int_cell (Kd.C_below HL.out hbw) k hlt
      have HF := Lib.hid (show outB n (rd l (k : Int)) = true → l.any (outB n) = true from fun h => List.any_eq_true.2 ⟨_, rd_memI (by omega) (by omega), h⟩)
      have HN := Lib.hid (show outB n (rd l (k : Int)) = false → ∀ j : Nat, j < k + 1 → outB n (rd l (j : Int)) = false from fun h j hj => if e : j = k then by rw [e]; exact h else hin j (by omega))
      have HT := Lib.hid (show ∀ y, y ∈ l.take (k + 1) ↔ y ∈ l.take k ∨ y = rd l (k : Int) from fun y => take_mem hlt)
      have HS := Lib.hid (show l.take (k + 1) = l.take k ++ [rd l (k : Int)] from by
        rw [List.take_add_one, List.getElem?_eq_getElem hlt]
        unfold rd
        rw [Int.toNat_natCast, List.getD_eq_getElem?_getD, List.getElem?_eq_getElem hlt]
        rfl)
      have HD := Lib.hid (show rd l (k : Int) ∈ l.take k → distinctB l = false from fun h => by
        apply Bool.eq_false_iff.2
        intro hd
        have h1 := (distinct_iff.1 hd).sublist (List.take_sublist (k + 1) l)
        rw [HS.out, List.nodup_append] at h1
        exact h1.2.2 _ h _ (List.mem_singleton.2 rfl) rfl)
      have HW := Lib.hid hbw
      have HR := Lib.hid hr
      have HSe := Lib.hid hseen
      have HNd := Lib.hid hnd
      generalize rd l (k : Int) = x at z HF HN HT HS HD
      clear hbw hin hnd hr hseen HI
      cases d1 : decide (x < 0) with
      | true =>
        have HA := Lib.hid (HF.out (by unfold outB; rw [d1]; rfl))
        go_wp2
        go_ret
        exact ⟨by rw [HA.out]; rfl, HW.out⟩
      | false =>
        cases d2 : decide ((n : Int) ≤ x) with
        | true =>
          have HA := Lib.hid (HF.out (by unfold outB; rw [d1, d2]; rfl))
          go_wp2
          go_ret
          exact ⟨by rw [HA.out]; rfl, HW.out⟩
        | false =>
          have HA := Lib.hid (HN.out (by unfold outB; rw [d1, d2]; rfl))
          have x0 : 0 ≤ x := by have := of_decide_eq_false d1; omega
          have x1 : x < n := by have := of_decide_eq_false d2; omega
          have y1 := HR.out.cell x.toNat (by omega)
          have y2 := HR.out.frozen x.toNat
          have HX := Lib.hid (HSe.out x.toNat (by omega))
          rw [show ((x.toNat : Nat) : Int) = x from Int.toNat_of_nonneg x0] at HX
          cases hv : r.getD x.toNat false with
          | true =>
            rw [hv] at y1
            have HB := Lib.hid (HD.out (HX.out.1 hv))
            clear hv
            go_wp2
            go_ret
            exact ⟨by rw [HB.out, Bool.and_false]; rfl, HW.out⟩
          | false =>
            rw [hv] at y1
            have HNi := Lib.hid (show ¬ x ∈ l.take k from fun h => by rw [HX.out.2 h] at hv; cases hv)
            clear hv HF HN HD
            go_wp2
            go_roundw
            case rel => exact ⟨k + 1, by omega, by go_num, Lib.hid ⟨HW.out.setCell hgle _, HA.out, by
              rw [HS.out, List.nodup_append]
              exact ⟨HNd.out, by simp, fun y hy z hz e => by
                rw [List.mem_singleton.1 hz] at e
                rw [e] at hy
                exact HNi.out hy⟩, _, HR.out.set x.toNat true, fun j hj => by
              rw [HT.out, getD_set _ _ _ _ _ (by rw [HR.out.len]; omega)]
              by_cases e : j = x.toNat
              · rw [if_pos e]
                exact ⟨fun _ => .inr (by omega), fun _ => rfl⟩
              · rw [if_neg e, HSe.out j hj]
                exact ⟨fun h => .inl h, fun h => by rcases h with h | h; exact h; omega⟩⟩⟩
            case measure => simp [intOf]; omega
    · obtain rfl : k = l.length := by omega
      have HA := Lib.hid (show l.any (outB n) = false from any_none l 0 _ (fun i hi => hin i hi))
      have HD := Lib.hid (show distinctB l = true by rw [distinct_iff]; rwa [List.take_length] at hnd)
      have HW := Lib.hid hbw
      clear hbw hin hnd hr hseen
      go_wp2
      go_ret
      exact ⟨by rw [HA.out, HD.out]; rfl, HW.out⟩
end Go.Proofs.YtcljgfpcdlnlkaaDoor.Q
namespace Go.Proofs.YtcljgfpcdlnlkaaDoor.Q
open Go.RowKit Go.Proofs.YtcljgfpcdlnlkaaDoorW.PrintWords Go.Proofs.YtcljgfpcdlnlkaaDoorW.PrintLast Mp
theorem less_tri (x y : List UInt8) : Op.bytesLess x y = true ↔ ¬ y = x ∧ Op.bytesLess y x = false := by
  induction x generalizing y with
  | nil => cases y <;> simp [Op.bytesLess]
  | cons a x ih =>
    cases y with
    | nil => simp [Op.bytesLess]
    | cons b y =>
      have h := ih y
      simp only [Op.bytesLess, Bool.or_eq_true, Bool.and_eq_true, decide_eq_true_eq, beq_iff_eq, Bool.or_eq_false_iff, Bool.and_eq_false_iff, decide_eq_false_iff_not, List.cons.injEq, not_and, beq_eq_false_iff_ne, ne_eq, UInt8.lt_iff_toNat_lt, ← UInt8.toNat_inj]
      rcases Nat.lt_trichotomy a.toNat b.toNat with h1 | h1 | h1
      · constructor
        · intro _; exact ⟨fun e => by omega, by omega, .inl (by omega)⟩
        · intro _; exact .inl h1
      · rw [h]
        constructor
        · rintro (h2 | ⟨_, h2, h3⟩)
          · omega
          · exact ⟨fun _ => h2, by omega, .inr h3⟩
        · rintro ⟨h2, _, h3⟩
          exact .inr ⟨h1, h2 h1.symm, by rcases h3 with h3 | h3; exact absurd h1.symm h3; exact h3⟩
      · constructor
        · rintro (h2 | ⟨h2, _⟩) <;> omega
        · rintro ⟨_, h2, _⟩; omega
theorem lt_tri (a b : ByteArray) : ltB a b = true ↔ ¬ b = a ∧ ltB b a = false := by
  unfold ltB
  rw [less_tri]
  refine and_congr_left' (not_congr ?_)
  constructor
  · intro h
    rw [ByteArray.toList_eq, ByteArray.toList_eq] at h
    cases a; cases b
    exact congrArg _ (Array.toList_inj.1 h)
  · intro h; rw [h]
theorem rise_lt (a b : ByteArray) : (!decide (riseCmp b a < 0)) = ltB a b := by
  rw [Bool.eq_iff_iff, lt_tri]
  simp only [Bool.not_eq_true', decide_eq_false_iff_not]
  unfold riseCmp cmpS
  by_cases h1 : b = a
  · rw [if_pos h1]; simp [h1]
  · rw [if_neg h1]
    by_cases h2 : ltB b a = true
    · rw [if_pos h2]; simp [h2]
    · rw [if_neg h2, if_neg h1]
      simp only [Bool.not_eq_true] at h2
      simp [h1, h2]
theorem rising_iff {l : List ByteArray} : risingB l = true ↔ ∀ i : Nat, 0 < i → i < l.length → ltB (l.getD (i - 1) ByteArray.empty) (l.getD i ByteArray.empty) = true := by
  unfold risingB
  rw [List.all_eq_true]
  constructor
  · intro h i h0 hi
    have := h (i - 1) (List.mem_range.2 (by omega))
    rw [rise_lt, show i - 1 + 1 = i by omega] at this
    exact this
  · intro h i hi
    have hi := List.mem_range.1 hi
    rw [rise_lt]
    exact h (i + 1) (by omega) (by omega)
/-- May a record's fields be? -/
def recP (n : Nat) (x : S37) : Bool := (x.f3.all isNameB && risingB x.f3) && (decide (x.f2 = ⟨#[]⟩) && decide (x.f1 = 0) && decide (x.f3.length ≤ 16) && decide (x.f4.length = x.f3.length) && !(x.f4.any (outB n)))
theorem nil_eq (s : ByteArray) : s.toList.isEmpty = decide (s = ⟨#[]⟩) := by
  rw [Bool.eq_iff_iff, decide_eq_true_eq, List.isEmpty_iff, ByteArray.toList_eq]
  constructor
  · intro h
    cases s
    exact congrArg _ (Array.toList_eq_nil_iff.1 h)
  · intro h; rw [h]
set_option maxRecDepth 100000 in
set_option maxHeartbeats 1000000 in
theorem record6_calls (w : World) (A : Option Addr) (n c : Nat) (x : S37) (A3 A4 : Option Addr) (a3 a4 : Nat) (h3 : Kd.C Kd.string w A3 x.f3.length x.f3) (h4 : Kd.C (Kd.int .i64) w A4 x.f4.length x.f4) (hz : ∀ s ∈ x.f3, s.size ≤ 9223372036854775807) :
    Calls Tryd.prog 140 #[.slice A n c, nodeV x A3 a3 A4 a4] w fun e w' => e = .returned (.bool (recP n x)) ∧ Below w.heap.size w w' := by
  unfold nodeV
  have hbW : Below w.heap.size w (w.alloc (.cells #[.int .i64 x.f0, .int .i64 x.f1, .string x.f2, .slice A3 x.f3.length a3, .slice A4 x.f4.length a4] 37)) := (Below.refl _ _).alloc (Nat.le_refl _) _
  have p0 : (w.alloc (.cells #[.int .i64 x.f0, .int .i64 x.f1, .string x.f2, .slice A3 x.f3.length a3, .slice A4 x.f4.length a4] 37)).cell? ⟨w.heap.size, 0, none⟩ = some (.int .i64 x.f0) := by simp
  have p1 : (w.alloc (.cells #[.int .i64 x.f0, .int .i64 x.f1, .string x.f2, .slice A3 x.f3.length a3, .slice A4 x.f4.length a4] 37)).cell? ⟨w.heap.size, 1, none⟩ = some (.int .i64 x.f1) := by simp
  have p2 : (w.alloc (.cells #[.int .i64 x.f0, .int .i64 x.f1, .string x.f2, .slice A3 x.f3.length a3, .slice A4 x.f4.length a4] 37)).cell? ⟨w.heap.size, 2, none⟩ = some (.string x.f2) := by simp
  have p3 : (w.alloc (.cells #[.int .i64 x.f0, .int .i64 x.f1, .string x.f2, .slice A3 x.f3.length a3, .slice A4 x.f4.length a4] 37)).cell? ⟨w.heap.size, 3, none⟩ = some (.slice A3 x.f3.length a3) := by simp
  have p4 : (w.alloc (.cells #[.int .i64 x.f0, .int .i64 x.f1, .string x.f2, .slice A3 x.f3.length a3, .slice A4 x.f4.length a4] 37)).cell? ⟨w.heap.size, 4, none⟩ = some (.slice A4 x.f4.length a4) := by simp
  have H3 := Lib.hid (Kd.C_below h3 hbW)
  have H4 := Lib.hid (Kd.C_below h4 hbW)
  have b3 := h3.2.1
  have HbW := Lib.hid hbW
  have HZ := Lib.hid hz
  clear h3 h4 hbW hz
  go_enter Tryd.func140, Tryd.ntmps140
  go_wp2
  generalize (w.alloc (.cells #[.int .i64 x.f0, .int .i64 x.f1, .string x.f2, .slice A3 x.f3.length a3, .slice A4 x.f4.length a4] 37)) = w0 at *
  go_loopw [5] (fun s5 W => ∃ k : Nat, k ≤ x.f3.length ∧ s5 = .int .i64 k ∧ Hid (Below w0.heap.size w0 W ∧ (∀ j : Nat, j < k → isNameB (x.f3.getD j ByteArray.empty) = true ∧ (0 < j → ltB (x.f3.getD (j - 1) ByteArray.empty) (x.f3.getD j ByteArray.empty) = true)))) (fun s5 _ => x.f3.length - (intOf s5).toNat)
  case atStart => exact ⟨0, Nat.zero_le _, rfl, Lib.hid ⟨Below.refl _ _, fun j hj => absurd hj (by omega)⟩⟩
  case round =>
    obtain ⟨k, hk, rfl, HI⟩ := hrel
    have p0' := (HI.out.1.cell (World.block_lt_of_cell? w0 _ p0)).trans p0
    have p1' := (HI.out.1.cell (World.block_lt_of_cell? w0 _ p1)).trans p1
    have p2' := (HI.out.1.cell (World.block_lt_of_cell? w0 _ p2)).trans p2
    have p3' := (HI.out.1.cell (World.block_lt_of_cell? w0 _ p3)).trans p3
    have p4' := (HI.out.1.cell (World.block_lt_of_cell? w0 _ p4)).trans p4
    have HB := Lib.hid (HbW.out.trans (HI.out.1.mono HbW.out.size))
    by_cases hlt : k < x.f3.length
    · obtain ⟨u3, rfl, z3⟩ := str_cell (Kd.C_below H3.out HI.out.1) k hlt
      have hmem : x.f3.getD k ByteArray.empty ∈ x.f3 := by rw [List.getD_eq_getElem?_getD, List.getElem?_eq_getElem hlt]; exact List.getElem_mem _
      have HNa := Lib.hid (fun W => isName2_calls (x.f3.getD k ByteArray.empty) W (HZ.out _ hmem))
      have HF1 := Lib.hid (show isNameB (x.f3.getD k ByteArray.empty) = false → recP n x = false from fun h => by
        unfold recP
        rw [List.all_eq_false.2 ⟨_, hmem, by rw [h]; exact Bool.false_ne_true⟩]; rfl)
      have HF2 := Lib.hid (show 0 < k → ltB (x.f3.getD (k - 1) ByteArray.empty) (x.f3.getD k ByteArray.empty) = false → recP n x = false from fun h0 h => by
        have : risingB x.f3 = false := Bool.eq_false_iff.2 fun hr => by rw [rising_iff.1 hr k h0 hlt] at h; cases h
        unfold recP
        rw [this, Bool.and_false]; rfl)
      have HNx := Lib.hid (show isNameB (x.f3.getD k ByteArray.empty) = true → (0 < k → ltB (x.f3.getD (k - 1) ByteArray.empty) (x.f3.getD k ByteArray.empty) = true) → ∀ j : Nat, j < k + 1 → isNameB (x.f3.getD j ByteArray.empty) = true ∧ (0 < j → ltB (x.f3.getD (j - 1) ByteArray.empty) (x.f3.getD j ByteArray.empty) = true) from fun h1 h2 j hj => if e : j = k then by rw [e]; exact ⟨h1, h2⟩ else HI.out.2 j (by omega))
      clear hmem
      cases hn : isNameB (x.f3.getD k ByteArray.empty) with
      | false =>
        have HX := Lib.hid (HF1.out hn)
        rw [hn] at HNa
        clear hn HF2 HNx
        generalize x.f3.getD k ByteArray.empty = S1 at *
        go_wp2
        refine start_ (n := 25) (S := fun w' => w'.cell? ⟨w.heap.size, 3, none⟩ = some (.slice (some u3) x.f3.length a3) ∧ w'.cell? (u3.add k) = some (.string S1)) (ds := [5]) #[false, false, false, false, false, false, false, false, false, false, false, false, false, false, false, false, false, false, false, false, false, false, false, false, false] (by kernel_rfl) rfl rfl ⟨p3', z3⟩ (fun hHeld => ?_)
        refine pure_ (i := 0) (N := some 13) (v := ?_) (a' := ?_) #[true, false, false, false, false, false, false, false, false, false, false, false, false, false, false, false, false, false, false, false, false, false, false, false, false] rfl rfl (by kernel_rfl) (fun _ _ _ h => h) (Or.inl ⟨by rfl, ?_⟩) ?_ ?_
        rotate_left
        · intro w'
          go_simp
          with_reducible rfl
        rotate_left
        · simp only [Act.put, List.setIfInBounds_toArray, List.set_cons_zero, List.set_cons_succ]
          rfl
        refine take_ (i := 1) (N := some 14) (v := ?_) (a' := ?_) #[true, true, false, false, false, false, false, false, false, false, false, false, false, false, false, false, false, false, false, false, false, false, false, false, false] rfl rfl (by kernel_rfl) (fun _ _ _ h => h) (Or.inl ⟨by rfl, ?_⟩) hHeld ?_ ?_
        rotate_left
        · rintro w' ⟨s0, s1⟩
          go_simp
          with_reducible rfl
        rotate_left
        · simp only [Act.put, List.setIfInBounds_toArray, List.set_cons_zero, List.set_cons_succ]
          rfl
        refine pure_ (i := 2) (N := some 15) (v := ?_) (a' := ?_) #[true, true, true, false, false, false, false, false, false, false, false, false, false, false, false, false, false, false, false, false, false, false, false, false, false] rfl rfl (by kernel_rfl) (fun _ _ _ h => h) (Or.inl ⟨by rfl, ?_⟩) ?_ ?_
        rotate_left
        · intro w'
          go_simp
          with_reducible rfl
        rotate_left
        · simp only [Act.put, List.setIfInBounds_toArray, List.set_cons_zero, List.set_cons_succ]
          rfl
        refine pure_ (i := 3) (N := some 16) (v := ?_) (a' := ?_) #[true, true, true, true, false, false, false, false, false, false, false, false, false, false, false, false, false, false, false, false, false, false, false, false, false] rfl rfl (by kernel_rfl) (fun _ _ _ h => h) (Or.inl ⟨by rfl, ?_⟩) ?_ ?_
        rotate_left
        · intro w'
          go_simp
          with_reducible rfl
        rotate_left
        · simp only [Act.put, List.setIfInBounds_toArray, List.set_cons_zero, List.set_cons_succ]
          rfl
        refine take_ (i := 4) (N := some 17) (v := ?_) (a' := ?_) #[true, true, true, true, true, false, false, false, false, false, false, false, false, false, false, false, false, false, false, false, false, false, false, false, false] rfl rfl (by kernel_rfl) (fun _ _ _ h => h) (Or.inl ⟨by rfl, ?_⟩) hHeld ?_ ?_
        rotate_left
        · rintro w' ⟨s0, s1⟩
          go_simp
          with_reducible rfl
        rotate_left
        · simp only [Act.put, List.setIfInBounds_toArray, List.set_cons_zero, List.set_cons_succ]
          rfl
        refine last_ (i := 5) (N := some 18) #[true, true, true, true, true, true, false, false, false, false, false, false, false, false, false, false, false, false, false, false, false, false, false, false, false] rfl rfl (by kernel_rfl) (by decide) (fun K hK => ?_)
        refine goes_ Tryd.func138 (by kernel_rfl) rfl #[.string S1] (by rfl) rfl rfl (by simp only [List.map_toArray, List.map_cons, List.map_nil]; rfl) ?_
        refine (HNa.out _).mono ?_
        rintro e w1 ⟨rfl, hb1⟩
        replace hb1 : Below wr.heap.size wr w1 := (show Below wr.heap.size wr wr.drew from below_drewN (Below.refl _ _) 1).trans hb1
        have y3 := (hb1.cell (World.block_lt_of_cell? wr _ z3)).trans z3
        have yp := (hb1.cell (World.block_lt_of_cell? wr _ p3')).trans p3'
        refine ⟨_, rfl, hK.out _ _ ?_⟩
        clear hK K
        refine norm_ (a' := ?_) ?_ ?_
        rotate_left
        · show Act.put _ (some 18) _ = _
          simp only [Act.put, List.setIfInBounds_toArray, List.set_cons_zero, List.set_cons_succ]
          rfl
        refine pure_ (i := 6) (N := some 19) (v := ?_) (a' := ?_) #[true, true, true, true, true, true, true, false, false, false, false, false, false, false, false, false, false, false, false, false, false, false, false, false, false] rfl rfl (by kernel_rfl) (fun _ _ _ h => h) (Or.inl ⟨by rfl, ?_⟩) ?_ ?_
        rotate_left
        · intro w'
          go_simp
          with_reducible rfl
        rotate_left
        · simp only [Act.put, List.setIfInBounds_toArray, List.set_cons_zero, List.set_cons_succ]
          rfl
        refine pure_ (i := 7) (N := some 20) (v := ?_) (a' := ?_) #[true, true, true, true, true, true, true, true, false, false, false, false, false, false, false, false, false, false, false, false, false, false, false, false, false] rfl rfl (by kernel_rfl) (fun _ _ _ h => h) (Or.inl ⟨by rfl, ?_⟩) ?_ ?_
        rotate_left
        · intro w'
          go_simp
          with_reducible rfl
        rotate_left
        · simp only [Act.put, List.setIfInBounds_toArray, List.set_cons_zero, List.set_cons_succ]
          rfl
        refine pure_ (i := 8) (N := some 21) (v := undef) (a' := ?_) #[true, true, true, true, true, true, true, true, true, false, false, false, false, false, false, false, false, false, false, false, false, false, false, false, false] rfl rfl (by kernel_rfl) (fun _ _ _ h => h) (Or.inr ⟨by rfl, rfl⟩) ?_ ?_
        rotate_left
        · simp only [Act.put, List.setIfInBounds_toArray, List.set_cons_zero, List.set_cons_succ]
          rfl
        refine pure_ (i := 9) (N := some 22) (v := undef) (a' := ?_) #[true, true, true, true, true, true, true, true, true, true, false, false, false, false, false, false, false, false, false, false, false, false, false, false, false] rfl rfl (by kernel_rfl) (fun _ _ _ h => h) (Or.inr ⟨by rfl, rfl⟩) ?_ ?_
        rotate_left
        · simp only [Act.put, List.setIfInBounds_toArray, List.set_cons_zero, List.set_cons_succ]
          rfl
        refine pure_ (i := 10) (N := some 23) (v := undef) (a' := ?_) #[true, true, true, true, true, true, true, true, true, true, true, false, false, false, false, false, false, false, false, false, false, false, false, false, false] rfl rfl (by kernel_rfl) (fun _ _ _ h => h) (Or.inr ⟨by rfl, rfl⟩) ?_ ?_
        rotate_left
        · simp only [Act.put, List.setIfInBounds_toArray, List.set_cons_zero, List.set_cons_succ]
          rfl
        refine pure_ (i := 11) (N := some 24) (v := undef) (a' := ?_) #[true, true, true, true, true, true, true, true, true, true, true, true, false, false, false, false, false, false, false, false, false, false, false, false, false] rfl rfl (by kernel_rfl) (fun _ _ _ h => h) (Or.inr ⟨by rfl, rfl⟩) ?_ ?_
        rotate_left
        · simp only [Act.put, List.setIfInBounds_toArray, List.set_cons_zero, List.set_cons_succ]
          rfl
        refine pure_ (i := 12) (N := some 25) (v := undef) (a' := ?_) #[true, true, true, true, true, true, true, true, true, true, true, true, true, false, false, false, false, false, false, false, false, false, false, false, false] rfl rfl (by kernel_rfl) (fun _ _ _ h => h) (Or.inr ⟨by rfl, rfl⟩) ?_ ?_
        rotate_left
        · simp only [Act.put, List.setIfInBounds_toArray, List.set_cons_zero, List.set_cons_succ]
          rfl
        refine pure_ (i := 13) (N := some 26) (v := undef) (a' := ?_) #[true, true, true, true, true, true, true, true, true, true, true, true, true, true, false, false, false, false, false, false, false, false, false, false, false] rfl rfl (by kernel_rfl) (fun _ _ _ h => h) (Or.inr ⟨by rfl, rfl⟩) ?_ ?_
        rotate_left
        · simp only [Act.put, List.setIfInBounds_toArray, List.set_cons_zero, List.set_cons_succ]
          rfl
        refine pure_ (i := 14) (N := some 27) (v := undef) (a' := ?_) #[true, true, true, true, true, true, true, true, true, true, true, true, true, true, true, false, false, false, false, false, false, false, false, false, false] rfl rfl (by kernel_rfl) (fun _ _ _ h => h) (Or.inr ⟨by rfl, rfl⟩) ?_ ?_
        rotate_left
        · simp only [Act.put, List.setIfInBounds_toArray, List.set_cons_zero, List.set_cons_succ]
          rfl
        refine pure_ (i := 15) (N := some 28) (v := undef) (a' := ?_) #[true, true, true, true, true, true, true, true, true, true, true, true, true, true, true, true, false, false, false, false, false, false, false, false, false] rfl rfl (by kernel_rfl) (fun _ _ _ h => h) (Or.inr ⟨by rfl, rfl⟩) ?_ ?_
        rotate_left
        · simp only [Act.put, List.setIfInBounds_toArray, List.set_cons_zero, List.set_cons_succ]
          rfl
        refine pure_ (i := 16) (N := some 29) (v := undef) (a' := ?_) #[true, true, true, true, true, true, true, true, true, true, true, true, true, true, true, true, true, false, false, false, false, false, false, false, false] rfl rfl (by kernel_rfl) (fun _ _ _ h => h) (Or.inr ⟨by rfl, rfl⟩) ?_ ?_
        rotate_left
        · simp only [Act.put, List.setIfInBounds_toArray, List.set_cons_zero, List.set_cons_succ]
          rfl
        refine pure_ (i := 17) (N := some 30) (v := undef) (a' := ?_) #[true, true, true, true, true, true, true, true, true, true, true, true, true, true, true, true, true, true, false, false, false, false, false, false, false] rfl rfl (by kernel_rfl) (fun _ _ _ h => h) (Or.inr ⟨by rfl, rfl⟩) ?_ ?_
        rotate_left
        · simp only [Act.put, List.setIfInBounds_toArray, List.set_cons_zero, List.set_cons_succ]
          rfl
        refine pure_ (i := 18) (N := some 31) (v := undef) (a' := ?_) #[true, true, true, true, true, true, true, true, true, true, true, true, true, true, true, true, true, true, true, false, false, false, false, false, false] rfl rfl (by kernel_rfl) (fun _ _ _ h => h) (Or.inr ⟨by rfl, rfl⟩) ?_ ?_
        rotate_left
        · simp only [Act.put, List.setIfInBounds_toArray, List.set_cons_zero, List.set_cons_succ]
          rfl
        refine pure_ (i := 19) (N := some 32) (v := undef) (a' := ?_) #[true, true, true, true, true, true, true, true, true, true, true, true, true, true, true, true, true, true, true, true, false, false, false, false, false] rfl rfl (by kernel_rfl) (fun _ _ _ h => h) (Or.inr ⟨by rfl, rfl⟩) ?_ ?_
        rotate_left
        · simp only [Act.put, List.setIfInBounds_toArray, List.set_cons_zero, List.set_cons_succ]
          rfl
        refine pure_ (i := 20) (N := some 33) (v := undef) (a' := ?_) #[true, true, true, true, true, true, true, true, true, true, true, true, true, true, true, true, true, true, true, true, true, false, false, false, false] rfl rfl (by kernel_rfl) (fun _ _ _ h => h) (Or.inr ⟨by rfl, rfl⟩) ?_ ?_
        rotate_left
        · simp only [Act.put, List.setIfInBounds_toArray, List.set_cons_zero, List.set_cons_succ]
          rfl
        refine pure_ (i := 21) (N := some 34) (v := undef) (a' := ?_) #[true, true, true, true, true, true, true, true, true, true, true, true, true, true, true, true, true, true, true, true, true, true, false, false, false] rfl rfl (by kernel_rfl) (fun _ _ _ h => h) (Or.inr ⟨by rfl, rfl⟩) ?_ ?_
        rotate_left
        · simp only [Act.put, List.setIfInBounds_toArray, List.set_cons_zero, List.set_cons_succ]
          rfl
        refine pure_ (i := 22) (N := some 35) (v := undef) (a' := ?_) #[true, true, true, true, true, true, true, true, true, true, true, true, true, true, true, true, true, true, true, true, true, true, true, false, false] rfl rfl (by kernel_rfl) (fun _ _ _ h => h) (Or.inr ⟨by rfl, rfl⟩) ?_ ?_
        rotate_left
        · simp only [Act.put, List.setIfInBounds_toArray, List.set_cons_zero, List.set_cons_succ]
          rfl
        refine pure_ (i := 23) (N := some 36) (v := undef) (a' := ?_) #[true, true, true, true, true, true, true, true, true, true, true, true, true, true, true, true, true, true, true, true, true, true, true, true, false] rfl rfl (by kernel_rfl) (fun _ _ _ h => h) (Or.inr ⟨by rfl, rfl⟩) ?_ ?_
        rotate_left
        · simp only [Act.put, List.setIfInBounds_toArray, List.set_cons_zero, List.set_cons_succ]
          rfl
        refine pure_ (i := 24) (N := some 37) (v := ?_) (a' := ?_) #[true, true, true, true, true, true, true, true, true, true, true, true, true, true, true, true, true, true, true, true, true, true, true, true, true] rfl rfl (by kernel_rfl) (fun _ _ _ h => h) (Or.inl ⟨by rfl, ?_⟩) ?_ ?_
        rotate_left
        · intro w'
          go_simp
          with_reducible rfl
        rotate_left
        · simp only [Act.put, List.setIfInBounds_toArray, List.set_cons_zero, List.set_cons_succ]
          rfl
        refine done_ (by kernel_rfl) ?_
        have HW := Lib.hid (HB.out.trans (hb1.mono HB.out.size))
        clear hb1
        go_wp2
        go_ret
        exact ⟨by rw [HX.out]; rfl, HW.out⟩
      | true =>
        rw [hn] at HNa
        by_cases h0 : 0 < k
        · have d0 : decide ((0 : Int) < (k : Int)) = true := decide_eq_true (by omega)
          obtain ⟨u4, e4, z4⟩ := str_cell (Kd.C_below H3.out HI.out.1) (k - 1) (by omega)
          obtain rfl := Option.some.inj e4
          obtain ⟨k1, hk1⟩ : ∃ k1, k1 = k - 1 := ⟨_, rfl⟩
          rw [← hk1] at z4 HF2 HNx
          have ek : ((k : Int) - 1) = (k1 : Int) := by omega
          have lk1 : k1 < x.f3.length := by omega
          have ew : IntKind.i64.wrap (k1 : Int) = (k1 : Int) := by
            rw [IntKind.wrap_i64]
            omega
          cases hlt2 : ltB (x.f3.getD k1 ByteArray.empty) (x.f3.getD k ByteArray.empty) with
          | false =>
            have HX := Lib.hid (HF2.out h0 hlt2)
            have hle : Op.bytesLess (x.f3.getD k1 ByteArray.empty).toList (x.f3.getD k ByteArray.empty).toList = false := hlt2
            clear hn HF1 HNx hlt2 hk1 e4
            generalize x.f3.getD k ByteArray.empty = S1 at *
            generalize x.f3.getD k1 ByteArray.empty = S2 at *
            go_wp2
            refine start_ (n := 25) (S := fun w' => w'.cell? ⟨w.heap.size, 3, none⟩ = some (.slice (some u3) x.f3.length a3) ∧ w'.cell? (u3.add k) = some (.string S1) ∧ w'.cell? (u3.add k1) = some (.string S2)) (ds := [5]) #[false, false, false, false, false, false, false, false, false, false, false, false, false, false, false, false, false, false, false, false, false, false, false, false, false] (by kernel_rfl) rfl rfl ⟨p3', z3, z4⟩ (fun hHeld => ?_)
            refine pure_ (i := 0) (N := some 13) (v := ?_) (a' := ?_) #[true, false, false, false, false, false, false, false, false, false, false, false, false, false, false, false, false, false, false, false, false, false, false, false, false] rfl rfl (by kernel_rfl) (fun _ _ _ h => h) (Or.inl ⟨by rfl, ?_⟩) ?_ ?_
            rotate_left
            · intro w'
              go_simp
              with_reducible rfl
            rotate_left
            · simp only [Act.put, List.setIfInBounds_toArray, List.set_cons_zero, List.set_cons_succ]
              rfl
            refine take_ (i := 1) (N := some 14) (v := ?_) (a' := ?_) #[true, true, false, false, false, false, false, false, false, false, false, false, false, false, false, false, false, false, false, false, false, false, false, false, false] rfl rfl (by kernel_rfl) (fun _ _ _ h => h) (Or.inl ⟨by rfl, ?_⟩) hHeld ?_ ?_
            rotate_left
            · rintro w' ⟨s0, s1, s2⟩
              go_simp
              with_reducible rfl
            rotate_left
            · simp only [Act.put, List.setIfInBounds_toArray, List.set_cons_zero, List.set_cons_succ]
              rfl
            refine pure_ (i := 2) (N := some 15) (v := ?_) (a' := ?_) #[true, true, true, false, false, false, false, false, false, false, false, false, false, false, false, false, false, false, false, false, false, false, false, false, false] rfl rfl (by kernel_rfl) (fun _ _ _ h => h) (Or.inl ⟨by rfl, ?_⟩) ?_ ?_
            rotate_left
            · intro w'
              go_simp
              with_reducible rfl
            rotate_left
            · simp only [Act.put, List.setIfInBounds_toArray, List.set_cons_zero, List.set_cons_succ]
              rfl
            refine pure_ (i := 3) (N := some 16) (v := ?_) (a' := ?_) #[true, true, true, true, false, false, false, false, false, false, false, false, false, false, false, false, false, false, false, false, false, false, false, false, false] rfl rfl (by kernel_rfl) (fun _ _ _ h => h) (Or.inl ⟨by rfl, ?_⟩) ?_ ?_
            rotate_left
            · intro w'
              go_simp
              with_reducible rfl
            rotate_left
            · simp only [Act.put, List.setIfInBounds_toArray, List.set_cons_zero, List.set_cons_succ]
              rfl
            refine take_ (i := 4) (N := some 17) (v := ?_) (a' := ?_) #[true, true, true, true, true, false, false, false, false, false, false, false, false, false, false, false, false, false, false, false, false, false, false, false, false] rfl rfl (by kernel_rfl) (fun _ _ _ h => h) (Or.inl ⟨by rfl, ?_⟩) hHeld ?_ ?_
            rotate_left
            · rintro w' ⟨s0, s1, s2⟩
              go_simp
              with_reducible rfl
            rotate_left
            · simp only [Act.put, List.setIfInBounds_toArray, List.set_cons_zero, List.set_cons_succ]
              rfl
            refine last_ (i := 5) (N := some 18) #[true, true, true, true, true, true, false, false, false, false, false, false, false, false, false, false, false, false, false, false, false, false, false, false, false] rfl rfl (by kernel_rfl) (by decide) (fun K hK => ?_)
            refine goes_ Tryd.func138 (by kernel_rfl) rfl #[.string S1] (by rfl) rfl rfl (by simp only [List.map_toArray, List.map_cons, List.map_nil]; rfl) ?_
            refine (HNa.out _).mono ?_
            rintro e w1 ⟨rfl, hb1⟩
            replace hb1 : Below wr.heap.size wr w1 := (show Below wr.heap.size wr wr.drew from below_drewN (Below.refl _ _) 1).trans hb1
            have y3 := (hb1.cell (World.block_lt_of_cell? wr _ z3)).trans z3
            have yp := (hb1.cell (World.block_lt_of_cell? wr _ p3')).trans p3'
            have y4 := (hb1.cell (World.block_lt_of_cell? wr _ z4)).trans z4
            refine ⟨_, rfl, hK.out _ _ ?_⟩
            clear hK K
            refine norm_ (a' := ?_) ?_ ?_
            rotate_left
            · show Act.put _ (some 18) _ = _
              simp only [Act.put, List.setIfInBounds_toArray, List.set_cons_zero, List.set_cons_succ]
              rfl
            refine pure_ (i := 6) (N := some 19) (v := ?_) (a' := ?_) #[true, true, true, true, true, true, true, false, false, false, false, false, false, false, false, false, false, false, false, false, false, false, false, false, false] rfl rfl (by kernel_rfl) (fun _ _ _ h => h) (Or.inl ⟨by rfl, ?_⟩) ?_ ?_
            rotate_left
            · intro w'
              go_simp
              with_reducible rfl
            rotate_left
            · simp only [Act.put, List.setIfInBounds_toArray, List.set_cons_zero, List.set_cons_succ]
              rfl
            refine pure_ (i := 7) (N := some 20) (v := ?_) (a' := ?_) #[true, true, true, true, true, true, true, true, false, false, false, false, false, false, false, false, false, false, false, false, false, false, false, false, false] rfl rfl (by kernel_rfl) (fun _ _ _ h => h) (Or.inl ⟨by rfl, ?_⟩) ?_ ?_
            rotate_left
            · intro w'
              go_simp
              with_reducible rfl
            rotate_left
            · simp only [Act.put, List.setIfInBounds_toArray, List.set_cons_zero, List.set_cons_succ]
              rfl
            refine pure_ (i := 8) (N := some 21) (v := ?_) (a' := ?_) #[true, true, true, true, true, true, true, true, true, false, false, false, false, false, false, false, false, false, false, false, false, false, false, false, false] rfl rfl (by kernel_rfl) (fun _ _ _ h => h) (Or.inl ⟨by rfl, ?_⟩) ?_ ?_
            rotate_left
            · intro w'
              go_simp
              with_reducible rfl
            rotate_left
            · simp only [Act.put, List.setIfInBounds_toArray, List.set_cons_zero, List.set_cons_succ]
              rfl
            refine pure_ (i := 9) (N := some 22) (v := ?_) (a' := ?_) #[true, true, true, true, true, true, true, true, true, true, false, false, false, false, false, false, false, false, false, false, false, false, false, false, false] rfl rfl (by kernel_rfl) (fun _ _ _ h => h) (Or.inl ⟨by rfl, ?_⟩) ?_ ?_
            rotate_left
            · intro w'
              go_simp
              with_reducible rfl
            rotate_left
            · simp only [Act.put, List.setIfInBounds_toArray, List.set_cons_zero, List.set_cons_succ]
              rfl
            refine pure_ (i := 10) (N := some 23) (v := ?_) (a' := ?_) #[true, true, true, true, true, true, true, true, true, true, true, false, false, false, false, false, false, false, false, false, false, false, false, false, false] rfl rfl (by kernel_rfl) (fun _ _ _ h => h) (Or.inl ⟨by rfl, ?_⟩) ?_ ?_
            rotate_left
            · intro w'
              go_simp
              with_reducible rfl
            rotate_left
            · simp only [Act.put, List.setIfInBounds_toArray, List.set_cons_zero, List.set_cons_succ]
              rfl
            refine pure_ (i := 11) (N := some 24) (v := ?_) (a' := ?_) #[true, true, true, true, true, true, true, true, true, true, true, true, false, false, false, false, false, false, false, false, false, false, false, false, false] rfl rfl (by kernel_rfl) (fun _ _ _ h => h) (Or.inl ⟨by rfl, ?_⟩) ?_ ?_
            rotate_left
            · intro w'
              go_simp
              with_reducible rfl
            rotate_left
            · simp only [Act.put, List.setIfInBounds_toArray, List.set_cons_zero, List.set_cons_succ]
              rfl
            refine take_ (i := 12) (N := some 25) (v := ?_) (a' := ?_) #[true, true, true, true, true, true, true, true, true, true, true, true, true, false, false, false, false, false, false, false, false, false, false, false, false] rfl rfl (by kernel_rfl) (fun _ _ _ h => h) (Or.inl ⟨by rfl, ?_⟩) ⟨yp, y3, y4⟩ ?_ ?_
            rotate_left
            · rintro w' ⟨s0, s1, s2⟩
              go_simp
              with_reducible rfl
            rotate_left
            · simp only [Act.put, List.setIfInBounds_toArray, List.set_cons_zero, List.set_cons_succ]
              rfl
            refine pure_ (i := 13) (N := some 26) (v := ?_) (a' := ?_) #[true, true, true, true, true, true, true, true, true, true, true, true, true, true, false, false, false, false, false, false, false, false, false, false, false] rfl rfl (by kernel_rfl) (fun _ _ _ h => h) (Or.inl ⟨by rfl, ?_⟩) ?_ ?_
            rotate_left
            · intro w'
              go_simp
              with_reducible rfl
            rotate_left
            · simp only [Act.put, List.setIfInBounds_toArray, List.set_cons_zero, List.set_cons_succ]
              rfl
            refine pure_ (i := 14) (N := some 27) (v := ?_) (a' := ?_) #[true, true, true, true, true, true, true, true, true, true, true, true, true, true, true, false, false, false, false, false, false, false, false, false, false] rfl rfl (by kernel_rfl) (fun _ _ _ h => h) (Or.inl ⟨by rfl, ?_⟩) ?_ ?_
            rotate_left
            · intro w'
              go_simp
              with_reducible rfl
            rotate_left
            · simp only [Act.put, List.setIfInBounds_toArray, List.set_cons_zero, List.set_cons_succ]
              rfl
            refine pure_ (i := 15) (N := some 28) (v := ?_) (a' := ?_) #[true, true, true, true, true, true, true, true, true, true, true, true, true, true, true, true, false, false, false, false, false, false, false, false, false] rfl rfl (by kernel_rfl) (fun _ _ _ h => h) (Or.inl ⟨by rfl, ?_⟩) ?_ ?_
            rotate_left
            · intro w'
              go_simp
              with_reducible rfl
            rotate_left
            · simp only [Act.put, List.setIfInBounds_toArray, List.set_cons_zero, List.set_cons_succ]
              rfl
            refine take_ (i := 16) (N := some 29) (v := ?_) (a' := ?_) #[true, true, true, true, true, true, true, true, true, true, true, true, true, true, true, true, true, false, false, false, false, false, false, false, false] rfl rfl (by kernel_rfl) (fun _ _ _ h => h) (Or.inl ⟨by rfl, ?_⟩) ⟨yp, y3, y4⟩ ?_ ?_
            rotate_left
            · rintro w' ⟨s0, s1, s2⟩
              go_simp
              with_reducible rfl
            rotate_left
            · simp only [Act.put, List.setIfInBounds_toArray, List.set_cons_zero, List.set_cons_succ]
              rfl
            refine pure_ (i := 17) (N := some 30) (v := ?_) (a' := ?_) #[true, true, true, true, true, true, true, true, true, true, true, true, true, true, true, true, true, true, false, false, false, false, false, false, false] rfl rfl (by kernel_rfl) (fun _ _ _ h => h) (Or.inl ⟨by rfl, ?_⟩) ?_ ?_
            rotate_left
            · intro w'
              go_simp
              with_reducible rfl
            rotate_left
            · simp only [Act.put, List.setIfInBounds_toArray, List.set_cons_zero, List.set_cons_succ]
              rfl
            refine take_ (i := 18) (N := some 31) (v := ?_) (a' := ?_) #[true, true, true, true, true, true, true, true, true, true, true, true, true, true, true, true, true, true, true, false, false, false, false, false, false] rfl rfl (by kernel_rfl) (fun _ _ _ h => h) (Or.inl ⟨by rfl, ?_⟩) ⟨yp, y3, y4⟩ ?_ ?_
            rotate_left
            · rintro w' ⟨s0, s1, s2⟩
              go_simp
              with_reducible rfl
            rotate_left
            · simp only [Act.put, List.setIfInBounds_toArray, List.set_cons_zero, List.set_cons_succ]
              rfl
            refine pure_ (i := 19) (N := some 32) (v := ?_) (a' := ?_) #[true, true, true, true, true, true, true, true, true, true, true, true, true, true, true, true, true, true, true, true, false, false, false, false, false] rfl rfl (by kernel_rfl) (fun _ _ _ h => h) (Or.inl ⟨by rfl, ?_⟩) ?_ ?_
            rotate_left
            · intro w'
              go_simp
              with_reducible rfl
            rotate_left
            · simp only [Act.put, List.setIfInBounds_toArray, List.set_cons_zero, List.set_cons_succ]
              rfl
            refine pure_ (i := 20) (N := some 33) (v := ?_) (a' := ?_) #[true, true, true, true, true, true, true, true, true, true, true, true, true, true, true, true, true, true, true, true, true, false, false, false, false] rfl rfl (by kernel_rfl) (fun _ _ _ h => h) (Or.inl ⟨by rfl, ?_⟩) ?_ ?_
            rotate_left
            · intro w'
              go_simp
              with_reducible rfl
            rotate_left
            · simp only [Act.put, List.setIfInBounds_toArray, List.set_cons_zero, List.set_cons_succ]
              rfl
            refine take_ (i := 21) (N := some 34) (v := ?_) (a' := ?_) #[true, true, true, true, true, true, true, true, true, true, true, true, true, true, true, true, true, true, true, true, true, true, false, false, false] rfl rfl (by kernel_rfl) (fun _ _ _ h => h) (Or.inl ⟨by rfl, ?_⟩) ⟨yp, y3, y4⟩ ?_ ?_
            rotate_left
            · rintro w' ⟨s0, s1, s2⟩
              go_simp
              with_reducible rfl
            rotate_left
            · simp only [Act.put, List.setIfInBounds_toArray, List.set_cons_zero, List.set_cons_succ]
              rfl
            refine pure_ (i := 22) (N := some 35) (v := ?_) (a' := ?_) #[true, true, true, true, true, true, true, true, true, true, true, true, true, true, true, true, true, true, true, true, true, true, true, false, false] rfl rfl (by kernel_rfl) (fun _ _ _ h => h) (Or.inl ⟨by rfl, ?_⟩) ?_ ?_
            rotate_left
            · intro w'
              go_simp
              with_reducible rfl
            rotate_left
            · simp only [Act.put, List.setIfInBounds_toArray, List.set_cons_zero, List.set_cons_succ]
              rfl
            refine pure_ (i := 23) (N := some 36) (v := ?_) (a' := ?_) #[true, true, true, true, true, true, true, true, true, true, true, true, true, true, true, true, true, true, true, true, true, true, true, true, false] rfl rfl (by kernel_rfl) (fun _ _ _ h => h) (Or.inl ⟨by rfl, ?_⟩) ?_ ?_
            rotate_left
            · intro w'
              go_simp
              with_reducible rfl
            rotate_left
            · simp only [Act.put, List.setIfInBounds_toArray, List.set_cons_zero, List.set_cons_succ]
              rfl
            refine pure_ (i := 24) (N := some 37) (v := ?_) (a' := ?_) #[true, true, true, true, true, true, true, true, true, true, true, true, true, true, true, true, true, true, true, true, true, true, true, true, true] rfl rfl (by kernel_rfl) (fun _ _ _ h => h) (Or.inl ⟨by rfl, ?_⟩) ?_ ?_
            rotate_left
            · intro w'
              go_simp
              with_reducible rfl
            rotate_left
            · simp only [Act.put, List.setIfInBounds_toArray, List.set_cons_zero, List.set_cons_succ]
              rfl
            refine done_ (by kernel_rfl) ?_
            have HW := Lib.hid (HB.out.trans (hb1.mono HB.out.size))
            clear hb1
            go_wp2
            go_ret
            exact ⟨by rw [HX.out]; rfl, HW.out⟩
          | true =>
            have HN := Lib.hid (HNx.out hn (fun _ => hlt2))
            have hle : Op.bytesLess (x.f3.getD k1 ByteArray.empty).toList (x.f3.getD k ByteArray.empty).toList = true := hlt2
            clear hn HF1 HF2 HNx hlt2 hk1 e4
            generalize x.f3.getD k ByteArray.empty = S1 at *
            generalize x.f3.getD k1 ByteArray.empty = S2 at *
            go_wp2
            refine start_ (n := 25) (S := fun w' => w'.cell? ⟨w.heap.size, 3, none⟩ = some (.slice (some u3) x.f3.length a3) ∧ w'.cell? (u3.add k) = some (.string S1) ∧ w'.cell? (u3.add k1) = some (.string S2)) (ds := [5]) #[false, false, false, false, false, false, false, false, false, false, false, false, false, false, false, false, false, false, false, false, false, false, false, false, false] (by kernel_rfl) rfl rfl ⟨p3', z3, z4⟩ (fun hHeld => ?_)
            refine pure_ (i := 0) (N := some 13) (v := ?_) (a' := ?_) #[true, false, false, false, false, false, false, false, false, false, false, false, false, false, false, false, false, false, false, false, false, false, false, false, false] rfl rfl (by kernel_rfl) (fun _ _ _ h => h) (Or.inl ⟨by rfl, ?_⟩) ?_ ?_
            rotate_left
            · intro w'
              go_simp
              with_reducible rfl
            rotate_left
            · simp only [Act.put, List.setIfInBounds_toArray, List.set_cons_zero, List.set_cons_succ]
              rfl
            refine take_ (i := 1) (N := some 14) (v := ?_) (a' := ?_) #[true, true, false, false, false, false, false, false, false, false, false, false, false, false, false, false, false, false, false, false, false, false, false, false, false] rfl rfl (by kernel_rfl) (fun _ _ _ h => h) (Or.inl ⟨by rfl, ?_⟩) hHeld ?_ ?_
            rotate_left
            · rintro w' ⟨s0, s1, s2⟩
              go_simp
              with_reducible rfl
            rotate_left
            · simp only [Act.put, List.setIfInBounds_toArray, List.set_cons_zero, List.set_cons_succ]
              rfl
            refine pure_ (i := 2) (N := some 15) (v := ?_) (a' := ?_) #[true, true, true, false, false, false, false, false, false, false, false, false, false, false, false, false, false, false, false, false, false, false, false, false, false] rfl rfl (by kernel_rfl) (fun _ _ _ h => h) (Or.inl ⟨by rfl, ?_⟩) ?_ ?_
            rotate_left
            · intro w'
              go_simp
              with_reducible rfl
            rotate_left
            · simp only [Act.put, List.setIfInBounds_toArray, List.set_cons_zero, List.set_cons_succ]
              rfl
            refine pure_ (i := 3) (N := some 16) (v := ?_) (a' := ?_) #[true, true, true, true, false, false, false, false, false, false, false, false, false, false, false, false, false, false, false, false, false, false, false, false, false] rfl rfl (by kernel_rfl) (fun _ _ _ h => h) (Or.inl ⟨by rfl, ?_⟩) ?_ ?_
            rotate_left
            · intro w'
              go_simp
              with_reducible rfl
            rotate_left
            · simp only [Act.put, List.setIfInBounds_toArray, List.set_cons_zero, List.set_cons_succ]
              rfl
            refine take_ (i := 4) (N := some 17) (v := ?_) (a' := ?_) #[true, true, true, true, true, false, false, false, false, false, false, false, false, false, false, false, false, false, false, false, false, false, false, false, false] rfl rfl (by kernel_rfl) (fun _ _ _ h => h) (Or.inl ⟨by rfl, ?_⟩) hHeld ?_ ?_
            rotate_left
            · rintro w' ⟨s0, s1, s2⟩
              go_simp
              with_reducible rfl
            rotate_left
            · simp only [Act.put, List.setIfInBounds_toArray, List.set_cons_zero, List.set_cons_succ]
              rfl
            refine last_ (i := 5) (N := some 18) #[true, true, true, true, true, true, false, false, false, false, false, false, false, false, false, false, false, false, false, false, false, false, false, false, false] rfl rfl (by kernel_rfl) (by decide) (fun K hK => ?_)
            refine goes_ Tryd.func138 (by kernel_rfl) rfl #[.string S1] (by rfl) rfl rfl (by simp only [List.map_toArray, List.map_cons, List.map_nil]; rfl) ?_
            refine (HNa.out _).mono ?_
            rintro e w1 ⟨rfl, hb1⟩
            replace hb1 : Below wr.heap.size wr w1 := (show Below wr.heap.size wr wr.drew from below_drewN (Below.refl _ _) 1).trans hb1
            have y3 := (hb1.cell (World.block_lt_of_cell? wr _ z3)).trans z3
            have yp := (hb1.cell (World.block_lt_of_cell? wr _ p3')).trans p3'
            have y4 := (hb1.cell (World.block_lt_of_cell? wr _ z4)).trans z4
            refine ⟨_, rfl, hK.out _ _ ?_⟩
            clear hK K
            refine norm_ (a' := ?_) ?_ ?_
            rotate_left
            · show Act.put _ (some 18) _ = _
              simp only [Act.put, List.setIfInBounds_toArray, List.set_cons_zero, List.set_cons_succ]
              rfl
            refine pure_ (i := 6) (N := some 19) (v := ?_) (a' := ?_) #[true, true, true, true, true, true, true, false, false, false, false, false, false, false, false, false, false, false, false, false, false, false, false, false, false] rfl rfl (by kernel_rfl) (fun _ _ _ h => h) (Or.inl ⟨by rfl, ?_⟩) ?_ ?_
            rotate_left
            · intro w'
              go_simp
              with_reducible rfl
            rotate_left
            · simp only [Act.put, List.setIfInBounds_toArray, List.set_cons_zero, List.set_cons_succ]
              rfl
            refine pure_ (i := 7) (N := some 20) (v := ?_) (a' := ?_) #[true, true, true, true, true, true, true, true, false, false, false, false, false, false, false, false, false, false, false, false, false, false, false, false, false] rfl rfl (by kernel_rfl) (fun _ _ _ h => h) (Or.inl ⟨by rfl, ?_⟩) ?_ ?_
            rotate_left
            · intro w'
              go_simp
              with_reducible rfl
            rotate_left
            · simp only [Act.put, List.setIfInBounds_toArray, List.set_cons_zero, List.set_cons_succ]
              rfl
            refine pure_ (i := 8) (N := some 21) (v := ?_) (a' := ?_) #[true, true, true, true, true, true, true, true, true, false, false, false, false, false, false, false, false, false, false, false, false, false, false, false, false] rfl rfl (by kernel_rfl) (fun _ _ _ h => h) (Or.inl ⟨by rfl, ?_⟩) ?_ ?_
            rotate_left
            · intro w'
              go_simp
              with_reducible rfl
            rotate_left
            · simp only [Act.put, List.setIfInBounds_toArray, List.set_cons_zero, List.set_cons_succ]
              rfl
            refine pure_ (i := 9) (N := some 22) (v := ?_) (a' := ?_) #[true, true, true, true, true, true, true, true, true, true, false, false, false, false, false, false, false, false, false, false, false, false, false, false, false] rfl rfl (by kernel_rfl) (fun _ _ _ h => h) (Or.inl ⟨by rfl, ?_⟩) ?_ ?_
            rotate_left
            · intro w'
              go_simp
              with_reducible rfl
            rotate_left
            · simp only [Act.put, List.setIfInBounds_toArray, List.set_cons_zero, List.set_cons_succ]
              rfl
            refine pure_ (i := 10) (N := some 23) (v := ?_) (a' := ?_) #[true, true, true, true, true, true, true, true, true, true, true, false, false, false, false, false, false, false, false, false, false, false, false, false, false] rfl rfl (by kernel_rfl) (fun _ _ _ h => h) (Or.inl ⟨by rfl, ?_⟩) ?_ ?_
            rotate_left
            · intro w'
              go_simp
              with_reducible rfl
            rotate_left
            · simp only [Act.put, List.setIfInBounds_toArray, List.set_cons_zero, List.set_cons_succ]
              rfl
            refine pure_ (i := 11) (N := some 24) (v := ?_) (a' := ?_) #[true, true, true, true, true, true, true, true, true, true, true, true, false, false, false, false, false, false, false, false, false, false, false, false, false] rfl rfl (by kernel_rfl) (fun _ _ _ h => h) (Or.inl ⟨by rfl, ?_⟩) ?_ ?_
            rotate_left
            · intro w'
              go_simp
              with_reducible rfl
            rotate_left
            · simp only [Act.put, List.setIfInBounds_toArray, List.set_cons_zero, List.set_cons_succ]
              rfl
            refine take_ (i := 12) (N := some 25) (v := ?_) (a' := ?_) #[true, true, true, true, true, true, true, true, true, true, true, true, true, false, false, false, false, false, false, false, false, false, false, false, false] rfl rfl (by kernel_rfl) (fun _ _ _ h => h) (Or.inl ⟨by rfl, ?_⟩) ⟨yp, y3, y4⟩ ?_ ?_
            rotate_left
            · rintro w' ⟨s0, s1, s2⟩
              go_simp
              with_reducible rfl
            rotate_left
            · simp only [Act.put, List.setIfInBounds_toArray, List.set_cons_zero, List.set_cons_succ]
              rfl
            refine pure_ (i := 13) (N := some 26) (v := ?_) (a' := ?_) #[true, true, true, true, true, true, true, true, true, true, true, true, true, true, false, false, false, false, false, false, false, false, false, false, false] rfl rfl (by kernel_rfl) (fun _ _ _ h => h) (Or.inl ⟨by rfl, ?_⟩) ?_ ?_
            rotate_left
            · intro w'
              go_simp
              with_reducible rfl
            rotate_left
            · simp only [Act.put, List.setIfInBounds_toArray, List.set_cons_zero, List.set_cons_succ]
              rfl
            refine pure_ (i := 14) (N := some 27) (v := ?_) (a' := ?_) #[true, true, true, true, true, true, true, true, true, true, true, true, true, true, true, false, false, false, false, false, false, false, false, false, false] rfl rfl (by kernel_rfl) (fun _ _ _ h => h) (Or.inl ⟨by rfl, ?_⟩) ?_ ?_
            rotate_left
            · intro w'
              go_simp
              with_reducible rfl
            rotate_left
            · simp only [Act.put, List.setIfInBounds_toArray, List.set_cons_zero, List.set_cons_succ]
              rfl
            refine pure_ (i := 15) (N := some 28) (v := ?_) (a' := ?_) #[true, true, true, true, true, true, true, true, true, true, true, true, true, true, true, true, false, false, false, false, false, false, false, false, false] rfl rfl (by kernel_rfl) (fun _ _ _ h => h) (Or.inl ⟨by rfl, ?_⟩) ?_ ?_
            rotate_left
            · intro w'
              go_simp
              with_reducible rfl
            rotate_left
            · simp only [Act.put, List.setIfInBounds_toArray, List.set_cons_zero, List.set_cons_succ]
              rfl
            refine take_ (i := 16) (N := some 29) (v := ?_) (a' := ?_) #[true, true, true, true, true, true, true, true, true, true, true, true, true, true, true, true, true, false, false, false, false, false, false, false, false] rfl rfl (by kernel_rfl) (fun _ _ _ h => h) (Or.inl ⟨by rfl, ?_⟩) ⟨yp, y3, y4⟩ ?_ ?_
            rotate_left
            · rintro w' ⟨s0, s1, s2⟩
              go_simp
              with_reducible rfl
            rotate_left
            · simp only [Act.put, List.setIfInBounds_toArray, List.set_cons_zero, List.set_cons_succ]
              rfl
            refine pure_ (i := 17) (N := some 30) (v := ?_) (a' := ?_) #[true, true, true, true, true, true, true, true, true, true, true, true, true, true, true, true, true, true, false, false, false, false, false, false, false] rfl rfl (by kernel_rfl) (fun _ _ _ h => h) (Or.inl ⟨by rfl, ?_⟩) ?_ ?_
            rotate_left
            · intro w'
              go_simp
              with_reducible rfl
            rotate_left
            · simp only [Act.put, List.setIfInBounds_toArray, List.set_cons_zero, List.set_cons_succ]
              rfl
            refine take_ (i := 18) (N := some 31) (v := ?_) (a' := ?_) #[true, true, true, true, true, true, true, true, true, true, true, true, true, true, true, true, true, true, true, false, false, false, false, false, false] rfl rfl (by kernel_rfl) (fun _ _ _ h => h) (Or.inl ⟨by rfl, ?_⟩) ⟨yp, y3, y4⟩ ?_ ?_
            rotate_left
            · rintro w' ⟨s0, s1, s2⟩
              go_simp
              with_reducible rfl
            rotate_left
            · simp only [Act.put, List.setIfInBounds_toArray, List.set_cons_zero, List.set_cons_succ]
              rfl
            refine pure_ (i := 19) (N := some 32) (v := ?_) (a' := ?_) #[true, true, true, true, true, true, true, true, true, true, true, true, true, true, true, true, true, true, true, true, false, false, false, false, false] rfl rfl (by kernel_rfl) (fun _ _ _ h => h) (Or.inl ⟨by rfl, ?_⟩) ?_ ?_
            rotate_left
            · intro w'
              go_simp
              with_reducible rfl
            rotate_left
            · simp only [Act.put, List.setIfInBounds_toArray, List.set_cons_zero, List.set_cons_succ]
              rfl
            refine pure_ (i := 20) (N := some 33) (v := ?_) (a' := ?_) #[true, true, true, true, true, true, true, true, true, true, true, true, true, true, true, true, true, true, true, true, true, false, false, false, false] rfl rfl (by kernel_rfl) (fun _ _ _ h => h) (Or.inl ⟨by rfl, ?_⟩) ?_ ?_
            rotate_left
            · intro w'
              go_simp
              with_reducible rfl
            rotate_left
            · simp only [Act.put, List.setIfInBounds_toArray, List.set_cons_zero, List.set_cons_succ]
              rfl
            refine take_ (i := 21) (N := some 34) (v := ?_) (a' := ?_) #[true, true, true, true, true, true, true, true, true, true, true, true, true, true, true, true, true, true, true, true, true, true, false, false, false] rfl rfl (by kernel_rfl) (fun _ _ _ h => h) (Or.inl ⟨by rfl, ?_⟩) ⟨yp, y3, y4⟩ ?_ ?_
            rotate_left
            · rintro w' ⟨s0, s1, s2⟩
              go_simp
              with_reducible rfl
            rotate_left
            · simp only [Act.put, List.setIfInBounds_toArray, List.set_cons_zero, List.set_cons_succ]
              rfl
            refine pure_ (i := 22) (N := some 35) (v := ?_) (a' := ?_) #[true, true, true, true, true, true, true, true, true, true, true, true, true, true, true, true, true, true, true, true, true, true, true, false, false] rfl rfl (by kernel_rfl) (fun _ _ _ h => h) (Or.inl ⟨by rfl, ?_⟩) ?_ ?_
            rotate_left
            · intro w'
              go_simp
              with_reducible rfl
            rotate_left
            · simp only [Act.put, List.setIfInBounds_toArray, List.set_cons_zero, List.set_cons_succ]
              rfl
            refine pure_ (i := 23) (N := some 36) (v := ?_) (a' := ?_) #[true, true, true, true, true, true, true, true, true, true, true, true, true, true, true, true, true, true, true, true, true, true, true, true, false] rfl rfl (by kernel_rfl) (fun _ _ _ h => h) (Or.inl ⟨by rfl, ?_⟩) ?_ ?_
            rotate_left
            · intro w'
              go_simp
              with_reducible rfl
            rotate_left
            · simp only [Act.put, List.setIfInBounds_toArray, List.set_cons_zero, List.set_cons_succ]
              rfl
            refine pure_ (i := 24) (N := some 37) (v := ?_) (a' := ?_) #[true, true, true, true, true, true, true, true, true, true, true, true, true, true, true, true, true, true, true, true, true, true, true, true, true] rfl rfl (by kernel_rfl) (fun _ _ _ h => h) (Or.inl ⟨by rfl, ?_⟩) ?_ ?_
            rotate_left
            · intro w'
              go_simp
              with_reducible rfl
            rotate_left
            · simp only [Act.put, List.setIfInBounds_toArray, List.set_cons_zero, List.set_cons_succ]
              rfl
            refine done_ (by kernel_rfl) ?_
            have HW := Lib.hid (HI.out.1.trans (hb1.mono HI.out.1.size))
            clear hb1
            go_wp2
            go_roundw
            case rel => exact ⟨k + 1, by omega, by go_num, Lib.hid ⟨HW.out, HN.out⟩⟩
            case measure => simp [intOf]; omega
        · have d0 : decide ((0 : Int) < (k : Int)) = false := decide_eq_false (by omega)
          have HN := Lib.hid (HNx.out hn (fun h => absurd h h0))
          clear hn HF1 HF2 HNx
          generalize x.f3.getD k ByteArray.empty = S1 at *
          go_wp2
          refine start_ (n := 25) (S := fun w' => w'.cell? ⟨w.heap.size, 3, none⟩ = some (.slice (some u3) x.f3.length a3) ∧ w'.cell? (u3.add k) = some (.string S1)) (ds := [5]) #[false, false, false, false, false, false, false, false, false, false, false, false, false, false, false, false, false, false, false, false, false, false, false, false, false] (by kernel_rfl) rfl rfl ⟨p3', z3⟩ (fun hHeld => ?_)
          refine pure_ (i := 0) (N := some 13) (v := ?_) (a' := ?_) #[true, false, false, false, false, false, false, false, false, false, false, false, false, false, false, false, false, false, false, false, false, false, false, false, false] rfl rfl (by kernel_rfl) (fun _ _ _ h => h) (Or.inl ⟨by rfl, ?_⟩) ?_ ?_
          rotate_left
          · intro w'
            go_simp
            with_reducible rfl
          rotate_left
          · simp only [Act.put, List.setIfInBounds_toArray, List.set_cons_zero, List.set_cons_succ]
            rfl
          refine take_ (i := 1) (N := some 14) (v := ?_) (a' := ?_) #[true, true, false, false, false, false, false, false, false, false, false, false, false, false, false, false, false, false, false, false, false, false, false, false, false] rfl rfl (by kernel_rfl) (fun _ _ _ h => h) (Or.inl ⟨by rfl, ?_⟩) hHeld ?_ ?_
          rotate_left
          · rintro w' ⟨s0, s1⟩
            go_simp
            with_reducible rfl
          rotate_left
          · simp only [Act.put, List.setIfInBounds_toArray, List.set_cons_zero, List.set_cons_succ]
            rfl
          refine pure_ (i := 2) (N := some 15) (v := ?_) (a' := ?_) #[true, true, true, false, false, false, false, false, false, false, false, false, false, false, false, false, false, false, false, false, false, false, false, false, false] rfl rfl (by kernel_rfl) (fun _ _ _ h => h) (Or.inl ⟨by rfl, ?_⟩) ?_ ?_
          rotate_left
          · intro w'
            go_simp
            with_reducible rfl
          rotate_left
          · simp only [Act.put, List.setIfInBounds_toArray, List.set_cons_zero, List.set_cons_succ]
            rfl
          refine pure_ (i := 3) (N := some 16) (v := ?_) (a' := ?_) #[true, true, true, true, false, false, false, false, false, false, false, false, false, false, false, false, false, false, false, false, false, false, false, false, false] rfl rfl (by kernel_rfl) (fun _ _ _ h => h) (Or.inl ⟨by rfl, ?_⟩) ?_ ?_
          rotate_left
          · intro w'
            go_simp
            with_reducible rfl
          rotate_left
          · simp only [Act.put, List.setIfInBounds_toArray, List.set_cons_zero, List.set_cons_succ]
            rfl
          refine take_ (i := 4) (N := some 17) (v := ?_) (a' := ?_) #[true, true, true, true, true, false, false, false, false, false, false, false, false, false, false, false, false, false, false, false, false, false, false, false, false] rfl rfl (by kernel_rfl) (fun _ _ _ h => h) (Or.inl ⟨by rfl, ?_⟩) hHeld ?_ ?_
          rotate_left
          · rintro w' ⟨s0, s1⟩
            go_simp
            with_reducible rfl
          rotate_left
          · simp only [Act.put, List.setIfInBounds_toArray, List.set_cons_zero, List.set_cons_succ]
            rfl
          refine last_ (i := 5) (N := some 18) #[true, true, true, true, true, true, false, false, false, false, false, false, false, false, false, false, false, false, false, false, false, false, false, false, false] rfl rfl (by kernel_rfl) (by decide) (fun K hK => ?_)
          refine goes_ Tryd.func138 (by kernel_rfl) rfl #[.string S1] (by rfl) rfl rfl (by simp only [List.map_toArray, List.map_cons, List.map_nil]; rfl) ?_
          refine (HNa.out _).mono ?_
          rintro e w1 ⟨rfl, hb1⟩
          replace hb1 : Below wr.heap.size wr w1 := (show Below wr.heap.size wr wr.drew from below_drewN (Below.refl _ _) 1).trans hb1
          have y3 := (hb1.cell (World.block_lt_of_cell? wr _ z3)).trans z3
          have yp := (hb1.cell (World.block_lt_of_cell? wr _ p3')).trans p3'
          refine ⟨_, rfl, hK.out _ _ ?_⟩
          clear hK K
          refine norm_ (a' := ?_) ?_ ?_
          rotate_left
          · show Act.put _ (some 18) _ = _
            simp only [Act.put, List.setIfInBounds_toArray, List.set_cons_zero, List.set_cons_succ]
            rfl
          refine pure_ (i := 6) (N := some 19) (v := ?_) (a' := ?_) #[true, true, true, true, true, true, true, false, false, false, false, false, false, false, false, false, false, false, false, false, false, false, false, false, false] rfl rfl (by kernel_rfl) (fun _ _ _ h => h) (Or.inl ⟨by rfl, ?_⟩) ?_ ?_
          rotate_left
          · intro w'
            go_simp
            with_reducible rfl
          rotate_left
          · simp only [Act.put, List.setIfInBounds_toArray, List.set_cons_zero, List.set_cons_succ]
            rfl
          refine pure_ (i := 7) (N := some 20) (v := ?_) (a' := ?_) #[true, true, true, true, true, true, true, true, false, false, false, false, false, false, false, false, false, false, false, false, false, false, false, false, false] rfl rfl (by kernel_rfl) (fun _ _ _ h => h) (Or.inl ⟨by rfl, ?_⟩) ?_ ?_
          rotate_left
          · intro w'
            go_simp
            with_reducible rfl
          rotate_left
          · simp only [Act.put, List.setIfInBounds_toArray, List.set_cons_zero, List.set_cons_succ]
            rfl
          refine pure_ (i := 8) (N := some 21) (v := ?_) (a' := ?_) #[true, true, true, true, true, true, true, true, true, false, false, false, false, false, false, false, false, false, false, false, false, false, false, false, false] rfl rfl (by kernel_rfl) (fun _ _ _ h => h) (Or.inl ⟨by rfl, ?_⟩) ?_ ?_
          rotate_left
          · intro w'
            go_simp
            with_reducible rfl
          rotate_left
          · simp only [Act.put, List.setIfInBounds_toArray, List.set_cons_zero, List.set_cons_succ]
            rfl
          refine pure_ (i := 9) (N := some 22) (v := ?_) (a' := ?_) #[true, true, true, true, true, true, true, true, true, true, false, false, false, false, false, false, false, false, false, false, false, false, false, false, false] rfl rfl (by kernel_rfl) (fun _ _ _ h => h) (Or.inl ⟨by rfl, ?_⟩) ?_ ?_
          rotate_left
          · intro w'
            go_simp
            with_reducible rfl
          rotate_left
          · simp only [Act.put, List.setIfInBounds_toArray, List.set_cons_zero, List.set_cons_succ]
            rfl
          refine pure_ (i := 10) (N := some 23) (v := ?_) (a' := ?_) #[true, true, true, true, true, true, true, true, true, true, true, false, false, false, false, false, false, false, false, false, false, false, false, false, false] rfl rfl (by kernel_rfl) (fun _ _ _ h => h) (Or.inl ⟨by rfl, ?_⟩) ?_ ?_
          rotate_left
          · intro w'
            go_simp
            with_reducible rfl
          rotate_left
          · simp only [Act.put, List.setIfInBounds_toArray, List.set_cons_zero, List.set_cons_succ]
            rfl
          refine pure_ (i := 11) (N := some 24) (v := undef) (a' := ?_) #[true, true, true, true, true, true, true, true, true, true, true, true, false, false, false, false, false, false, false, false, false, false, false, false, false] rfl rfl (by kernel_rfl) (fun _ _ _ h => h) (Or.inr ⟨by rfl, rfl⟩) ?_ ?_
          rotate_left
          · simp only [Act.put, List.setIfInBounds_toArray, List.set_cons_zero, List.set_cons_succ]
            rfl
          refine pure_ (i := 12) (N := some 25) (v := undef) (a' := ?_) #[true, true, true, true, true, true, true, true, true, true, true, true, true, false, false, false, false, false, false, false, false, false, false, false, false] rfl rfl (by kernel_rfl) (fun _ _ _ h => h) (Or.inr ⟨by rfl, rfl⟩) ?_ ?_
          rotate_left
          · simp only [Act.put, List.setIfInBounds_toArray, List.set_cons_zero, List.set_cons_succ]
            rfl
          refine pure_ (i := 13) (N := some 26) (v := undef) (a' := ?_) #[true, true, true, true, true, true, true, true, true, true, true, true, true, true, false, false, false, false, false, false, false, false, false, false, false] rfl rfl (by kernel_rfl) (fun _ _ _ h => h) (Or.inr ⟨by rfl, rfl⟩) ?_ ?_
          rotate_left
          · simp only [Act.put, List.setIfInBounds_toArray, List.set_cons_zero, List.set_cons_succ]
            rfl
          refine pure_ (i := 14) (N := some 27) (v := undef) (a' := ?_) #[true, true, true, true, true, true, true, true, true, true, true, true, true, true, true, false, false, false, false, false, false, false, false, false, false] rfl rfl (by kernel_rfl) (fun _ _ _ h => h) (Or.inr ⟨by rfl, rfl⟩) ?_ ?_
          rotate_left
          · simp only [Act.put, List.setIfInBounds_toArray, List.set_cons_zero, List.set_cons_succ]
            rfl
          refine pure_ (i := 15) (N := some 28) (v := undef) (a' := ?_) #[true, true, true, true, true, true, true, true, true, true, true, true, true, true, true, true, false, false, false, false, false, false, false, false, false] rfl rfl (by kernel_rfl) (fun _ _ _ h => h) (Or.inr ⟨by rfl, rfl⟩) ?_ ?_
          rotate_left
          · simp only [Act.put, List.setIfInBounds_toArray, List.set_cons_zero, List.set_cons_succ]
            rfl
          refine pure_ (i := 16) (N := some 29) (v := undef) (a' := ?_) #[true, true, true, true, true, true, true, true, true, true, true, true, true, true, true, true, true, false, false, false, false, false, false, false, false] rfl rfl (by kernel_rfl) (fun _ _ _ h => h) (Or.inr ⟨by rfl, rfl⟩) ?_ ?_
          rotate_left
          · simp only [Act.put, List.setIfInBounds_toArray, List.set_cons_zero, List.set_cons_succ]
            rfl
          refine pure_ (i := 17) (N := some 30) (v := undef) (a' := ?_) #[true, true, true, true, true, true, true, true, true, true, true, true, true, true, true, true, true, true, false, false, false, false, false, false, false] rfl rfl (by kernel_rfl) (fun _ _ _ h => h) (Or.inr ⟨by rfl, rfl⟩) ?_ ?_
          rotate_left
          · simp only [Act.put, List.setIfInBounds_toArray, List.set_cons_zero, List.set_cons_succ]
            rfl
          refine pure_ (i := 18) (N := some 31) (v := undef) (a' := ?_) #[true, true, true, true, true, true, true, true, true, true, true, true, true, true, true, true, true, true, true, false, false, false, false, false, false] rfl rfl (by kernel_rfl) (fun _ _ _ h => h) (Or.inr ⟨by rfl, rfl⟩) ?_ ?_
          rotate_left
          · simp only [Act.put, List.setIfInBounds_toArray, List.set_cons_zero, List.set_cons_succ]
            rfl
          refine pure_ (i := 19) (N := some 32) (v := undef) (a' := ?_) #[true, true, true, true, true, true, true, true, true, true, true, true, true, true, true, true, true, true, true, true, false, false, false, false, false] rfl rfl (by kernel_rfl) (fun _ _ _ h => h) (Or.inr ⟨by rfl, rfl⟩) ?_ ?_
          rotate_left
          · simp only [Act.put, List.setIfInBounds_toArray, List.set_cons_zero, List.set_cons_succ]
            rfl
          refine pure_ (i := 20) (N := some 33) (v := undef) (a' := ?_) #[true, true, true, true, true, true, true, true, true, true, true, true, true, true, true, true, true, true, true, true, true, false, false, false, false] rfl rfl (by kernel_rfl) (fun _ _ _ h => h) (Or.inr ⟨by rfl, rfl⟩) ?_ ?_
          rotate_left
          · simp only [Act.put, List.setIfInBounds_toArray, List.set_cons_zero, List.set_cons_succ]
            rfl
          refine pure_ (i := 21) (N := some 34) (v := undef) (a' := ?_) #[true, true, true, true, true, true, true, true, true, true, true, true, true, true, true, true, true, true, true, true, true, true, false, false, false] rfl rfl (by kernel_rfl) (fun _ _ _ h => h) (Or.inr ⟨by rfl, rfl⟩) ?_ ?_
          rotate_left
          · simp only [Act.put, List.setIfInBounds_toArray, List.set_cons_zero, List.set_cons_succ]
            rfl
          refine pure_ (i := 22) (N := some 35) (v := undef) (a' := ?_) #[true, true, true, true, true, true, true, true, true, true, true, true, true, true, true, true, true, true, true, true, true, true, true, false, false] rfl rfl (by kernel_rfl) (fun _ _ _ h => h) (Or.inr ⟨by rfl, rfl⟩) ?_ ?_
          rotate_left
          · simp only [Act.put, List.setIfInBounds_toArray, List.set_cons_zero, List.set_cons_succ]
            rfl
          refine pure_ (i := 23) (N := some 36) (v := ?_) (a' := ?_) #[true, true, true, true, true, true, true, true, true, true, true, true, true, true, true, true, true, true, true, true, true, true, true, true, false] rfl rfl (by kernel_rfl) (fun _ _ _ h => h) (Or.inl ⟨by rfl, ?_⟩) ?_ ?_
          rotate_left
          · intro w'
            go_simp
            with_reducible rfl
          rotate_left
          · simp only [Act.put, List.setIfInBounds_toArray, List.set_cons_zero, List.set_cons_succ]
            rfl
          refine pure_ (i := 24) (N := some 37) (v := ?_) (a' := ?_) #[true, true, true, true, true, true, true, true, true, true, true, true, true, true, true, true, true, true, true, true, true, true, true, true, true] rfl rfl (by kernel_rfl) (fun _ _ _ h => h) (Or.inl ⟨by rfl, ?_⟩) ?_ ?_
          rotate_left
          · intro w'
            go_simp
            with_reducible rfl
          rotate_left
          · simp only [Act.put, List.setIfInBounds_toArray, List.set_cons_zero, List.set_cons_succ]
            rfl
          refine done_ (by kernel_rfl) ?_
          have HW := Lib.hid (HI.out.1.trans (hb1.mono HI.out.1.size))
          clear hb1
          go_wp2
          go_roundw
          case rel => exact ⟨k + 1, by omega, by go_num, Lib.hid ⟨HW.out, HN.out⟩⟩
          case measure => simp [intOf]; omega
    · obtain rfl : k = x.f3.length := by omega
      have HR := Lib.hid (show recP n x = (decide (x.f2 = ⟨#[]⟩) && decide (x.f1 = 0) && decide (x.f3.length ≤ 16) && decide (x.f4.length = x.f3.length) && !(x.f4.any (outB n))) by
        unfold recP
        rw [List.all_eq_true.2 (fun s hs => by
          obtain ⟨j, hj, rfl⟩ := List.getElem_of_mem hs
          have := (HI.out.2 j hj).1
          rwa [List.getD_eq_getElem?_getD, List.getElem?_eq_getElem hj] at this), rising_iff.2 (fun i h0 hi => (HI.out.2 i hi).2 h0)]
        rfl)
      have HW := Lib.hid HB.out
      cases e2 : decide (x.f2 = (⟨#[]⟩ : ByteArray)) with
      | false =>
        have s2 : x.f2.toList.isEmpty = false := (nil_eq _).trans e2
        have HX := Lib.hid (show recP n x = false by rw [HR.out, e2]; simp)
        go_wp2
        go_ret
        exact ⟨by rw [HX.out]; rfl, HW.out⟩
      | true =>
        have s2 : x.f2.toList.isEmpty = true := (nil_eq _).trans e2
        cases e1 : (x.f1 == 0) with
        | false =>
          have e1' : decide (x.f1 = 0) = false := decide_eq_false (by simpa using e1)
          have HX := Lib.hid (show recP n x = false by rw [HR.out, e1']; simp)
          go_wp2
          go_ret
          exact ⟨by rw [HX.out]; rfl, HW.out⟩
        | true =>
          have e1' : decide (x.f1 = 0) = true := decide_eq_true (by simpa using e1)
          cases e3 : decide (x.f3.length ≤ 16) with
          | false =>
            have e3' : decide ((x.f3.length : Int) ≤ 16) = false := decide_eq_false (by have := of_decide_eq_false e3; omega)
            have HX := Lib.hid (show recP n x = false by rw [HR.out, e3]; simp)
            go_wp2
            go_ret
            exact ⟨by rw [HX.out]; rfl, HW.out⟩
          | true =>
            have e3' : decide ((x.f3.length : Int) ≤ 16) = true := decide_eq_true (by have := of_decide_eq_true e3; omega)
            cases e4 : ((x.f4.length : Int) == (x.f3.length : Int)) with
            | false =>
              have e4' : decide (x.f4.length = x.f3.length) = false := decide_eq_false (fun h => by rw [h] at e4; simp at e4)
              have e4n : (x.f4.length == x.f3.length) = false := by simpa using of_decide_eq_false e4'
              have HX := Lib.hid (show recP n x = false by rw [HR.out, e4']; simp)
              go_wp2
              go_ret
              exact ⟨by rw [HX.out]; rfl, HW.out⟩
            | true =>
              have e4' : decide (x.f4.length = x.f3.length) = true := decide_eq_true (Int.ofNat_inj.1 (by simpa using e4))
              have e4n : (x.f4.length == x.f3.length) = true := by simpa using of_decide_eq_true e4'
              have HX := Lib.hid (show recP n x = !(x.f4.any (outB n)) by rw [HR.out, e2, e1', e3, e4']; rfl)
              have HIn := Lib.hid (inside_calls wr A n c A4 a4 x.f4 (Kd.C_below H4.out HI.out.1))
              clear e4'
              go_wp2_with fail
              refine HIn.out.mono ?_
              clear HIn
              rintro e w' ⟨rfl, hww⟩
              replace hww := hww.symm
              subst hww
              go_wp2
              go_ret
              exact ⟨by rw [HX.out]; rfl, HW.out⟩
end Go.Proofs.YtcljgfpcdlnlkaaDoor.Q
namespace Go.Proofs.YtcljgfpcdlnlkaaDoor.Q
open Go.RowKit Go.Proofs.YtcljgfpcdlnlkaaDoorW.PrintWords Mp
theorem all_rd' {l : List Int} {f : Int → Bool} (h : ∀ j : Nat, j < l.length → f (rd l (j : Int)) = true) : l.all f = true := by
  rw [List.all_eq_true]
  intro x hx
  obtain ⟨j, hj, rfl⟩ := List.getElem_of_mem hx
  have := h j hj
  unfold rd at this
  rwa [Int.toNat_natCast, List.getD_eq_getElem?_getD, List.getElem?_eq_getElem hj] at this
theorem len0 (n : Nat) : ((n : Int) == 0) = decide (n = 0) := by
  rw [Bool.eq_iff_iff]; simp
theorem lenn0 (n : Nat) : ((n : Int) != 0) = !decide (n = 0) := by
  rw [Bool.eq_iff_iff]; simp
/-- May a union's members be? -/
def unionP (g : List S37) (x : S37) : Bool := decide (x.f2 = ⟨#[]⟩) && decide (x.f1 = 0) && decide (x.f3.length = 0) && decide (2 ≤ x.f4.length) && (!(x.f4.any (outB g.length)) && distinctB x.f4) && x.f4.all fun k => decide ((rd_T37 g k).f0 ≠ 8)
set_option maxRecDepth 100000 in
set_option maxHeartbeats 1000000 in
theorem union6_calls (w : World) (A : Option Addr) (c : Nat) (g : List S37) (x : S37) (A3 A4 : Option Addr) (a3 a4 : Nat) (hg : Kd.C k37 w A g.length g) (hn : g.length ≤ 4000000) (h4 : Kd.C (Kd.int .i64) w A4 x.f4.length x.f4) :
    Calls Tryd.prog 141 #[.slice A g.length c, nodeV x A3 a3 A4 a4] w fun e w' => e = .returned (.bool (unionP g x)) ∧ Below w.heap.size w w' := by
  unfold nodeV
  have hbW : Below w.heap.size w (w.alloc (.cells #[.int .i64 x.f0, .int .i64 x.f1, .string x.f2, .slice A3 x.f3.length a3, .slice A4 x.f4.length a4] 37)) := (Below.refl _ _).alloc (Nat.le_refl _) _
  have p0 : (w.alloc (.cells #[.int .i64 x.f0, .int .i64 x.f1, .string x.f2, .slice A3 x.f3.length a3, .slice A4 x.f4.length a4] 37)).cell? ⟨w.heap.size, 0, none⟩ = some (.int .i64 x.f0) := by simp
  have p1 : (w.alloc (.cells #[.int .i64 x.f0, .int .i64 x.f1, .string x.f2, .slice A3 x.f3.length a3, .slice A4 x.f4.length a4] 37)).cell? ⟨w.heap.size, 1, none⟩ = some (.int .i64 x.f1) := by simp
  have p2 : (w.alloc (.cells #[.int .i64 x.f0, .int .i64 x.f1, .string x.f2, .slice A3 x.f3.length a3, .slice A4 x.f4.length a4] 37)).cell? ⟨w.heap.size, 2, none⟩ = some (.string x.f2) := by simp
  have p3 : (w.alloc (.cells #[.int .i64 x.f0, .int .i64 x.f1, .string x.f2, .slice A3 x.f3.length a3, .slice A4 x.f4.length a4] 37)).cell? ⟨w.heap.size, 3, none⟩ = some (.slice A3 x.f3.length a3) := by simp
  have p4 : (w.alloc (.cells #[.int .i64 x.f0, .int .i64 x.f1, .string x.f2, .slice A3 x.f3.length a3, .slice A4 x.f4.length a4] 37)).cell? ⟨w.heap.size, 4, none⟩ = some (.slice A4 x.f4.length a4) := by simp
  have H4 := Lib.hid (Kd.C_below h4 hbW)
  have HG := Lib.hid (Kd.C_below hg hbW)
  have b4 := h4.2.1
  have HbW := Lib.hid hbW
  have HU := Lib.hid (show unionP g x = (decide (x.f2 = ⟨#[]⟩) && decide (x.f1 = 0) && decide (x.f3.length = 0) && decide (2 ≤ x.f4.length) && (!(x.f4.any (outB g.length)) && distinctB x.f4) && x.f4.all fun k => decide ((rd_T37 g k).f0 ≠ 8)) from rfl)
  have HPl := Lib.hid (places_calls (w.alloc (.cells #[.int .i64 x.f0, .int .i64 x.f1, .string x.f2, .slice A3 x.f3.length a3, .slice A4 x.f4.length a4] 37)) A g.length c A4 a4 x.f4 hn (Kd.C_below h4 hbW))
  clear hg h4 hbW
  go_enter Tryd.func141, Tryd.ntmps141
  cases e2 : decide (x.f2 = (⟨#[]⟩ : ByteArray)) with
  | false =>
    have s2 : x.f2.toList.isEmpty = false := (nil_eq _).trans e2
    have HX := Lib.hid (show unionP g x = false by rw [HU.out, e2]; simp)
    go_wp2
    go_ret
    exact ⟨by rw [HX.out]; rfl, HbW.out⟩
  | true =>
    have s2 : x.f2.toList.isEmpty = true := (nil_eq _).trans e2
    cases e1 : (x.f1 != 0) with
    | true =>
      have e1' : decide (x.f1 = 0) = false := decide_eq_false (by simpa using e1)
      have HX := Lib.hid (show unionP g x = false by rw [HU.out, e1']; simp)
      go_wp2
      go_ret
      exact ⟨by rw [HX.out]; rfl, HbW.out⟩
    | false =>
      have e1' : decide (x.f1 = 0) = true := decide_eq_true (by simpa using e1)
      cases e3 : decide (x.f3.length = 0) with
      | false =>
        have s3 : ((x.f3.length : Int) != 0) = true := by rw [lenn0, e3]; rfl
        have HX := Lib.hid (show unionP g x = false by rw [HU.out, e3]; simp)
        go_wp2
        go_ret
        exact ⟨by rw [HX.out]; rfl, HbW.out⟩
      | true =>
        have s3 : ((x.f3.length : Int) != 0) = false := by rw [lenn0, e3]; rfl
        cases e4 : decide (2 ≤ x.f4.length) with
        | false =>
          have s4 : decide ((x.f4.length : Int) < 2) = true := decide_eq_true (by have := of_decide_eq_false e4; omega)
          have s4' : decide (x.f4.length < 2) = true := decide_eq_true (by have := of_decide_eq_false e4; omega)
          have HX := Lib.hid (show unionP g x = false by rw [HU.out, e4]; simp)
          go_wp2
          go_ret
          exact ⟨by rw [HX.out]; rfl, HbW.out⟩
        | true =>
          have s4 : decide ((x.f4.length : Int) < 2) = false := decide_eq_false (by have := of_decide_eq_true e4; omega)
          have s4' : decide (x.f4.length < 2) = false := decide_eq_false (by have := of_decide_eq_true e4; omega)
          have HU2 := Lib.hid (show unionP g x = ((!(x.f4.any (outB g.length)) && distinctB x.f4) && x.f4.all fun k => decide ((rd_T37 g k).f0 ≠ 8)) by rw [HU.out, e2, e1', e3, e4]; rfl)
          have HIn := Lib.hid (show (!(x.f4.any (outB g.length)) && distinctB x.f4) = true → ∀ k ∈ x.f4, 0 ≤ k ∧ k < (g.length : Int) from fun h k hk => by
            rw [Bool.and_eq_true, Bool.not_eq_true'] at h
            have := List.any_eq_false.1 h.1 k hk
            exact out_range.1 (by simpa using this))
          clear e2 e1' e3 e4
          cases hp : (!(x.f4.any (outB g.length)) && distinctB x.f4) with
          | false =>
            have HX := Lib.hid (show unionP g x = false by rw [HU2.out, hp]; rfl)
            rw [hp] at HPl
            clear hp
            go_wp2_with fail
            refine HPl.out.mono ?_
            rintro e w1 ⟨rfl, hb1⟩
            have HW := Lib.hid (HbW.out.trans (hb1.mono HbW.out.size))
            clear hb1
            go_wp2
            go_ret
            exact ⟨by rw [HX.out]; rfl, HW.out⟩
          | true =>
            have HU3 := Lib.hid (show unionP g x = x.f4.all fun k => decide ((rd_T37 g k).f0 ≠ 8) by rw [HU2.out, hp]; rfl)
            have HIn2 := Lib.hid (HIn.out hp)
            rw [hp] at HPl
            clear hp HIn HU HU2
            go_wp2_with fail
            refine HPl.out.mono ?_
            clear HPl
            rintro e w1 ⟨rfl, hb1⟩
            have HW := Lib.hid (HbW.out.trans (hb1.mono HbW.out.size))
            have p0' := (hb1.cell (World.block_lt_of_cell? _ _ p0)).trans p0
            have p1' := (hb1.cell (World.block_lt_of_cell? _ _ p1)).trans p1
            have p2' := (hb1.cell (World.block_lt_of_cell? _ _ p2)).trans p2
            have p3' := (hb1.cell (World.block_lt_of_cell? _ _ p3)).trans p3
            have p4' := (hb1.cell (World.block_lt_of_cell? _ _ p4)).trans p4
            have H41 := Lib.hid (Kd.C_below H4.out hb1)
            have HG1 := Lib.hid (Kd.C_below HG.out hb1)
            clear hb1 p0 p1 p2 p3 p4 H4 HG
            go_wp2
            go_loopw [5] (fun s5 W => ∃ k : Nat, k ≤ x.f4.length ∧ s5 = .int .i64 k ∧ Hid (W = w1 ∧ ∀ j : Nat, j < k → decide ((rd_T37 g (rd x.f4 (j : Int))).f0 ≠ 8) = true)) (fun s5 _ => x.f4.length - (intOf s5).toNat)
            case atStart => exact ⟨0, Nat.zero_le _, rfl, Lib.hid ⟨rfl, fun j hj => absurd hj (by omega)⟩⟩
            case round =>
              obtain ⟨k, hk, rfl, HI⟩ := hrel
              have hww := HI.out.1.symm
              subst hww
              by_cases hlt : k < x.f4.length
              · obtain ⟨u, rfl, z⟩ := int_cell H41.out k hlt
                have hr := HIn2.out _ (rd_memI (l := x.f4) (i := (k : Int)) (by omega) (by omega))
                obtain ⟨ad, _, _, _, _, rfl, z0, _⟩ := at_T37 HG1.out (rd x.f4 (k : Int)) hr.1 hr.2
                have HF := Lib.hid (show (rd_T37 g (rd x.f4 (k : Int))).f0 = 8 → unionP g x = false from fun h => by
                  rw [HU3.out, List.all_eq_false]
                  exact ⟨_, rd_memI (l := x.f4) (i := (k : Int)) (by omega) (by omega), by simp [h]⟩)
                have HN := Lib.hid (show ¬ (rd_T37 g (rd x.f4 (k : Int))).f0 = 8 → ∀ j : Nat, j < k + 1 → decide ((rd_T37 g (rd x.f4 (j : Int))).f0 ≠ 8) = true from fun h j hj => if e : j = k then by rw [e]; exact decide_eq_true h else HI.out.2 j (by omega))
                generalize rd x.f4 (k : Int) = y at *
                have y0 := hr.1
                have y1 := hr.2
                clear hr
                cases d8 : ((rd_T37 g y).f0 == 8) with
                | true =>
                  have HX := Lib.hid (HF.out (by simpa using d8))
                  go_wp2
                  go_ret
                  exact ⟨by rw [HX.out]; rfl, HW.out⟩
                | false =>
                  have HX := Lib.hid (HN.out (by simpa using d8))
                  clear HF HN
                  go_wp2
                  go_roundw
                  case rel => exact ⟨k + 1, by omega, by go_num, Lib.hid ⟨by simp, HX.out⟩⟩
                  case measure => simp [intOf]; omega
              · obtain rfl : k = x.f4.length := by omega
                have HX := Lib.hid (show unionP g x = true from HU3.out.trans (all_rd' HI.out.2))
                go_wp2
                go_ret
                exact ⟨by rw [HX.out]; rfl, HW.out⟩
end Go.Proofs.YtcljgfpcdlnlkaaDoor.Q
