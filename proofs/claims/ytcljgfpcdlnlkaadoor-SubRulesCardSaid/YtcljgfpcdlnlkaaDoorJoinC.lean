/- sub: its exported functions; the chapter's graph and its examples; plain laws of the relation. Conditions: those of each theorem's own statement. -/
import Derived.Test.YtcljgfpcdlnlkaaDoorJoinB
import Derived.Carry
namespace Go.Proofs.YtcljgfpcdlnlkaaDoor.Q
open Go.RowKit Go.Proofs.YtcljgfpcdlnlkaaDoorW.PrintWords Mp
theorem below_drewN {B : Nat} {w w' : World} (h : Below B w w') (n : Nat) : Below B w (w'.drewN n) := ⟨h.os, h.tape, h.output, h.size, h.block⟩
theorem enters108 : EntersAt 108 := enters_at Tryd.func108 (by kernel_rfl) rfl
set_option maxRecDepth 100000 in
set_option maxHeartbeats 400000 in
theorem of1_calls (w : World) (Y : Nat) (A : Option Addr) (n c : Nat) (k : Int) (hY : w.cell? ⟨Y, 0, none⟩ = some (.slice A n c)) :
    Calls Tryd.prog 108 #[.int .i64 k, .pointer (some ⟨Y, 0, none⟩)] w fun e w' => e = .returned (.bool (outB n k)) ∧ w' = w := by
  by_cases h1 : k < 0
  · have d1 : decide (k < 0) = true := decide_eq_true h1
    have HO := Lib.hid (show outB n k = true by simp [outB, h1])
    go_enter Tryd.func108, Tryd.ntmps108
    go_wp2
    go_ret
    exact ⟨by rw [HO.out]; rfl, rfl⟩
  · have d1 : decide (k < 0) = false := decide_eq_false h1
    have HO := Lib.hid (show outB n k = decide ((n : Int) ≤ k) by simp [outB, h1])
    go_enter Tryd.func108, Tryd.ntmps108
    go_wp2
    go_ret
    exact ⟨by rw [HO.out]; rfl, rfl⟩
/-- May a solver be made? -/
def mayOf (g : List S37) (l : List Int) : Bool := decide (checkP g = 0) && !(l.any (outB g.length))
theorem mayOf_iff {g : List S37} {l : List Int} : mayOf g l = true ↔ checkP g = 0 ∧ ∀ k ∈ l, 0 ≤ k ∧ k < g.length := by
  unfold mayOf
  rw [Bool.and_eq_true, decide_eq_true_eq, Bool.not_eq_true', List.any_eq_false]
  simp only [outB, Bool.or_eq_true, decide_eq_true_eq, not_or, Int.not_lt, Int.not_le]
set_option maxRecDepth 100000 in
set_option maxHeartbeats 400000 in
theorem of_calls (w : World) (A : Option Addr) (c : Nat) (g : List S37) (st : Bool) (P : Option Addr) (cP : Nat) (l : List Int) (hk : KeysIn w) (hg : Kd.C k37 w A g.length g) (hs : ∀ x ∈ g, x.f3.length ≤ 9223372036854775807 ∧ x.f4.length ≤ 9223372036854775807) (hl : Kd.C (Kd.int .i64) w P l.length l) (hl2 : l.length ≤ 9223372036854775807) :
    Calls Tryd.prog 63 #[.slice A g.length c, .bool st, .slice P l.length cP] w fun e w' => Below w.heap.size w w' ∧ ((mayOf g l = false ∧ e = .returned (.tuple #[.pointer none, .bool false])) ∨
      (mayOf g l = true ∧ ∃ X B, e = .returned (.tuple #[.pointer (some ⟨X, 0, none⟩), .bool true]) ∧ X < w'.heap.size ∧ @Sol (domG g) w w' X B A c g st [])) := by
  have HG := Lib.hid hg
  have HL := Lib.hid hl
  have hB0 : Below w.heap.size w (w.alloc (.cells #[.slice A g.length c] 22)) := (Below.refl _ _).alloc (Nat.le_refl _) _
  have HCk := Lib.hid (check_calls A g c _ (hk.below hB0) (Kd.C_below hg hB0) hs)
  have HB0 := Lib.hid hB0
  have pY : (w.alloc (.cells #[.slice A g.length c] 22)).cell? ⟨w.heap.size, 0, none⟩ = some (.slice A g.length c) := by simp
  clear hg hl hk hs hB0
  go_enter Tryd.func63, Tryd.ntmps63
  go_wp2_with fail
  refine HCk.out.mono ?_
  rintro e w1 ⟨rfl, hb1⟩
  have HB1 := Lib.hid (HB0.out.trans (hb1.mono HB0.out.size))
  have pY1 := (hb1.cell (p := ⟨w.heap.size, 0, none⟩) (by simp)).trans pY
  clear hb1 HCk pY HB0
  by_cases hq : checkP g = 0
  · have HQ := Lib.hid hq
    rw [hq]
    clear hq
    have HH := Lib.hid (has65 P l.length cP 108 #[.pointer (some ⟨w.heap.size, 0, none⟩)] (fun i => .int .i64 (rd l i)) (fun i W => W = w1 ∧ ∀ j : Nat, j < i → outB g.length (rd l j) = false) (fun i W => W = w1 ∧ outB g.length (rd l i) = true) w1 hl2 enters108 ⟨rfl, fun j hj => absurd hj (by omega)⟩
      (by
        rintro i W ⟨rfl, _⟩ hi
        exact int_cell (Kd.C_below HL.out HB1.out) i hi)
      (by
        rintro i W hi ⟨rfl, h0⟩
        refine (of1_calls W w.heap.size A g.length c (rd l i) pY1).mono ?_
        rintro e W' ⟨rfl, rfl⟩
        cases ho : outB g.length (rd l i) with
        | true => exact .inl ⟨rfl, rfl, rfl⟩
        | false => exact .inr ⟨rfl, rfl, fun j hj => if h : j = i then by rw [h]; exact ho else h0 j (by omega)⟩))
    go_wp2_with fail
    refine HH.out.mono ?_
    clear HH
    rintro e w' (⟨i, hi, rfl, hww, ho⟩ | ⟨rfl, hww, ho⟩)
    · replace hww := hww.symm
      subst hww
      have HM := Lib.hid (show mayOf g l = false from by
        cases e : mayOf g l with
        | false => rfl
        | true =>
          have h2 := (mayOf_iff.1 e).2 (rd l i) (by unfold rd; rw [Int.toNat_natCast, List.getD_eq_getElem?_getD, List.getElem?_eq_getElem hi]; exact List.getElem_mem _)
          simp only [outB, Bool.or_eq_true, decide_eq_true_eq] at ho
          omega)
      clear ho
      go_wp2
      refine bodyPost_ret (results_tmp2 rfl _ _ _) rfl ?_
      exact ⟨HB1.out, .inl ⟨HM.out, rfl⟩⟩
    · replace hww := hww.symm
      subst hww
      have HM := Lib.hid (show mayOf g l = true from mayOf_iff.2 ⟨HQ.out, fun k hk => by
        obtain ⟨j, hj, rfl⟩ := List.getElem_of_mem hk
        have := ho j hj
        unfold rd at this
        rw [Int.toNat_natCast, List.getD_eq_getElem?_getD, List.getElem?_eq_getElem hj] at this
        simp only [outB, Option.getD_some, Bool.or_eq_false_iff, decide_eq_false_iff_not] at this
        omega⟩)
      clear ho
      have hmm := @run_makeMap Tryd.prog
      go_wp2
      refine bodyPost_ret (results_tmp2 rfl _ _ _) rfl ?_
      have hbA : Below w.heap.size w ((w1.alloc (Obj.map #[] 0)).alloc (Obj.cells #[Value.slice A g.length c, Value.bool st, Value.map (some w1.heap.size)] 86)) := (HB1.out.alloc HB1.out.size _).alloc (by have := HB1.out.size; simp; omega) _
      refine ⟨hbA, .inr ⟨HM.out, w1.heap.size + 1, w1.heap.size, rfl, by simp, ?_⟩⟩
      refine @Sol.mk (domG g) _ _ _ _ _ _ _ _ _ HG.out hbA HB1.out.size (by omega) ?_ ?_ ?_ ((MapAt.new _ _ w1).of_block (Below.heap_alloc _ _ _ (by simp))) (fun a b h1 h2 h3 h4 => ⟨h1, h2, h3, h4⟩)
      all_goals simp
  · have d1 : (checkP g != 0) = true := by simp [hq]
    have HM := Lib.hid (show mayOf g l = false from by simp [mayOf, hq])
    clear hq
    generalize checkP g = q at d1
    go_wp2
    refine bodyPost_ret (results_tmp2 rfl _ _ _) rfl ?_
    exact ⟨HB1.out, .inl ⟨HM.out, rfl⟩⟩
theorem R_two (w : World) (a b : Int) : (Kd.int .i64).R 3 (w.alloc (.cells #[.int .i64 a, .int .i64 b] 3)) w.heap.size (fun _ => True) (.slice (some ⟨w.heap.size, 0, none⟩) 2 2) [a, b] :=
  ⟨fun _ _ => trivial, [.int .i64 a, .int .i64 b], ⟨by simp [Kd.int, Kd.scalar], .inr ⟨w.heap.size, 2, #[.int .i64 a, .int .i64 b], rfl, Nat.le_refl _, Array.getElem?_push_size, Nat.le_refl _, by decide, by simp [Kd.int, Kd.scalar], by simp [Kd.int, Kd.scalar]⟩⟩, by
    refine ⟨by simp [Kd.int, Kd.scalar], fun j p hj => ?_⟩
    match j, hj with
    | 0, hj => simp at hj; subst hj; rfl
    | 1, hj => simp at hj; subst hj; rfl
    | j + 2, hj => simp at hj⟩
theorem R_pair (w : World) (a b : Int) : k81.R 81 (w.alloc (.cells #[.int .i64 a, .int .i64 b] 81)) w.heap.size (fun _ => True) (.slice (some ⟨w.heap.size, 0, none⟩) 1 1) [(a, b)] :=
  ⟨fun _ _ => trivial, [.int .i64 a, .int .i64 b], ⟨by rfl, .inr ⟨w.heap.size, 1, #[.int .i64 a, .int .i64 b], rfl, Nat.le_refl _, Array.getElem?_push_size, Nat.le_refl _, by decide, by rfl, by rfl⟩⟩, by
    refine ⟨by rfl, fun j p hj => ?_⟩
    match j, hj with
    | 0, hj => simp at hj; subst hj; exact k81_mk _ _ _ a b
    | j + 1, hj => simp at hj⟩
/-- What asked answers. -/
noncomputable def askB (st : Bool) (g : List S37) (a b : Int) : Bool := mayOf g [a, b] && standsB st g (a, b)
set_option maxRecDepth 100000 in
set_option maxHeartbeats 400000 in
theorem asked_calls (w : World) (A : Option Addr) (c : Nat) (g : List S37) (st : Bool) (a b : Int) (hk : KeysIn w) (hg : Kd.C k37 w A g.length g) (hs : ∀ x ∈ g, x.f3.length ≤ 9223372036854775807 ∧ x.f4.length ≤ 9223372036854775807) :
    Calls Tryd.prog 73 #[.slice A g.length c, .bool st, .agg #[.int .i64 a, .int .i64 b]] w fun e w' => e = .returned (.bool (askB st g a b)) ∧ Below w.heap.size w w' := by
  letI := domG g
  have hB0 : Below w.heap.size w ((w.alloc (.cells #[.int .i64 a, .int .i64 b] 81)).alloc (.cells #[.int .i64 a, .int .i64 b] 3)) := ((Below.refl _ _).alloc (Nat.le_refl _) _).alloc (by simp) _
  have hR2 := R_two (w.alloc (.cells #[.int .i64 a, .int .i64 b] 81)) a b
  have hOf := of_calls ((w.alloc (.cells #[.int .i64 a, .int .i64 b] 81)).alloc (.cells #[.int .i64 a, .int .i64 b] 3)) A c g st _ 2 [a, b] (hk.below hB0) (Kd.C_below hg hB0) hs (Kd.R_reads' hR2).2.2 (by simp)
  rw [World.size_alloc w, show [a, b].length = 2 from rfl] at hOf
  have HOf := Lib.hid hOf
  clear hOf
  have pa : ((w.alloc (.cells #[.int .i64 a, .int .i64 b] 81)).alloc (.cells #[.int .i64 a, .int .i64 b] 3)).cell? ⟨w.heap.size, 0, none⟩ = some (.int .i64 a) := cell_alloc _ (by simp)
  have pb : ((w.alloc (.cells #[.int .i64 a, .int .i64 b] 81)).alloc (.cells #[.int .i64 a, .int .i64 b] 3)).cell? ⟨w.heap.size, 1, none⟩ = some (.int .i64 b) := cell_alloc _ (by simp)
  have HB0 := Lib.hid hB0
  clear hk hg hs hR2 hB0
  go_enter Tryd.func73, Tryd.ntmps73
  go_wp2_with fail
  refine HOf.out.mono ?_
  clear HOf
  generalize (w.alloc (.cells #[.int .i64 a, .int .i64 b] 81)).alloc (.cells #[.int .i64 a, .int .i64 b] 3) = w0 at HB0 pa pb
  rintro e w1 ⟨hb1, ⟨hm, rfl⟩ | ⟨hm, X, B, rfl, hX, hS⟩⟩
  · have HB1 := Lib.hid (HB0.out.trans (hb1.mono HB0.out.size))
    have HM := Lib.hid (show askB st g a b = false by rw [askB, hm]; rfl)
    clear hb1 hm
    go_wp2
    go_ret
    exact ⟨by rw [HM.out]; rfl, HB1.out⟩
  · have HB1 := Lib.hid (HB0.out.trans (hb1.mono HB0.out.size))
    have HM := Lib.hid hm
    have HS := Lib.hid hS
    have pa1 := (hb1.cell (World.block_lt_of_cell? w0 _ pa)).trans pa
    have pb1 := (hb1.cell (World.block_lt_of_cell? w0 _ pb)).trans pb
    have hV := mayOf_iff.1 hm
    have HP := Lib.hid (show InG g (a, b) from ⟨(hV.2 a (by simp)).1, (hV.2 a (by simp)).2, (hV.2 b (by simp)).1, (hV.2 b (by simp)).2⟩)
    have hb2 : Below w1.heap.size w1 (w1.alloc (.cells #[.int .i64 a, .int .i64 b] 81)) := (Below.refl _ _).alloc (Nat.le_refl _) _
    have HB2 := Lib.hid hb2
    have hBl : B < w1.heap.size := hS.map.lt
    have hRp : k81.R 81 (w1.alloc (.cells #[.int .i64 a, .int .i64 b] 81)) w1.heap.size (fun k => k ≠ B) (.slice (some ⟨w1.heap.size, 0, none⟩) 1 1) [(a, b)] := R_apartB (R_pair w1 a b) hBl
    have HSo := Lib.hid (solve_calls (hS.below hb2) (valid_of_check hV.1) (Inv.nil st g) (some ⟨w1.heap.size, 0, none⟩) 1 [(a, b)] (fun W hW => (Kd.R_reads' (R_kp hRp hW)).2.2) (fun p hp => by rw [List.mem_singleton.1 hp]; exact HP.out) (by simp))
    have pa2 : (w1.alloc (.cells #[.int .i64 a, .int .i64 b] 81)).cell? ⟨w.heap.size, 0, none⟩ = some (.int .i64 a) := cell_alloc _ pa1
    have pb2 : (w1.alloc (.cells #[.int .i64 a, .int .i64 b] 81)).cell? ⟨w.heap.size, 1, none⟩ = some (.int .i64 b) := cell_alloc _ pb1
    have hx2 : (w1.alloc (.cells #[.int .i64 a, .int .i64 b] 81)).cell? ⟨X, 2, none⟩ = some (.map (some B)) := cell_alloc _ hS.x2
    have hXB := hS.ne
    have hwB : w.heap.size ≠ B := by have := hS.lB; have := World.block_lt_of_cell? w0 _ pa; simp only at this; omega
    clear hb1 hm hS hb2 hRp pa pb hV hX
    go_wp2_with fail
    refine HSo.out.mono ?_
    rintro e w2 ⟨m2, rfl, hM2, hK2, hF2, _, hV2⟩
    have hget := (hV2 (a, b) (hF2 _ (by simp))).1
    have pa3 := hK2.cell pa2 hwB
    have pb3 := hK2.cell pb2 hwB
    have hx3 := hK2.cell hx2 hXB
    have hlk := fun n => (MapAt.of_block (w' := w2.drewN n) hM2 rfl).lookup1 pairKey Tryd.underlying84 zero3 (a, b)
    have HB3 := Lib.hid (HB1.out.trans ((HB2.out.mono HB1.out.size).trans (hK2.below (B := w.heap.size) (by have := HS.out.lB; have := HB0.out.size; omega) (by have := HB1.out.size; have := HB2.out.size; omega))))
    simp only [hget, pairV, Option.map_some, Option.getD_some] at hlk
    clear HSo hM2 hK2 hF2 hV2 hget pa2 pb2 hx2 pa1 pb1
    have HAs := Lib.hid (show askB st g a b = standsB st g (a, b) by rw [askB, HM.out]; rfl)
    cases hst : standsB st g (a, b) with
    | true =>
      rw [hst] at HAs
      simp only [hst, if_true] at hlk
      clear hst
      go_wp2
      go_quiet (fail)
      go_wp2
      go_ret
      exact ⟨by rw [HAs.out]; rfl, below_drewN HB3.out _⟩
    | false =>
      rw [hst] at HAs
      simp only [hst] at hlk
      clear hst
      go_wp2
      go_quiet (fail)
      go_wp2
      go_ret
      exact ⟨by rw [HAs.out]; rfl, below_drewN HB3.out _⟩
theorem may_calls2 (w : World) (A : Option Addr) (c : Nat) (g : List S37) (a b : Int) (hk : KeysIn w) (hg : Kd.C k37 w A g.length g) (hs : ∀ x ∈ g, x.f3.length ≤ 9223372036854775807 ∧ x.f4.length ≤ 9223372036854775807) :
    Calls Tryd.prog 27 #[.slice A g.length c, .int .i64 a, .int .i64 b] w fun e w' => e = .returned (.bool (askB false g a b)) ∧ Below w.heap.size w w' := by
  have HA := Lib.hid (asked_calls w A c g false a b hk hg hs)
  go_enter Tryd.func27, Tryd.ntmps27
  go_wp2_with fail
  refine HA.out.mono ?_
  rintro e w1 ⟨rfl, hb⟩
  go_wp2
  go_ret
  exact ⟨rfl, hb⟩
theorem strict_calls (w : World) (A : Option Addr) (c : Nat) (g : List S37) (a b : Int) (hk : KeysIn w) (hg : Kd.C k37 w A g.length g) (hs : ∀ x ∈ g, x.f3.length ≤ 9223372036854775807 ∧ x.f4.length ≤ 9223372036854775807) :
    Calls Tryd.prog 33 #[.slice A g.length c, .int .i64 a, .int .i64 b] w fun e w' => e = .returned (.bool (askB true g a b)) ∧ Below w.heap.size w w' := by
  have HA := Lib.hid (asked_calls w A c g true a b hk hg hs)
  go_enter Tryd.func33, Tryd.ntmps33
  go_wp2_with fail
  refine HA.out.mono ?_
  rintro e w1 ⟨rfl, hb⟩
  go_wp2
  go_ret
  exact ⟨rfl, hb⟩
/-- What Pick answers. -/
noncomputable def pickP (g : List S37) (a b : Int) : Int := if mayOf g [a, b] = true ∧ (rd_T37 g a).f0 ≠ 8 then pickB false g a b (standsB false g) else -2
set_option maxRecDepth 100000 in
set_option maxHeartbeats 400000 in
theorem pick25_calls (w : World) (A : Option Addr) (c : Nat) (g : List S37) (a b : Int) (hk : KeysIn w) (hg : Kd.C k37 w A g.length g) (hs : ∀ x ∈ g, x.f3.length ≤ 9223372036854775807 ∧ x.f4.length ≤ 9223372036854775807) :
    Calls Tryd.prog 25 #[.slice A g.length c, .int .i64 a, .int .i64 b] w fun e w' => e = .returned (.int .i64 (pickP g a b)) ∧ Below w.heap.size w w' := by
  letI := domG g
  have hB0 : Below w.heap.size w (w.alloc (.cells #[.int .i64 a, .int .i64 b] 3)) := (Below.refl _ _).alloc (Nat.le_refl _) _
  have hR2 := R_two w a b
  have hOf := of_calls (w.alloc (.cells #[.int .i64 a, .int .i64 b] 3)) A c g false _ 2 [a, b] (hk.below hB0) (Kd.C_below hg hB0) hs (Kd.R_reads' hR2).2.2 (by simp)
  rw [show [a, b].length = 2 from rfl] at hOf
  have HOf := Lib.hid hOf
  have HG := Lib.hid hg
  have HB0 := Lib.hid hB0
  clear hk hg hs hR2 hB0 hOf
  go_enter Tryd.func25, Tryd.ntmps25
  go_wp2_with fail
  refine HOf.out.mono ?_
  clear HOf
  generalize w.alloc (.cells #[.int .i64 a, .int .i64 b] 3) = w0 at HB0
  rintro e w1 ⟨hb1, ⟨hm, rfl⟩ | ⟨hm, X, B, rfl, hX, hS⟩⟩
  · have HB1 := Lib.hid (HB0.out.trans (hb1.mono HB0.out.size))
    have HM := Lib.hid (show pickP g a b = -2 by simp [pickP, hm])
    clear hb1 hm
    go_wp2
    go_ret
    exact ⟨by rw [HM.out]; rfl, HB1.out⟩
  · have hb01 := HB0.out.trans (hb1.mono HB0.out.size)
    have HB1 := Lib.hid hb01
    have HM := Lib.hid hm
    have HS := Lib.hid hS
    have hV := mayOf_iff.1 hm
    have hP : InG g (a, b) := ⟨(hV.2 a (by simp)).1, (hV.2 a (by simp)).2, (hV.2 b (by simp)).1, (hV.2 b (by simp)).2⟩
    have HP := Lib.hid hP
    have HVa := Lib.hid (valid_of_check hV.1)
    obtain ⟨ad, A3, c3, A4, c4, rfl, k0, _⟩ := at_T37 HG.out a hP.1 hP.2.1
    have k0' := (hb01.cell (World.block_lt_of_cell? w _ k0)).trans k0
    have i0 := hP.1
    have i1 := hP.2.1
    clear k0 hP hV
    by_cases h8 : (rd_T37 g a).f0 = 8
    · have n8 : ((rd_T37 g a).f0 == 8) = true := by simp [h8]
      have HQ := Lib.hid (show pickP g a b = -2 by simp [pickP, h8])
      clear hb1 hm hS hb01 h8
      go_wp2
      go_ret
      exact ⟨by rw [HQ.out]; rfl, HB1.out⟩
    · have n8 : ((rd_T37 g a).f0 == 8) = false := by simp [h8]
      have HQ := Lib.hid (show pickP g a b = pickB false g a b (standsB false g) by simp [pickP, h8, hm])
      have HN8 := Lib.hid h8
      have hb2 : Below w1.heap.size w1 (w1.alloc (.cells #[.int .i64 a, .int .i64 b] 81)) := (Below.refl _ _).alloc (Nat.le_refl _) _
      have HB2 := Lib.hid hb2
      have hBl : B < w1.heap.size := hS.map.lt
      have hRp : k81.R 81 (w1.alloc (.cells #[.int .i64 a, .int .i64 b] 81)) w1.heap.size (fun k => k ≠ B) (.slice (some ⟨w1.heap.size, 0, none⟩) 1 1) [(a, b)] := R_apartB (R_pair w1 a b) hBl
      have HS2 := Lib.hid (hS.below hb2)
      have HSo := Lib.hid (solve_calls (hS.below hb2) HVa.out (Inv.nil false g) (some ⟨w1.heap.size, 0, none⟩) 1 [(a, b)] (fun W hW => (Kd.R_reads' (R_kp hRp hW)).2.2) (fun p hp => by rw [List.mem_singleton.1 hp]; exact HP.out) (by simp))
      clear hb1 hm hS hb2 hRp hb01 h8
      go_wp2_with fail
      refine HSo.out.mono ?_
      rintro e w2 ⟨m2, rfl, hM2, hK2, hF2, hI2, hV2⟩
      have HS3 := Lib.hid (HS2.out.step hK2 hM2)
      have HB3 := Lib.hid (HB1.out.trans ((HB2.out.mono HB1.out.size).trans (hK2.below (B := w.heap.size) (by have := HS.out.lB; have := HB0.out.size; omega) (by have := HB1.out.size; have := HB2.out.size; omega))))
      have HPk := Lib.hid (pick_calls HS3.out HVa.out a b HP.out.1 HP.out.2.1 HN8.out HP.out.2.2.1 HP.out.2.2.2)
      have hab := hF2 (a, b) (by simp)
      have HR := Lib.hid (show ∀ m3 k, Grow m2 m3 → Ans m2 m3 (pickB false g a b) k → k = pickB false g a b (standsB false g) from fun m3 k hG hA => by
        have h1 := hA (okB m2) (fun p hp => by rw [← hG.ok]; exact pos_ok _ _ hp) (fun p hp => hp)
        have hmem : membersL g a = [a] := by
          unfold membersL
          rw [if_neg (by have := HP.out.1; have := HP.out.2.1; simp only at *; omega), if_neg HN8.out]
        cases es : standsB false g (a, b) with
        | true =>
          have hv := (hV2 _ hab).1
          rw [es] at hv
          obtain ⟨k2, hk2⟩ := ((hV2 _ hab).2 (by unfold posB; rw [hv]; rfl)).2 a (by show a ∈ membersL g a; rw [hmem]; simp)
          have h2 := hk2 (okB m2) (fun p hp => pos_ok _ _ hp) (fun p hp => hp)
          have h3 := hk2 (standsB false g) (fun p hp => by
            have hp1 : p ∈ m2.map (·.1) := by
              refine get_ne_none.1 fun e => ?_
              unfold posB at hp
              rw [e] at hp
              cases hp
            have := (hV2 p hp1).1
            cases e : standsB false g p with
            | true => rfl
            | false =>
              rw [e] at this
              unfold posB at hp
              rw [this] at hp
              cases hp) (fun p hp => hI2.sound p hp)
          rw [h3, ← h1]
          exact h2
        | false =>
          have hv := (hV2 _ hab).1
          rw [es] at hv
          have ho := hI2.out _ hv
          have h2 : pickB false g a b (okB m2) = -2 := by
            apply Classical.byContradiction
            intro hne
            have := holdsB_iff.2 (show ∀ s ∈ membersL g (a, b).1, pickB false g s (a, b).2 (okB m2) ≠ -2 from fun s hs => by
              have e : s = a := by have : s ∈ membersL g a := hs; rw [hmem] at this; exact List.mem_singleton.1 this
              rw [e]; exact hne)
            rw [ho] at this
            cases this
          have h3 : pickB false g a b (standsB false g) = -2 := by
            apply Classical.byContradiction
            intro hne
            exact pickB_mono (S := okB m2) (fun p hp => hI2.sound p hp) hne h2
          rw [h3, ← h1]
          exact h2)
      have hBX := HS.out.lB
      clear HSo hM2 hK2 hF2 hV2 hI2 hab
      go_wp2_with fail
      refine HPk.out.mono ?_
      rintro e w3 ⟨r, m3, rfl, hM3, hK3, hG3, hA3⟩
      have HE := Lib.hid (HR.out m3 r hG3 hA3)
      have HB4 := Lib.hid (HB3.out.trans (hK3.below (B := w.heap.size) (by have := HB0.out.size; omega) HB3.out.size))
      clear hM3 hK3 hG3 hA3
      go_wp2
      go_ret
      exact ⟨by rw [HQ.out, ← HE.out]; rfl, HB4.out⟩
end Go.Proofs.YtcljgfpcdlnlkaaDoor.Q
namespace Go.Proofs.YtcljgfpcdlnlkaaDoor.Q
open Go.RowKit Go.Proofs.YtcljgfpcdlnlkaaDoorW.PrintWords Mp
/-- The pairs ahead of (a, b). -/
def pre (n a b : Nat) : List (Int × Int) := ((List.range a).flatMap fun (i : Nat) => (List.range n).map fun (j : Nat) => ((i : Int), (j : Int))) ++ (List.range b).map fun (j : Nat) => ((a : Int), (j : Int))
theorem pre_step (n a b : Nat) : pre n a b ++ [((a : Int), (b : Int))] = pre n a (b + 1) := by
  unfold pre
  rw [List.range_succ (n := b), List.map_append, List.append_assoc]
  rfl
theorem pre_row (n a : Nat) : pre n a n = pre n (a + 1) 0 := by
  unfold pre
  rw [List.range_succ (n := a), List.flatMap_append]
  simp
theorem pre_len (n a b : Nat) : (pre n a b).length = a * n + b := by
  unfold pre
  rw [List.length_append, List.length_flatMap]
  simp only [List.length_map, List.length_range, List.map_const', List.sum_replicate_nat]
theorem pre_all (n : Nat) : pre n n 0 = sq n := by unfold pre sq; simp
theorem sq_in {g : List S37} {p : Int × Int} (h : p ∈ sq g.length) : InG g p := by
  unfold sq at h
  obtain ⟨a, ha, h⟩ := List.mem_flatMap.1 h
  obtain ⟨b, hb, rfl⟩ := List.mem_map.1 h
  have := List.mem_range.1 ha
  have := List.mem_range.1 hb
  exact ⟨by simp only; omega, by simp only; omega, by simp only; omega, by simp only; omega⟩
/-- 'make([]bool, n)'. -/
theorem make_bools (w : World) (n : Nat) (hn : n ≤ 4000000) : ∃ w', (Instr.makeSlice 45 (.int .i64 (n : Int)) (.int .i64 (n : Int))).run Tryd.prog w = .ok (.slice (some ⟨w.heap.size, 0, none⟩) n n) w' ∧ Kd.bool.R 4 w' w.heap.size (fun _ => True) (.slice (some ⟨w.heap.size, 0, none⟩) n n) (List.replicate n false) ∧ Below w.heap.size w w' ∧ w'.heap.size = w.heap.size + 1 := by
  obtain ⟨i0, hi, hzz⟩ := Option.map_eq_some_iff.1 info4
  simp only [Prod.mk.injEq] at hzz
  obtain ⟨hz0, hz1, hz2⟩ := hzz
  have hr := run_make (P := Tryd.prog) w 45 4 i0 _ Tryd.underlying45 hi hz0 .i64 .i64 (n : Int) (n : Int) (by omega) (by omega) (by rw [hz2]; omega) (by omega)
  rw [hz1] at hr
  have hsz : Kd.bool.sz = 1 := rfl
  refine ⟨_, hr, ⟨fun _ _ => trivial, (madeCells (Value.bool false).cells (n * 1)).toList, ⟨by simp [size_madeCells, hsz], .inr ⟨w.heap.size, n, madeCells (Value.bool false).cells (n * 1), by rw [List.length_replicate], Nat.le_refl _, Array.getElem?_push_size, ?_, ?_, ?_, ?_⟩⟩, Kd.reps_made (R := Kd.bool.M (w.alloc (Obj.cells (madeCells (Value.bool false).cells ((n : Int).toNat * 1)) 4)) w.heap.size fun k => (fun _ => True) k ∧ some k ≠ (Value.slice (some { block := w.heap.size, off := 0 }) n n).ownBlock) (z := .bool false) (size := 1) (z0 := false) rfl (by omega) rfl n⟩, (Below.refl _ _).alloc (Nat.le_refl _) _, by simp⟩
  · simp
  · simp [maxLen]; omega
  · simp [size_madeCells, hsz]
  · rw [hsz, List.length_replicate]
    exact List.take_of_length_le (by simp [size_madeCells])
theorem row_zero (n : Nat) (f : Nat → Bool) : ((List.range n).map fun b => if b < 0 then f b else false) = List.replicate n false := by
  simp [List.map_const']
theorem row_set (n j : Nat) (f : Nat → Bool) (v : Bool) (hv : f j = v) : ((List.range n).map fun b => if b < j then f b else false).set j v = (List.range n).map fun b => if b < j + 1 then f b else false := by
  subst hv
  refine List.ext_getElem (by simp) fun i h1 h2 => ?_
  rw [List.getElem_set]
  simp only [List.getElem_map, List.getElem_range]
  split
  · rename_i e; subst e; rw [if_pos (by omega)]
  · by_cases h : i < j
    · rw [if_pos h, if_pos (by omega)]
    · rw [if_neg h, if_neg (by omega)]
theorem row_full (n : Nat) (f : Nat → Bool) : ((List.range n).map fun b => if b < n then f b else false) = (List.range n).map f := by
  refine List.ext_getElem (by simp) fun i h1 h2 => ?_
  simp only [List.getElem_map, List.getElem_range]
  rw [if_pos (by simpa using h1)]
theorem info45 : (Tryd.prog.info? 45).map (fun i => (i.zero, i.size, i.bytes)) = some (some (.slice none 0 0), 1, 24) := by kernel_rfl
/-- The table's row. -/
noncomputable def rowB (st : Bool) (g : List S37) (a : Nat) : List Bool := (List.range g.length).map fun (b : Nat) => standsB st g ((a : Int), (b : Int))
noncomputable def tableB (st : Bool) (g : List S37) (k : Nat) : List (List Bool) := (List.range k).map (rowB st g)
set_option maxRecDepth 100000 in
set_option maxHeartbeats 1000000 in
theorem all_calls (w : World) (A : Option Addr) (c : Nat) (g : List S37) (st : Bool) (hk : KeysIn w) (hg : Kd.C k37 w A g.length g) (hs : ∀ x ∈ g, x.f3.length ≤ 9223372036854775807 ∧ x.f4.length ≤ 9223372036854775807) :
    Calls Tryd.prog 29 #[.slice A g.length c, .bool st] w fun e w' => Below w.heap.size w w' ∧ ((checkP g ≠ 0 ∧ e = .returned (.tuple #[.slice none 0 0, .int .i64 (checkP g)])) ∨
      (checkP g = 0 ∧ ∃ v, e = .returned (.tuple #[v, .int .i64 0]) ∧ Kd.R (Kd.slice 4 Kd.bool) 45 w' w.heap.size (fun _ => True) v (tableB st g g.length))) := by
  letI := domG g
  have HG := Lib.hid hg
  have HK := Lib.hid hk
  have HS0 := Lib.hid hs
  have HCk := Lib.hid (check_calls A g c _ hk hg hs)
  clear hg hk hs
  go_enter Tryd.func29, Tryd.ntmps29
  go_wp2_with fail
  refine HCk.out.mono ?_
  rintro e w1 ⟨rfl, hb1⟩
  have HB1 := Lib.hid hb1
  clear HCk hb1
  by_cases hq : checkP g = 0
  · have HQ := Lib.hid hq
    rw [hq]
    clear hq
    have HOf := Lib.hid (of_calls w1 A c g st none 0 [] (HK.out.below HB1.out) (Kd.C_below HG.out HB1.out) HS0.out (Kd.R_reads' (Kd.R_nil (Kd.int .i64) 3 w1 0 (fun _ => True))).2.2 (by simp))
    go_wp2_with fail
    refine HOf.out.mono ?_
    clear HOf
    rintro e w2 ⟨hb2, ⟨hm, _⟩ | ⟨hm, X, B, rfl, hX, hS⟩⟩
    · exact absurd (show mayOf g [] = true from mayOf_iff.2 ⟨HQ.out, fun k hk => by simp at hk⟩) (by rw [hm]; decide)
    have HB2 := Lib.hid (HB1.out.trans (hb2.mono HB1.out.size))
    have HS := Lib.hid hS
    have HV := Lib.hid (valid_of_check HQ.out)
    have hn : g.length ≤ 2000 := HV.out.len
    have hBl : B < w2.heap.size := hS.map.lt
    have hBw : w.heap.size ≤ B := by have := hS.lB; have := HB1.out.size; omega
    clear hb2 hm hS hX
    go_wp2
    go_loopw [9, 28] (fun s9 s28 W => ∃ k : Nat, k ≤ g.length ∧ s28 = .int .i64 k ∧ Hid (k81.R 81 W w2.heap.size (fun _ => True) s9 (pre g.length k 0) ∧ Below w2.heap.size w2 W)) (fun _ s28 _ => g.length - (intOf s28).toNat)
    case atStart => exact ⟨0, Nat.zero_le _, rfl, Lib.hid ⟨Kd.R_nil _ _ _ _ _, Below.refl _ _⟩⟩
    case round =>
      obtain ⟨k, hk, rfl, HI⟩ := hrel
      by_cases hlt : k < g.length
      · go_wp2
        go_loopw [9, 33] (fun s9 s33 W => ∃ j : Nat, j ≤ g.length ∧ s33 = .int .i64 j ∧ Hid (k81.R 81 W w2.heap.size (fun _ => True) s9 (pre g.length k j) ∧ Below w2.heap.size w2 W)) (fun _ s33 _ => g.length - (intOf s33).toNat)
        case atStart => exact ⟨0, Nat.zero_le _, rfl, HI⟩
        case round =>
          clear HI
          obtain ⟨j, hj, rfl, HI⟩ := hrel
          by_cases hjt : j < g.length
          · have hlen : ((pre g.length k j).length + 1) * 16 ≤ 140737488355328 := by
              rw [pre_len]
              have : k * g.length ≤ 2000 * 2000 := Nat.mul_le_mul (by omega) hn
              omega
            have hsz := HI.out.2.size
            go_wp2_with (at_builtin; refine Kd.R_append k81 (w0 := w2) w2.heap.size rfl (.tmp 36) (.tmp 40) 79 81 (.agg #[.int .i64 0, .int .i64 0]) 16 rfl Tryd.underlying79 info81 rfl (by decide) (by omega) _ (pre g.length k j) (k, j) [.int .i64 k, .int .i64 j] (fun _ => True) (fun _ => False) rfl rfl (k81_mk _ _ _ k j) (fun _ hk => hk.elim) (fun _ _ => trivial) HI.out.1 HI.out.2 hsz hlen ?_; intro v1 wA hR4 hB4 _ _; have HR4 := Lib.hid hR4; have HB4 := Lib.hid hB4; clear hR4 hB4)
            go_roundw
            case rel => exact ⟨j + 1, by omega, by go_num, Lib.hid ⟨by rw [← pre_step]; exact HR4.out, HB4.out⟩⟩
            case measure => simp [intOf]; omega
          · obtain rfl : j = g.length := by omega
            go_wp2
            go_roundw
            case rel => exact ⟨k + 1, by omega, by go_num, Lib.hid ⟨by rw [← pre_row]; exact HI.out.1, HI.out.2⟩⟩
            case measure => simp [intOf]; omega
      · obtain rfl : k = g.length := by omega
        obtain ⟨A9, c9, he9, hc9, _⟩ := Kd.R_reads HI.out.1
        subst he9
        have hlen : (pre g.length g.length 0).length ≤ 4000000 := by
          rw [pre_len]
          have : g.length * g.length ≤ 2000 * 2000 := Nat.mul_le_mul hn hn
          omega
        have HSw := Lib.hid (HS.out.below (HI.out.2))
        have HBr := Lib.hid (HB2.out.trans (HI.out.2.mono HB2.out.size))
        have HSo := Lib.hid (solve_calls HSw.out HV.out (Inv.nil st g) A9 c9 (pre g.length g.length 0) (fun W hW => (Kd.R_reads' (R_kp (R_apartB HI.out.1 hBl) hW)).2.2) (fun p hp => by rw [pre_all] at hp; exact sq_in hp) hlen)
        clear HI hc9
        go_wp2_with fail
        refine HSo.out.mono ?_
        clear HSo
        rintro e w3 ⟨m3, rfl, hM3, hK3, hF3, _, hV3⟩
        have HS3 := Lib.hid (HSw.out.step hK3 hM3)
        have HB3 := Lib.hid (HBr.out.trans (hK3.below (B := w.heap.size) hBw HBr.out.size))
        have HGet := Lib.hid (show ∀ a b : Nat, a < g.length → b < g.length → get m3 ((a : Int), (b : Int)) = some (if standsB st g ((a : Int), (b : Int)) then 1 else 0) from fun a b ha hb =>
          (hV3 _ (hF3 _ (by rw [pre_all]; exact mem_sq ⟨by simp only; omega, by simp only; omega, by simp only; omega, by simp only; omega⟩))).1)
        clear hM3 hK3 hF3 hV3 HSw HBr hlen
        go_wp2
        have hwB := HB3.out.size
        go_loopw [4, 49] (fun s4 s49 W => ∃ k : Nat, k ≤ g.length ∧ s49 = .int .i64 k ∧ Hid ((Kd.slice 4 Kd.bool).R 45 W w3.heap.size (fun _ => True) s4 (tableB st g k) ∧ Below w3.heap.size w3 W)) (fun _ s49 _ => g.length - (intOf s49).toNat)
        case atStart => exact ⟨0, Nat.zero_le _, rfl, Lib.hid ⟨Kd.R_nil _ _ _ _ _, Below.refl _ _⟩⟩
        case round =>
          obtain ⟨k, hk, rfl, HI⟩ := hrel
          by_cases hlt : k < g.length
          · obtain ⟨w4, hmk, hR4, hb4, hs4⟩ := make_bools wr g.length (by omega)
            have HR4 := Lib.hid hR4
            have HB4 := Lib.hid hb4
            clear hR4 hb4
            have hBs := HI.out.2.size
            obtain ⟨wa, hwa⟩ : ∃ wa, wa = wr := ⟨_, rfl⟩
            subst hwa
            go_wp2
            clear hmk
            go_loopw [57] (fun s57 W => ∃ j : Nat, j ≤ g.length ∧ s57 = .int .i64 j ∧ Hid (Kd.bool.R 4 W wa.heap.size (fun _ => True) (.slice (some ⟨wa.heap.size, 0, none⟩) g.length g.length) ((List.range g.length).map fun b => if b < j then standsB st g ((k : Int), (b : Int)) else false) ∧ Below wa.heap.size wa W)) (fun s57 _ => g.length - (intOf s57).toNat)
            case atStart => exact ⟨0, Nat.zero_le _, rfl, Lib.hid ⟨by rw [row_zero]; exact HR4.out, HB4.out⟩⟩
            case round =>
              obtain ⟨j, hj, rfl, HJ⟩ := hrel
              by_cases hjt : j < g.length
              · have hbW := (HI.out.2.trans (HJ.out.2.mono hBs))
                have HbW := Lib.hid hbW
                have HSx := Lib.hid (HS3.out.below hbW)
                have hx2 := HSx.out.x2
                have hlk := HSx.out.map.lookup1 pairKey Tryd.underlying84 zero3 ((k : Int), (j : Int))
                simp only [HGet.out k j hlt hjt, pairV, Option.map_some, Option.getD_some] at hlk
                obtain ⟨hcell, hfz⟩ := Kd.R_celln false HJ.out.1 (j : Int) (by omega) (by omega)
                have HPut := Lib.hid (Kd.R_putn HJ.out.1 (j : Int) (standsB st g ((k : Int), (j : Int))))
                simp only [Int.toNat_natCast] at hcell hfz
                have HJ2 := Lib.hid HJ.out.2
                clear hbW HJ
                cases hst : standsB st g ((k : Int), (j : Int)) with
                | true =>
                  simp only [hst, if_true] at hlk
                  rw [hst] at HPut
                  have HSt := Lib.hid hst
                  clear hst
                  go_wp2
                  go_roundw
                  case rel => exact ⟨j + 1, by omega, by go_num, Lib.hid ⟨by have h := HPut.out; rw [Int.toNat_natCast, row_set g.length j (fun b => standsB st g ((k : Int), (b : Int))) _ HSt.out] at h; exact h, HJ2.out.setCell (Nat.le_refl _) _⟩⟩
                  case measure => simp [intOf]; omega
                | false =>
                  simp only [hst] at hlk
                  rw [hst] at HPut
                  have HSt := Lib.hid hst
                  clear hst
                  go_wp2
                  go_roundw
                  case rel => exact ⟨j + 1, by omega, by go_num, Lib.hid ⟨by have h := HPut.out; rw [Int.toNat_natCast, row_set g.length j (fun b => standsB st g ((k : Int), (b : Int))) _ HSt.out] at h; exact h, HJ2.out.setCell (Nat.le_refl _) _⟩⟩
                  case measure => simp [intOf]; omega
              · obtain rfl : j = g.length := by omega
                have HRw := Lib.hid (show Kd.bool.R 4 wr wa.heap.size (fun _ => True) _ (rowB st g k) from by have h := HJ.out.1; rwa [row_full g.length (fun b => standsB st g ((k : Int), (b : Int)))] at h)
                have HOut := Lib.hid (Kd.R_step HI.out.1 (fun b _ hb => HJ.out.2.block b hb))
                have HbW := Lib.hid (HI.out.2.trans (HJ.out.2.mono hBs))
                have hszw := HbW.out.size
                have hown := fun b (hb : wa.heap.size ≤ b) => (show True ∧ some b ≠ _ from ⟨trivial, fun he => by have := ((Kd.R_bound HI.out.1).1 b he.symm).2.2.1; omega⟩)
                have HRp := Lib.hid (Kd.R_lower (Kd.R_mono (Kd.R_bound HRw.out) (ok' := fun b => wa.heap.size ≤ b) (fun b hb => hb.2.1)) hBs)
                have htl : ((tableB st g k).length + 1) * 24 ≤ 140737488355328 := by unfold tableB; simp; omega
                clear hs4
                go_wp2_with (at_builtin; refine Kd.R_append (Kd.slice 4 Kd.bool) (w0 := w3) w3.heap.size rfl (.tmp 73) (.tmp 75) 41 45 (.slice none 0 0) 24 rfl Tryd.underlying41 info45 rfl (by decide) (by omega) _ (tableB st g k) (rowB st g k) [.slice (some ⟨wa.heap.size, 0, none⟩) g.length g.length] (fun _ => True) (fun b => wa.heap.size ≤ b) rfl rfl ⟨_, rfl, HRp.out⟩ hown (fun _ _ => trivial) HOut.out HbW.out hszw htl ?_; intro v1 wA hR5 hB5 _ _; have HR5 := Lib.hid hR5; have HB5 := Lib.hid hB5; clear hR5 hB5)
                go_roundw
                case rel => exact ⟨k + 1, by omega, by go_num, Lib.hid ⟨by unfold tableB; rw [List.range_succ, List.map_append]; exact HR5.out, HB5.out⟩⟩
                case measure => simp [intOf]; omega
          · obtain rfl : k = g.length := by omega
            go_wp2
            refine bodyPost_ret (results_tmp2 rfl _ _ _) rfl ?_
            exact ⟨HB3.out.trans (HI.out.2.mono hwB), .inr ⟨HQ.out, _, rfl, Kd.R_lower HI.out.1 hwB⟩⟩
  · have d1 : (checkP g != 0) = true := by simp [hq]
    have HQ := Lib.hid hq
    clear hq
    obtain ⟨q, hqq⟩ : ∃ q, q = checkP g := ⟨_, rfl⟩
    rw [← hqq] at d1 ⊢
    have HE := Lib.hid hqq
    clear hqq
    go_wp2
    refine bodyPost_ret (results_tmp2 rfl _ _ _) rfl ?_
    exact ⟨HB1.out, .inl ⟨HQ.out, by rw [← HE.out]; rfl⟩⟩
end Go.Proofs.YtcljgfpcdlnlkaaDoor.Q
namespace Go.Proofs.YtcljgfpcdlnlkaaDoor.Q
open Go.RowKit Go.Proofs.YtcljgfpcdlnlkaaDoorW.PrintWords Mp
theorem enters66 : EntersAt 66 := enters_at Tryd.func66 (by kernel_rfl) rfl
set_option maxRecDepth 100000 in
set_option maxHeartbeats 400000 in
theorem least1_calls (w : World) (X B Y Z : Nat) (m : PM) (a b v : Int) (hx2 : w.cell? ⟨X, 2, none⟩ = some (.map (some B))) (hm : MapAt pairV VInt w B m) (hY : w.cell? ⟨Y, 0, none⟩ = some (.pointer (some ⟨X, 0, none⟩))) (hZ : w.cell? ⟨Z, 0, none⟩ = some (.int .i64 a)) (hv : get m (a, b) = some v) :
    Calls Tryd.prog 66 #[.int .i64 b, .pointer (some ⟨Y, 0, none⟩), .pointer (some ⟨Z, 0, none⟩)] w fun e w' => e = .returned (.bool (v == 0)) ∧ Below w.heap.size w w' := by
  have hlk := fun n => (MapAt.of_block (w' := w.drewN n) hm rfl).lookup1 pairKey Tryd.underlying84 zero3 (a, b)
  simp only [hv, pairV, Option.map_some, Option.getD_some] at hlk
  clear hm hv
  go_enter Tryd.func66, Tryd.ntmps66
  go_wp2
  go_quiet (fail)
  go_wp2
  go_ret
  exact ⟨rfl, below_drewN (Below.refl _ _) _⟩
/-- The pairs ahead. -/
def preL (l : List Int) (a b : Nat) : List (Int × Int) := ((l.take a).flatMap fun x => l.map fun y => (x, y)) ++ (l.take b).map fun y => (rd l a, y)
theorem rd_take {l : List Int} {b : Nat} (h : b < l.length) : l.take b ++ [rd l b] = l.take (b + 1) := by
  rw [List.take_add_one, List.getElem?_eq_getElem h]
  unfold rd
  rw [Int.toNat_natCast, List.getD_eq_getElem?_getD, List.getElem?_eq_getElem h]
  rfl
theorem preL_step {l : List Int} {a b : Nat} (h : b < l.length) : preL l a b ++ [(rd l a, rd l b)] = preL l a (b + 1) := by
  unfold preL
  rw [← rd_take h, List.map_append, List.append_assoc]
  rfl
theorem preL_row {l : List Int} {a : Nat} (h : a < l.length) : preL l a l.length = preL l (a + 1) 0 := by
  unfold preL
  rw [← rd_take h, List.flatMap_append]
  simp
theorem preL_len {l : List Int} {a b : Nat} (ha : a ≤ l.length) (hb : b ≤ l.length) : (preL l a b).length = a * l.length + b := by
  unfold preL
  rw [List.length_append, List.length_flatMap]
  simp only [List.length_map, List.map_const', List.sum_replicate_nat, List.length_take]
  rw [Nat.min_eq_left ha, Nat.min_eq_left hb]
theorem preL_mem {l : List Int} {a b : Int} : (a, b) ∈ preL l l.length 0 ↔ a ∈ l ∧ b ∈ l := by
  unfold preL
  simp only [List.take_length, List.take_zero, List.map_nil, List.append_nil, List.mem_flatMap, List.mem_map, Prod.mk.injEq]
  constructor
  · rintro ⟨x, hx, y, hy, rfl, rfl⟩; exact ⟨hx, hy⟩
  · rintro ⟨h1, h2⟩; exact ⟨a, h1, b, h2, rfl, rfl⟩
/-- What Least answers. -/
noncomputable def leastP (g : List S37) (l : List Int) : Int × Int :=
  if checkP g ≠ 0 then (0, checkP g) else if mayOf g l = false then (0, 9) else
    match l.find? (fun a => l.all fun b => standsB true g (a, b)) with
    | some a => (a, 0)
    | none => (0, 2)
theorem find_at {α : Type} {f : α → Bool} : ∀ {l : List α} {k : Nat} (hk : k < l.length), (∀ j (hj : j < k), f l[j] = false) → f l[k] = true → l.find? f = some l[k]
  | x :: l, 0, _, _, h => by simp at h; simp [h]
  | x :: l, k + 1, hk, h0, h => by
    have hx : f x = false := h0 0 (by omega)
    rw [List.find?_cons, hx]
    exact find_at (l := l) (k := k) (by simpa using hk) (fun j hj => h0 (j + 1) (by omega)) h
set_option maxRecDepth 100000 in
set_option maxHeartbeats 1000000 in
theorem least_calls (w : World) (A : Option Addr) (c : Nat) (g : List S37) (P : Option Addr) (cP : Nat) (l : List Int) (hk : KeysIn w) (hg : Kd.C k37 w A g.length g) (hs : ∀ x ∈ g, x.f3.length ≤ 9223372036854775807 ∧ x.f4.length ≤ 9223372036854775807) (hl : Kd.C (Kd.int .i64) w P l.length l) (hl2 : l.length ≤ 2000) :
    Calls Tryd.prog 20 #[.slice A g.length c, .slice P l.length cP] w fun e w' => Below w.heap.size w w' ∧ e = .returned (.tuple #[.int .i64 (leastP g l).1, .int .i64 (leastP g l).2]) := by
  letI := domG g
  have HG := Lib.hid hg
  have HL := Lib.hid hl
  have HK := Lib.hid hk
  have HS0 := Lib.hid hs
  have HCk := Lib.hid (check_calls A g c _ hk hg hs)
  clear hg hk hs hl
  go_enter Tryd.func20, Tryd.ntmps20
  go_wp2_with fail
  refine HCk.out.mono ?_
  rintro e w1 ⟨rfl, hb1⟩
  have HB1 := Lib.hid hb1
  clear HCk hb1
  by_cases hq : checkP g = 0
  · have HQ := Lib.hid hq
    rw [hq]
    clear hq
    have HOf := Lib.hid (of_calls w1 A c g true P cP l (HK.out.below HB1.out) (Kd.C_below HG.out HB1.out) HS0.out (Kd.C_below HL.out HB1.out) (by omega))
    go_wp2_with fail
    refine HOf.out.mono ?_
    clear HOf
    rintro e w2 ⟨hb2, ⟨hm, rfl⟩ | ⟨hm, X, B, rfl, hX, hS⟩⟩
    · have HB2 := Lib.hid (HB1.out.trans (hb2.mono HB1.out.size))
      have HA := Lib.hid (show leastP g l = (0, 9) by simp [leastP, HQ.out, hm])
      clear hb2 hm
      go_wp2
      refine bodyPost_ret (results_tmp2 rfl _ _ _) rfl ?_
      exact ⟨HB2.out.alloc HB2.out.size _, by rw [HA.out]; rfl⟩
    have HB2 := Lib.hid (HB1.out.trans (hb2.mono HB1.out.size))
    have HM := Lib.hid hm
    have HS := Lib.hid hS
    have HV := Lib.hid (valid_of_check HQ.out)
    have hBl : B < w2.heap.size := hS.map.lt
    have hBw : w.heap.size ≤ B := by have := hS.lB; have := HB1.out.size; omega
    have hbY : Below w2.heap.size w2 (w2.alloc (.cells #[.pointer (some ⟨X, 0, none⟩)] 76)) := (Below.refl _ _).alloc (Nat.le_refl _) _
    have HbY := Lib.hid hbY
    have pY : (w2.alloc (.cells #[.pointer (some ⟨X, 0, none⟩)] 76)).cell? ⟨w2.heap.size, 0, none⟩ = some (.pointer (some ⟨X, 0, none⟩)) := by simp
    have HsY := Lib.hid (show (w2.alloc (.cells #[.pointer (some ⟨X, 0, none⟩)] 76)).heap.size = w2.heap.size + 1 by simp)
    have HX := Lib.hid (show X < w2.heap.size from hX)
    clear hb2 hm hS hX hbY
    go_wp2
    generalize w2.alloc (.cells #[.pointer (some ⟨X, 0, none⟩)] 76) = wY at HbY pY HsY ⊢
    go_loopw [9, 31] (fun s9 s28 W => ∃ k : Nat, k ≤ l.length ∧ s28 = .int .i64 k ∧ Hid (k81.R 81 W wY.heap.size (fun _ => True) s9 (preL l k 0) ∧ Below wY.heap.size wY W)) (fun _ s28 _ => l.length - (intOf s28).toNat)
    case atStart => exact ⟨0, Nat.zero_le _, rfl, Lib.hid ⟨Kd.R_nil _ _ _ _ _, Below.refl _ _⟩⟩
    case round =>
      obtain ⟨k, hk, rfl, HI⟩ := hrel
      have hsY := HsY.out
      by_cases hlt : k < l.length
      · obtain ⟨aP, rfl, hcP⟩ := int_cell (Kd.C_below HL.out (HB2.out.trans ((HbY.out.trans (HI.out.2.mono (by omega))).mono HB2.out.size))) k hlt
        clear hsY
        go_wp2
        go_loopw [9, 37] (fun s9 s33 W => ∃ j : Nat, j ≤ l.length ∧ s33 = .int .i64 j ∧ Hid (k81.R 81 W wY.heap.size (fun _ => True) s9 (preL l k j) ∧ Below wY.heap.size wY W)) (fun _ s33 _ => l.length - (intOf s33).toNat)
        case atStart => exact ⟨0, Nat.zero_le _, rfl, HI⟩
        case round =>
          clear HI hcP
          obtain ⟨j, hj, rfl, HI⟩ := hrel
          have hsY := HsY.out
          by_cases hjt : j < l.length
          · have hlen : ((preL l k j).length + 1) * 16 ≤ 140737488355328 := by
              rw [preL_len hk hj]
              have : k * l.length ≤ 2000 * 2000 := Nat.mul_le_mul (by omega) hl2
              omega
            have hsz := HI.out.2.size
            obtain ⟨aP', haP, hcP⟩ := int_cell (Kd.C_below HL.out (HB2.out.trans ((HbY.out.trans (HI.out.2.mono (by omega))).mono HB2.out.size))) j hjt
            obtain rfl := Option.some.inj haP
            clear hsY
            go_wp2_with (at_builtin; refine Kd.R_append k81 (w0 := wY) wY.heap.size rfl (.tmp 41) (.tmp 45) 79 81 (.agg #[.int .i64 0, .int .i64 0]) 16 rfl Tryd.underlying79 info81 rfl (by decide) (by omega) _ (preL l k j) (rd l k, rd l j) [.int .i64 (rd l k), .int .i64 (rd l j)] (fun _ => True) (fun _ => False) rfl rfl (k81_mk _ _ _ _ _) (fun _ hk => hk.elim) (fun _ _ => trivial) HI.out.1 HI.out.2 hsz hlen ?_; intro v1 wA hR4 hB4 _ _; have HR4 := Lib.hid hR4; have HB4 := Lib.hid hB4; clear hR4 hB4)
            go_roundw
            case rel => exact ⟨j + 1, by omega, by go_num, Lib.hid ⟨by rw [← preL_step hjt]; exact HR4.out, HB4.out⟩⟩
            case measure => simp [intOf]; omega
          · obtain rfl : j = l.length := by omega
            clear hsY
            go_wp2
            go_roundw
            case rel => exact ⟨k + 1, by omega, by go_num, Lib.hid ⟨by rw [← preL_row hlt]; exact HI.out.1, HI.out.2⟩⟩
            case measure => simp [intOf]; omega
      · obtain rfl : k = l.length := by omega
        obtain ⟨A9, c9, he9, hc9, _⟩ := Kd.R_reads HI.out.1
        subst he9
        have hlen : (preL l l.length 0).length ≤ 4000000 := by
          rw [preL_len (Nat.le_refl _) (Nat.zero_le _)]
          have : l.length * l.length ≤ 2000 * 2000 := Nat.mul_le_mul hl2 hl2
          omega
        have hbw := HbY.out.trans (HI.out.2.mono (by omega))
        have HSw := Lib.hid (HS.out.below hbw)
        have HBr := Lib.hid (HB2.out.trans (hbw.mono HB2.out.size))
        have pYr := (HI.out.2.cell (p := ⟨w2.heap.size, 0, none⟩) (by show w2.heap.size < _; omega)).trans pY
        have HSo := Lib.hid (solve_calls HSw.out HV.out (Inv.nil true g) A9 c9 (preL l l.length 0) (fun W hW => (Kd.R_reads' (R_kp (R_apartB HI.out.1 (by omega)) hW)).2.2) (fun p hp => by
          obtain ⟨a, b⟩ := p
          have h1 := preL_mem.1 hp
          have h2 := (mayOf_iff.1 HM.out).2
          exact ⟨(h2 a h1.1).1, (h2 a h1.1).2, (h2 b h1.2).1, (h2 b h1.2).2⟩) hlen)
        clear HI hc9 hbw hsY
        go_wp2_with fail
        refine HSo.out.mono ?_
        clear HSo
        rintro e w3 ⟨m3, rfl, hM3, hK3, hF3, _, hV3⟩
        have HS3 := Lib.hid (HSw.out.step hK3 hM3)
        have HB3 := Lib.hid (HBr.out.trans (hK3.below (B := w.heap.size) hBw HBr.out.size))
        have pY3 := hK3.cell pYr (by show w2.heap.size ≠ B; omega)
        have HGet := Lib.hid (show ∀ a ∈ l, ∀ b ∈ l, get m3 (a, b) = some (if standsB true g (a, b) then 1 else 0) from fun a ha b hb => (hV3 _ (hF3 _ (preL_mem.2 ⟨ha, hb⟩))).1)
        clear hM3 hK3 hF3 hV3 HSw HBr hlen pYr
        go_wp2
        have hwB := HB3.out.size
        go_loopw [54] (fun s54 W => ∃ k : Nat, k ≤ l.length ∧ s54 = .int .i64 k ∧ Hid (Below w3.heap.size w3 W ∧ ∀ j : Nat, j < k → (l.all fun b => standsB true g (rd l j, b)) = false)) (fun s54 _ => l.length - (intOf s54).toNat)
        case atStart => exact ⟨0, Nat.zero_le _, rfl, Lib.hid ⟨Below.refl _ _, fun j hj => absurd hj (by omega)⟩⟩
        case round =>
          obtain ⟨k, hk, rfl, HI⟩ := hrel
          by_cases hlt : k < l.length
          · have hCr := Kd.C_below HL.out (HB3.out.trans (HI.out.1.mono hwB))
            have HCr := Lib.hid hCr
            obtain ⟨aP, rfl, hcP⟩ := int_cell hCr k hlt
            have hmk : rd l (k : Int) ∈ l := rd_memI (by omega) (by omega)
            obtain ⟨a, ha⟩ : ∃ a, a = rd l (k : Int) := ⟨_, rfl⟩
            rw [← ha] at hcP hmk
            have HA := Lib.hid ha
            have hbZ : Below wr.heap.size wr (wr.alloc (.cells #[.int .i64 a] 3)) := (Below.refl _ _).alloc (Nat.le_refl _) _
            have pZ : (wr.alloc (.cells #[.int .i64 a] 3)).cell? ⟨wr.heap.size, 0, none⟩ = some (.int .i64 a) := by simp
            have hs3 := HI.out.1.size
            have pYz : (wr.alloc (.cells #[.int .i64 a] 3)).cell? ⟨w2.heap.size, 0, none⟩ = some (.pointer (some ⟨X, 0, none⟩)) := cell_alloc _ ((HI.out.1.cell (World.block_lt_of_cell? w3 _ pY3)).trans pY3)
            have HSz := Lib.hid ((HS3.out.below HI.out.1).below hbZ)
            have HbZ := Lib.hid hbZ
            have HH := Lib.hid (has65 (some aP) l.length cP 66 #[.pointer (some ⟨w2.heap.size, 0, none⟩), .pointer (some ⟨wr.heap.size, 0, none⟩)] (fun i => .int .i64 (rd l i))
              (fun i W => Below (wr.alloc (.cells #[.int .i64 a] 3)).heap.size (wr.alloc (.cells #[.int .i64 a] 3)) W ∧ ∀ j : Nat, j < i → standsB true g (a, rd l j) = true)
              (fun i W => Below (wr.alloc (.cells #[.int .i64 a] 3)).heap.size (wr.alloc (.cells #[.int .i64 a] 3)) W ∧ i < l.length ∧ standsB true g (a, rd l i) = false) (wr.alloc (.cells #[.int .i64 a] 3)) (by omega) enters66 ⟨Below.refl _ _, fun j hj => absurd hj (by omega)⟩
              (by
                rintro i W ⟨hb, _⟩ hi
                exact int_cell (Kd.C_below HCr.out (HbZ.out.trans (hb.mono HbZ.out.size))) i hi)
              (by
                rintro i W hi ⟨hb, h0⟩
                have hSW := HSz.out.below hb
                refine (least1_calls W X B w2.heap.size wr.heap.size m3 a (rd l i) _ hSW.x2 hSW.map ((hb.cell (World.block_lt_of_cell? _ _ pYz)).trans pYz) ((hb.cell (World.block_lt_of_cell? _ _ pZ)).trans pZ) (HGet.out a hmk _ (rd_memI (by omega) (by omega)))).mono ?_
                rintro e W' ⟨rfl, hb'⟩
                cases hst : standsB true g (a, rd l i) with
                | true => exact .inr ⟨rfl, hb.trans (hb'.mono hb.size), fun j hj => if h : j = i then by rw [h]; exact hst else h0 j (by omega)⟩
                | false => exact .inl ⟨rfl, hb.trans (hb'.mono hb.size), hi, rfl⟩))
            clear hCr ha hbZ hmk hs3
            go_wp2_with fail
            refine HH.out.mono ?_
            clear HH
            rintro e w4 (⟨i, hi, rfl, hb4, _, hst⟩ | ⟨rfl, hb4, hst⟩)
            · have HB4 := Lib.hid (HI.out.1.trans ((HbZ.out.trans (hb4.mono HbZ.out.size)).mono HI.out.1.size))
              have HNo := Lib.hid (show (l.all fun b => standsB true g (rd l k, b)) = false from List.all_eq_false.2 ⟨rd l i, rd_memI (by omega) (by omega), by rw [← HA.out, hst]; decide⟩)
              clear hb4 hst
              go_wp2
              go_roundw
              case rel => exact ⟨k + 1, by omega, by go_num, Lib.hid ⟨HB4.out, fun j hj => if h : j = k then by rw [h]; exact HNo.out else HI.out.2 j (by omega)⟩⟩
              case measure => simp [intOf]; omega
            · have HB4 := Lib.hid (HI.out.1.trans ((HbZ.out.trans (hb4.mono HbZ.out.size)).mono HI.out.1.size))
              have pZ4 := (hb4.cell (World.block_lt_of_cell? _ _ pZ)).trans pZ
              have hgk : l[k] = a := by rw [HA.out]; unfold rd; rw [Int.toNat_natCast, List.getD_eq_getElem?_getD, List.getElem?_eq_getElem hlt]; rfl
              have HYes := Lib.hid (show leastP g l = (a, 0) by
                unfold leastP
                rw [if_neg (by rw [HQ.out]; decide), if_neg (by rw [HM.out]; decide), find_at (k := k) hlt (fun j hj => by
                  have := HI.out.2 j hj
                  unfold rd at this
                  rwa [Int.toNat_natCast, List.getD_eq_getElem?_getD, List.getElem?_eq_getElem (by omega)] at this) (List.all_eq_true.2 fun b hb => by
                  obtain ⟨j, hj, rfl⟩ := List.getElem_of_mem hb
                  have := hst j hj
                  unfold rd at this
                  rw [Int.toNat_natCast, List.getD_eq_getElem?_getD, List.getElem?_eq_getElem hj] at this
                  rw [hgk]
                  exact this), hgk])
              clear hb4 hst hgk
              go_wp2
              refine bodyPost_ret (results_tmp2 rfl _ _ _) rfl ?_
              exact ⟨HB3.out.trans (HB4.out.mono hwB), by rw [HYes.out]; rfl⟩
          · obtain rfl : k = l.length := by omega
            have HNo := Lib.hid (show leastP g l = (0, 2) by
              unfold leastP
              rw [if_neg (by rw [HQ.out]; decide), if_neg (by rw [HM.out]; decide), List.find?_eq_none.2 (fun a ha => by
                obtain ⟨j, hj, rfl⟩ := List.getElem_of_mem ha
                have := HI.out.2 j hj
                unfold rd at this
                rw [Int.toNat_natCast, List.getD_eq_getElem?_getD, List.getElem?_eq_getElem hj] at this
                rw [show l[j] = (some l[j]).getD 0 from rfl, this]
                decide)])
            go_wp2
            refine bodyPost_ret (results_tmp2 rfl _ _ _) rfl ?_
            exact ⟨HB3.out.trans (HI.out.1.mono hwB), by rw [HNo.out]; rfl⟩
  · have d1 : (checkP g != 0) = true := by simp [hq]
    obtain ⟨q, hqq⟩ : ∃ q, q = checkP g := ⟨_, rfl⟩
    have HE := Lib.hid (show leastP g l = (0, q) by simp [leastP, hq, hqq])
    rw [← hqq] at d1 ⊢
    clear hqq hq
    go_wp2
    refine bodyPost_ret (results_tmp2 rfl _ _ _) rfl ?_
    exact ⟨HB1.out, by rw [HE.out]; rfl⟩
end Go.Proofs.YtcljgfpcdlnlkaaDoor.Q
namespace Go.Proofs.YtcljgfpcdlnlkaaDoor.Q
open Go.RowKit Go.Proofs.YtcljgfpcdlnlkaaDoorW.PrintWords Mp
def nodeOf (k : Int) (ks : List ByteArray) (l : List Int) : S37 := ⟨k, 0, ⟨#[]⟩, ks, l⟩
def kA : ByteArray := ⟨#[97]⟩
def kB : ByteArray := ⟨#[98]⟩
def gC : List S37 := [nodeOf 4 [] [], nodeOf 2 [] [], nodeOf 1 [] [], nodeOf 7 [kA] [0], nodeOf 7 [kA, kB] [0, 1], nodeOf 8 [] [0, 1], nodeOf 7 [kA] [5], nodeOf 9 [] [3], nodeOf 7 [kA] [8], nodeOf 7 [kA] [10], nodeOf 7 [kA, kB] [9, 0]]
/-- Of pairs that hold by their rule, as far as they go, each stands. -/
theorem stands_list {st : Bool} {g : List S37} (L : List (Int × Int)) (h : (L.all fun q => holdsB st g q (fun p => L.contains p)) = true) {p : Int × Int} (hp : L.contains p = true) : standsB st g p = true :=
  stands_of (fun p => L.contains p) (fun q hq => List.all_eq_true.1 h q (by simpa using hq)) p hp
/-- What is left after n rounds, as a function. -/
def roundB (st : Bool) (g : List S37) : Nat → Rel
  | 0 => fun _ => true
  | n + 1 => fun p => holdsB st g p (roundB st g n)
theorem stands_round {st : Bool} {g : List S37} : ∀ n, Le (standsB st g) (roundB st g n)
  | 0, _, _ => rfl
  | n + 1, _, hp => holdsB_mono (stands_round n) (stands_holds hp)
theorem stands_not {st : Bool} {g : List S37} {p : Int × Int} (n : Nat) (h : roundB st g n p = false) : standsB st g p = false := by
  cases e : standsB st g p with
  | false => rfl
  | true => rw [stands_round n p e] at h; cases h
theorem checkC : checkP gC = 0 := by kernel_rfl
theorem mayC (a b : Int) (h : (decide (0 ≤ a ∧ a < 11) && decide (0 ≤ b ∧ b < 11)) = true) : mayOf gC [a, b] = true := by
  rw [Bool.and_eq_true, decide_eq_true_eq, decide_eq_true_eq] at h
  refine mayOf_iff.2 ⟨checkC, fun k hk => ?_⟩
  have : (gC.length : Int) = 11 := rfl
  simp only [List.mem_cons, List.not_mem_nil, or_false] at hk
  omega
theorem ask_yes {st : Bool} {a b : Int} (L : List (Int × Int)) (h0 : (decide (0 ≤ a ∧ a < 11) && decide (0 ≤ b ∧ b < 11)) = true) (h : (L.all fun q => holdsB st gC q (fun p => L.contains p)) = true) (hp : L.contains (a, b) = true) : askB st gC a b = true := by
  rw [askB, mayC a b h0, stands_list L h hp]; rfl
theorem ask_no {st : Bool} {a b : Int} (n : Nat) (h : roundB st gC n (a, b) = false) : askB st gC a b = false := by
  rw [askB, stands_not n h, Bool.and_false]
theorem c43 : askB false gC 4 3 = true := ask_yes [(4, 3), (0, 0)] (by decide) (by kernel_rfl) (by decide)
theorem c34 : askB false gC 3 4 = false := ask_no 1 (by kernel_rfl)
theorem c36 : askB false gC 3 6 = true := ask_yes [(3, 6), (0, 5)] (by decide) (by kernel_rfl) (by decide)
theorem c63 : askB false gC 6 3 = false := ask_no 2 (by kernel_rfl)
theorem c05 : askB false gC 0 5 = true := ask_yes [(0, 5)] (by decide) (by kernel_rfl) (by decide)
theorem c20 : askB false gC 2 0 = true := ask_yes [(2, 0)] (by decide) (by kernel_rfl) (by decide)
theorem c02 : askB false gC 0 2 = true := ask_yes [(0, 2)] (by decide) (by kernel_rfl) (by decide)
theorem s20 : askB true gC 2 0 = false := ask_no 1 (by kernel_rfl)
theorem s02 : askB true gC 0 2 = false := ask_no 1 (by kernel_rfl)
theorem s22 : askB true gC 2 2 = true := ask_yes [(2, 2)] (by decide) (by kernel_rfl) (by decide)
theorem c73 : askB false gC 7 3 = true := ask_yes [(7, 3), (3, 3), (0, 0)] (by decide) (by kernel_rfl) (by decide)
theorem c37 : askB false gC 3 7 = false := ask_no 1 (by kernel_rfl)
theorem c98 : askB false gC 9 8 = true := ask_yes [(9, 8), (10, 8)] (by decide) (by kernel_rfl) (by decide)
theorem c89 : askB false gC 8 9 = false := ask_no 3 (by kernel_rfl)
theorem p73 : pickP gC 7 3 = -1 := by
  rw [pickP, if_pos ⟨mayC 7 3 (by decide), by decide⟩]
  have h : standsB false gC (3, 3) = true := stands_list [(3, 3), (0, 0)] (by kernel_rfl) (by decide)
  have e : ∀ R : Rel, R (3, 3) = true → pickB false gC 7 3 R = -1 := fun R hR => by
    show (if (9 : Int) = 9 ∧ R (3, 3) = true then (-1 : Int) else -2) = -1
    rw [if_pos ⟨rfl, hR⟩]
  exact e _ h
theorem p15 : pickP gC 1 5 = 1 := by
  rw [pickP, if_pos ⟨mayC 1 5 (by decide), by decide⟩]
  have e : ∀ R : Rel, pickB false gC 1 5 R = 1 := fun R => rfl
  exact e _
theorem p55 : pickP gC 5 5 = -2 := by
  rw [pickP, if_neg]
  intro h
  exact h.2 rfl
theorem l43 : leastP gC [4, 3] = (4, 0) := by
  rw [leastP, if_neg (by rw [checkC]; decide), if_neg (by rw [mayC 4 3 (by decide)]; decide)]
  have h1 : standsB true gC (4, 4) = true := stands_list [(4, 4), (0, 0), (1, 1)] (by kernel_rfl) (by decide)
  have h2 : standsB true gC (4, 3) = true := stands_list [(4, 3), (0, 0)] (by kernel_rfl) (by decide)
  simp [h1, h2]
end Go.Proofs.YtcljgfpcdlnlkaaDoor.Q
namespace Go.Proofs.YtcljgfpcdlnlkaaDoor.Q
open Go.RowKit Go.Proofs.YtcljgfpcdlnlkaaDoorW.PrintWords Mp
def kC3 : ByteArray := ⟨#[99]⟩
theorem R_three (w : World) (a b c : ByteArray) : Kd.string.R 9 (w.alloc (.cells #[.string a, .string b, .string c] 9)) w.heap.size (fun _ => True) (.slice (some ⟨w.heap.size, 0, none⟩) 3 3) [a, b, c] :=
  ⟨fun _ _ => trivial, [.string a, .string b, .string c], ⟨by rfl, .inr ⟨w.heap.size, 3, #[.string a, .string b, .string c], rfl, Nat.le_refl _, Array.getElem?_push_size, Nat.le_refl _, by decide, by rfl, by rfl⟩⟩, by
    refine ⟨by rfl, fun j p hj => ?_⟩
    match j, hj with
    | 0, hj => simp at hj; subst hj; rfl
    | 1, hj => simp at hj; subst hj; rfl
    | 2, hj => simp at hj; subst hj; rfl
    | j + 3, hj => simp at hj⟩
set_option maxRecDepth 100000 in
set_option maxHeartbeats 400000 in
theorem rec_calls (w : World) (A : Option Addr) (n c : Nat) (hn : n ≤ 3) :
    Calls Tryd.prog 39 #[.slice A n c] w fun e w' => ∃ b, e = .returned (.agg #[.int .i64 7, .int .i64 0, .string ⟨#[]⟩, .slice (some ⟨b, 0, none⟩) n 3, .slice A n c]) ∧ Kd.string.R 9 w' w.heap.size (fun _ => True) (.slice (some ⟨b, 0, none⟩) n 3) ([kA, kB, kC3].take n) ∧ Below w.heap.size w w' := by
  have d1 : decide (n ≤ 3) = true := decide_eq_true hn
  go_enter Tryd.func39, Tryd.ntmps39
  go_wp2
  have hB1 : Below w.heap.size w (w.alloc (Obj.cells #[Value.int IntKind.i64 7, Value.int IntKind.i64 0, Value.string { data := #[] }, Value.slice (some { block := w.heap.size + 1, off := 0 }) n 3, Value.slice A n c] 37)) := (Below.refl _ _).alloc (Nat.le_refl _) _
  refine bodyPost_ret (v := .agg #[.int .i64 7, .int .i64 0, .string ⟨#[]⟩, .slice (some ⟨w.heap.size + 1, 0, none⟩) n 3, .slice A n c]) ?_ rfl ?_
  · refine results_cell_row (fn := Tryd.f39) (p := 2) (ty := 37) rfl _ _ w.heap.size 37 _ (0, 0) _ rfl ?_ Tryd.underlying37 rfl (by kernel_rfl)
    exact (Below.heap_alloc _ _ _ (by simp)).trans Array.getElem?_push_size
  · refine ⟨w.heap.size + 1, rfl, Kd.R_lower (Kd.R_take (n := 3) (xs := [kA, kB, kC3]) ?_ (by simpa using hn)) (Nat.le_succ _), hB1.alloc (by simp) _⟩
    have := R_three (w.alloc (Obj.cells #[Value.int IntKind.i64 7, Value.int IntKind.i64 0, Value.string { data := #[] }, Value.slice (some { block := w.heap.size + 1, off := 0 }) n 3, Value.slice A n c] 37)) kA kB kC3
    rw [World.size_alloc] at this
    exact this
end Go.Proofs.YtcljgfpcdlnlkaaDoor.Q
namespace Go.Proofs.YtcljgfpcdlnlkaaDoor.Q
open Go.RowKit Go.Proofs.YtcljgfpcdlnlkaaDoorW.PrintWords Mp
theorem C_of_reps {xs : List S37} {cs : List Value} (W : World) (h : Reps (k37.K W) 5 xs cs) (hl : xs.length ≤ 4000000) : Kd.C k37 (W.alloc (.cells cs.toArray 37)) (some ⟨W.heap.size, 0, none⟩) xs.length xs := by
  have hb : Below W.heap.size W (W.alloc (.cells cs.toArray 37)) := (Below.refl _ _).alloc (Nat.le_refl _) _
  refine ⟨rfl, by omega, fun _ => ⟨_, rfl, fun j p hj => ⟨(cs.drop (j * 5)).take 5, ?_, k37.K_below hb (h.2 j p hj), fun i u hu => ?_⟩⟩⟩
  · have h1 := (List.getElem?_eq_some_iff.1 hj).1
    have h2 := h.1
    have : j * 5 + 5 ≤ xs.length * 5 := by omega
    show ((cs.drop (j * 5)).take 5).length = 5
    simp
    omega
  · have hi : i < 5 := by
      have := (List.getElem?_eq_some_iff.1 hu).1
      simp at this
      omega
    rw [List.getElem?_take_of_lt hi, List.getElem?_drop] at hu
    have e : (⟨W.heap.size, 0, none⟩ : Addr).add (j * 5 + i) = ⟨W.heap.size, j * 5 + i, none⟩ := by
      unfold Addr.add
      split
      · rename_i h0; rw [h0]
      · simp
    show (W.alloc _).cell? ((⟨W.heap.size, 0, none⟩ : Addr).add (j * 5 + i)) = _
    rw [e, World.cell?_alloc_at _ _ _ _ rfl]
    simpa using hu
theorem ints1 (w : World) (a : Int) : Kd.C (Kd.int .i64) (w.alloc (.cells #[.int .i64 a] 3)) (some ⟨w.heap.size, 0, none⟩) 1 [a] := (Kd.R_reads' (R_one w a)).2.2
theorem ints2 (w : World) (a b : Int) : Kd.C (Kd.int .i64) (w.alloc (.cells #[.int .i64 a, .int .i64 b] 3)) (some ⟨w.heap.size, 0, none⟩) 2 [a, b] := (Kd.R_reads' (R_two w a b)).2.2
theorem noInts (w : World) : Kd.C (Kd.int .i64) w none 0 [] := (Kd.R_reads' (Kd.R_nil (Kd.int .i64) 3 w 0 (fun _ => True))).2.2
theorem noTexts (w : World) : Kd.C Kd.string w none 0 [] := (Kd.R_reads' (Kd.R_nil Kd.string 9 w 0 (fun _ => True))).2.2
theorem limC : ∀ x ∈ gC, x.f3.length ≤ 9223372036854775807 ∧ x.f4.length ≤ 9223372036854775807 := by
  intro x hx
  simp only [gC, List.mem_cons, List.not_mem_nil, or_false] at hx
  rcases hx with rfl | rfl | rfl | rfl | rfl | rfl | rfl | rfl | rfl | rfl | rfl <;> exact ⟨by decide, by decide⟩
set_option maxRecDepth 100000 in
set_option maxHeartbeats 1000000 in
theorem chapter_calls (w : World) : Calls Tryd.prog 41 #[] w fun e w' => ∃ b, e = .returned (.slice (some ⟨b, 0, none⟩) 11 11) ∧ Kd.C k37 w' (some ⟨b, 0, none⟩) gC.length gC ∧ Below w.heap.size w w' := by
  go_enter Tryd.func41, Tryd.ntmps41
  have HB0 := Lib.hid (Below.refl w.heap.size w)
  have I00 := ints1 (w) 0
  have I0 := Lib.hid I00
  clear I00
  have HW := Lib.hid (show Below w.heap.size w ((w).alloc (.cells #[.int .i64 0] 3)) from HB0.out.alloc HB0.out.size _)
  have HR := Lib.hid (rec_calls ((w).alloc (.cells #[.int .i64 0] 3)) (some ⟨w.heap.size, 0, none⟩) 1 1 (by omega))
  go_wp2_with fail
  refine HR.out.mono ?_
  clear HR
  rintro e w1 ⟨b0, rfl, hR, hB⟩
  replace I0 := Lib.hid (Kd.C_below I0.out hB)
  have S0 := Lib.hid (Kd.R_reads' hR).2.2
  have HB1 := Lib.hid (HW.out.trans (hB.mono HW.out.size))
  clear HW hR hB
  have HL := Lib.hid (show Below w1.heap.size w1 ((w1).alloc (.cells #[.int .i64 0, .int .i64 1] 3)) from (Below.refl _ _).alloc (Nat.le_refl _) _)
  replace I0 := Lib.hid (Kd.C_below I0.out HL.out)
  have I10 := ints2 (w1) 0 1
  have I1 := Lib.hid I10
  clear I10
  have HW := Lib.hid (show Below w.heap.size w ((w1).alloc (.cells #[.int .i64 0, .int .i64 1] 3)) from HB1.out.alloc HB1.out.size _)
  have HR := Lib.hid (rec_calls ((w1).alloc (.cells #[.int .i64 0, .int .i64 1] 3)) (some ⟨w1.heap.size, 0, none⟩) 2 2 (by omega))
  go_wp2_with fail
  refine HR.out.mono ?_
  clear HR
  rintro e w2 ⟨b1, rfl, hR, hB⟩
  replace I0 := Lib.hid (Kd.C_below I0.out hB)
  replace I1 := Lib.hid (Kd.C_below I1.out hB)
  replace S0 := Lib.hid (Kd.C_below (Kd.C_below S0.out HL.out) hB)
  have S1 := Lib.hid (Kd.R_reads' hR).2.2
  have HB2 := Lib.hid (HW.out.trans (hB.mono HW.out.size))
  clear HW hR hB
  have HL := Lib.hid (show Below w2.heap.size w2 (((w2).alloc (.cells #[.int .i64 0, .int .i64 1] 3)).alloc (.cells #[.int .i64 5] 3)) from ((Below.refl _ _).alloc (Nat.le_refl _) _).alloc (by simp) _)
  replace I0 := Lib.hid (Kd.C_below I0.out HL.out)
  replace I1 := Lib.hid (Kd.C_below I1.out HL.out)
  have I20 := ints2 (w2) 0 1
  have I30 := ints1 ((w2).alloc (.cells #[.int .i64 0, .int .i64 1] 3)) 5
  rw [World.size_alloc] at I30
  replace I20 := Kd.C_alloc I20 (.cells #[.int .i64 5] 3)
  have I2 := Lib.hid I20
  clear I20
  have I3 := Lib.hid I30
  clear I30
  have HW := Lib.hid (show Below w.heap.size w (((w2).alloc (.cells #[.int .i64 0, .int .i64 1] 3)).alloc (.cells #[.int .i64 5] 3)) from (HB2.out.alloc HB2.out.size _).alloc (HB2.out.alloc HB2.out.size _).size _)
  have HR := Lib.hid (rec_calls (((w2).alloc (.cells #[.int .i64 0, .int .i64 1] 3)).alloc (.cells #[.int .i64 5] 3)) (some ⟨w2.heap.size + 1, 0, none⟩) 1 1 (by omega))
  go_wp2_with fail
  refine HR.out.mono ?_
  clear HR
  rintro e w3 ⟨b2, rfl, hR, hB⟩
  replace I0 := Lib.hid (Kd.C_below I0.out hB)
  replace I1 := Lib.hid (Kd.C_below I1.out hB)
  replace I2 := Lib.hid (Kd.C_below I2.out hB)
  replace I3 := Lib.hid (Kd.C_below I3.out hB)
  replace S0 := Lib.hid (Kd.C_below (Kd.C_below S0.out HL.out) hB)
  replace S1 := Lib.hid (Kd.C_below (Kd.C_below S1.out HL.out) hB)
  have S2 := Lib.hid (Kd.R_reads' hR).2.2
  have HB3 := Lib.hid (HW.out.trans (hB.mono HW.out.size))
  clear HW hR hB
  have HL := Lib.hid (show Below w3.heap.size w3 (((w3).alloc (.cells #[.int .i64 3] 3)).alloc (.cells #[.int .i64 8] 3)) from ((Below.refl _ _).alloc (Nat.le_refl _) _).alloc (by simp) _)
  replace I0 := Lib.hid (Kd.C_below I0.out HL.out)
  replace I1 := Lib.hid (Kd.C_below I1.out HL.out)
  replace I2 := Lib.hid (Kd.C_below I2.out HL.out)
  replace I3 := Lib.hid (Kd.C_below I3.out HL.out)
  have I40 := ints1 (w3) 3
  have I50 := ints1 ((w3).alloc (.cells #[.int .i64 3] 3)) 8
  rw [World.size_alloc] at I50
  replace I40 := Kd.C_alloc I40 (.cells #[.int .i64 8] 3)
  have I4 := Lib.hid I40
  clear I40
  have I5 := Lib.hid I50
  clear I50
  have HW := Lib.hid (show Below w.heap.size w (((w3).alloc (.cells #[.int .i64 3] 3)).alloc (.cells #[.int .i64 8] 3)) from (HB3.out.alloc HB3.out.size _).alloc (HB3.out.alloc HB3.out.size _).size _)
  have HR := Lib.hid (rec_calls (((w3).alloc (.cells #[.int .i64 3] 3)).alloc (.cells #[.int .i64 8] 3)) (some ⟨w3.heap.size + 1, 0, none⟩) 1 1 (by omega))
  go_wp2_with fail
  refine HR.out.mono ?_
  clear HR
  rintro e w4 ⟨b3, rfl, hR, hB⟩
  replace I0 := Lib.hid (Kd.C_below I0.out hB)
  replace I1 := Lib.hid (Kd.C_below I1.out hB)
  replace I2 := Lib.hid (Kd.C_below I2.out hB)
  replace I3 := Lib.hid (Kd.C_below I3.out hB)
  replace I4 := Lib.hid (Kd.C_below I4.out hB)
  replace I5 := Lib.hid (Kd.C_below I5.out hB)
  replace S0 := Lib.hid (Kd.C_below (Kd.C_below S0.out HL.out) hB)
  replace S1 := Lib.hid (Kd.C_below (Kd.C_below S1.out HL.out) hB)
  replace S2 := Lib.hid (Kd.C_below (Kd.C_below S2.out HL.out) hB)
  have S3 := Lib.hid (Kd.R_reads' hR).2.2
  have HB4 := Lib.hid (HW.out.trans (hB.mono HW.out.size))
  clear HW hR hB
  have HL := Lib.hid (show Below w4.heap.size w4 ((w4).alloc (.cells #[.int .i64 10] 3)) from (Below.refl _ _).alloc (Nat.le_refl _) _)
  replace I0 := Lib.hid (Kd.C_below I0.out HL.out)
  replace I1 := Lib.hid (Kd.C_below I1.out HL.out)
  replace I2 := Lib.hid (Kd.C_below I2.out HL.out)
  replace I3 := Lib.hid (Kd.C_below I3.out HL.out)
  replace I4 := Lib.hid (Kd.C_below I4.out HL.out)
  replace I5 := Lib.hid (Kd.C_below I5.out HL.out)
  have I60 := ints1 (w4) 10
  have I6 := Lib.hid I60
  clear I60
  have HW := Lib.hid (show Below w.heap.size w ((w4).alloc (.cells #[.int .i64 10] 3)) from HB4.out.alloc HB4.out.size _)
  have HR := Lib.hid (rec_calls ((w4).alloc (.cells #[.int .i64 10] 3)) (some ⟨w4.heap.size, 0, none⟩) 1 1 (by omega))
  go_wp2_with fail
  refine HR.out.mono ?_
  clear HR
  rintro e w5 ⟨b4, rfl, hR, hB⟩
  replace I0 := Lib.hid (Kd.C_below I0.out hB)
  replace I1 := Lib.hid (Kd.C_below I1.out hB)
  replace I2 := Lib.hid (Kd.C_below I2.out hB)
  replace I3 := Lib.hid (Kd.C_below I3.out hB)
  replace I4 := Lib.hid (Kd.C_below I4.out hB)
  replace I5 := Lib.hid (Kd.C_below I5.out hB)
  replace I6 := Lib.hid (Kd.C_below I6.out hB)
  replace S0 := Lib.hid (Kd.C_below (Kd.C_below S0.out HL.out) hB)
  replace S1 := Lib.hid (Kd.C_below (Kd.C_below S1.out HL.out) hB)
  replace S2 := Lib.hid (Kd.C_below (Kd.C_below S2.out HL.out) hB)
  replace S3 := Lib.hid (Kd.C_below (Kd.C_below S3.out HL.out) hB)
  have S4 := Lib.hid (Kd.R_reads' hR).2.2
  have HB5 := Lib.hid (HW.out.trans (hB.mono HW.out.size))
  clear HW hR hB
  have HL := Lib.hid (show Below w5.heap.size w5 ((w5).alloc (.cells #[.int .i64 9, .int .i64 0] 3)) from (Below.refl _ _).alloc (Nat.le_refl _) _)
  replace I0 := Lib.hid (Kd.C_below I0.out HL.out)
  replace I1 := Lib.hid (Kd.C_below I1.out HL.out)
  replace I2 := Lib.hid (Kd.C_below I2.out HL.out)
  replace I3 := Lib.hid (Kd.C_below I3.out HL.out)
  replace I4 := Lib.hid (Kd.C_below I4.out HL.out)
  replace I5 := Lib.hid (Kd.C_below I5.out HL.out)
  replace I6 := Lib.hid (Kd.C_below I6.out HL.out)
  have I70 := ints2 (w5) 9 0
  have I7 := Lib.hid I70
  clear I70
  have HW := Lib.hid (show Below w.heap.size w ((w5).alloc (.cells #[.int .i64 9, .int .i64 0] 3)) from HB5.out.alloc HB5.out.size _)
  have HR := Lib.hid (rec_calls ((w5).alloc (.cells #[.int .i64 9, .int .i64 0] 3)) (some ⟨w5.heap.size, 0, none⟩) 2 2 (by omega))
  go_wp2_with fail
  refine HR.out.mono ?_
  clear HR
  rintro e w6 ⟨b5, rfl, hR, hB⟩
  replace I0 := Lib.hid (Kd.C_below I0.out hB)
  replace I1 := Lib.hid (Kd.C_below I1.out hB)
  replace I2 := Lib.hid (Kd.C_below I2.out hB)
  replace I3 := Lib.hid (Kd.C_below I3.out hB)
  replace I4 := Lib.hid (Kd.C_below I4.out hB)
  replace I5 := Lib.hid (Kd.C_below I5.out hB)
  replace I6 := Lib.hid (Kd.C_below I6.out hB)
  replace I7 := Lib.hid (Kd.C_below I7.out hB)
  replace S0 := Lib.hid (Kd.C_below (Kd.C_below S0.out HL.out) hB)
  replace S1 := Lib.hid (Kd.C_below (Kd.C_below S1.out HL.out) hB)
  replace S2 := Lib.hid (Kd.C_below (Kd.C_below S2.out HL.out) hB)
  replace S3 := Lib.hid (Kd.C_below (Kd.C_below S3.out HL.out) hB)
  replace S4 := Lib.hid (Kd.C_below (Kd.C_below S4.out HL.out) hB)
  have S5 := Lib.hid (Kd.R_reads' hR).2.2
  have HB6 := Lib.hid (HW.out.trans (hB.mono HW.out.size))
  clear HW hR hB
  have K0 := Lib.hid (k37_mk w6 (nodeOf 4 [] []) (c3 := 0) (by decide) (noTexts w6) (c4 := 0) (by decide) (noInts w6))
  have K1 := Lib.hid (k37_mk w6 (nodeOf 2 [] []) (c3 := 0) (by decide) (noTexts w6) (c4 := 0) (by decide) (noInts w6))
  have K2 := Lib.hid (k37_mk w6 (nodeOf 1 [] []) (c3 := 0) (by decide) (noTexts w6) (c4 := 0) (by decide) (noInts w6))
  have K3 := Lib.hid (k37_mk w6 (nodeOf 7 [kA] [0]) (c3 := 3) (by decide) S0.out (c4 := 1) (by decide) I0.out)
  have K4 := Lib.hid (k37_mk w6 (nodeOf 7 [kA, kB] [0, 1]) (c3 := 3) (by decide) S1.out (c4 := 2) (by decide) I1.out)
  have K5 := Lib.hid (k37_mk w6 (nodeOf 8 [] [0, 1]) (c3 := 0) (by decide) (noTexts w6) (c4 := 2) (by decide) I2.out)
  have K6 := Lib.hid (k37_mk w6 (nodeOf 7 [kA] [5]) (c3 := 3) (by decide) S2.out (c4 := 1) (by decide) I3.out)
  have K7 := Lib.hid (k37_mk w6 (nodeOf 9 [] [3]) (c3 := 0) (by decide) (noTexts w6) (c4 := 1) (by decide) I4.out)
  have K8 := Lib.hid (k37_mk w6 (nodeOf 7 [kA] [8]) (c3 := 3) (by decide) S3.out (c4 := 1) (by decide) I5.out)
  have K9 := Lib.hid (k37_mk w6 (nodeOf 7 [kA] [10]) (c3 := 3) (by decide) S4.out (c4 := 1) (by decide) I6.out)
  have K10 := Lib.hid (k37_mk w6 (nodeOf 7 [kA, kB] [9, 0]) (c3 := 3) (by decide) S5.out (c4 := 2) (by decide) I7.out)
  go_wp2
  go_ret
  exact ⟨w6.heap.size, rfl, C_of_reps (xs := gC) w6 ((((((((((((Reps.none _ _).snoc K0.out rfl).snoc K1.out rfl).snoc K2.out rfl).snoc K3.out rfl).snoc K4.out rfl).snoc K5.out rfl).snoc K6.out rfl).snoc K7.out rfl).snoc K8.out rfl).snoc K9.out rfl).snoc K10.out rfl) (by decide), HB6.out.alloc HB6.out.size _⟩
end Go.Proofs.YtcljgfpcdlnlkaaDoor.Q
namespace Go.Proofs.YtcljgfpcdlnlkaaDoor.Q
open Go.RowKit Go.Proofs.YtcljgfpcdlnlkaaDoorW.PrintWords Mp
set_option maxRecDepth 100000 in
set_option maxHeartbeats 4000000 in
theorem works_calls (w : World) (hk : KeysIn w) : Calls Tryd.prog 22 #[] w fun e w' => e = .returned (.bool true) ∧ Below w.heap.size w w' := by
  have HK0 := Lib.hid hk
  have HC := Lib.hid (chapter_calls w)
  clear hk
  go_enter Tryd.func22, Tryd.ntmps22
  go_wp2_with fail
  refine HC.out.mono ?_
  clear HC
  rintro e w0 ⟨b, rfl, hC, hB⟩
  have HB0 := Lib.hid hB
  have HC0 := Lib.hid hC
  replace HK0 := Lib.hid (HK0.out.below hB)
  clear hB hC
  have hc := may_calls2 w0 (some ⟨b, 0, none⟩) 11 gC 4 3 HK0.out HC0.out limC
  rw [c43, show gC.length = 11 from rfl] at hc
  have HX := Lib.hid hc
  clear hc
  go_wp2_with fail
  refine HX.out.mono ?_
  clear HX
  rintro e w1 ⟨rfl, hB⟩
  have HB1 := Lib.hid (HB0.out.trans (hB.mono HB0.out.size))
  have HC1 := Lib.hid (Kd.C_below HC0.out hB)
  have HK1 := Lib.hid (HK0.out.below hB)
  clear hB HB0 HC0 HK0
  have hc := may_calls2 w1 (some ⟨b, 0, none⟩) 11 gC 3 4 HK1.out HC1.out limC
  rw [c34, show gC.length = 11 from rfl] at hc
  have HX := Lib.hid hc
  clear hc
  go_wp2_with fail
  refine HX.out.mono ?_
  clear HX
  rintro e w2 ⟨rfl, hB⟩
  have HB2 := Lib.hid (HB1.out.trans (hB.mono HB1.out.size))
  have HC2 := Lib.hid (Kd.C_below HC1.out hB)
  have HK2 := Lib.hid (HK1.out.below hB)
  clear hB HB1 HC1 HK1
  have hc := may_calls2 w2 (some ⟨b, 0, none⟩) 11 gC 3 6 HK2.out HC2.out limC
  rw [c36, show gC.length = 11 from rfl] at hc
  have HX := Lib.hid hc
  clear hc
  go_wp2_with fail
  refine HX.out.mono ?_
  clear HX
  rintro e w3 ⟨rfl, hB⟩
  have HB3 := Lib.hid (HB2.out.trans (hB.mono HB2.out.size))
  have HC3 := Lib.hid (Kd.C_below HC2.out hB)
  have HK3 := Lib.hid (HK2.out.below hB)
  clear hB HB2 HC2 HK2
  have hc := may_calls2 w3 (some ⟨b, 0, none⟩) 11 gC 6 3 HK3.out HC3.out limC
  rw [c63, show gC.length = 11 from rfl] at hc
  have HX := Lib.hid hc
  clear hc
  go_wp2_with fail
  refine HX.out.mono ?_
  clear HX
  rintro e w4 ⟨rfl, hB⟩
  have HB4 := Lib.hid (HB3.out.trans (hB.mono HB3.out.size))
  have HC4 := Lib.hid (Kd.C_below HC3.out hB)
  have HK4 := Lib.hid (HK3.out.below hB)
  clear hB HB3 HC3 HK3
  have hc := may_calls2 w4 (some ⟨b, 0, none⟩) 11 gC 0 5 HK4.out HC4.out limC
  rw [c05, show gC.length = 11 from rfl] at hc
  have HX := Lib.hid hc
  clear hc
  go_wp2_with fail
  refine HX.out.mono ?_
  clear HX
  rintro e w5 ⟨rfl, hB⟩
  have HB5 := Lib.hid (HB4.out.trans (hB.mono HB4.out.size))
  have HC5 := Lib.hid (Kd.C_below HC4.out hB)
  have HK5 := Lib.hid (HK4.out.below hB)
  clear hB HB4 HC4 HK4
  have hc := may_calls2 w5 (some ⟨b, 0, none⟩) 11 gC 2 0 HK5.out HC5.out limC
  rw [c20, show gC.length = 11 from rfl] at hc
  have HX := Lib.hid hc
  clear hc
  go_wp2_with fail
  refine HX.out.mono ?_
  clear HX
  rintro e w6 ⟨rfl, hB⟩
  have HB6 := Lib.hid (HB5.out.trans (hB.mono HB5.out.size))
  have HC6 := Lib.hid (Kd.C_below HC5.out hB)
  have HK6 := Lib.hid (HK5.out.below hB)
  clear hB HB5 HC5 HK5
  have hc := may_calls2 w6 (some ⟨b, 0, none⟩) 11 gC 0 2 HK6.out HC6.out limC
  rw [c02, show gC.length = 11 from rfl] at hc
  have HX := Lib.hid hc
  clear hc
  go_wp2_with fail
  refine HX.out.mono ?_
  clear HX
  rintro e w7 ⟨rfl, hB⟩
  have HB7 := Lib.hid (HB6.out.trans (hB.mono HB6.out.size))
  have HC7 := Lib.hid (Kd.C_below HC6.out hB)
  have HK7 := Lib.hid (HK6.out.below hB)
  clear hB HB6 HC6 HK6
  have hc := strict_calls w7 (some ⟨b, 0, none⟩) 11 gC 2 0 HK7.out HC7.out limC
  rw [s20, show gC.length = 11 from rfl] at hc
  have HX := Lib.hid hc
  clear hc
  go_wp2_with fail
  refine HX.out.mono ?_
  clear HX
  rintro e w8 ⟨rfl, hB⟩
  have HB8 := Lib.hid (HB7.out.trans (hB.mono HB7.out.size))
  have HC8 := Lib.hid (Kd.C_below HC7.out hB)
  have HK8 := Lib.hid (HK7.out.below hB)
  clear hB HB7 HC7 HK7
  have hc := strict_calls w8 (some ⟨b, 0, none⟩) 11 gC 0 2 HK8.out HC8.out limC
  rw [s02, show gC.length = 11 from rfl] at hc
  have HX := Lib.hid hc
  clear hc
  go_wp2_with fail
  refine HX.out.mono ?_
  clear HX
  rintro e w9 ⟨rfl, hB⟩
  have HB9 := Lib.hid (HB8.out.trans (hB.mono HB8.out.size))
  have HC9 := Lib.hid (Kd.C_below HC8.out hB)
  have HK9 := Lib.hid (HK8.out.below hB)
  clear hB HB8 HC8 HK8
  have hc := strict_calls w9 (some ⟨b, 0, none⟩) 11 gC 2 2 HK9.out HC9.out limC
  rw [s22, show gC.length = 11 from rfl] at hc
  have HX := Lib.hid hc
  clear hc
  go_wp2_with fail
  refine HX.out.mono ?_
  clear HX
  rintro e w10 ⟨rfl, hB⟩
  have HB10 := Lib.hid (HB9.out.trans (hB.mono HB9.out.size))
  have HC10 := Lib.hid (Kd.C_below HC9.out hB)
  have HK10 := Lib.hid (HK9.out.below hB)
  clear hB HB9 HC9 HK9
  have hc := may_calls2 w10 (some ⟨b, 0, none⟩) 11 gC 7 3 HK10.out HC10.out limC
  rw [c73, show gC.length = 11 from rfl] at hc
  have HX := Lib.hid hc
  clear hc
  go_wp2_with fail
  refine HX.out.mono ?_
  clear HX
  rintro e w11 ⟨rfl, hB⟩
  have HB11 := Lib.hid (HB10.out.trans (hB.mono HB10.out.size))
  have HC11 := Lib.hid (Kd.C_below HC10.out hB)
  have HK11 := Lib.hid (HK10.out.below hB)
  clear hB HB10 HC10 HK10
  have hc := may_calls2 w11 (some ⟨b, 0, none⟩) 11 gC 3 7 HK11.out HC11.out limC
  rw [c37, show gC.length = 11 from rfl] at hc
  have HX := Lib.hid hc
  clear hc
  go_wp2_with fail
  refine HX.out.mono ?_
  clear HX
  rintro e w12 ⟨rfl, hB⟩
  have HB12 := Lib.hid (HB11.out.trans (hB.mono HB11.out.size))
  have HC12 := Lib.hid (Kd.C_below HC11.out hB)
  have HK12 := Lib.hid (HK11.out.below hB)
  clear hB HB11 HC11 HK11
  have hc := pick25_calls w12 (some ⟨b, 0, none⟩) 11 gC 7 3 HK12.out HC12.out limC
  rw [p73, show gC.length = 11 from rfl] at hc
  have HX := Lib.hid hc
  clear hc
  go_wp2_with fail
  refine HX.out.mono ?_
  clear HX
  rintro e w13 ⟨rfl, hB⟩
  have HB13 := Lib.hid (HB12.out.trans (hB.mono HB12.out.size))
  have HC13 := Lib.hid (Kd.C_below HC12.out hB)
  have HK13 := Lib.hid (HK12.out.below hB)
  clear hB HB12 HC12 HK12
  have hc := pick25_calls w13 (some ⟨b, 0, none⟩) 11 gC 1 5 HK13.out HC13.out limC
  rw [p15, show gC.length = 11 from rfl] at hc
  have HX := Lib.hid hc
  clear hc
  go_wp2_with fail
  refine HX.out.mono ?_
  clear HX
  rintro e w14 ⟨rfl, hB⟩
  have HB14 := Lib.hid (HB13.out.trans (hB.mono HB13.out.size))
  have HC14 := Lib.hid (Kd.C_below HC13.out hB)
  have HK14 := Lib.hid (HK13.out.below hB)
  clear hB HB13 HC13 HK13
  have hc := pick25_calls w14 (some ⟨b, 0, none⟩) 11 gC 5 5 HK14.out HC14.out limC
  rw [p55, show gC.length = 11 from rfl] at hc
  have HX := Lib.hid hc
  clear hc
  go_wp2_with fail
  refine HX.out.mono ?_
  clear HX
  rintro e w15 ⟨rfl, hB⟩
  have HB15 := Lib.hid (HB14.out.trans (hB.mono HB14.out.size))
  have HC15 := Lib.hid (Kd.C_below HC14.out hB)
  have HK15 := Lib.hid (HK14.out.below hB)
  clear hB HB14 HC14 HK14
  have hA : Below w15.heap.size w15 (w15.alloc (.cells #[.int .i64 4, .int .i64 3] 3)) := (Below.refl _ _).alloc (Nat.le_refl _) _
  have hc := least_calls (w15.alloc (.cells #[.int .i64 4, .int .i64 3] 3)) (some ⟨b, 0, none⟩) 11 gC (some ⟨w15.heap.size, 0, none⟩) 2 [4, 3] (HK15.out.below hA) (Kd.C_below HC15.out hA) limC (ints2 w15 4 3) (by decide)
  rw [l43, show gC.length = 11 from rfl, show ([4, 3] : List Int).length = 2 from rfl] at hc
  have HX := Lib.hid hc
  clear hc
  go_wp2_with fail
  refine HX.out.mono ?_
  clear HX
  rintro e w16 ⟨hB, rfl⟩
  replace hB := hA.trans (hB.mono hA.size)
  clear hA
  have HB16 := Lib.hid (HB15.out.trans (hB.mono HB15.out.size))
  have HC16 := Lib.hid (Kd.C_below HC15.out hB)
  have HK16 := Lib.hid (HK15.out.below hB)
  clear hB HB15 HC15 HK15
  have hc := may_calls2 w16 (some ⟨b, 0, none⟩) 11 gC 9 8 HK16.out HC16.out limC
  rw [c98, show gC.length = 11 from rfl] at hc
  have HX := Lib.hid hc
  clear hc
  go_wp2_with fail
  refine HX.out.mono ?_
  clear HX
  rintro e w17 ⟨rfl, hB⟩
  have HB17 := Lib.hid (HB16.out.trans (hB.mono HB16.out.size))
  have HC17 := Lib.hid (Kd.C_below HC16.out hB)
  have HK17 := Lib.hid (HK16.out.below hB)
  clear hB HB16 HC16 HK16
  have hc := may_calls2 w17 (some ⟨b, 0, none⟩) 11 gC 8 9 HK17.out HC17.out limC
  rw [c89, show gC.length = 11 from rfl] at hc
  have HX := Lib.hid hc
  clear hc
  go_wp2_with fail
  refine HX.out.mono ?_
  clear HX
  rintro e w18 ⟨rfl, hB⟩
  have HB18 := Lib.hid (HB17.out.trans (hB.mono HB17.out.size))
  have HC18 := Lib.hid (Kd.C_below HC17.out hB)
  have HK18 := Lib.hid (HK17.out.below hB)
  clear hB HB17 HC17 HK17
  go_wp2
  go_ret
  exact ⟨rfl, HB18.out⟩
end Go.Proofs.YtcljgfpcdlnlkaaDoor.Q
namespace Go.Proofs.YtcljgfpcdlnlkaaDoor.Q
open Go.RowKit Go.Proofs.YtcljgfpcdlnlkaaDoorW.PrintWords Mp
theorem stands_fix (st : Bool) (g : List S37) (p : Int × Int) : standsB st g p = holdsB st g p (standsB st g) := by
  rw [Bool.eq_iff_iff]
  refine ⟨stands_holds, fun h => ?_⟩
  refine stands_of (fun q => standsB st g q || decide (q = p)) (fun q hq => ?_) p (by simp)
  rcases Bool.or_eq_true _ _ ▸ hq with h1 | h1
  · exact holdsB_mono (fun r hr => by simp [hr]) (stands_holds h1)
  · rw [of_decide_eq_true h1]
    exact holdsB_mono (fun r hr => by simp [hr]) h
theorem members_one {g : List S37} {a : Int} (h0 : 0 ≤ a) (h1 : a < g.length) (h8 : (rd_T37 g a).f0 ≠ 8) : membersL g a = [a] := by
  unfold membersL
  rw [if_neg (by omega), if_neg h8]
/-- Of what is no union: it stands just if it is picked by something. -/
theorem stands_pick {st : Bool} {g : List S37} {a b : Int} (h0 : 0 ≤ a) (h1 : a < g.length) (h8 : (rd_T37 g a).f0 ≠ 8) : standsB st g (a, b) = true ↔ pickB st g a b (standsB st g) ≠ -2 := by
  rw [stands_fix, holdsB_iff]
  show (∀ s ∈ membersL g a, _) ↔ _
  rw [members_one h0 h1 h8]
  simp
theorem pickFrom_some {st : Bool} {g : List S37} {s : S37} {R : Rel} {l : List Int} {i j : Nat} (h : pickFrom st g s R l i = some j) :
    i ≤ j ∧ j < i + l.length ∧ doesB st s (rd_T37 g (rd l ((j - i : Nat) : Int))) R = true ∧ ∀ k : Nat, k < j - i → doesB st s (rd_T37 g (rd l (k : Int))) R = false := by
  induction l generalizing i with
  | nil => cases h
  | cons x l ih =>
    simp only [pickFrom] at h
    by_cases hd : doesB st s (rd_T37 g x) R = true
    · rw [if_pos hd] at h
      cases h
      refine ⟨Nat.le_refl _, by simp, ?_, fun k hk => absurd hk (by omega)⟩
      rw [Nat.sub_self]
      exact hd
    · rw [if_neg hd] at h
      obtain ⟨h1, h2, h3, h4⟩ := ih h
      refine ⟨by omega, by simp only [List.length_cons]; omega, ?_, fun k hk => ?_⟩
      · rw [show j - i = (j - (i + 1)) + 1 by omega]
        exact h3
      · cases k with
        | zero =>
        show doesB st s (rd_T37 g x) R = false
        simpa using hd
        | succ k => exact h4 k (by omega)
theorem pickB_cases (st : Bool) (g : List S37) (a b : Int) (R : Rel) :
    (∃ j : Nat, pickB st g a b R = j ∧ j < (membersL g b).length ∧ doesB st (rd_T37 g a) (rd_T37 g (rd (membersL g b) (j : Int))) R = true ∧ ∀ k : Nat, k < j → doesB st (rd_T37 g a) (rd_T37 g (rd (membersL g b) (k : Int))) R = false) ∨
    (pickB st g a b R = -1 ∧ (rd_T37 g a).f0 = 9 ∧ R (rd (rd_T37 g a).f4 0, b) = true) ∨ pickB st g a b R = -2 := by
  unfold pickB
  cases e : pickFrom st g (rd_T37 g a) R (membersL g b) 0 with
  | some j =>
    obtain ⟨_, h2, h3, h4⟩ := pickFrom_some e
    exact .inl ⟨j, rfl, by omega, by simpa using h3, fun k hk => h4 k (by omega)⟩
  | none =>
    by_cases h : (rd_T37 g a).f0 = 9 ∧ R (rd (rd_T37 g a).f4 0, b) = true
    · exact .inr (.inl ⟨if_pos h, h.1, h.2⟩)
    · exact .inr (.inr (if_neg h))
theorem check_all {g : List S37} (h : checkP g = 0) : ∀ x ∈ g, mayB g x = true := (valid_of_check h).may
theorem rd37_mem {g : List S37} {a : Int} (h0 : 0 ≤ a) (h1 : a < g.length) : rd_T37 g a ∈ g := rd_in h0 h1
theorem may_var {g : List S37} {x : S37} (h : mayB g x = true) (h9 : x.f0 = 9) : ∃ k, x.f4 = [k] ∧ 0 ≤ k ∧ k < g.length := by
  have h1 := (may_fine h (by omega)).vars h9
  match hx : x.f4, h1 with
  | [k], _ => exact ⟨k, rfl, may_in h k (by rw [hx]; simp)⟩
/-- What a type is of, in a graph that may be: places, no unions. -/
theorem members_in {g : List S37} (h : ∀ x ∈ g, mayB g x = true) {b k : Int} (hk : k ∈ membersL g b) : 0 ≤ k ∧ k < g.length ∧ (rd_T37 g k).f0 ≠ 8 := by
  unfold membersL at hk
  split at hk
  · cases hk
  · rename_i hb
    have hm := h _ (rd37_mem (g := g) (a := b) (by omega) (by omega))
    split at hk
    · rename_i h8
      exact ⟨(may_in hm k hk).1, (may_in hm k hk).2, (may_union hm h8).1 k hk⟩
    · rename_i h8
      rw [List.mem_singleton.1 hk]
      exact ⟨by omega, by omega, h8⟩
theorem mayOf_two {g : List S37} {a b : Int} (ha : 0 ≤ a ∧ a < g.length) (hb : 0 ≤ b ∧ b < g.length) : mayOf g [a, b] = decide (checkP g = 0) := by
  rw [Bool.eq_iff_iff, mayOf_iff, decide_eq_true_eq]
  constructor
  · exact fun h => h.1
  · intro h
    refine ⟨h, fun k hk => ?_⟩
    rcases List.mem_cons.1 hk with rfl | hk
    · exact ha
    · rw [List.mem_singleton.1 hk]; exact hb
/-- What is asked of a non union and of one of its like. -/
theorem ask_pick {st : Bool} {g : List S37} {a b : Int} (hc : checkP g = 0) (ha : 0 ≤ a ∧ a < g.length) (hb : 0 ≤ b ∧ b < g.length) (h8 : (rd_T37 g a).f0 ≠ 8) : askB st g a b = true ↔ pickB st g a b (standsB st g) ≠ -2 := by
  unfold askB
  rw [mayOf_two ha hb, decide_eq_true hc, Bool.true_and]
  exact stands_pick ha.1 ha.2 h8
structure PickLaw (g : List S37) (a b : Int) : Prop where
  low : -2 ≤ pickP g a b
  high : pickP g a b < (membersL g b).length
  may : askB false g a b = !decide (pickP g a b = -2)
  ahead : ∀ i : Nat, i < (membersL g b).length → (i : Int) < pickP g a b → (rd_T37 g a).f0 ≠ 9 → askB false g a (rd (membersL g b) (i : Int)) = false
  here : ∀ i : Nat, i < (membersL g b).length → (i : Int) = pickP g a b → askB false g a (rd (membersL g b) (i : Int)) = true
  bound : pickP g a b = -1 → (rd_T37 g a).f0 = 9 ∧ askB false g (rd (rd_T37 g a).f4 0) b = true
theorem pick_law {g : List S37} {a b : Int} (ha : 0 ≤ a ∧ a < g.length) (hb : 0 ≤ b ∧ b < g.length) (h8 : (rd_T37 g a).f0 ≠ 8) : PickLaw g a b := by
  by_cases hc : checkP g = 0
  · have hP : pickP g a b = pickB false g a b (standsB false g) := by
      unfold pickP
      rw [mayOf_two ha hb, decide_eq_true hc, if_pos ⟨rfl, h8⟩]
    have hall := check_all hc
    have hask := ask_pick (st := false) hc ha hb h8
    rw [← hP] at hask
    have hone : ∀ i : Nat, i < (membersL g b).length → (askB false g a (rd (membersL g b) (i : Int)) = true ↔ doesB false (rd_T37 g a) (rd_T37 g (rd (membersL g b) (i : Int))) (standsB false g) = true ∨ ((rd_T37 g a).f0 = 9 ∧ standsB false g (rd (rd_T37 g a).f4 0, rd (membersL g b) (i : Int)) = true)) := by
      intro i hi
      have hm := members_in hall (rd_memI (l := membersL g b) (i := (i : Int)) (by omega) (by omega))
      rw [ask_pick hc ha ⟨hm.1, hm.2.1⟩ h8, ne_eq, pickB_none, members_one hm.1 hm.2.1 hm.2.2]
      simp only [List.mem_singleton, forall_eq]
      cases doesB false (rd_T37 g a) (rd_T37 g (rd (membersL g b) (i : Int))) (standsB false g) <;> simp
    refine ⟨?_, ?_, ?_, ?_, ?_, ?_⟩
    · rw [hP]
      rcases pickB_cases false g a b (standsB false g) with ⟨j, h1, _⟩ | ⟨h1, _⟩ | h1 <;> rw [h1] <;> omega
    · rw [hP]
      rcases pickB_cases false g a b (standsB false g) with ⟨j, h1, h2, _⟩ | ⟨h1, _⟩ | h1 <;> rw [h1] <;> omega
    · rw [Bool.eq_iff_iff, hask]; simp
    · intro i hi hik h9
      rw [hP] at hik
      apply Bool.eq_false_iff.2
      intro ht
      rcases (hone i hi).1 ht with h | h
      · rcases pickB_cases false g a b (standsB false g) with ⟨j, h1, _, _, h4⟩ | ⟨h1, _⟩ | h1
        · rw [h4 i (by omega)] at h; cases h
        · omega
        · omega
      · exact h9 h.1
    · intro i hi hik
      rw [hP] at hik
      rcases pickB_cases false g a b (standsB false g) with ⟨j, h1, _, h3, _⟩ | ⟨h1, _⟩ | h1
      · obtain rfl : i = j := by omega
        exact (hone i hi).2 (.inl h3)
      · omega
      · omega
    · intro h
      rw [hP] at h
      rcases pickB_cases false g a b (standsB false g) with ⟨j, h1, _⟩ | ⟨h1, h2, h3⟩ | h1
      · omega
      · obtain ⟨k, hk, hk0, hk1⟩ := may_var (hall _ (rd37_mem ha.1 ha.2)) h2
        refine ⟨h2, ?_⟩
        have hr : rd (rd_T37 g a).f4 0 = k := by rw [hk]; rfl
        rw [hr] at h3 ⊢
        unfold askB
        rw [mayOf_two ⟨hk0, hk1⟩ hb, decide_eq_true hc, h3]
        rfl
      · omega
  · have hno : ∀ x y, askB false g x y = false := fun x y => by
      have : mayOf g [x, y] = false := by unfold mayOf; rw [decide_eq_false hc]; rfl
      unfold askB
      rw [this]
      rfl
    have hP : pickP g a b = -2 := by
      unfold pickP
      rw [mayOf_two ha hb, decide_eq_false hc, if_neg (by simp)]
    refine ⟨by omega, by omega, by rw [hno, hP]; rfl, fun i _ h => by omega, fun i _ h => by omega, fun h => by omega⟩
end Go.Proofs.YtcljgfpcdlnlkaaDoor.Q
namespace Go.Proofs.YtcljgfpcdlnlkaaDoor.Q
open Go.RowKit Go.Proofs.YtcljgfpcdlnlkaaDoorW.PrintWords Mp
/-- A key that stands somewhere stands there. -/
theorem keyAt_at {l : List ByteArray} {s : ByteArray} (h : 0 ≤ keyAt l s) : ∃ k : Nat, keyAt l s = k ∧ k < l.length ∧ l.getD k ByteArray.empty = s := by
  induction l with
  | nil => simp [keyAt] at h
  | cons x l ih =>
    by_cases hx : x = s
    · exact ⟨0, by simp only [keyAt, if_pos hx]; rfl, by simp, by simpa using hx⟩
    · simp only [keyAt, if_neg hx] at h ⊢
      by_cases hk : keyAt l s < 0
      · rw [if_pos hk] at h; exact absurd h (by decide)
      · obtain ⟨k, h1, h2, h3⟩ := ih (by omega)
        rw [if_neg hk]
        exact ⟨k + 1, by rw [h1]; simp, by simpa using h2, by simpa using h3⟩
theorem keyAt_nodup {l : List ByteArray} (h : l.Nodup) {i : Nat} (hi : i < l.length) : keyAt l (l.getD i ByteArray.empty) = i := by
  refine keyAt_some l _ i hi rfl fun j hj he => ?_
  rw [List.getD_eq_getElem?_getD, List.getD_eq_getElem?_getD, List.getElem?_eq_getElem hi, List.getElem?_eq_getElem (show j < l.length by omega)] at he
  exact (List.pairwise_iff_getElem.1 h) j i (by omega) hi hj (by simpa using he)
theorem recordB_iff {s t : S37} {R : Rel} : recordB s t R = true ↔ ∀ i : Nat, i < t.f3.length → 0 ≤ keyAt s.f3 (t.f3.getD i ByteArray.empty) ∧ R (rd s.f4 (keyAt s.f3 (t.f3.getD i ByteArray.empty)), rd t.f4 (i : Int)) = true := by
  unfold recordB
  rw [List.all_eq_true]
  simp only [List.mem_range, fieldB, Bool.and_eq_true, decide_eq_true_eq]
theorem doesB_refl {st : Bool} {s : S37} {R : Rel} (hR : ∀ x, R (x, x) = true) (hk : s.f3.Nodup) : doesB st s s R = true := by
  unfold doesB
  by_cases h1 : s.f0 = 1 ∨ s.f0 = 1
  · rw [if_pos h1]; simp
  rw [if_neg h1, decide_eq_true rfl, Bool.true_and]
  by_cases h5 : s.f0 = 5
  · rw [if_pos h5]; simp
  by_cases h7 : s.f0 = 7
  · rw [if_neg h5, if_pos h7, recordB_iff]
    intro i hi
    rw [keyAt_nodup hk hi]
    exact ⟨by omega, hR _⟩
  by_cases h9 : s.f0 = 9
  · rw [if_neg h5, if_neg h7, if_pos h9]
    unfold variableB
    rw [hR]
    simp
  · rw [if_neg h5, if_neg h7, if_neg h9]
theorem pick_of_does {st : Bool} {g : List S37} {a b k : Int} {R : Rel} (hk : k ∈ membersL g b) (h : doesB st (rd_T37 g a) (rd_T37 g k) R = true) : pickB st g a b R ≠ -2 := by
  rw [ne_eq, pickB_none]
  intro hn
  rw [hn.1 k hk] at h
  cases h
theorem pick_of_bound {st : Bool} {g : List S37} {a b : Int} {R : Rel} (h9 : (rd_T37 g a).f0 = 9) (h : R (rd (rd_T37 g a).f4 0, b) = true) : pickB st g a b R ≠ -2 := by
  rw [ne_eq, pickB_none]
  exact fun hn => hn.2 ⟨h9, h⟩
theorem pick_or {st : Bool} {g : List S37} {a b : Int} {R : Rel} (h : pickB st g a b R ≠ -2) : (∃ k ∈ membersL g b, doesB st (rd_T37 g a) (rd_T37 g k) R = true) ∨ ((rd_T37 g a).f0 = 9 ∧ R (rd (rd_T37 g a).f4 0, b) = true) := by
  rcases Classical.em (∃ k ∈ membersL g b, doesB st (rd_T37 g a) (rd_T37 g k) R = true) with h1 | h1
  · exact .inl h1
  · refine .inr (Classical.byContradiction fun h2 => h (pickB_none.2 ⟨fun k hk => ?_, h2⟩))
    exact Bool.eq_false_iff.2 fun h3 => h1 ⟨k, hk, h3⟩
theorem rd37_keys {g : List S37} (h : ∀ x ∈ g, x.f3.Nodup) (a : Int) : (rd_T37 g a).f3.Nodup := by
  unfold rd_T37
  rw [List.getD_eq_getElem?_getD]
  cases e : g[a.toNat]? with
  | none => exact List.nodup_nil
  | some x => exact h x (List.mem_of_getElem? e)
theorem stands_refl {st : Bool} {g : List S37} (h : ∀ x ∈ g, x.f3.Nodup) (a : Int) : standsB st g (a, a) = true := by
  refine stands_of (fun p => decide (p.1 = p.2)) (fun q hq => ?_) (a, a) (by simp)
  rw [holdsB_iff]
  intro s hs
  rw [← of_decide_eq_true hq]
  exact pick_of_does hs (doesB_refl (fun x => by simp) (rd37_keys h s))
/-- One behind the other. -/
noncomputable def thenB (S T : Rel) : Rel := fun p => @decide (∃ b, S (p.1, b) = true ∧ T (b, p.2) = true) (Classical.propDecidable _)
theorem thenB_iff {S T : Rel} {p : Int × Int} : thenB S T p = true ↔ ∃ b, S (p.1, b) = true ∧ T (b, p.2) = true := by unfold thenB; exact @decide_eq_true_iff _ (Classical.propDecidable _)
theorem does_trans {s k m : S37} {S T : Rel} (h1 : doesB true s k S = true) (h2 : doesB true k m T = true) : doesB true s m (thenB S T) = true := by
  unfold doesB at h1 h2 ⊢
  by_cases a1 : s.f0 = 1 ∨ k.f0 = 1
  · rw [if_pos a1] at h1
    have e1 : s.f0 = k.f0 := by simpa using h1
    rw [if_pos (by omega)] at h2
    have e2 : k.f0 = m.f0 := by simpa using h2
    rw [if_pos (by omega)]
    simp only [Bool.not_true, Bool.false_or, decide_eq_true_eq]
    omega
  · rw [if_neg a1] at h1
    simp only [Bool.and_eq_true, decide_eq_true_eq] at h1
    obtain ⟨e1, h1⟩ := h1
    by_cases a2 : k.f0 = 1 ∨ m.f0 = 1
    · rw [if_pos a2] at h2
      have e2 : k.f0 = m.f0 := by simpa using h2
      omega
    · rw [if_neg a2] at h2
      simp only [Bool.and_eq_true, decide_eq_true_eq] at h2
      obtain ⟨e2, h2⟩ := h2
      rw [if_neg (by omega), decide_eq_true (show s.f0 = m.f0 by omega), Bool.true_and]
      by_cases h5 : s.f0 = 5
      · rw [if_pos h5] at h1 ⊢
        rw [if_pos (by omega)] at h2
        have := of_decide_eq_true h1
        have := of_decide_eq_true h2
        simp_all
      by_cases h7 : s.f0 = 7
      · rw [if_neg h5, if_pos h7] at h1 ⊢
        rw [if_neg (by omega), if_pos (by omega)] at h2
        rw [recordB_iff] at h1 h2 ⊢
        intro i hi
        obtain ⟨g1, g2⟩ := h2 i hi
        obtain ⟨j, hj, hjl, hje⟩ := keyAt_at g1
        have := h1 j hjl
        rw [hje] at this
        rw [hj] at g2
        exact ⟨this.1, thenB_iff.2 ⟨_, this.2, g2⟩⟩
      by_cases h9 : s.f0 = 9
      · rw [if_neg h5, if_neg h7, if_pos h9] at h1 ⊢
        rw [if_neg (by omega), if_neg (by omega), if_pos (by omega)] at h2
        unfold variableB at h1 h2 ⊢
        simp only [Bool.and_eq_true, decide_eq_true_eq] at h1 h2 ⊢
        exact ⟨h1.1.trans h2.1, thenB_iff.2 ⟨_, h1.2, h2.2⟩⟩
      · rw [if_neg h5, if_neg h7, if_neg h9]
theorem does_var {s k : S37} {S : Rel} (h : doesB true s k S = true) (h9 : k.f0 = 9) : s.f0 = 9 ∧ S (rd s.f4 0, rd k.f4 0) = true := by
  unfold doesB at h
  by_cases a1 : s.f0 = 1 ∨ k.f0 = 1
  · rw [if_pos a1] at h
    have e1 : s.f0 = k.f0 := by simpa using h
    omega
  · rw [if_neg a1] at h
    simp only [Bool.and_eq_true, decide_eq_true_eq] at h
    obtain ⟨e1, h⟩ := h
    rw [if_neg (by omega), if_neg (by omega), if_pos (by omega)] at h
    unfold variableB at h
    simp only [Bool.and_eq_true, decide_eq_true_eq] at h
    exact ⟨by omega, h.2⟩
theorem stands_trans {g : List S37} {a b c : Int} (h1 : standsB true g (a, b) = true) (h2 : standsB true g (b, c) = true) : standsB true g (a, c) = true := by
  refine stands_of (thenB (standsB true g) (standsB true g)) (fun q hq => ?_) (a, c) (thenB_iff.2 ⟨b, h1, h2⟩)
  obtain ⟨y, hxy, hyz⟩ := thenB_iff.1 hq
  have hh1 := holdsB_iff.1 (stands_holds hxy)
  have hh2 := holdsB_iff.1 (stands_holds hyz)
  rw [holdsB_iff]
  intro s hs
  rcases pick_or (hh1 s hs) with ⟨k, hk, hd⟩ | ⟨h9, hb⟩
  · rcases pick_or (hh2 k hk) with ⟨m, hm, hd2⟩ | ⟨h9, hb⟩
    · exact pick_of_does hm (does_trans hd hd2)
    · have := does_var hd h9
      exact pick_of_bound this.1 (thenB_iff.2 ⟨_, this.2, hb⟩)
  · exact pick_of_bound h9 (thenB_iff.2 ⟨_, hb, hyz⟩)
end Go.Proofs.YtcljgfpcdlnlkaaDoor.Q
namespace Go.Proofs.YtcljgfpcdlnlkaaDoor.Q
open Go.RowKit Go.Proofs.YtcljgfpcdlnlkaaDoorW.PrintWords Mp
/-- The rule reads pairs of places alone. -/
theorem recordB_in {g : List S37} {s t : S37} {R S : Rel} (hs : s.f4.length = s.f3.length) (ht : t.f4.length = t.f3.length) (is : ∀ k ∈ s.f4, 0 ≤ k ∧ k < g.length) (it : ∀ k ∈ t.f4, 0 ≤ k ∧ k < g.length) (h : ∀ q, InG g q → R q = true → S q = true) (hf : recordB s t R = true) : recordB s t S = true := by
  rw [recordB_iff] at hf ⊢
  intro i hi
  obtain ⟨h1, h2⟩ := hf i hi
  refine ⟨h1, h _ ?_ h2⟩
  have hl := (keyAt_lt s.f3 (t.f3.getD i ByteArray.empty)).2
  have a := is _ (rd_memI (l := s.f4) h1 (by omega))
  have b := it _ (rd_memI (l := t.f4) (i := (i : Int)) (by omega) (by omega))
  exact ⟨a.1, a.2, b.1, b.2⟩
theorem does_in {st : Bool} {g : List S37} {s t : S37} {R S : Rel} (hs : Fine s) (ht : Fine t) (is : ∀ k ∈ s.f4, 0 ≤ k ∧ k < g.length) (it : ∀ k ∈ t.f4, 0 ≤ k ∧ k < g.length) (h : ∀ q, InG g q → R q = true → S q = true) (hf : doesB st s t R = true) : doesB st s t S = true := by
  unfold doesB at hf ⊢
  by_cases h1 : s.f0 = 1 ∨ t.f0 = 1
  · rw [if_pos h1] at hf ⊢; exact hf
  rw [if_neg h1] at hf ⊢
  simp only [Bool.and_eq_true, decide_eq_true_eq] at hf ⊢
  obtain ⟨e, hf⟩ := hf
  refine ⟨e, ?_⟩
  by_cases h5 : s.f0 = 5
  · rw [if_pos h5] at hf ⊢; exact hf
  by_cases h7 : s.f0 = 7
  · rw [if_neg h5, if_pos h7] at hf ⊢
    exact recordB_in (hs.recs h7) (ht.recs (by omega)) is it h hf
  by_cases h9 : s.f0 = 9
  · rw [if_neg h5, if_neg h7, if_pos h9] at hf ⊢
    unfold variableB at hf ⊢
    simp only [Bool.and_eq_true, decide_eq_true_eq] at hf ⊢
    refine ⟨hf.1, h _ ?_ hf.2⟩
    have ls := hs.vars h9
    have lt := ht.vars (by omega)
    have a := is _ (rd_memI (l := s.f4) (i := 0) (by omega) (by omega))
    have b := it _ (rd_memI (l := t.f4) (i := 0) (by omega) (by omega))
    exact ⟨a.1, a.2, b.1, b.2⟩
  · rw [if_neg h5, if_neg h7, if_neg h9]
theorem holdsB_in {st : Bool} {g : List S37} {R S : Rel} (hv : Valid g) (h : ∀ q, InG g q → R q = true → S q = true) {a b : Int} (hp : InG g (a, b)) (hf : holdsB st g (a, b) R = true) : holdsB st g (a, b) S = true := by
  rw [holdsB_iff] at hf ⊢
  intro s hs
  have hsi := (hv.members hp.1 hp.2.1).1 s hs
  rcases pick_or (hf s hs) with ⟨k, hk, hd⟩ | ⟨h9, hb⟩
  · have hki := (hv.members hp.2.2.1 hp.2.2.2).1 k hk
    exact pick_of_does hk (does_in (hv.fine hsi.1 hsi.2.1 hsi.2.2) (hv.fine hki.1 hki.2.1 hki.2.2) (hv.inside hsi.1 hsi.2.1) (hv.inside hki.1 hki.2.1) h hd)
  · have ls := (hv.fine hsi.1 hsi.2.1 hsi.2.2).vars h9
    have a := hv.inside hsi.1 hsi.2.1 _ (rd_memI (l := (rd_T37 g s).f4) (i := 0) (by omega) (by omega))
    exact pick_of_bound h9 (h _ ⟨a.1, a.2, hp.2.2.1, hp.2.2.2⟩ hb)
theorem holdsB_alike {st : Bool} {g : List S37} {R S : Rel} (hv : Valid g) (h : ∀ q, InG g q → R q = S q) {a b : Int} (hp : InG g (a, b)) : holdsB st g (a, b) R = holdsB st g (a, b) S := by
  rw [Bool.eq_iff_iff]
  exact ⟨holdsB_in hv (fun q hq e => by rw [← h q hq]; exact e) hp, holdsB_in hv (fun q hq e => by rw [h q hq]; exact e) hp⟩
/-! tables -/
def getT (M : List (List Bool)) (a b : Nat) : Bool := (M.getD a []).getD b false
def setT (M : List (List Bool)) (a b : Nat) : List (List Bool) := M.set a ((M.getD a []).set b false)
structure Sq (n : Nat) (M : List (List Bool)) : Prop where
  len : M.length = n
  row : ∀ i, i < n → (M.getD i []).length = n
theorem getD_set {α : Type} (l : List α) (d : α) (i j : Nat) (x : α) (hi : i < l.length) : (l.set i x).getD j d = if j = i then x else l.getD j d := by
  rw [List.getD_eq_getElem?_getD, List.getD_eq_getElem?_getD, List.getElem?_set]
  by_cases h : j = i
  · subst h; simp [hi]
  · rw [if_neg h, if_neg (fun e => h e.symm)]
theorem Sq.set {n : Nat} {M : List (List Bool)} (h : Sq n M) {a b : Nat} (ha : a < n) : Sq n (setT M a b) := ⟨by simp [setT, h.len], fun i hi => by
  unfold setT
  rw [getD_set _ _ _ _ _ (by rw [h.len]; exact ha)]
  split
  · rw [List.length_set]; exact h.row a ha
  · exact h.row i hi⟩
theorem getT_set {n : Nat} {M : List (List Bool)} (h : Sq n M) {a b : Nat} (ha : a < n) (hb : b < n) (i j : Nat) : getT (setT M a b) i j = (getT M i j && !(decide (i = a) && decide (j = b))) := by
  unfold getT setT
  rw [getD_set _ _ _ _ _ (by rw [h.len]; exact ha)]
  by_cases hi : i = a
  · subst hi
    rw [if_pos rfl, getD_set _ _ _ _ _ (by rw [h.row i ha]; exact hb)]
    by_cases hj : j = b
    · rw [if_pos hj]; simp [hj]
    · rw [if_neg hj]; simp [hj]
  · rw [if_neg hi]; simp [hi]
def relT (n : Nat) (M : List (List Bool)) : Rel := fun p => (decide (0 ≤ p.1) && decide (p.1 < n) && decide (0 ≤ p.2) && decide (p.2 < n)) && getT M p.1.toNat p.2.toNat
theorem relT_nat {n : Nat} {M : List (List Bool)} {i j : Nat} (hi : i < n) (hj : j < n) : relT n M ((i : Int), (j : Int)) = getT M i j := by
  unfold relT
  simp [hi, hj]
theorem relT_in {g : List S37} {M : List (List Bool)} {p : Int × Int} (h : relT g.length M p = true) : InG g p := by
  unfold relT at h
  simp only [Bool.and_eq_true, decide_eq_true_eq] at h
  exact ⟨h.1.1.1.1, h.1.1.1.2, h.1.1.2, h.1.2⟩
/-- What taking away keeps: what stands is still there. -/
structure Fix (st : Bool) (g : List S37) (M : List (List Bool)) : Prop where
  sq : Sq g.length M
  sound : ∀ i j : Nat, i < g.length → j < g.length → standsB st g ((i : Int), (j : Int)) = true → getT M i j = true
theorem Fix.full (st : Bool) (g : List S37) : Fix st g (List.replicate g.length (List.replicate g.length true)) := ⟨⟨by simp, fun i hi => by simp [List.getD_eq_getElem?_getD, hi]⟩, fun i j hi hj _ => by simp [getT, List.getD_eq_getElem?_getD, hi, hj]⟩
theorem Fix.le {st : Bool} {g : List S37} {M : List (List Bool)} (h : Fix st g M) (q : Int × Int) (hq : InG g q) (hs : standsB st g q = true) : relT g.length M q = true := by
  obtain ⟨a, b⟩ := q
  obtain ⟨h0, h1, h2, h3⟩ := hq
  simp only at h0 h1 h2 h3
  obtain ⟨i, rfl⟩ : ∃ i : Nat, a = i := ⟨a.toNat, by omega⟩
  obtain ⟨j, rfl⟩ : ∃ j : Nat, b = j := ⟨b.toNat, by omega⟩
  rw [relT_nat (by omega) (by omega)]
  exact h.sound i j (by omega) (by omega) hs
theorem Fix.step {st : Bool} {g : List S37} {M : List (List Bool)} (h : Fix st g M) (hv : Valid g) {a b : Nat} (ha : a < g.length) (hb : b < g.length) (hn : holdsB st g ((a : Int), (b : Int)) (relT g.length M) = false) : Fix st g (setT M a b) := ⟨h.sq.set ha, fun i j hi hj hs => by
  rw [getT_set h.sq ha hb, h.sound i j hi hj hs, Bool.true_and, Bool.not_eq_true']
  apply Bool.eq_false_iff.2
  intro e
  simp only [Bool.and_eq_true, decide_eq_true_eq] at e
  obtain ⟨rfl, rfl⟩ := e
  have := holdsB_in hv h.le (a := (i : Int)) (b := (j : Int)) ⟨by simp only; omega, by simp only; omega, by simp only; omega, by simp only; omega⟩ (stands_holds hs)
  rw [hn] at this
  cases this⟩
/-- A table in which nothing is to be taken away is what stands. -/
theorem Fix.done {st : Bool} {g : List S37} {M : List (List Bool)} (h : Fix st g M) (hall : ∀ i j : Nat, i < g.length → j < g.length → getT M i j = true → holdsB st g ((i : Int), (j : Int)) (relT g.length M) = true) : M = tableB st g g.length := by
  have hpost : Le (relT g.length M) (standsB st g) := stands_of _ (fun q hq => by
    have hi := relT_in hq
    obtain ⟨a, b⟩ := q
    obtain ⟨h0, h1, h2, h3⟩ := hi
    simp only at h0 h1 h2 h3
    obtain ⟨i, rfl⟩ : ∃ i : Nat, a = i := ⟨a.toNat, by omega⟩
    obtain ⟨j, rfl⟩ : ∃ j : Nat, b = j := ⟨b.toNat, by omega⟩
    rw [relT_nat (by omega) (by omega)] at hq
    exact hall i j (by omega) (by omega) hq)
  have hget : ∀ i j : Nat, i < g.length → j < g.length → getT M i j = standsB st g ((i : Int), (j : Int)) := fun i j hi hj => by
    rw [Bool.eq_iff_iff]
    refine ⟨fun e => hpost _ (by rw [relT_nat hi hj]; exact e), h.sound i j hi hj⟩
  refine List.ext_getElem (by simp [tableB, h.sq.len]) fun i h1 h2 => ?_
  have hi : i < g.length := by rw [← h.sq.len]; exact h1
  have hrow := h.sq.row i hi
  have e1 : M.getD i [] = M[i] := by rw [List.getD_eq_getElem?_getD, List.getElem?_eq_getElem h1]; rfl
  refine List.ext_getElem (by rw [← e1, hrow]; simp [tableB, rowB]) fun j h3 h4 => ?_
  have hj : j < g.length := by rw [← hrow, e1]; exact h3
  have := hget i j hi hj
  unfold getT at this
  rw [e1, List.getD_eq_getElem?_getD, List.getElem?_eq_getElem h3] at this
  simpa [tableB, rowB] using this
theorem getT_table {st : Bool} {g : List S37} {i j : Nat} (hi : i < g.length) (hj : j < g.length) : getT (tableB st g g.length) i j = standsB st g ((i : Int), (j : Int)) := by
  unfold getT tableB rowB
  simp [List.getD_eq_getElem?_getD, hi, hj]
theorem sq_table (st : Bool) (g : List S37) : Sq g.length (tableB st g g.length) := ⟨by simp [tableB], fun i hi => by simp [tableB, rowB, List.getD_eq_getElem?_getD, hi]⟩
/-! how much there is left to take away -/
def cntR (r : List Bool) : Nat := (r.filter id).length
def cntT (M : List (List Bool)) : Nat := (M.map cntR).sum
theorem cntR_set {r : List Bool} {b : Nat} (h : r.getD b false = true) : cntR (r.set b false) < cntR r := by
  induction r generalizing b with
  | nil => simp at h
  | cons x r ih =>
    cases b with
    | zero =>
      have : x = true := by simpa using h
      subst this
      simp [cntR]
    | succ b =>
      have := ih (b := b) (by simpa using h)
      simp only [cntR, List.set_cons_succ] at this ⊢
      cases x <;> simpa using this
theorem cntT_set {M : List (List Bool)} {a b : Nat} (h : getT M a b = true) : cntT (setT M a b) < cntT M := by
  unfold getT at h
  unfold setT
  induction M generalizing a with
  | nil => simp at h
  | cons r M ih =>
    cases a with
    | zero =>
      have := cntR_set (r := r) (b := b) (by simpa using h)
      simp only [cntT, List.set_cons_zero, List.getD_cons_zero, List.map_cons, List.sum_cons]
      omega
    | succ a =>
      have := ih (a := a) (by simpa using h)
      simp only [cntT, List.set_cons_succ, List.getD_cons_succ, List.map_cons, List.sum_cons] at this ⊢
      omega
end Go.Proofs.YtcljgfpcdlnlkaaDoor.Q
namespace Go.Proofs.YtcljgfpcdlnlkaaDoor.Q
open Go.RowKit Go.Proofs.YtcljgfpcdlnlkaaDoorW.PrintWords Mp
theorem bool_cell {w : World} {A : Option Addr} {n : Nat} {xs : List Bool} (h : Kd.C Kd.bool w A n xs) (i : Nat) (hi : i < n) : ∃ ad, A = some ad ∧ w.cell? (ad.add i) = some (.bool (xs.getD i false)) := by
  obtain ⟨ad, c, e, _, hK, hc⟩ := Kd.C_get h false i (by omega) (by omega)
  have := hc 0 (.bool (xs.getD i false)) (by rw [show c = [Value.bool (xs.getD (i : Int).toNat false)] from hK]; rfl)
  refine ⟨ad, e, ?_⟩
  simpa [Kd.bool, Kd.scalar] using this
abbrev kRow : Kd (List Bool) := Kd.slice 4 Kd.bool
theorem tab_row {w : World} {A : Option Addr} {n : Nat} {M : List (List Bool)} (h : Kd.C kRow w A n M) (i : Nat) (hi : i < n) : ∃ ad B c, A = some ad ∧ w.cell? (ad.add i) = some (.slice B (M.getD i []).length c) ∧ Kd.C Kd.bool w B (M.getD i []).length (M.getD i []) := by
  obtain ⟨ad, c, e, _, hK, hc⟩ := Kd.C_get h [] i (by omega) (by omega)
  obtain ⟨B, b, rfl, _, hB⟩ := hK
  have := hc 0 _ rfl
  rw [Int.toNat_natCast] at this hB
  refine ⟨ad, B, b, e, ?_, hB⟩
  rw [show (i * kRow.sz + 0) = i from by show i * 1 + 0 = i; omega] at this
  exact this
/-- A cell of a table. -/
theorem tab_cell {w : World} {A : Option Addr} {n : Nat} {M : List (List Bool)} (h : Kd.C kRow w A n M) (hs : Sq n M) (i j : Nat) (hi : i < n) (hj : j < n) : ∃ ad bd c, A = some ad ∧ w.cell? (ad.add i) = some (.slice (some bd) n c) ∧ w.cell? (bd.add j) = some (.bool (getT M i j)) := by
  obtain ⟨ad, B, c, e, h1, h2⟩ := tab_row h i hi
  obtain ⟨bd, rfl, h3⟩ := bool_cell h2 j (by rw [hs.row i hi]; exact hj)
  rw [hs.row i hi] at h1
  exact ⟨ad, bd, c, e, h1, h3⟩
structure Told29 (st : Bool) (g : List S37) (M : List (List Bool)) : Prop where
  sq : Sq g.length M
  get : ∀ i j : Nat, i < g.length → j < g.length → getT M i j = standsB st g ((i : Int), (j : Int))
theorem all_told (w : World) (A : Option Addr) (c : Nat) (g : List S37) (st : Bool) (h0 : checkP g = 0) (hk : KeysIn w) (hg : Kd.C k37 w A g.length g) (hs : ∀ x ∈ g, x.f3.length ≤ 9223372036854775807 ∧ x.f4.length ≤ 9223372036854775807) :
    Calls Tryd.prog 29 #[.slice A g.length c, .bool st] w fun e w' => ∃ B b M, e = .returned (.tuple #[.slice B g.length b, .int .i64 0]) ∧ Kd.C kRow w' B g.length M ∧ Told29 st g M ∧ Below w.heap.size w w' := by
  refine (all_calls w A c g st hk hg hs).mono ?_
  rintro e w' ⟨hb, ⟨h1, _⟩ | ⟨_, v, rfl, hR⟩⟩
  · exact absurd h0 h1
  · obtain ⟨B, b, rfl, _, hC⟩ := Kd.R_reads hR
    have hl : (tableB st g g.length).length = g.length := by simp [tableB]
    rw [hl] at hC ⊢
    exact ⟨B, b, _, rfl, hC, ⟨sq_table st g, fun i j hi hj => getT_table hi hj⟩, hb⟩
end Go.Proofs.YtcljgfpcdlnlkaaDoor.Q
