/- The law SubUnions and its tied card: for every input it returns true, and its arguments read as they did. Conditions: those of each theorem's own statement. -/
import Derived.Test.YtcljgfpcdlnlkaaDoorJoinD
import Derived.Test.YtcljgfpcdlnlkaaDoorJoinC
import Derived.Test.YtcljgfpcdlnlkaaDoorJoinE
import Derived.Test.YtcljgfpcdlnlkaaDoorTie
import Derived.Test.YtcljgfpcdlnlkaaDoorClosedA
import Derived.Test.YtcljgfpcdlnlkaaDoorClosedB
import Derived.Test.YtcljgfpcdlnlkaaDoorClosedC
import Derived.SevenTiedAt
namespace Go.Proofs.YtcljgfpcdlnlkaaDoor.Q
open Go.RowKit Go.Proofs.YtcljgfpcdlnlkaaDoorW.PrintWords Mp
theorem union_both {st : Bool} {h : List S37} {a b u : Int} (c : Int) (hu : ∀ k, k ∈ membersL h u ↔ k ∈ membersL h a ∨ k ∈ membersL h b) : standsB st h (u, c) = (standsB st h (a, c) && standsB st h (b, c)) := by
  rw [Bool.eq_iff_iff, Bool.and_eq_true, stands_fix st h (u, c), stands_fix st h (a, c), stands_fix st h (b, c), holdsB_iff, holdsB_iff, holdsB_iff]
  constructor
  · exact fun H => ⟨fun s hs => H s ((hu s).2 (.inl hs)), fun s hs => H s ((hu s).2 (.inr hs))⟩
  · rintro ⟨h1, h2⟩ s hs
    rcases (hu s).1 hs with h | h
    · exact h1 s h
    · exact h2 s h
theorem union_over {st : Bool} {h : List S37} {a u c : Int} (hu : ∀ k ∈ membersL h a, k ∈ membersL h u) (hc : standsB st h (c, a) = true) : standsB st h (c, u) = true := by
  refine stands_of (fun p => standsB st h p || (decide (p.2 = u) && standsB st h (p.1, a))) (fun q hq => ?_) (c, u) (by simp [hc])
  rcases Bool.or_eq_true _ _ ▸ hq with h1 | h1
  · exact holdsB_mono (fun r hr => by simp [hr]) (stands_holds h1)
  · obtain ⟨e, h1⟩ := Bool.and_eq_true _ _ ▸ h1
    have e := of_decide_eq_true e
    have hh := holdsB_iff.1 (stands_holds h1)
    rw [holdsB_iff, e]
    intro s hs
    rcases pick_or (hh s hs) with ⟨k, hk, hd⟩ | ⟨h9, hb⟩
    · exact pick_of_does (hu k hk) (doesB_mono (fun r hr => by simp [hr]) st _ _ hd)
    · exact pick_of_bound h9 (by simp only [decide_true, Bool.true_and, Bool.or_eq_true]; exact .inr hb)
/-- The graph with two records and a union laid behind it. -/
def unionsG (g : List S37) (a b : Int) (L : List Int) : List S37 := g ++ [⟨7, 0, ⟨#[]⟩, [kA, kB], [a, b]⟩, ⟨7, 0, ⟨#[]⟩, [kA], [a]⟩] ++ [⟨8, 0, ⟨#[]⟩, [], L⟩]
theorem unionsG_len (g : List S37) (a b : Int) (L : List Int) : (unionsG g a b L).length = g.length + 3 := by simp [unionsG]
theorem unionsG_low {g : List S37} {a b : Int} {L : List Int} {x : Int} (h0 : 0 ≤ x) (h1 : x < g.length) : rd_T37 (unionsG g a b L) x = rd_T37 g x := by
  unfold rd_T37 unionsG
  rw [List.append_assoc, List.getD_eq_getElem?_getD, List.getD_eq_getElem?_getD, List.getElem?_append_left (by omega)]
theorem unionsG_0 (g : List S37) (a b : Int) (L : List Int) : rd_T37 (unionsG g a b L) (g.length : Int) = ⟨7, 0, ⟨#[]⟩, [kA, kB], [a, b]⟩ := by
  unfold rd_T37 unionsG
  rw [List.append_assoc, List.getD_eq_getElem?_getD, Int.toNat_natCast, List.getElem?_append_right (Nat.le_refl _), Nat.sub_self]
  rfl
theorem unionsG_1 (g : List S37) (a b : Int) (L : List Int) : rd_T37 (unionsG g a b L) ((g.length : Int) + 1) = ⟨7, 0, ⟨#[]⟩, [kA], [a]⟩ := by
  unfold rd_T37 unionsG
  rw [List.append_assoc, List.getD_eq_getElem?_getD, show ((g.length : Int) + 1).toNat = g.length + 1 by omega, List.getElem?_append_right (by omega), Nat.add_sub_cancel_left]
  rfl
theorem unionsG_2 (g : List S37) (a b : Int) (L : List Int) : rd_T37 (unionsG g a b L) ((g.length : Int) + 2) = ⟨8, 0, ⟨#[]⟩, [], L⟩ := by
  unfold rd_T37 unionsG
  rw [List.append_assoc, List.getD_eq_getElem?_getD, show ((g.length : Int) + 2).toNat = g.length + 2 by omega, List.getElem?_append_right (by omega), Nat.add_sub_cancel_left]
  rfl
theorem unionsG_members {g : List S37} {a b : Int} {L : List Int} {x : Int} (h0 : 0 ≤ x) (h1 : x < g.length) : membersL (unionsG g a b L) x = membersL g x := by
  unfold membersL
  rw [unionsG_len, unionsG_low h0 h1, if_neg (by omega), if_neg (show ¬ (x < 0 ∨ (g.length : Int) ≤ x) by omega)]
theorem unionsG_both (g : List S37) (a b : Int) (L : List Int) : membersL (unionsG g a b L) ((g.length : Int) + 2) = L := by
  unfold membersL
  rw [unionsG_len, unionsG_2, if_neg (by omega), if_pos rfl]
theorem may_rec {g : List S37} {L : List Int} (hL : L.length ≤ 2) (hin : ∀ a ∈ L, 0 ≤ a ∧ a < g.length) : mayB g ⟨7, 0, ⟨#[]⟩, [kA, kB, kC3].take L.length, L⟩ = true :=
  node_may (dyn := true) (plain := 0) (i := 0) (by omega) (fun a h0 h1 => by omega) (.inr (.inr (.inr (.inl ⟨L, hL, hin, rfl⟩))))
theorem may_both {g : List S37} {L : List Int} (hin : ∀ a ∈ L, 0 ≤ a ∧ a < g.length ∧ (rd_T37 g a).f0 ≠ 8) (h2 : 2 ≤ L.length) (hd : distinctB L = true) : mayB g ⟨8, 0, ⟨#[]⟩, [], L⟩ = true := by
  have hh : headB g.length ⟨8, 0, ⟨#[]⟩, [], L⟩ = false := by
    unfold headB
    rw [outs_in (fun a ha => ⟨(hin a ha).1, (hin a ha).2.1⟩)]
    simp [ByteArray.size]
  unfold mayB
  rw [hh, if_neg (by decide), if_neg (show ¬ ((8 : Int) = 1 ∨ (8 : Int) = 2 ∨ (8 : Int) = 3 ∨ (8 : Int) = 4) by decide), if_neg (show ¬ (8 : Int) = 5 by decide), if_neg (show ¬ (8 : Int) = 7 by decide), if_pos rfl]
  simp only [Bool.and_eq_true, List.all_eq_true, decide_eq_true_eq]
  exact ⟨⟨fun a ha => (hin a ha).2.2, h2⟩, hd⟩
theorem node_more {dyn : Bool} {n m plain : Int} {i : Nat} {x : S37} (hnm : n ≤ m) (h : NodeOk dyn n plain i x) : NodeOk dyn m plain i x := by
  rcases h with h | h | ⟨k, a, h1, h2, h3, h4, e⟩ | ⟨L, hL, hin, e⟩ | h
  · exact .inl h
  · exact .inr (.inl h)
  · exact .inr (.inr (.inl ⟨k, a, h1, h2, h3, by omega, e⟩))
  · exact .inr (.inr (.inr (.inl ⟨L, hL, fun a ha => ⟨(hin a ha).1, by have := (hin a ha).2; omega⟩, e⟩)))
  · exact .inr (.inr (.inr (.inr h)))
theorem unionsG_check {dyn : Bool} {g : List S37} {a b : Int} {L : List Int} (h : MadeOk dyn g.length g) (hl : g.length ≤ 14) (ha : 0 ≤ a ∧ a < g.length) (hb : 0 ≤ b ∧ b < g.length) (hL : ∀ k ∈ L, k ∈ membersL g a ∨ k ∈ membersL g b) (h2 : 2 ≤ L.length) (hd : distinctB L = true) : checkP (unionsG g a b L) = 0 := by
  have hlen := unionsG_len g a b L
  have hm := made_may h
  unfold checkP
  rw [if_neg (by omega), if_pos]
  rw [List.all_eq_true]
  intro x hx
  unfold unionsG at hx
  rcases List.mem_append.1 hx with hx | hx
  · rcases List.mem_append.1 hx with hx | hx
    · obtain ⟨i, hi, rfl⟩ := mem_rd37 hx
      exact node_may (plain := plainOf g.length) (by unfold plainOf; omega) (fun c h0 h1 => by
        rw [unionsG_low h0 (by unfold plainOf at h1; omega)]
        exact made_low h c h0 h1) (node_more (by omega) (h.node i hi))
    · rcases List.mem_cons.1 hx with rfl | hx
      · exact may_rec (L := [a, b]) (by simp) (by
          intro c hc
          rcases List.mem_cons.1 hc with rfl | hc
          · omega
          · rw [List.mem_singleton.1 hc]; omega)
      · rw [List.mem_singleton.1 hx]
        exact may_rec (L := [a]) (by simp) (by
          intro c hc
          rw [List.mem_singleton.1 hc]; omega)
  · rw [List.mem_singleton.1 hx]
    refine may_both (fun k hk => ?_) h2 hd
    have : 0 ≤ k ∧ k < g.length ∧ (rd_T37 g k).f0 ≠ 8 := by
      rcases hL k hk with h | h
      · exact members_in hm h
      · exact members_in hm h
    rw [unionsG_low this.1 this.2.1]
    exact ⟨this.1, by omega, this.2.2⟩
theorem unionsG_keys {dyn : Bool} {g : List S37} {a b : Int} {L : List Int} {n : Int} (h : MadeOk dyn n g) : ∀ x ∈ unionsG g a b L, x.f3.Nodup := by
  intro x hx
  unfold unionsG at hx
  rcases List.mem_append.1 hx with hx | hx
  · rcases List.mem_append.1 hx with hx | hx
    · exact made_keys h x hx
    · rcases List.mem_cons.1 hx with rfl | hx
      · show [kA, kB].Nodup
        decide +kernel
      · rw [List.mem_singleton.1 hx]
        show [kA].Nodup
        decide +kernel
  · rw [List.mem_singleton.1 hx]
    exact List.nodup_nil
structure UnionsLaw (st : Bool) (g : List S37) (a b : Int) (h : List S37) : Prop where
  both : ∀ c : Int, standsB st h ((g.length : Int) + 2, c) = (standsB st h (a, c) && standsB st h (b, c))
  over : ∀ c : Int, standsB st h (c, a) = true → standsB st h (c, (g.length : Int) + 2) = true
  more : standsB st h ((g.length : Int), (g.length : Int) + 1) = true
  less : standsB st h ((g.length : Int) + 1, (g.length : Int)) = false
theorem unions_law (st : Bool) {dyn : Bool} {n : Int} {g : List S37} {a b : Int} {L : List Int} (h : MadeOk dyn n g) (ha : 0 ≤ a ∧ a < g.length) (hb : 0 ≤ b ∧ b < g.length) (hL : ∀ k, k ∈ L ↔ k ∈ membersL g a ∨ k ∈ membersL g b) : UnionsLaw st g a b (unionsG g a b L) := by
  have hlen := unionsG_len g a b L
  have hu : ∀ k, k ∈ membersL (unionsG g a b L) ((g.length : Int) + 2) ↔ k ∈ membersL (unionsG g a b L) a ∨ k ∈ membersL (unionsG g a b L) b := by
    intro k
    rw [unionsG_both, unionsG_members ha.1 ha.2, unionsG_members hb.1 hb.2]
    exact hL k
  have n7 : ¬ ((7 : Int) = 1 ∨ (7 : Int) = 1) := by decide
  refine ⟨fun c => union_both c hu, fun c hc => union_over (fun k hk => (hu k).2 (.inl hk)) hc, ?_, ?_⟩
  · rw [stands_pick (by omega) (by omega) (by rw [unionsG_0]; exact (by decide : (7 : Int) ≠ 8))]
    refine pick_of_does (k := (g.length : Int) + 1) (by rw [members_one (by omega) (by omega) (by rw [unionsG_1]; exact (by decide : (7 : Int) ≠ 8))]; simp) ?_
    rw [unionsG_0, unionsG_1]
    unfold doesB
    rw [if_neg n7, if_neg (show ¬ (7 : Int) = 5 by decide), if_pos (show (7 : Int) = 7 from rfl), decide_eq_true (show (7 : Int) = 7 from rfl), Bool.true_and, recordB_iff]
    intro i hi
    obtain rfl : i = 0 := by simpa using hi
    have e : keyAt [kA, kB] kA = 0 := by simp [keyAt]
    rw [show [kA].getD 0 ByteArray.empty = kA from rfl, e]
    exact ⟨by decide, stands_refl (unionsG_keys h) a⟩
  · apply Bool.eq_false_iff.2
    intro ht
    rw [stands_pick (by omega) (by omega) (by rw [unionsG_1]; exact (by decide : (7 : Int) ≠ 8))] at ht
    rcases pick_or ht with ⟨k, hk, hd⟩ | ⟨h9, _⟩
    · rw [members_one (by omega) (by omega) (by rw [unionsG_0]; exact (by decide : (7 : Int) ≠ 8))] at hk
      rw [List.mem_singleton.1 hk, unionsG_0, unionsG_1] at hd
      unfold doesB at hd
      rw [if_neg n7, if_neg (show ¬ (7 : Int) = 5 by decide), if_pos (show (7 : Int) = 7 from rfl), decide_eq_true (show (7 : Int) = 7 from rfl), Bool.true_and, recordB_iff] at hd
      have := (hd 1 (by simp)).1
      have hne : ¬ kA = kB := by decide +kernel
      rw [show [kA, kB].getD 1 ByteArray.empty = kB from rfl] at this
      simp [keyAt, hne] at this
    · rw [unionsG_1] at h9
      exact absurd (show (7 : Int) = 9 from h9) (by decide)
end Go.Proofs.YtcljgfpcdlnlkaaDoor.Q
namespace Go.Proofs.YtcljgfpcdlnlkaaDoor.Q
open Go.RowKit Go.Proofs.YtcljgfpcdlnlkaaDoorW.PrintWords Go.Proofs.YtcljgfpcdlnlkaaDoorW.PrintLast Mp
theorem rd_app {g ys : List S37} {x : Int} (h0 : 0 ≤ x) (h1 : x < g.length) : rd_T37 (g ++ ys) x = rd_T37 g x := by
  unfold rd_T37
  rw [List.getD_eq_getElem?_getD, List.getD_eq_getElem?_getD, List.getElem?_append_left (by omega)]
theorem members_app {g ys : List S37} {x : Int} (h0 : 0 ≤ x) (h1 : x < g.length) : membersL (g ++ ys) x = membersL g x := by
  unfold membersL
  rw [rd_app h0 h1, List.length_append, if_neg (by omega), if_neg (show ¬ (x < 0 ∨ (g.length : Int) ≤ x) by omega)]
theorem new_cell (W : World) (cs : Array Value) (e : Nat) (k : Nat) : (W.alloc (.cells cs e)).cell? ⟨W.heap.size, k, none⟩ = cs[k]? := by
  unfold World.cell?
  rw [show (W.alloc (.cells cs e)).heap[W.heap.size]? = some (.cells cs e) from Array.getElem?_push_size]
  rfl
/-- Two nodes in a row that was just built. -/
theorem reads_two {W : World} {R : S37 → List Value → Prop} {x1 x2 : S37} {c1 c2 : List Value} (l1 : c1.length = 5) (l2 : c2.length = 5) (h1 : R x1 c1) (h2 : R x2 c2) :
    ReadsRow R 5 (W.alloc (.cells (c1 ++ c2).toArray 37)) (some ⟨W.heap.size, 0, none⟩) 2 [x1, x2] := by
  refine ⟨rfl, by decide, fun _ => ⟨_, rfl, fun j p hj => ?_⟩⟩
  match j, hj with
  | 0, hj =>
    simp only [List.getElem?_cons_zero, Option.some.injEq] at hj
    subst hj
    refine ⟨c1, l1, h1, fun i u hu => ?_⟩
    have hi := (List.getElem?_eq_some_iff.1 hu).1
    rw [show (0 * 5 + i) = i by omega, Addr.add_lit, Nat.zero_add, new_cell, List.getElem?_toArray, List.getElem?_append_left hi, hu]
  | 1, hj =>
    simp only [List.getElem?_cons_succ, List.getElem?_cons_zero, Option.some.injEq] at hj
    subst hj
    refine ⟨c2, l2, h2, fun i u hu => ?_⟩
    rw [show (1 * 5 + i) = c1.length + i by omega, Addr.add_lit, Nat.zero_add, new_cell, List.getElem?_toArray, List.getElem?_append_right (by omega), Nat.add_sub_cancel_left, hu]
  | j + 2, hj => simp at hj
theorem valid_short {g : List S37} (h : Valid g) : ∀ x ∈ g, x.f3.length ≤ 9223372036854775807 ∧ x.f4.length ≤ 9223372036854775807 := by
  intro x hx
  obtain ⟨i, hi, rfl⟩ := mem_rd37 hx
  have := h.small (k := (i : Int)) (by omega) (by omega)
  omega
set_option maxRecDepth 100000 in
set_option maxHeartbeats 1000000 in
theorem unions_walk (w : World) (A : Option Addr) (c : Nat) (l : List S119) (x y : Int) (st : Bool) (hk : KeysIn w) (hl : Kd.C k119 w A l.length l) (hc : l.length ≤ c) :
    Calls Tryd.prog 8 #[.slice A l.length c, .agg #[.int .i64 x, .int .i64 y], .bool st] w fun e w' => e = .returned (.bool true) ∧ Below w.heap.size w w' := by
  have hB0 : Below w.heap.size w (w.alloc (.cells #[.int .i64 x, .int .i64 y] 31)) := (Below.refl _ _).alloc (Nat.le_refl _) _
  have HM := Lib.hid (made_calls A c l true (w.alloc (.cells #[.int .i64 x, .int .i64 y] 31)) (Kd.C_alloc hl _) hc)
  have HK0 := Lib.hid (hk.below hB0)
  have px : (w.alloc (.cells #[.int .i64 x, .int .i64 y] 31)).cell? ⟨w.heap.size, 0, none⟩ = some (.int .i64 x) := by simp
  have py : (w.alloc (.cells #[.int .i64 x, .int .i64 y] 31)).cell? ⟨w.heap.size, 1, none⟩ = some (.int .i64 y) := by simp
  have hsz0 : (w.alloc (.cells #[.int .i64 x, .int .i64 y] 31)).heap.size = w.heap.size + 1 := by simp
  have HB0 := Lib.hid hB0
  have HKw := Lib.hid hk
  clear hk hl hB0
  go_enter Tryd.func8, Tryd.ntmps8
  go_wp2_with fail
  refine HM.out.mono ?_
  clear HM
  generalize w.alloc (.cells #[.int .i64 x, .int .i64 y] 31) = w0 at HB0 HK0 px py hsz0
  rintro e w1 ⟨v, g, rfl, hR, hgl, hM, hb⟩
  have HB1 := Lib.hid (HB0.out.trans (hb.mono HB0.out.size))
  have px1 := (hb.cell (World.block_lt_of_cell? w0 _ px)).trans px
  have py1 := (hb.cell (World.block_lt_of_cell? w0 _ py)).trans py
  have HK1 := Lib.hid (HK0.out.below hb)
  have HMo := Lib.hid hM
  have hlen : g.length ≤ 14 := by omega
  have HS := Lib.hid (made_short hM)
  have HR1 := Lib.hid (Kd.R_lower hR (by omega : w.heap.size ≤ w0.heap.size))
  obtain ⟨A1, c1, rfl, hc1, hC1⟩ := Kd.R_reads hR
  clear hb hgl hM hR hC1 px py HB0 HK0 hc hc1 hsz0
  by_cases h0 : g.length = 0
  · have n0 : ((g.length : Int) == 0) = true := by simp [h0]
    have HWk := Lib.hid (works_calls w1 HK1.out)
    clear h0
    go_wp2_with fail
    refine HWk.out.mono ?_
    rintro e w2 ⟨rfl, hb2⟩
    have HB2 := Lib.hid (HB1.out.trans (hb2.mono HB1.out.size))
    clear hb2
    go_wp2
    go_ret
    exact ⟨rfl, HB2.out⟩
  · have n0 : ((g.length : Int) == 0) = false := by simp [h0]
    have HBx := Lib.hid (fun W => bring_calls x g.length W (by omega) (by omega))
    have HBy := Lib.hid (fun W => bring_calls y g.length W (by omega) (by omega))
    have ha := bring_in (i := x) (n := g.length) (by omega)
    have hb := bring_in (i := y) (n := g.length) (by omega)
    clear h0
    go_wp2
    refine start_ (n := 12) (S := fun w' => w'.cell? ⟨w.heap.size, 0, none⟩ = some (.int .i64 x) ∧ w'.cell? ⟨w.heap.size, 1, none⟩ = some (.int .i64 y)) (ds := [9]) #[false, false, false, false, false, false, false, false, false, false, false, false] (by kernel_rfl) rfl rfl ⟨px1, py1⟩ (fun hHeld => ?_)
    have HBd := Lib.hid (show Below w.heap.size w w1.drew from below_drewN HB1.out 1)
    have hbd : Below w1.heap.size w1 w1.drew := below_drewN (Below.refl _ _) 1
    have HKd := Lib.hid (HK1.out.below hbd)
    have HRd := Lib.hid (show Kd.R k37 37 w1.drew w.heap.size (fun _ => True) (.slice A1 g.length c1) g from Kd.R_step HR1.out (fun _ _ _ => rfl))
    clear hbd HB1 HK1 HR1 px1 py1
    generalize w1.drew = w2 at *
    refine pure_ (i := 0) (N := some 22) (v := ?_) (a' := ?_) #[true, false, false, false, false, false, false, false, false, false, false, false] rfl rfl (by kernel_rfl) (fun _ _ _ h => h) (Or.inl ⟨by rfl, ?_⟩) ?_ ?_
    rotate_left
    · intro w'
      go_simp
      with_reducible rfl
    rotate_left
    · simp only [Act.put, List.setIfInBounds_toArray, List.set_cons_zero, List.set_cons_succ]
      rfl
    refine pure_ (i := 2) (N := some 24) (v := ?_) (a' := ?_) #[true, false, true, false, false, false, false, false, false, false, false, false] rfl rfl (by kernel_rfl) (fun _ _ _ h => h) (Or.inl ⟨by rfl, ?_⟩) ?_ ?_
    rotate_left
    · intro w'
      go_simp
      with_reducible rfl
    rotate_left
    · simp only [Act.put, List.setIfInBounds_toArray, List.set_cons_zero, List.set_cons_succ]
      rfl
    refine pure_ (i := 3) (N := some 25) (v := ?_) (a' := ?_) #[true, false, true, true, false, false, false, false, false, false, false, false] rfl rfl (by kernel_rfl) (fun _ _ _ h => h) (Or.inl ⟨by rfl, ?_⟩) ?_ ?_
    rotate_left
    · intro w'
      go_simp
      with_reducible rfl
    rotate_left
    · simp only [Act.put, List.setIfInBounds_toArray, List.set_cons_zero, List.set_cons_succ]
      rfl
    refine pure_ (i := 5) (N := some 27) (v := ?_) (a' := ?_) #[true, false, true, true, false, true, false, false, false, false, false, false] rfl rfl (by kernel_rfl) (fun _ _ _ h => h) (Or.inl ⟨by rfl, ?_⟩) ?_ ?_
    rotate_left
    · intro w'
      go_simp
      with_reducible rfl
    rotate_left
    · simp only [Act.put, List.setIfInBounds_toArray, List.set_cons_zero, List.set_cons_succ]
      rfl
    refine pure_ (i := 7) (N := some 29) (v := ?_) (a' := ?_) #[true, false, true, true, false, true, false, true, false, false, false, false] rfl rfl (by kernel_rfl) (fun _ _ _ h => h) (Or.inl ⟨by rfl, ?_⟩) ?_ ?_
    rotate_left
    · intro w'
      go_simp
      with_reducible rfl
    rotate_left
    · simp only [Act.put, List.setIfInBounds_toArray, List.set_cons_zero, List.set_cons_succ]
      rfl
    refine pure_ (i := 8) (N := some 30) (v := ?_) (a' := ?_) #[true, false, true, true, false, true, false, true, true, false, false, false] rfl rfl (by kernel_rfl) (fun _ _ _ h => h) (Or.inl ⟨by rfl, ?_⟩) ?_ ?_
    rotate_left
    · intro w'
      go_simp
      with_reducible rfl
    rotate_left
    · simp only [Act.put, List.setIfInBounds_toArray, List.set_cons_zero, List.set_cons_succ]
      rfl
    refine take_ (i := 1) (N := some 23) (v := ?_) (a' := ?_) #[true, true, true, true, false, true, false, true, true, false, false, false] rfl rfl (by kernel_rfl) (fun _ _ _ h => h) (Or.inl ⟨by rfl, ?_⟩) hHeld ?_ ?_
    rotate_left
    · rintro w' ⟨s0, s1⟩
      go_simp
      with_reducible rfl
    rotate_left
    · simp only [Act.put, List.setIfInBounds_toArray, List.set_cons_zero, List.set_cons_succ]
      rfl
    refine take_ (i := 6) (N := some 28) (v := ?_) (a' := ?_) #[true, true, true, true, false, true, true, true, true, false, false, false] rfl rfl (by kernel_rfl) (fun _ _ _ h => h) (Or.inl ⟨by rfl, ?_⟩) hHeld ?_ ?_
    rotate_left
    · rintro w' ⟨s0, s1⟩
      go_simp
      with_reducible rfl
    rotate_left
    · simp only [Act.put, List.setIfInBounds_toArray, List.set_cons_zero, List.set_cons_succ]
      rfl
    refine one_ (i := 4) (N := some 26) #[true, true, true, true, true, true, true, true, true, false, false, false] rfl rfl (by kernel_rfl) (by decide) (fun K hK => ?_)
    refine goes_ Tryd.func24 (by kernel_rfl) rfl #[.int .i64 x, .int .i64 g.length] (by rfl) rfl rfl (by simp only [List.map_toArray, List.map_cons, List.map_nil]; rfl) ?_
    refine (HBx.out _).mono ?_
    rintro e w' ⟨rfl, hww⟩
    replace hww := hww.symm
    subst hww
    refine ⟨_, rfl, hK.out _ _ hHeld (fun _ => ?_)⟩
    clear hK K
    refine norm_ (a' := ?_) ?_ ?_
    rotate_left
    · show Act.put _ (some 26) _ = _
      simp only [Act.put, List.setIfInBounds_toArray, List.set_cons_zero, List.set_cons_succ]
      rfl
    refine last_ (i := 9) (N := some 31) #[true, true, true, true, true, true, true, true, true, true, false, false] rfl rfl (by kernel_rfl) (by decide) (fun K hK => ?_)
    refine goes_ Tryd.func24 (by kernel_rfl) rfl #[.int .i64 y, .int .i64 g.length] (by rfl) rfl rfl (by simp only [List.map_toArray, List.map_cons, List.map_nil]; rfl) ?_
    refine (HBy.out _).mono ?_
    rintro e w' ⟨rfl, hww⟩
    replace hww := hww.symm
    subst hww
    refine ⟨_, rfl, hK.out _ _ ?_⟩
    clear hK K
    refine norm_ (a' := ?_) ?_ ?_
    rotate_left
    · show Act.put _ (some 31) _ = _
      simp only [Act.put, List.setIfInBounds_toArray, List.set_cons_zero, List.set_cons_succ]
      rfl
    refine pure_ (i := 10) (N := some 8) (v := ?_) (a' := ?_) #[true, true, true, true, true, true, true, true, true, true, true, false] rfl rfl (by kernel_rfl) (fun _ _ _ h => h) (Or.inl ⟨by rfl, ?_⟩) ?_ ?_
    rotate_left
    · intro w'
      go_simp
      with_reducible rfl
    rotate_left
    · simp only [Act.put, List.setIfInBounds_toArray, List.set_cons_zero, List.set_cons_succ]
      rfl
    refine pure_ (i := 11) (N := some 9) (v := ?_) (a' := ?_) #[true, true, true, true, true, true, true, true, true, true, true, true] rfl rfl (by kernel_rfl) (fun _ _ _ h => h) (Or.inl ⟨by rfl, ?_⟩) ?_ ?_
    rotate_left
    · intro w'
      go_simp
      with_reducible rfl
    rotate_left
    · simp only [Act.put, List.setIfInBounds_toArray, List.set_cons_zero, List.set_cons_succ]
      rfl
    refine done_ (by kernel_rfl) ?_
    clear HBx HBy hHeld
    generalize bringI x g.length = a at ha ⊢
    generalize bringI y g.length = b at hb ⊢
    have hwA : Below w2.heap.size w2 (w2.alloc (.cells #[.int .i64 a, .int .i64 b] 3)) := (Below.refl _ _).alloc (Nat.le_refl _) _
    have HRc := Lib.hid (rec_calls (w2.alloc (.cells #[.int .i64 a, .int .i64 b] 3)) (some ⟨w2.heap.size, 0, none⟩) 2 2 (by omega))
    have HwA := Lib.hid hwA
    clear hwA
    go_wp2_with fail
    refine HRc.out.mono ?_
    clear HRc
    rintro e w3 ⟨b3, rfl, hS3, hb3⟩
    have HS3 := Lib.hid hS3
    have HI3 := Lib.hid (Kd.R_step (R_two w2 a b) (w1 := w3) (fun k _ hk => hb3.block k hk))
    have Hb3 := Lib.hid (HwA.out.trans (hb3.mono HwA.out.size))
    have hz3 := HwA.out.size
    have hz3' := Hb3.out.size
    have hwB : Below w3.heap.size w3 (w3.alloc (.cells #[.int .i64 a] 3)) := (Below.refl _ _).alloc (Nat.le_refl _) _
    have HRc := Lib.hid (rec_calls (w3.alloc (.cells #[.int .i64 a] 3)) (some ⟨w3.heap.size, 0, none⟩) 1 1 (by omega))
    have HwB := Lib.hid hwB
    clear hS3 hb3 hwB
    go_wp2_with fail
    refine HRc.out.mono ?_
    clear HRc
    rintro e w4 ⟨b4, rfl, hS4, hb4⟩
    have HS4 := Lib.hid hS4
    have HI4 := Lib.hid (Kd.R_step (R_one w3 a) (w1 := w4) (fun k _ hk => hb4.block k hk))
    have Hb4 := Lib.hid (HwB.out.trans (hb4.mono HwB.out.size))
    have hz4 := HwB.out.size
    have hz4' := Hb4.out.size
    have Hb24 := Lib.hid (Hb3.out.trans (Hb4.out.mono Hb3.out.size))
    have c1v : List Value := []
    obtain ⟨w5, hw5⟩ : ∃ w5, w5 = w4.alloc (.cells #[.int .i64 7, .int .i64 0, .string ⟨#[]⟩, .slice (some ⟨b3, 0, none⟩) 2 3, .slice (some ⟨w2.heap.size, 0, none⟩) 2 2, .int .i64 7, .int .i64 0, .string ⟨#[]⟩, .slice (some ⟨b4, 0, none⟩) 1 3, .slice (some ⟨w3.heap.size, 0, none⟩) 1 1] 37) := ⟨_, rfl⟩
    have hb45 : Below w4.heap.size w4 w5 := by rw [hw5]; exact (Below.refl _ _).alloc (Nat.le_refl _) _
    have Hb25 := Lib.hid (Hb24.out.trans (hb45.mono Hb24.out.size))
    have hbs := HBd.out.size
    have HM1 := Lib.hid (M_rec (W := w5) (base := w.heap.size) (wb := w2.heap.size) hbs (Kd.R_step (Kd.R_lower HS3.out hz3) (fun k _ hk => ((Hb4.out.trans (hb45.mono Hb4.out.size))).block k hk)) (Kd.R_step HI3.out (fun k _ hk => ((Hb4.out.trans (hb45.mono Hb4.out.size))).block k hk)))
    have HM2 := Lib.hid (M_rec (W := w5) (base := w.heap.size) (wb := w2.heap.size) hbs (Kd.R_step (Kd.R_lower HS4.out (Nat.le_trans hz3' hz4)) (fun k _ hk => hb45.block k hk)) (Kd.R_step (Kd.R_lower HI4.out hz3') (fun k _ hk => hb45.block k hk)))
    have HTwo := Lib.hid (show ReadsRow (k37.M w5 w.heap.size (fun k => w2.heap.size ≤ k)) k37.sz w5 (some ⟨w4.heap.size, 0, none⟩) 2 [⟨7, 0, ⟨#[]⟩, [kA, kB], [a, b]⟩, ⟨7, 0, ⟨#[]⟩, [kA], [a]⟩] from by
      have h1 := HM1.out
      have h2 := HM2.out
      rw [hw5] at h1 h2 ⊢
      exact reads_two rfl rfl h1 h2)
    have HR5 := Lib.hid (Kd.R_step HRd.out (fun k _ hk => Hb25.out.block k hk))
    have HB5 := Lib.hid (HBd.out.trans (Hb25.out.mono HBd.out.size))
    have hsz5 := HB5.out.size
    have hown := fun k (hk : w2.heap.size ≤ k) => (show True ∧ some k ≠ _ from ⟨trivial, fun he => by have := ((Kd.R_bound HRd.out).1 k he.symm).2.2.1; omega⟩)
    have htl : (g.length + 2) * 80 ≤ 140737488355328 := by omega
    clear hS4 hb4 hb45 HS3 HI3 HS4 HI4 HM1 HM2 HwA HwB Hb3 Hb4 Hb24 hz3 hz4 c1v
    subst hw5
    go_wp2_with (at_builtin; refine Kd.R_append_rows k37 (w0 := w) w.heap.size rfl (.tmp 34) (.tmp 42) 22 37 (.agg #[.int .i64 0, .int .i64 0, .string ⟨#[]⟩, .slice none 0 0, .slice none 0 0]) 80 rfl Tryd.underlying22 info37 rfl (by decide) (by omega) _ g [⟨7, 0, ⟨#[]⟩, [kA, kB], [a, b]⟩, ⟨7, 0, ⟨#[]⟩, [kA], [a]⟩] (some ⟨w4.heap.size, 0, none⟩) 2 2 (fun _ => True) (fun k => w2.heap.size ≤ k) rfl rfl HR5.out HTwo.out (fun _ _ h => h) hown (fun _ _ => trivial) HB5.out hsz5 htl ?_; intro v1 w6 hr6 hb6 _ _; have HR6 := Lib.hid hr6; have HB6 := Lib.hid hb6; clear hr6 hb6)
    clear HR5 HB5 hsz5 Hb25 HTwo hown htl HRd HBd HKd
    obtain ⟨A2, c2, rfl, hc2, hC2⟩ := Kd.R_reads HR6.out
    have HC6 := Lib.hid hC2
    obtain ⟨g6, hg6⟩ : ∃ g6 : List S37, g6 = g ++ [⟨7, 0, ⟨#[]⟩, [kA, kB], [a, b]⟩, ⟨7, 0, ⟨#[]⟩, [kA], [a]⟩] := ⟨_, rfl⟩
    rw [← hg6] at HR6 HC6
    rw [← hg6]
    have HL6 := Lib.hid (show g6.length = g.length + 2 by rw [hg6]; simp)
    have HG6 := Lib.hid hg6
    have hma : membersL g6 a = membersL g a := by rw [hg6]; exact members_app ha.1 ha.2
    have hmb : membersL g6 b = membersL g b := by rw [hg6]; exact members_app hb.1 hb.2
    have hfa : (rd_T37 g6 a).f4.length ≤ 4 := by rw [hg6, rd_app ha.1 ha.2]; exact (made_four HMo.out ha.1 ha.2).2
    have hfb : (rd_T37 g6 b).f4.length ≤ 4 := by rw [hg6, rd_app hb.1 hb.2]; exact (made_four HMo.out hb.1 hb.2).2
    have hla := made_members HMo.out a
    have hlb := made_members HMo.out b
    have HMa := Lib.hid (members_calls A2 c2 g6 a w6 HC6.out (by omega))
    rw [hma] at HMa
    clear hC2 hc2 hma hg6
    refine HMa.out.mono ?_
    clear HMa
    rintro e w7 ⟨va, rfl, hra, hb7⟩
    have HC7 := Lib.hid (Kd.C_below HC6.out hb7)
    have HMb := Lib.hid (members_calls A2 c2 g6 b w7 HC7.out (by omega))
    rw [hmb] at HMb
    have HRa := Lib.hid hra
    have Hb7 := Lib.hid hb7
    clear hra hb7 hmb HC7 hfa hfb
    go_wp2_with fail
    refine HMb.out.mono ?_
    clear HMb
    rintro e w8 ⟨vb, rfl, hrb, hb8⟩
    obtain ⟨Bb, cb, rfl, _, hCb⟩ := Kd.R_reads hrb
    have HRb := Lib.hid hCb
    have HRa8 := Lib.hid (Kd.R_step HRa.out (fun k _ hk => hb8.block k hk))
    have Hb8 := Lib.hid (Hb7.out.trans (hb8.mono Hb7.out.size))
    have hsz8 := Hb8.out.size
    have htl : ((membersL g a).length + (membersL g b).length) * 8 ≤ 140737488355328 := by omega
    clear hrb hb8 hCb HRa Hb7
    go_wp2_with (at_builtin; refine Kd.R_append_rows (Kd.int .i64) (w0 := w6) w6.heap.size rfl (.tmp 46) (.tmp 49) 23 3 (.int .i64 0) 8 rfl Tryd.underlying23 info3 rfl (by decide) (by omega) _ (membersL g a) (membersL g b) Bb (membersL g b).length cb (fun _ => True) (fun _ => False) rfl rfl HRa8.out HRb.out (fun _ _ h => h) (fun _ h => h.elim) (fun _ _ => trivial) Hb8.out hsz8 htl ?_; intro v9 w9 hr9 hb9 _ _; have HR9 := Lib.hid hr9; have HB9 := Lib.hid hb9; clear hr9 hb9)
    obtain ⟨A9, c9, rfl, _, hC9⟩ := Kd.R_reads HR9.out
    have HOn := Lib.hid (once_calls A9 c9 (membersL g a ++ membersL g b) w9 hC9 (by rw [List.length_append]; omega))
    clear hC9 HRa8 HRb Hb8 hsz8 htl
    refine HOn.out.mono ?_
    clear HOn
    rintro e w10 ⟨v10, r, rfl, hr10, hOn, hb10⟩
    have HOn := Lib.hid hOn
    have hrl : r.length ≤ 8 := by have := hOn.len; rw [List.length_append] at this; omega
    have HR10 := Lib.hid hr10
    have Hb10 := Lib.hid (HB9.out.trans (hb10.mono HB9.out.size))
    have HB10 := Lib.hid (HB6.out.trans (Hb10.out.mono HB6.out.size))
    have hz9 := HB9.out.size
    obtain ⟨A10, c10, rfl, _, _⟩ := Kd.R_reads hr10
    clear hr10 hOn hb10 HR9 HB9 hla hlb
    by_cases h2 : r.length < 2
    · have d2 : decide (r.length < 2) = true := decide_eq_true h2
      have d2' : decide ((r.length : Int) < 2) = true := decide_eq_true (by omega)
      have HWk := Lib.hid (works_calls w10 (HKw.out.below HB10.out))
      clear h2
      go_wp2_with fail
      refine HWk.out.mono ?_
      rintro e w11 ⟨rfl, hb11⟩
      have HB11 := Lib.hid (HB10.out.trans (hb11.mono HB10.out.size))
      clear hb11
      go_wp2
      go_ret
      exact ⟨rfl, HB11.out⟩
    · have d2 : decide (r.length < 2) = false := decide_eq_false h2
      have d2' : decide ((r.length : Int) < 2) = false := decide_eq_false (by omega)
      have HRg := Lib.hid (Kd.R_step HR6.out (fun k _ hk => Hb10.out.block k hk))
      have hbase : w.heap.size ≤ w9.heap.size := Nat.le_trans HB6.out.size hz9
      have HMn := Lib.hid (M_ints (W := w10) (base := w.heap.size) hbase 8 0 ⟨#[]⟩ HR10.out)
      have hown := fun k (hk : w9.heap.size ≤ k) => (show True ∧ some k ≠ _ from ⟨trivial, fun he => by have := ((Kd.R_bound HR6.out).1 k he.symm).2.2.1; omega⟩)
      have htl : (g6.length + 1) * 80 ≤ 140737488355328 := by have := HL6.out; omega
      have hsz10 := HB10.out.size
      have hchk := unionsG_check HMo.out hlen ha hb (L := r) (fun k hk => List.mem_append.1 (HOn.out.sub k hk)) (by omega) HOn.out.dist
      have hlaw := unions_law st HMo.out ha hb (L := r) (fun k => ⟨fun hk => List.mem_append.1 (HOn.out.sub k hk), fun hk => HOn.out.sup k (List.mem_append.2 hk)⟩)
      have HL3 := Lib.hid (unionsG_len g a b r)
      have HCk := Lib.hid hchk
      have HLaw := Lib.hid hlaw
      clear h2 hchk hlaw
      go_wp2_with (at_builtin; refine Kd.R_append k37 (w0 := w) w.heap.size rfl (.tmp 56) (.tmp 59) 22 37 (.agg #[.int .i64 0, .int .i64 0, .string ⟨#[]⟩, .slice none 0 0, .slice none 0 0]) 80 rfl Tryd.underlying22 info37 rfl (by decide) (by omega) _ g6 ⟨8, 0, ⟨#[]⟩, [], r⟩ [.int .i64 8, .int .i64 0, .string ⟨#[]⟩, .slice none 0 0, .slice A10 r.length c10] (fun _ => True) (fun k => w9.heap.size ≤ k) rfl rfl HMn.out hown (fun _ _ => trivial) HRg.out HB10.out hsz10 htl ?_; intro v11 w11 hr11 hb11 _ _; have HR11 := Lib.hid hr11; have HB11 := Lib.hid hb11; clear hr11 hb11)
      obtain ⟨A3, c3, rfl, _, hC11⟩ := Kd.R_reads HR11.out
      obtain ⟨h, hh⟩ : ∃ h : List S37, h = unionsG g a b r := ⟨_, rfl⟩
      have he : g6 ++ [⟨8, 0, ⟨#[]⟩, [], r⟩] = h := by rw [hh, HG6.out]; rfl
      rw [he] at hC11 ⊢
      rw [← hh] at HCk HLaw HL3
      have HC11 := Lib.hid hC11
      have HSh := Lib.hid (valid_short (valid_of_check HCk.out))
      have HAll := Lib.hid (all_told w11 A3 c3 h st HCk.out (HKw.out.below HB11.out) HC11.out HSh.out)
      clear hC11 he hh HR11 HMn HRg hown htl hsz10 HR10 hbase HB10 Hb10 HOn HG6 HL6 HR6 HC6 HB6 hz9 hrl d2 d2' hz3' hz4' hbs HS HMo
      refine HAll.out.mono ?_
      clear HAll
      rintro e w12 ⟨B, bb, M, rfl, hM12, hT, hb12⟩
      have HB12 := Lib.hid (HB11.out.trans (hb12.mono HB11.out.size))
      have HM12 := Lib.hid hM12
      have HT := Lib.hid hT
      have HC12 := Lib.hid (Kd.C_below HC11.out hb12)
      have HCh := Lib.hid (check_calls A3 h c3 w12 (HKw.out.below HB12.out) HC12.out HSh.out)
      rw [HCk.out] at HCh
      clear hb12 hM12 hT HC11 HB11
      go_wp2_with fail
      refine HCh.out.mono ?_
      clear HCh
      rintro e w13 ⟨rfl, hb13⟩
      have HB13 := Lib.hid (HB12.out.trans (hb13.mono HB12.out.size))
      have HM13 := Lib.hid (Kd.C_below HM12.out hb13)
      clear hb13 HM12 HB12 HC12
      have hhl : h.length ≤ 17 := by have := HL3.out; omega
      obtain ⟨an, rfl⟩ : ∃ k : Nat, a = (k : Int) := ⟨a.toNat, by omega⟩
      obtain ⟨bn, rfl⟩ : ∃ k : Nat, b = (k : Int) := ⟨b.toNat, by omega⟩
      obtain ⟨n2, hn2⟩ : ∃ n2 : Nat, n2 = g.length + 2 := ⟨_, rfl⟩
      obtain ⟨n1, hn1⟩ : ∃ n1 : Nat, n1 = g.length + 1 := ⟨_, rfl⟩
      have e2 : (g.length : Int) + 2 = (n2 : Int) := by omega
      have e1 : (g.length : Int) + 1 = (n1 : Int) := by omega
      have HL2 := Lib.hid (show UnionsLaw st g an bn h from HLaw.out)
      have l0 : g.length < h.length := by have := HL3.out; omega
      have l1 : n1 < h.length := by have := HL3.out; omega
      have l2 : n2 < h.length := by have := HL3.out; omega
      have la : an < h.length := by omega
      have lb : bn < h.length := by omega
      clear hn1 hn2 HLaw
      go_wp2
      go_loopw [14] (fun s14 W => ∃ i : Nat, i ≤ h.length ∧ s14 = .int .i64 i ∧ Hid (W = w13)) (fun s14 _ => h.length - (intOf s14).toNat)
      case atStart => exact ⟨0, Nat.zero_le _, rfl, Lib.hid (by simp)⟩
      case round =>
        obtain ⟨i, hi, rfl, HI⟩ := hrel
        have hww := HI.out.symm
        subst hww
        by_cases hlt : i < h.length
        · obtain ⟨bd, R1, d1, rfl, p1, _⟩ := tab_row HM13.out i hlt
          rw [HT.out.sq.row i hlt] at p1
          go_wp2
          go_roundw
          case rel => exact ⟨i + 1, by omega, by go_num, Lib.hid (by simp)⟩
          case measure => simp [intOf]; omega
        · obtain rfl : i = h.length := by omega
          clear HI
          go_wp2
          go_loopw [15] (fun s15 W => ∃ k : Nat, k ≤ h.length ∧ s15 = .int .i64 k ∧ Hid (Below w13.heap.size w13 W)) (fun s15 _ => h.length - (intOf s15).toNat)
          case atStart => exact ⟨0, Nat.zero_le _, rfl, Lib.hid (Below.refl _ _)⟩
          case round =>
            obtain ⟨k, hk, rfl, HI⟩ := hrel
            by_cases hltk : k < h.length
            · have HMr := Lib.hid (Kd.C_below HM13.out HI.out)
              obtain ⟨bd, R1, d1, rfl, p1, hr1⟩ := tab_row HMr.out an la
              obtain ⟨bd2, R2, d2, x2, p2, hr2⟩ := tab_row HMr.out bn lb
              obtain rfl := Option.some.inj x2
              obtain ⟨bd3, R3, d3, x3, p3, hr3⟩ := tab_row HMr.out n2 l2
              obtain rfl := Option.some.inj x3
              obtain ⟨bd4, R4, d4, x4, p4, hr4⟩ := tab_row HMr.out k hltk
              obtain rfl := Option.some.inj x4
              rw [HT.out.sq.row an la] at p1 hr1
              rw [HT.out.sq.row bn lb] at p2 hr2
              rw [HT.out.sq.row n2 l2] at p3 hr3
              rw [HT.out.sq.row k hltk] at p4 hr4
              obtain ⟨r1, rfl, z1⟩ := bool_cell hr1 k hltk
              obtain ⟨r2, rfl, z2⟩ := bool_cell hr2 k hltk
              obtain ⟨r3, rfl, z3⟩ := bool_cell hr3 k hltk
              obtain ⟨r4, rfl, z4⟩ := bool_cell hr4 an la
              obtain ⟨r5, y5, z5⟩ := bool_cell hr4 n2 l2
              obtain rfl := Option.some.inj y5
              rw [show (M.getD an []).getD k false = standsB st h ((an : Int), (k : Int)) from HT.out.get an k la hltk] at z1
              rw [show (M.getD bn []).getD k false = standsB st h ((bn : Int), (k : Int)) from HT.out.get bn k lb hltk] at z2
              rw [show (M.getD n2 []).getD k false = standsB st h ((n2 : Int), (k : Int)) from HT.out.get n2 k l2 hltk] at z3
              rw [show (M.getD k []).getD an false = standsB st h ((k : Int), (an : Int)) from HT.out.get k an hltk la] at z4
              rw [show (M.getD k []).getD n2 false = standsB st h ((k : Int), (n2 : Int)) from HT.out.get k n2 hltk l2] at z5
              have q3 := HL2.out.both (k : Int)
              have q5 := HL2.out.over (k : Int)
              rw [e2] at q3 q5
              clear x2 x3 x4 y5 hr1 hr2 hr3 hr4 HMr
              generalize standsB st h ((an : Int), (k : Int)) = t1 at z1 q3
              generalize standsB st h ((bn : Int), (k : Int)) = t2 at z2 q3
              generalize standsB st h ((n2 : Int), (k : Int)) = t3 at z3 q3
              generalize standsB st h ((k : Int), (an : Int)) = t4 at z4 q5
              generalize standsB st h ((k : Int), (n2 : Int)) = t5 at z5 q5
              cases t1 with
              | false =>
                obtain rfl : t3 = false := q3
                cases t4 with
                | false =>
                  go_wp2
                  go_quiet (fail)
                  go_wp2
                  go_roundw
                  case rel => exact ⟨k + 1, by omega, by go_num, Lib.hid (below_drewN HI.out _)⟩
                  case measure => simp [intOf]; omega
                | true =>
                  obtain rfl : t5 = true := q5 rfl
                  go_wp2
                  go_quiet (fail)
                  go_wp2
                  go_roundw
                  case rel => exact ⟨k + 1, by omega, by go_num, Lib.hid (below_drewN HI.out _)⟩
                  case measure => simp [intOf]; omega
              | true =>
                cases t2 with
                | false =>
                  obtain rfl : t3 = false := q3
                  cases t4 with
                  | false =>
                    go_wp2
                    go_quiet (fail)
                    go_wp2
                    go_roundw
                    case rel => exact ⟨k + 1, by omega, by go_num, Lib.hid (below_drewN HI.out _)⟩
                    case measure => simp [intOf]; omega
                  | true =>
                    obtain rfl : t5 = true := q5 rfl
                    go_wp2
                    go_quiet (fail)
                    go_wp2
                    go_roundw
                    case rel => exact ⟨k + 1, by omega, by go_num, Lib.hid (below_drewN HI.out _)⟩
                    case measure => simp [intOf]; omega
                | true =>
                  obtain rfl : t3 = true := q3
                  cases t4 with
                  | false =>
                    go_wp2
                    go_quiet (fail)
                    go_wp2
                    go_roundw
                    case rel => exact ⟨k + 1, by omega, by go_num, Lib.hid (below_drewN HI.out _)⟩
                    case measure => simp [intOf]; omega
                  | true =>
                    obtain rfl : t5 = true := q5 rfl
                    go_wp2
                    go_quiet (fail)
                    go_wp2
                    go_roundw
                    case rel => exact ⟨k + 1, by omega, by go_num, Lib.hid (below_drewN HI.out _)⟩
                    case measure => simp [intOf]; omega
            · obtain rfl : k = h.length := by omega
              have HMr := Lib.hid (Kd.C_below HM13.out HI.out)
              have HBr := Lib.hid (HB13.out.trans (HI.out.mono HB13.out.size))
              obtain ⟨bd, R1, d1, rfl, p1, hr1⟩ := tab_row HMr.out g.length l0
              obtain ⟨bd2, R2, d2, x2, p2, hr2⟩ := tab_row HMr.out n1 l1
              obtain rfl := Option.some.inj x2
              rw [HT.out.sq.row g.length l0] at p1 hr1
              rw [HT.out.sq.row n1 l1] at p2 hr2
              obtain ⟨r1, rfl, z1⟩ := bool_cell hr1 n1 l1
              obtain ⟨r2, rfl, z2⟩ := bool_cell hr2 g.length l0
              have q1 := HL2.out.more
              have q2 := HL2.out.less
              rw [e1] at q1 q2
              rw [show (M.getD g.length []).getD n1 false = standsB st h ((g.length : Int), (n1 : Int)) from HT.out.get g.length n1 l0 l1, q1] at z1
              rw [show (M.getD n1 []).getD g.length false = standsB st h ((n1 : Int), (g.length : Int)) from HT.out.get n1 g.length l1 l0, q2] at z2
              have HWk := Lib.hid (works_calls wr (HKw.out.below HBr.out))
              clear x2 hr1 hr2 HMr q1 q2
              go_wp2_with fail
              refine HWk.out.mono ?_
              rintro e w14 ⟨rfl, hb14⟩
              have HB14 := Lib.hid (HBr.out.trans (hb14.mono HBr.out.size))
              clear hb14
              go_wp2
              go_ret
              exact ⟨rfl, HB14.out⟩
end Go.Proofs.YtcljgfpcdlnlkaaDoor.Q
namespace Go.Proofs.YtcljgfpcdlnlkaaDoor.Q
open Go.ChangeShapes Go.WideShapes Go.ChangeAt Go.RowKit Go.Proofs.YtcljgfpcdlnlkaaDoorW.PrintWords
set_option maxRecDepth 100000 in
theorem subUnions_lifted (os : Os) (started : os.Started) (H : Type) (enc : TypeId × Value → H) :
    ReturnsInHanded {} Tryd.checked os 8 .any (fun w args => (Rows.subUnionsSpec.pre enc Tryd.prog Tryd.f8 [] false w args ∧ laidMetH Tryd.prog laidKeys w) ∧ sizedMet enc Tryd.prog Tryd.f8 (OpenSpec.ofChange Rows.subUnionsSpec) false w args)
      (Rows.subUnionsSpec.post enc Tryd.prog Tryd.f8 false true false false) := by
  refine returnsInHanded_of_change_and (C := Tryd.checked) (X := fun w _ => laidMetH Tryd.prog laidKeys w) (fun _ _ _ hh h => h.of_heap hh) own started (by kernel_rfl) Tryd.func8
    (ChangeSpec.witness_shaped (enc := enc) (C := Tryd.checked) (os := os) (X := fun w _ => laidMetH Tryd.prog laidKeys w) false (World.doorLaid Tryd.prog 400 os) #[.slice none 0 0, .agg #[.int .i64 0, .int .i64 0], .bool false] 8 rfl (World.shaped_of_RefB (by kernel_rfl) (by kernel_rfl)) (by kernel_rfl) (by kernel_rfl) (by kernel_rfl) (door_met os _)) ?_
  intro W base args ds gs before hval0 hW _ _ hL _
  have hval : ∀ (j : Nat) t v, Tryd.f8.params[j]? = some t → args[j]? = some v → Value.okWide Tryd.prog W .any base t v := hval0
  have hW' := hW
  obtain ⟨p, q, hA0, hV, rfl, hfz, hnd⟩ := hW
  have hA : DataW.TrodAll enc Tryd.prog W 0 (fun _ => true) true Tryd.f8.params.toList args.toList ds p := hA0
  rw [Tryd.params8] at hA hval
  obtain ⟨v0, vs0, d0, ds0, p0, q0, hargs, rfl, rfl, h0, r0⟩ := trodAll_cons hA
  obtain ⟨v1, vs1, d1, ds1, p1, q1, rfl, rfl, rfl, h1, r1⟩ := trodAll_cons r0
  obtain ⟨v2, vs2, d2, ds2, p2, q2, rfl, rfl, rfl, h2, r2⟩ := trodAll_cons r1
  obtain ⟨rfl, rfl, rfl⟩ := trodAll_nil r2
  obtain rfl : args = #[v0, v1, v2] := by cases args; simp_all
  obtain ⟨rfl, rfl⟩ := trodVars_none hV
  have k0 := h0
  have lt0 : ∀ x ∈ p0, x.block < W.heap.size := by obtain ⟨m, hm⟩ := k0; exact DataW.trod_lt m _ _ _ hm
  obtain ⟨a0, len0, cap0, rfl⟩ := okWide_slice Tryd.underlying30 (hval 0 30 v0 rfl rfl)
  obtain ⟨l0, hl0, hc0, hC0⟩ : ∃ xs, xs.length = len0 ∧ len0 ≤ cap0 ∧ Kd.C k119 W a0 len0 xs := by
    obtain ⟨fuel, hf⟩ := h0
    obtain ⟨A, len, cap, xs, hcs, e1, _, e3, e4⟩ := open_kd k119 Tryd.underlying30 (by kernel_rfl) open_row93 hf
    simp [Value.cells] at hcs
    obtain ⟨rfl, rfl, rfl⟩ := hcs
    exact ⟨xs, e3, e1, e4⟩
  subst hl0
  have k1 := h1
  have lt1 : ∀ x ∈ p1, x.block < W.heap.size := by obtain ⟨m, hm⟩ := k1; exact DataW.trod_lt m _ _ _ hm
  obtain ⟨x1, y1, rfl, _⟩ := WideMaps.open_pair pair31 Tryd.underlying3 (hval 1 31 v1 rfl rfl) h1
  have k2 := h2
  have lt2 : ∀ x ∈ p2, x.block < W.heap.size := by obtain ⟨m, hm⟩ := k2; exact DataW.trod_lt m _ _ _ hm
  obtain ⟨x2, rfl, _⟩ := open_bool Tryd.underlying4 (hval 2 4 v2 rfl rfl) h2
  clear hA0 hval0
  refine (unions_walk W a0 cap0 l0 x1 y1 x2 (keys_of hL) hC0 hc0).mono fun e W' ⟨he, bel⟩ => ?_
  subst he
  exact ⟨_, rfl, _, _, _, [], _, [], hW', trodAll_mk1 (shut_bool Tryd.underlying4 _), (trodAll_cons_mk (Below.trod laidOut (by kernel_rfl) (of_decide_eq_true (by kernel_rfl)) k0 bel lt0) (trodAll_cons_mk (Below.trod laidOut (by kernel_rfl) (of_decide_eq_true (by kernel_rfl)) k1 bel lt1) (trodAll_cons_mk (Below.trod laidOut (by kernel_rfl) (of_decide_eq_true (by kernel_rfl)) k2 bel lt2) trodAll_mk0))), rfl, bel.frame _, fun h => by cases h⟩
theorem subUnions_inPlace : (Rows.subUnionsRow.inPlace == Tryd.prog.inPlace 8) = true := by kernel_rfl
theorem subUnions_unfollowed : (Rows.subUnionsRow.unfollowed == Tryd.prog.unfollowed 8) = true := by kernel_rfl
theorem subUnions_recurses : (Rows.subUnionsRow.recurses == Tryd.prog.recurses 8) = true := by kernel_rfl
theorem subUnions_named : (Rows.subUnionsRow.named == Tryd.prog.varsNamed 8) = true := by kernel_rfl
theorem subUnions_wf : OpenClaim.wf (OpenSpec.ofChange Rows.subUnionsSpec) Rows.subUnionsRow = true := by kernel_rfl
theorem subUnions_closed : joinedFacts Tryd.prog 8 Tryd.f8 Rows.subUnionsSpec Rows.subUnionsRow = true :=
  joined_of subUnions_wf fact_laidOut fact_mapsRowed (by kernel_rfl) (by kernel_rfl) (by kernel_rfl) fact_stops (by kernel_rfl) fact_stopKnobs subUnions_inPlace subUnions_unfollowed subUnions_recurses subUnions_named (by kernel_rfl) (by kernel_rfl) (by kernel_rfl) (by kernel_rfl) (by kernel_rfl) (by kernel_rfl) (by kernel_rfl) (by kernel_rfl) (by kernel_rfl) fact_plainKeys (by kernel_rfl) fact_stopsHeard fact_mayEnter fact_lifted fact_make (by kernel_rfl) (by kernel_rfl) (by kernel_rfl) (by kernel_rfl)
theorem subUnions_func : Tryd.prog.funcNamed "armillary/armillarylaw08.SubUnions" = some 8 := by kernel_rfl
theorem subUnions_plain : Tryd.f8.isWrapper Tryd.prog Rows.subUnionsRow.wrapper Rows.subUnionsRow.mainSum := by unfold Func.isWrapper; first | (rw [if_pos (by decide +kernel)]; kernel_rfl) | (rw [if_neg (by decide +kernel)]; exact ⟨rfl, rfl⟩)
theorem subUnions_over : Rows.SubUnionsSaid :=
  OpenClaim.holds_of_wide 8 Tryd.f8 rfl rfl rfl rfl rfl rfl rfl ⟨rfl, rfl, rfl, rfl, rfl⟩ rfl rfl rfl rfl rfl subUnions_func Tryd.func8 subUnions_closed
    (of_decide_eq_true (by kernel_rfl)) subUnions_plain
    (fun os started H enc _ => subUnions_lifted os started H enc)
theorem subUnions_wft : Rows.subUnionsRow.wfByText (OpenSpec.ofChange Rows.subUnionsSpec) = true := by kernel_rfl
theorem subUnions_goes : false = Rows.subUnionsRow.goesBy Tryd.pinned.checked.prog := by kernel_rfl
theorem subUnions_holds : Rows.SubUnionsCardSaid :=
  Claim7.holds_tied_plain_at .later [] [.data] true (true, "b7f390f4ac617f6fa05530b730e12d26db561aeaf8ebef656134171ed864906e") false
    subUnions_over (fun _ h => by cases h) subUnions_wft (fun _ h => by cases h) subUnions_row_tie rfl ⟨rfl, rfl⟩ fact_mainIs rfl
    (fun f fn hf hfn => by
      obtain rfl : f = 8 := Option.some.inj (subUnions_func.symm.trans hf) |>.symm
      obtain rfl : fn = Tryd.f8 := (Option.some.inj (Tryd.func8.symm.trans hfn)).symm
      exact ⟨fact_looks, fun j t ht => by
        rw [Tryd.params8] at ht
        have hm : t ∈ [30, 31, 4] := by simpa using Array.mem_of_getElem? ht
        have hall : ([30, 31, 4].all fun u => !Tryd.prog.wantsStandIn u) = true := by kernel_rfl
        exact (show Tryd.prog.wantsStandIn t = false by simpa using List.all_eq_true.1 hall t hm)⟩)
    subUnions_goes
#print axioms subUnions_holds
end Go.Proofs.YtcljgfpcdlnlkaaDoor.Q
