/- The law SubPicks and its tied card: for every input it returns true, and its arguments read as they did. Conditions: those of each theorem's own statement. -/
import Derived.Test.YtcljgfpcdlnlkaaDoorJoinD
import Derived.Test.YtcljgfpcdlnlkaaDoorJoinC
import Derived.Test.YtcljgfpcdlnlkaaDoorJoinE
import Derived.Test.YtcljgfpcdlnlkaaDoorTie
import Derived.Test.YtcljgfpcdlnlkaaDoorClosedA
import Derived.Test.YtcljgfpcdlnlkaaDoorClosedB
import Derived.Test.YtcljgfpcdlnlkaaDoorClosedC
import Derived.SevenTiedAt
namespace Go.Proofs.YtcljgfpcdlnlkaaDoor.Q
open Go.RowKit Go.Proofs.YtcljgfpcdlnlkaaDoorW.PrintWords Go.Proofs.YtcljgfpcdlnlkaaDoorW.PrintLast Mp
set_option maxRecDepth 100000 in
set_option maxHeartbeats 4000000 in
theorem picks_walk (w : World) (A : Option Addr) (c : Nat) (l : List S119) (x y : Int) (hk : KeysIn w) (hl : Kd.C k119 w A l.length l) (hc : l.length ≤ c) :
    Calls Tryd.prog 4 #[.slice A l.length c, .agg #[.int .i64 x, .int .i64 y]] w fun e w' => e = .returned (.bool true) ∧ Below w.heap.size w w' := by
  have hB0 : Below w.heap.size w (w.alloc (.cells #[.int .i64 x, .int .i64 y] 31)) := (Below.refl _ _).alloc (Nat.le_refl _) _
  have HM := Lib.hid (made_calls A c l true (w.alloc (.cells #[.int .i64 x, .int .i64 y] 31)) (Kd.C_alloc hl _) hc)
  have HK0 := Lib.hid (hk.below hB0)
  have px : (w.alloc (.cells #[.int .i64 x, .int .i64 y] 31)).cell? ⟨w.heap.size, 0, none⟩ = some (.int .i64 x) := by simp
  have py : (w.alloc (.cells #[.int .i64 x, .int .i64 y] 31)).cell? ⟨w.heap.size, 1, none⟩ = some (.int .i64 y) := by simp
  have HB0 := Lib.hid hB0
  clear hk hl hB0
  go_enter Tryd.func4, Tryd.ntmps4
  go_wp2_with fail
  refine HM.out.mono ?_
  clear HM
  generalize w.alloc (.cells #[.int .i64 x, .int .i64 y] 31) = w0 at HB0 HK0 px py
  rintro e w1 ⟨v, g, rfl, hR, hgl, hM, hb⟩
  have HB1 := Lib.hid (HB0.out.trans (hb.mono HB0.out.size))
  have px1 := (hb.cell (World.block_lt_of_cell? w0 _ px)).trans px
  have py1 := (hb.cell (World.block_lt_of_cell? w0 _ py)).trans py
  have HK1 := Lib.hid (HK0.out.below hb)
  have HMo := Lib.hid hM
  have hlen : g.length ≤ 14 := by omega
  have HS := Lib.hid (made_short hM)
  obtain ⟨A1, c1, rfl, hc1, hC1⟩ := Kd.R_reads hR
  have HC1 := Lib.hid hC1
  clear hb hgl hM hR hC1 px py HB0 HK0 hc hc1
  by_cases h0 : g.length = 0
  · have n0 : ((g.length : Int) == 0) = true := by simp [h0]
    have HWk := Lib.hid (works_calls w1 HK1.out)
    clear h0
    go_wp2_with fail
    refine HWk.out.mono ?_
    rintro e w2 ⟨rfl, hb2⟩
    have HB2 := Lib.hid (HB1.out.trans (hb2.mono HB1.out.size))
    clear hb2
    go_wp2
    go_ret
    exact ⟨rfl, HB2.out⟩
  · have n0 : ((g.length : Int) == 0) = false := by simp [h0]
    have HBx := Lib.hid (fun W => bring_calls x g.length W (by omega) (by omega))
    have HBy := Lib.hid (fun W => bring_calls y g.length W (by omega) (by omega))
    have ha := bring_in (i := x) (n := g.length) (by omega)
    have hb := bring_in (i := y) (n := g.length) (by omega)
    clear h0
    go_wp2
    refine start_ (n := 12) (S := fun w' => w'.cell? ⟨w.heap.size, 0, none⟩ = some (.int .i64 x) ∧ w'.cell? ⟨w.heap.size, 1, none⟩ = some (.int .i64 y)) (ds := [9]) #[false, false, false, false, false, false, false, false, false, false, false, false] (by kernel_rfl) rfl rfl ⟨px1, py1⟩ (fun hHeld => ?_)
    have HBd := Lib.hid (show Below w.heap.size w w1.drew from below_drewN HB1.out 1)
    have hbd : Below w1.heap.size w1 w1.drew := below_drewN (Below.refl _ _) 1
    have HKd := Lib.hid (HK1.out.below hbd)
    have HCd := Lib.hid (Kd.C_below HC1.out hbd)
    clear hbd HB1 HK1 HC1 px1 py1
    generalize w1.drew = w2 at *
    refine pure_ (i := 0) (N := some 18) (v := ?_) (a' := ?_) #[true, false, false, false, false, false, false, false, false, false, false, false] rfl rfl (by kernel_rfl) (fun _ _ _ h => h) (Or.inl ⟨by rfl, ?_⟩) ?_ ?_
    rotate_left
    · intro w'
      go_simp
      with_reducible rfl
    rotate_left
    · simp only [Act.put, List.setIfInBounds_toArray, List.set_cons_zero, List.set_cons_succ]
      rfl
    refine pure_ (i := 2) (N := some 20) (v := ?_) (a' := ?_) #[true, false, true, false, false, false, false, false, false, false, false, false] rfl rfl (by kernel_rfl) (fun _ _ _ h => h) (Or.inl ⟨by rfl, ?_⟩) ?_ ?_
    rotate_left
    · intro w'
      go_simp
      with_reducible rfl
    rotate_left
    · simp only [Act.put, List.setIfInBounds_toArray, List.set_cons_zero, List.set_cons_succ]
      rfl
    refine pure_ (i := 3) (N := some 21) (v := ?_) (a' := ?_) #[true, false, true, true, false, false, false, false, false, false, false, false] rfl rfl (by kernel_rfl) (fun _ _ _ h => h) (Or.inl ⟨by rfl, ?_⟩) ?_ ?_
    rotate_left
    · intro w'
      go_simp
      with_reducible rfl
    rotate_left
    · simp only [Act.put, List.setIfInBounds_toArray, List.set_cons_zero, List.set_cons_succ]
      rfl
    refine pure_ (i := 5) (N := some 23) (v := ?_) (a' := ?_) #[true, false, true, true, false, true, false, false, false, false, false, false] rfl rfl (by kernel_rfl) (fun _ _ _ h => h) (Or.inl ⟨by rfl, ?_⟩) ?_ ?_
    rotate_left
    · intro w'
      go_simp
      with_reducible rfl
    rotate_left
    · simp only [Act.put, List.setIfInBounds_toArray, List.set_cons_zero, List.set_cons_succ]
      rfl
    refine pure_ (i := 7) (N := some 25) (v := ?_) (a' := ?_) #[true, false, true, true, false, true, false, true, false, false, false, false] rfl rfl (by kernel_rfl) (fun _ _ _ h => h) (Or.inl ⟨by rfl, ?_⟩) ?_ ?_
    rotate_left
    · intro w'
      go_simp
      with_reducible rfl
    rotate_left
    · simp only [Act.put, List.setIfInBounds_toArray, List.set_cons_zero, List.set_cons_succ]
      rfl
    refine pure_ (i := 8) (N := some 26) (v := ?_) (a' := ?_) #[true, false, true, true, false, true, false, true, true, false, false, false] rfl rfl (by kernel_rfl) (fun _ _ _ h => h) (Or.inl ⟨by rfl, ?_⟩) ?_ ?_
    rotate_left
    · intro w'
      go_simp
      with_reducible rfl
    rotate_left
    · simp only [Act.put, List.setIfInBounds_toArray, List.set_cons_zero, List.set_cons_succ]
      rfl
    refine take_ (i := 1) (N := some 19) (v := ?_) (a' := ?_) #[true, true, true, true, false, true, false, true, true, false, false, false] rfl rfl (by kernel_rfl) (fun _ _ _ h => h) (Or.inl ⟨by rfl, ?_⟩) hHeld ?_ ?_
    rotate_left
    · rintro w' ⟨s0, s1⟩
      go_simp
      with_reducible rfl
    rotate_left
    · simp only [Act.put, List.setIfInBounds_toArray, List.set_cons_zero, List.set_cons_succ]
      rfl
    refine take_ (i := 6) (N := some 24) (v := ?_) (a' := ?_) #[true, true, true, true, false, true, true, true, true, false, false, false] rfl rfl (by kernel_rfl) (fun _ _ _ h => h) (Or.inl ⟨by rfl, ?_⟩) hHeld ?_ ?_
    rotate_left
    · rintro w' ⟨s0, s1⟩
      go_simp
      with_reducible rfl
    rotate_left
    · simp only [Act.put, List.setIfInBounds_toArray, List.set_cons_zero, List.set_cons_succ]
      rfl
    refine one_ (i := 4) (N := some 22) #[true, true, true, true, true, true, true, true, true, false, false, false] rfl rfl (by kernel_rfl) (by decide) (fun K hK => ?_)
    refine goes_ Tryd.func24 (by kernel_rfl) rfl #[.int .i64 x, .int .i64 g.length] (by rfl) rfl rfl (by simp only [List.map_toArray, List.map_cons, List.map_nil]; rfl) ?_
    refine (HBx.out _).mono ?_
    rintro e w' ⟨rfl, hww⟩
    replace hww := hww.symm
    subst hww
    refine ⟨_, rfl, hK.out _ _ hHeld (fun _ => ?_)⟩
    clear hK K
    refine norm_ (a' := ?_) ?_ ?_
    rotate_left
    · show Act.put _ (some 22) _ = _
      simp only [Act.put, List.setIfInBounds_toArray, List.set_cons_zero, List.set_cons_succ]
      rfl
    refine last_ (i := 9) (N := some 27) #[true, true, true, true, true, true, true, true, true, true, false, false] rfl rfl (by kernel_rfl) (by decide) (fun K hK => ?_)
    refine goes_ Tryd.func24 (by kernel_rfl) rfl #[.int .i64 y, .int .i64 g.length] (by rfl) rfl rfl (by simp only [List.map_toArray, List.map_cons, List.map_nil]; rfl) ?_
    refine (HBy.out _).mono ?_
    rintro e w' ⟨rfl, hww⟩
    replace hww := hww.symm
    subst hww
    refine ⟨_, rfl, hK.out _ _ ?_⟩
    clear hK K
    refine norm_ (a' := ?_) ?_ ?_
    rotate_left
    · show Act.put _ (some 27) _ = _
      simp only [Act.put, List.setIfInBounds_toArray, List.set_cons_zero, List.set_cons_succ]
      rfl
    refine pure_ (i := 10) (N := some 6) (v := ?_) (a' := ?_) #[true, true, true, true, true, true, true, true, true, true, true, false] rfl rfl (by kernel_rfl) (fun _ _ _ h => h) (Or.inl ⟨by rfl, ?_⟩) ?_ ?_
    rotate_left
    · intro w'
      go_simp
      with_reducible rfl
    rotate_left
    · simp only [Act.put, List.setIfInBounds_toArray, List.set_cons_zero, List.set_cons_succ]
      rfl
    refine pure_ (i := 11) (N := some 7) (v := ?_) (a' := ?_) #[true, true, true, true, true, true, true, true, true, true, true, true] rfl rfl (by kernel_rfl) (fun _ _ _ h => h) (Or.inl ⟨by rfl, ?_⟩) ?_ ?_
    rotate_left
    · intro w'
      go_simp
      with_reducible rfl
    rotate_left
    · simp only [Act.put, List.setIfInBounds_toArray, List.set_cons_zero, List.set_cons_succ]
      rfl
    refine done_ (by kernel_rfl) ?_
    clear HBx HBy hHeld
    generalize bringI x g.length = a at ha ⊢
    generalize bringI y g.length = b at hb ⊢
    have HP := Lib.hid (pick25_calls w2 A1 c1 g a b HKd.out HCd.out HS.out)
    go_wp2_with fail
    refine HP.out.mono ?_
    clear HP
    rintro e w3 ⟨rfl, hb3⟩
    have HB3 := Lib.hid (HBd.out.trans (hb3.mono HBd.out.size))
    have HC3 := Lib.hid (Kd.C_below HCd.out hb3)
    have HK3 := Lib.hid (HKd.out.below hb3)
    clear hb3 HBd HCd HKd
    obtain ⟨ad, _, _, _, _, rfl, k0, _⟩ := at_T37 HC3.out a ha.1 ha.2
    have i0 := ha.1
    have i1 := ha.2
    by_cases h8 : (rd_T37 g a).f0 = 8
    · have n8 : ((rd_T37 g a).f0 == 8) = true := by simp [h8]
      have hp : pickP g a b = -2 := by simp [pickP, h8]
      rw [hp]
      have HWk := Lib.hid (works_calls w3 HK3.out)
      clear h8 hp
      go_wp2_with fail
      refine HWk.out.mono ?_
      rintro e w4 ⟨rfl, hb4⟩
      have HB4 := Lib.hid (HB3.out.trans (hb4.mono HB3.out.size))
      clear hb4
      go_wp2
      go_ret
      exact ⟨rfl, HB4.out⟩
    · have n8 : ((rd_T37 g a).f0 == 8) = false := by simp [h8]
      have HMb := Lib.hid (members_calls (some ad) c1 g b w3 HC3.out (by have := (made_four HMo.out hb.1 hb.2).2; omega))
      have hml := made_members HMo.out b
      obtain ⟨f1, f2, f3, f4, f5, f6⟩ := pick_law ha hb h8
      generalize pickP g a b = k at *
      have HF4 := Lib.hid f4
      have HF5 := Lib.hid f5
      have HF6 := Lib.hid f6
      have dk : decide (k < -2) = false := decide_eq_false (by omega)
      have dl : decide ((membersL g b).length ≤ k) = false := decide_eq_false (by omega)
      have dm : ((k == -2) == askB false g a b) = false := by
        rw [f3]
        by_cases e : k = -2 <;> simp [e]
      clear f3 f4 f5 f6 h8
      go_wp2_with fail
      refine HMb.out.mono ?_
      clear HMb
      rintro e w4 ⟨v, rfl, hRm, hb4⟩
      have HB4 := Lib.hid (HB3.out.trans (hb4.mono HB3.out.size))
      have HC4 := Lib.hid (Kd.C_below HC3.out hb4)
      have HK4 := Lib.hid (HK3.out.below hb4)
      obtain ⟨Am, cm, rfl, hcm, hCm⟩ := Kd.R_reads hRm
      have HCm := Lib.hid hCm
      have k0' := (hb4.cell (World.block_lt_of_cell? w3 _ k0)).trans k0
      clear hb4 hRm hCm k0 HB3 HC3 HK3
      generalize membersL g b = m at *
      have HMy := Lib.hid (may_calls2 w4 (some ad) c1 g a b HK4.out HC4.out HS.out)
      go_wp2_with fail
      refine HMy.out.mono ?_
      clear HMy
      rintro e w5 ⟨rfl, hb5⟩
      generalize askB false g a b = q at dm ⊢
      go_wp2
      have HB5 := Lib.hid (HB4.out.trans (hb5.mono HB4.out.size))
      have HC5 := Lib.hid (Kd.C_below HC4.out hb5)
      have HK5 := Lib.hid (HK4.out.below hb5)
      replace HCm := Lib.hid (Kd.C_below HCm.out hb5)
      have k05 := (hb5.cell (World.block_lt_of_cell? w4 _ k0')).trans k0'
      clear hb5 k0' dm dk dl HB4 HC4 HK4
      go_loopw [10] (fun s10 W => ∃ j : Nat, j ≤ m.length ∧ s10 = .int .i64 j ∧ Hid (Below w5.heap.size w5 W)) (fun s10 _ => m.length - (intOf s10).toNat)
      case atStart => exact ⟨0, Nat.zero_le _, rfl, Lib.hid (Below.refl _ _)⟩
      case round =>
        obtain ⟨j, hj, rfl, HI⟩ := hrel
        by_cases hlt : j < m.length
        · obtain ⟨am, rfl, hcj⟩ := int_cell (Kd.C_below HCm.out HI.out) j hlt
          have HMj := Lib.hid (may_calls2 wr (some ad) c1 g a (rd m j) (HK5.out.below HI.out) (Kd.C_below HC5.out HI.out) HS.out)
          have kr := (HI.out.cell (World.block_lt_of_cell? w5 _ k05)).trans k05
          have g4 := HF4.out j hlt
          have g5 := HF5.out j hlt
          generalize askB false g a (rd m j) = q2 at g4 g5 HMj
          go_wp2_with fail
          refine HMj.out.mono ?_
          clear HMj
          rintro e w6 ⟨rfl, hb6⟩
          have kr6 := (hb6.cell (World.block_lt_of_cell? wr _ kr)).trans kr
          have HI6 := Lib.hid (HI.out.trans (hb6.mono HI.out.size))
          clear hb6 kr hcj
          by_cases hjk : (j : Int) < k
          · have djk : decide ((j : Int) < k) = true := decide_eq_true hjk
            have ejk : ((j : Int) == k) = false := by simp; omega
            cases q2 with
            | false =>
              clear g4 g5
              go_wp2
              go_roundw
              case rel => exact ⟨j + 1, by omega, by go_num, HI6⟩
              case measure => simp [intOf]; omega
            | true =>
              have n9 : ((rd_T37 g a).f0 != 9) = false := by
                by_cases e9 : (rd_T37 g a).f0 = 9
                · simp [e9]
                · exact absurd (g4 hjk e9) (by decide)
              clear g4 g5
              go_wp2
              go_roundw
              case rel => exact ⟨j + 1, by omega, by go_num, HI6⟩
              case measure => simp [intOf]; omega
          · have djk : decide ((j : Int) < k) = false := decide_eq_false hjk
            by_cases ejk' : (j : Int) = k
            · have ejk : ((j : Int) == k) = true := by simp [ejk']
              obtain rfl : q2 = true := g5 ejk'
              clear g4 g5 ejk'
              go_wp2
              go_roundw
              case rel => exact ⟨j + 1, by omega, by go_num, HI6⟩
              case measure => simp [intOf]; omega
            · have ejk : ((j : Int) == k) = false := by simp [ejk']
              clear g4 g5 ejk'
              go_wp2
              go_roundw
              case rel => exact ⟨j + 1, by omega, by go_num, HI6⟩
              case measure => simp [intOf]; omega
        · obtain rfl : j = m.length := by omega
          by_cases hk1 : k = -1
          · have dk1 : (k != -1) = false := by simp [hk1]
            obtain ⟨h9, hq⟩ := HF6.out hk1
            have n9 : ((rd_T37 g a).f0 == 9) = true := by simp [h9]
            obtain ⟨t, ht, _⟩ := may_var (made_may HMo.out _ (rd37_mem ha.1 ha.2)) h9
            have hl1 : (rd_T37 g a).f4.length = 1 := by rw [ht]; rfl
            obtain ⟨ad2, E3, e3, E4, e4, hE, r0, _, _, _, r4, _, _, hl4, hc4⟩ := at_T37 (Kd.C_below HC5.out HI.out) a ha.1 ha.2
            obtain rfl : ad = ad2 := Option.some.inj hE
            obtain ⟨a9, rfl, hc9⟩ := int_cell hc4 0 (by omega)
            rw [hl1] at r4
            have hc9' : wr.cell? a9 = some (.int .i64 (rd (rd_T37 g a).f4 0)) := by simpa [Addr.add_zero'] using hc9
            have HMj := Lib.hid (may_calls2 wr (some ad) c1 g (rd (rd_T37 g a).f4 0) b (HK5.out.below HI.out) (Kd.C_below HC5.out HI.out) HS.out)
            rw [hq] at HMj
            generalize rd (rd_T37 g a).f4 0 = t0 at HMj hc9'
            clear hc9 hc4 hl4 hE ht hq h9 hk1 hl1
            go_wp2_with fail
            refine HMj.out.mono ?_
            clear HMj
            rintro e w6 ⟨rfl, hb6⟩
            have HI6 := Lib.hid (HI.out.trans (hb6.mono HI.out.size))
            have HWk := Lib.hid (works_calls w6 (HK5.out.below HI6.out))
            clear hb6 r0 r4 hc9'
            go_wp2_with fail
            refine HWk.out.mono ?_
            rintro e w7 ⟨rfl, hb7⟩
            have HI7 := Lib.hid (HI6.out.trans (hb7.mono HI6.out.size))
            clear hb7
            go_wp2
            go_ret
            exact ⟨rfl, HB5.out.trans (HI7.out.mono HB5.out.size)⟩
          · have dk1 : (k != -1) = true := by simp [hk1]
            have HWk := Lib.hid (works_calls wr (HK5.out.below HI.out))
            clear hk1
            go_wp2_with fail
            refine HWk.out.mono ?_
            rintro e w7 ⟨rfl, hb7⟩
            have HI7 := Lib.hid (HI.out.trans (hb7.mono HI.out.size))
            clear hb7
            go_wp2
            go_ret
            exact ⟨rfl, HB5.out.trans (HI7.out.mono HB5.out.size)⟩
end Go.Proofs.YtcljgfpcdlnlkaaDoor.Q
namespace Go.Proofs.YtcljgfpcdlnlkaaDoor.Q
open Go.ChangeShapes Go.WideShapes Go.ChangeAt Go.RowKit Go.Proofs.YtcljgfpcdlnlkaaDoorW.PrintWords
set_option maxRecDepth 100000 in
theorem subPicks_lifted (os : Os) (started : os.Started) (H : Type) (enc : TypeId × Value → H) :
    ReturnsInHanded {} Tryd.checked os 4 .any (fun w args => (Rows.subPicksSpec.pre enc Tryd.prog Tryd.f4 [] false w args ∧ laidMetH Tryd.prog laidKeys w) ∧ sizedMet enc Tryd.prog Tryd.f4 (OpenSpec.ofChange Rows.subPicksSpec) false w args)
      (Rows.subPicksSpec.post enc Tryd.prog Tryd.f4 false true false false) := by
  refine returnsInHanded_of_change_and (C := Tryd.checked) (X := fun w _ => laidMetH Tryd.prog laidKeys w) (fun _ _ _ hh h => h.of_heap hh) own started (by kernel_rfl) Tryd.func4
    (ChangeSpec.witness_shaped (enc := enc) (C := Tryd.checked) (os := os) (X := fun w _ => laidMetH Tryd.prog laidKeys w) false (World.doorLaid Tryd.prog 400 os) #[.slice none 0 0, .agg #[.int .i64 0, .int .i64 0]] 8 rfl (World.shaped_of_RefB (by kernel_rfl) (by kernel_rfl)) (by kernel_rfl) (by kernel_rfl) (by kernel_rfl) (door_met os _)) ?_
  intro W base args ds gs before hval0 hW _ _ hL _
  have hval : ∀ (j : Nat) t v, Tryd.f4.params[j]? = some t → args[j]? = some v → Value.okWide Tryd.prog W .any base t v := hval0
  have hW' := hW
  obtain ⟨p, q, hA0, hV, rfl, hfz, hnd⟩ := hW
  have hA : DataW.TrodAll enc Tryd.prog W 0 (fun _ => true) true Tryd.f4.params.toList args.toList ds p := hA0
  rw [Tryd.params4] at hA hval
  obtain ⟨v0, vs0, d0, ds0, p0, q0, hargs, rfl, rfl, h0, r0⟩ := trodAll_cons hA
  obtain ⟨v1, vs1, d1, ds1, p1, q1, rfl, rfl, rfl, h1, r1⟩ := trodAll_cons r0
  obtain ⟨rfl, rfl, rfl⟩ := trodAll_nil r1
  obtain rfl : args = #[v0, v1] := by cases args; simp_all
  obtain ⟨rfl, rfl⟩ := trodVars_none hV
  have k0 := h0
  have lt0 : ∀ x ∈ p0, x.block < W.heap.size := by obtain ⟨m, hm⟩ := k0; exact DataW.trod_lt m _ _ _ hm
  obtain ⟨a0, len0, cap0, rfl⟩ := okWide_slice Tryd.underlying30 (hval 0 30 v0 rfl rfl)
  obtain ⟨l0, hl0, hc0, hC0⟩ : ∃ xs, xs.length = len0 ∧ len0 ≤ cap0 ∧ Kd.C k119 W a0 len0 xs := by
    obtain ⟨fuel, hf⟩ := h0
    obtain ⟨A, len, cap, xs, hcs, e1, _, e3, e4⟩ := open_kd k119 Tryd.underlying30 (by kernel_rfl) open_row93 hf
    simp [Value.cells] at hcs
    obtain ⟨rfl, rfl, rfl⟩ := hcs
    exact ⟨xs, e3, e1, e4⟩
  subst hl0
  have k1 := h1
  have lt1 : ∀ x ∈ p1, x.block < W.heap.size := by obtain ⟨m, hm⟩ := k1; exact DataW.trod_lt m _ _ _ hm
  obtain ⟨x1, y1, rfl, _⟩ := WideMaps.open_pair pair31 Tryd.underlying3 (hval 1 31 v1 rfl rfl) h1
  clear hA0 hval0
  refine (picks_walk W a0 cap0 l0 x1 y1 (keys_of hL) hC0 hc0).mono fun e W' ⟨he, bel⟩ => ?_
  subst he
  exact ⟨_, rfl, _, _, _, [], _, [], hW', trodAll_mk1 (shut_bool Tryd.underlying4 _), (trodAll_cons_mk (Below.trod laidOut (by kernel_rfl) (of_decide_eq_true (by kernel_rfl)) k0 bel lt0) (trodAll_cons_mk (Below.trod laidOut (by kernel_rfl) (of_decide_eq_true (by kernel_rfl)) k1 bel lt1) trodAll_mk0)), rfl, bel.frame _, fun h => by cases h⟩
theorem subPicks_inPlace : (Rows.subPicksRow.inPlace == Tryd.prog.inPlace 4) = true := by kernel_rfl
theorem subPicks_unfollowed : (Rows.subPicksRow.unfollowed == Tryd.prog.unfollowed 4) = true := by kernel_rfl
theorem subPicks_recurses : (Rows.subPicksRow.recurses == Tryd.prog.recurses 4) = true := by kernel_rfl
theorem subPicks_named : (Rows.subPicksRow.named == Tryd.prog.varsNamed 4) = true := by kernel_rfl
theorem subPicks_wf : OpenClaim.wf (OpenSpec.ofChange Rows.subPicksSpec) Rows.subPicksRow = true := by kernel_rfl
theorem subPicks_closed : joinedFacts Tryd.prog 4 Tryd.f4 Rows.subPicksSpec Rows.subPicksRow = true :=
  joined_of subPicks_wf fact_laidOut fact_mapsRowed (by kernel_rfl) (by kernel_rfl) (by kernel_rfl) fact_stops (by kernel_rfl) fact_stopKnobs subPicks_inPlace subPicks_unfollowed subPicks_recurses subPicks_named (by kernel_rfl) (by kernel_rfl) (by kernel_rfl) (by kernel_rfl) (by kernel_rfl) (by kernel_rfl) (by kernel_rfl) (by kernel_rfl) (by kernel_rfl) fact_plainKeys (by kernel_rfl) fact_stopsHeard fact_mayEnter fact_lifted fact_make (by kernel_rfl) (by kernel_rfl) (by kernel_rfl) (by kernel_rfl)
theorem subPicks_func : Tryd.prog.funcNamed "armillary/armillarylaw08.SubPicks" = some 4 := by kernel_rfl
theorem subPicks_plain : Tryd.f4.isWrapper Tryd.prog Rows.subPicksRow.wrapper Rows.subPicksRow.mainSum := by unfold Func.isWrapper; first | (rw [if_pos (by decide +kernel)]; kernel_rfl) | (rw [if_neg (by decide +kernel)]; exact ⟨rfl, rfl⟩)
theorem subPicks_over : Rows.SubPicksSaid :=
  OpenClaim.holds_of_wide 4 Tryd.f4 rfl rfl rfl rfl rfl rfl rfl ⟨rfl, rfl, rfl, rfl, rfl⟩ rfl rfl rfl rfl rfl subPicks_func Tryd.func4 subPicks_closed
    (of_decide_eq_true (by kernel_rfl)) subPicks_plain
    (fun os started H enc _ => subPicks_lifted os started H enc)
theorem subPicks_wft : Rows.subPicksRow.wfByText (OpenSpec.ofChange Rows.subPicksSpec) = true := by kernel_rfl
theorem subPicks_goes : false = Rows.subPicksRow.goesBy Tryd.pinned.checked.prog := by kernel_rfl
theorem subPicks_holds : Rows.SubPicksCardSaid :=
  Claim7.holds_tied_plain_at .later [] [.data] true (true, "b7f390f4ac617f6fa05530b730e12d26db561aeaf8ebef656134171ed864906e") false
    subPicks_over (fun _ h => by cases h) subPicks_wft (fun _ h => by cases h) subPicks_row_tie rfl ⟨rfl, rfl⟩ fact_mainIs rfl
    (fun f fn hf hfn => by
      obtain rfl : f = 4 := Option.some.inj (subPicks_func.symm.trans hf) |>.symm
      obtain rfl : fn = Tryd.f4 := (Option.some.inj (Tryd.func4.symm.trans hfn)).symm
      exact ⟨fact_looks, fun j t ht => by
        rw [Tryd.params4] at ht
        have hm : t ∈ [30, 31] := by simpa using Array.mem_of_getElem? ht
        have hall : ([30, 31].all fun u => !Tryd.prog.wantsStandIn u) = true := by kernel_rfl
        exact (show Tryd.prog.wantsStandIn t = false by simpa using List.all_eq_true.1 hall t hm)⟩)
    subPicks_goes
#print axioms subPicks_holds
end Go.Proofs.YtcljgfpcdlnlkaaDoor.Q
