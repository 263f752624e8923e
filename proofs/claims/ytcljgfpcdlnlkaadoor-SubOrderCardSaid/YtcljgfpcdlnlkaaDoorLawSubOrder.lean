/- The law SubOrder and its tied card: for every input it returns true, and its arguments read as they did. Conditions: those of each theorem's own statement. -/
import Derived.Test.YtcljgfpcdlnlkaaDoorJoinD
import Derived.Test.YtcljgfpcdlnlkaaDoorJoinC
import Derived.Test.YtcljgfpcdlnlkaaDoorJoinE
import Derived.Test.YtcljgfpcdlnlkaaDoorTie
import Derived.Test.YtcljgfpcdlnlkaaDoorClosedA
import Derived.Test.YtcljgfpcdlnlkaaDoorClosedB
import Derived.Test.YtcljgfpcdlnlkaaDoorClosedC
import Derived.SevenTiedAt
namespace Go.Proofs.YtcljgfpcdlnlkaaDoor.Q
open Go.RowKit Go.Proofs.YtcljgfpcdlnlkaaDoorW.PrintWords Mp
set_option maxRecDepth 100000 in
set_option maxHeartbeats 4000000 in
theorem order_walk (w : World) (A : Option Addr) (c : Nat) (l : List S119) (hk : KeysIn w) (hl : Kd.C k119 w A l.length l) (hc : l.length ≤ c) :
    Calls Tryd.prog 6 #[.slice A l.length c] w fun e w' => e = .returned (.bool true) ∧ Below w.heap.size w w' := by
  have HWk := Lib.hid (works_calls w hk)
  have HK := Lib.hid hk
  have HL := Lib.hid hl
  clear hk hl
  go_enter Tryd.func6, Tryd.ntmps6
  go_wp2_with fail
  refine HWk.out.mono ?_
  clear HWk
  rintro e w0 ⟨rfl, hb0⟩
  have HB0 := Lib.hid hb0
  have HK0 := Lib.hid (HK.out.below hb0)
  have HM := Lib.hid (made_calls A c l true w0 (Kd.C_below HL.out hb0) hc)
  clear hb0 HK HL hc
  go_wp2_with fail
  refine HM.out.mono ?_
  clear HM
  rintro e w1 ⟨v, g, rfl, hR, hgl, hM, hb⟩
  have HB1 := Lib.hid (HB0.out.trans (hb.mono HB0.out.size))
  have HK1 := Lib.hid (HK0.out.below hb)
  have hlen : g.length ≤ 14 := by omega
  have HS := Lib.hid (made_short hM)
  have HKs := Lib.hid (made_keys hM)
  have HCk := Lib.hid (made_check hM (by omega))
  obtain ⟨A1, c1, rfl, hc1, hC1⟩ := Kd.R_reads hR
  have HC1 := Lib.hid hC1
  have HAll := Lib.hid (all_told w1 A1 c1 g true HCk.out HK1.out HC1.out HS.out)
  clear hb hgl hM hR hC1 HB0 HK0 hc1
  go_wp2_with fail
  refine HAll.out.mono ?_
  clear HAll
  rintro e w2 ⟨B, b, M, rfl, hC2, hT, hb2⟩
  have HB2 := Lib.hid (HB1.out.trans (hb2.mono HB1.out.size))
  have HK2 := Lib.hid (HK1.out.below hb2)
  have HC2 := Lib.hid (Kd.C_below HC1.out hb2)
  have HM2 := Lib.hid hC2
  have HT := Lib.hid hT
  have HCh := Lib.hid (check_calls A1 g c1 w2 HK2.out HC2.out HS.out)
  rw [HCk.out] at HCh
  clear hb2 hC2 hT HB1 HK1 HC1
  go_wp2_with fail
  refine HCh.out.mono ?_
  clear HCh
  rintro e w3 ⟨rfl, hb3⟩
  have HB3 := Lib.hid (HB2.out.trans (hb3.mono HB2.out.size))
  have HK3 := Lib.hid (HK2.out.below hb3)
  have HC3 := Lib.hid (Kd.C_below HC2.out hb3)
  have HM3 := Lib.hid (Kd.C_below HM2.out hb3)
  clear hb3 HB2 HK2 HC2 HM2
  go_wp2
  go_loopw [6] (fun s6 W => ∃ i : Nat, i ≤ g.length ∧ s6 = .int .i64 i ∧ Hid (Below w3.heap.size w3 W)) (fun s6 _ => g.length - (intOf s6).toNat)
  case atStart => exact ⟨0, Nat.zero_le _, rfl, Lib.hid (Below.refl _ _)⟩
  case round =>
    obtain ⟨i, hi, rfl, HI⟩ := hrel
    by_cases hlt : i < g.length
    · obtain ⟨bd, rd0, rc, rfl, h1, h2⟩ := tab_cell (Kd.C_below HM3.out HI.out) HT.out.sq i i hlt hlt
      rw [HT.out.get i i hlt hlt, stands_refl HKs.out] at h2
      have HSt := Lib.hid (strict_calls wr A1 c1 g i i (HK3.out.below HI.out) (Kd.C_below HC3.out HI.out) HS.out)
      have hask : askB true g i i = true := by
        unfold askB
        rw [mayOf_two ⟨by omega, by omega⟩ ⟨by omega, by omega⟩, decide_eq_true HCk.out, stands_refl HKs.out]
        rfl
      rw [hask] at HSt
      clear hask
      go_wp2_with fail
      refine HSt.out.mono ?_
      clear HSt
      rintro e w4 ⟨rfl, hb4⟩
      have HI4 := Lib.hid (HI.out.trans (hb4.mono HI.out.size))
      clear hb4 h1 h2
      go_wp2
      go_roundw
      case rel => exact ⟨i + 1, by omega, by go_num, HI4⟩
      case measure => simp [intOf]; omega
    · obtain rfl : i = g.length := by omega
      have HB4 := Lib.hid (HB3.out.trans (HI.out.mono HB3.out.size))
      have HM4 := Lib.hid (Kd.C_below HM3.out HI.out)
      clear HB3 HK3 HC3 HM3 HI
      obtain ⟨wq, hwq⟩ : ∃ wq, wq = wr := ⟨_, rfl⟩
      subst hwq
      go_wp2
      go_loopw [7] (fun s7 W => ∃ a : Nat, a ≤ g.length ∧ s7 = .int .i64 a ∧ Hid (W = wq)) (fun s7 _ => g.length - (intOf s7).toNat)
      case atStart => exact ⟨0, Nat.zero_le _, rfl, Lib.hid (by simp)⟩
      case round =>
        obtain ⟨a, ha, rfl, HI⟩ := hrel
        have hww := HI.out.symm
        subst hww
        by_cases hlta : a < g.length
        · obtain ⟨bd, R1, d1, rfl, p1, hr1⟩ := tab_row HM4.out a hlta
          rw [HT.out.sq.row a hlta] at p1 hr1
          have HR1 := Lib.hid hr1
          clear hr1
          go_wp2
          go_loopw [8] (fun s8 W => ∃ b : Nat, b ≤ g.length ∧ s8 = .int .i64 b ∧ Hid (W = wq)) (fun s8 _ => g.length - (intOf s8).toNat)
          case atStart => exact ⟨0, Nat.zero_le _, rfl, Lib.hid (by simp)⟩
          case round =>
            obtain ⟨b, hb, rfl, HI⟩ := hrel
            have hww := HI.out.symm
            subst hww
            by_cases hltb : b < g.length
            · obtain ⟨bd2, R2, d2, e2, p2, hr2⟩ := tab_row HM4.out b hltb
              obtain rfl := Option.some.inj e2
              rw [HT.out.sq.row b hltb] at p2 hr2
              have HR2 := Lib.hid hr2
              obtain ⟨q1, rfl, x1⟩ := bool_cell HR1.out b hltb
              have g1 : (M.getD a []).getD b false = standsB true g ((a : Int), (b : Int)) := HT.out.get a b hlta hltb
              rw [g1] at x1
              clear hr2 e2 g1
              go_wp2
              go_loopw [9] (fun s9 W => ∃ k : Nat, k ≤ g.length ∧ s9 = .int .i64 k ∧ Hid (W = wq)) (fun s9 _ => g.length - (intOf s9).toNat)
              case atStart => exact ⟨0, Nat.zero_le _, rfl, Lib.hid (by simp)⟩
              case round =>
                obtain ⟨k, hk, rfl, HI⟩ := hrel
                have hww := HI.out.symm
                subst hww
                by_cases hltk : k < g.length
                · obtain ⟨q2, rfl, x2⟩ := bool_cell HR2.out k hltk
                  obtain ⟨q3, e3, x3⟩ := bool_cell HR1.out k hltk
                  obtain rfl := Option.some.inj e3
                  have g2 : (M.getD b []).getD k false = standsB true g ((b : Int), (k : Int)) := HT.out.get b k hltb hltk
                  have g3 : (M.getD a []).getD k false = standsB true g ((a : Int), (k : Int)) := HT.out.get a k hlta hltk
                  rw [g2] at x2
                  rw [g3] at x3
                  have HTr := Lib.hid (fun h1 h2 => @stands_trans g (a : Int) (b : Int) (k : Int) h1 h2)
                  clear g2 g3 e3
                  generalize standsB true g ((a : Int), (b : Int)) = t1 at x1 HTr
                  generalize standsB true g ((b : Int), (k : Int)) = t2 at x2 HTr
                  generalize standsB true g ((a : Int), (k : Int)) = t3 at x3 HTr
                  cases t1 with
                  | false =>
                    go_wp2
                    go_roundw
                    case rel => exact ⟨k + 1, by omega, by go_num, Lib.hid (by simp)⟩
                    case measure => simp [intOf]; omega
                  | true =>
                    cases t2 with
                    | false =>
                      go_wp2
                      go_roundw
                      case rel => exact ⟨k + 1, by omega, by go_num, Lib.hid (by simp)⟩
                      case measure => simp [intOf]; omega
                    | true =>
                      obtain rfl : t3 = true := HTr.out rfl rfl
                      go_wp2
                      go_roundw
                      case rel => exact ⟨k + 1, by omega, by go_num, Lib.hid (by simp)⟩
                      case measure => simp [intOf]; omega
                · obtain rfl : k = g.length := by omega
                  clear HI
                  go_wp2
                  go_roundw
                  case rel => exact ⟨b + 1, by omega, by go_num, Lib.hid (by simp)⟩
                  case measure => simp [intOf]; omega
            · obtain rfl : b = g.length := by omega
              clear HI
              go_wp2
              go_roundw
              case rel => exact ⟨a + 1, by omega, by go_num, Lib.hid (by simp)⟩
              case measure => simp [intOf]; omega
        · obtain rfl : a = g.length := by omega
          clear HI
          go_wp2
          go_ret
          exact ⟨rfl, HB4.out⟩
end Go.Proofs.YtcljgfpcdlnlkaaDoor.Q
namespace Go.Proofs.YtcljgfpcdlnlkaaDoor.Q
open Go.ChangeShapes Go.WideShapes Go.ChangeAt Go.RowKit Go.Proofs.YtcljgfpcdlnlkaaDoorW.PrintWords
set_option maxRecDepth 100000 in
theorem subOrder_lifted (os : Os) (started : os.Started) (H : Type) (enc : TypeId × Value → H) :
    ReturnsInHanded {} Tryd.checked os 6 .any (fun w args => (Rows.subOrderSpec.pre enc Tryd.prog Tryd.f6 [] false w args ∧ laidMetH Tryd.prog laidKeys w) ∧ sizedMet enc Tryd.prog Tryd.f6 (OpenSpec.ofChange Rows.subOrderSpec) false w args)
      (Rows.subOrderSpec.post enc Tryd.prog Tryd.f6 false true false false) := by
  refine returnsInHanded_of_change_and (C := Tryd.checked) (X := fun w _ => laidMetH Tryd.prog laidKeys w) (fun _ _ _ hh h => h.of_heap hh) own started (by kernel_rfl) Tryd.func6
    (ChangeSpec.witness_shaped (enc := enc) (C := Tryd.checked) (os := os) (X := fun w _ => laidMetH Tryd.prog laidKeys w) false (World.doorLaid Tryd.prog 400 os) #[.slice none 0 0] 8 rfl (World.shaped_of_RefB (by kernel_rfl) (by kernel_rfl)) (by kernel_rfl) (by kernel_rfl) (by kernel_rfl) (door_met os _)) ?_
  intro W base args ds gs before hval0 hW _ _ hL _
  have hval : ∀ (j : Nat) t v, Tryd.f6.params[j]? = some t → args[j]? = some v → Value.okWide Tryd.prog W .any base t v := hval0
  have hW' := hW
  obtain ⟨p, q, hA0, hV, rfl, hfz, hnd⟩ := hW
  have hA : DataW.TrodAll enc Tryd.prog W 0 (fun _ => true) true Tryd.f6.params.toList args.toList ds p := hA0
  rw [Tryd.params6] at hA hval
  obtain ⟨v0, vs0, d0, ds0, p0, q0, hargs, rfl, rfl, h0, r0⟩ := trodAll_cons hA
  obtain ⟨rfl, rfl, rfl⟩ := trodAll_nil r0
  obtain rfl : args = #[v0] := by cases args; simp_all
  obtain ⟨rfl, rfl⟩ := trodVars_none hV
  have k0 := h0
  have lt0 : ∀ x ∈ p0, x.block < W.heap.size := by obtain ⟨m, hm⟩ := k0; exact DataW.trod_lt m _ _ _ hm
  obtain ⟨a0, len0, cap0, rfl⟩ := okWide_slice Tryd.underlying30 (hval 0 30 v0 rfl rfl)
  obtain ⟨l0, hl0, hc0, hC0⟩ : ∃ xs, xs.length = len0 ∧ len0 ≤ cap0 ∧ Kd.C k119 W a0 len0 xs := by
    obtain ⟨fuel, hf⟩ := h0
    obtain ⟨A, len, cap, xs, hcs, e1, _, e3, e4⟩ := open_kd k119 Tryd.underlying30 (by kernel_rfl) open_row93 hf
    simp [Value.cells] at hcs
    obtain ⟨rfl, rfl, rfl⟩ := hcs
    exact ⟨xs, e3, e1, e4⟩
  subst hl0
  clear hA0 hval0
  refine (order_walk W a0 cap0 l0 (keys_of hL) hC0 hc0).mono fun e W' ⟨he, bel⟩ => ?_
  subst he
  exact ⟨_, rfl, _, _, _, [], _, [], hW', trodAll_mk1 (shut_bool Tryd.underlying4 _), (trodAll_cons_mk (Below.trod laidOut (by kernel_rfl) (of_decide_eq_true (by kernel_rfl)) k0 bel lt0) trodAll_mk0), rfl, bel.frame _, fun h => by cases h⟩
theorem subOrder_inPlace : (Rows.subOrderRow.inPlace == Tryd.prog.inPlace 6) = true := by kernel_rfl
theorem subOrder_unfollowed : (Rows.subOrderRow.unfollowed == Tryd.prog.unfollowed 6) = true := by kernel_rfl
theorem subOrder_recurses : (Rows.subOrderRow.recurses == Tryd.prog.recurses 6) = true := by kernel_rfl
theorem subOrder_named : (Rows.subOrderRow.named == Tryd.prog.varsNamed 6) = true := by kernel_rfl
theorem subOrder_wf : OpenClaim.wf (OpenSpec.ofChange Rows.subOrderSpec) Rows.subOrderRow = true := by kernel_rfl
theorem subOrder_closed : joinedFacts Tryd.prog 6 Tryd.f6 Rows.subOrderSpec Rows.subOrderRow = true :=
  joined_of subOrder_wf fact_laidOut fact_mapsRowed (by kernel_rfl) (by kernel_rfl) (by kernel_rfl) fact_stops (by kernel_rfl) fact_stopKnobs subOrder_inPlace subOrder_unfollowed subOrder_recurses subOrder_named (by kernel_rfl) (by kernel_rfl) (by kernel_rfl) (by kernel_rfl) (by kernel_rfl) (by kernel_rfl) (by kernel_rfl) (by kernel_rfl) (by kernel_rfl) fact_plainKeys (by kernel_rfl) fact_stopsHeard fact_mayEnter fact_lifted fact_make (by kernel_rfl) (by kernel_rfl) (by kernel_rfl) (by kernel_rfl)
theorem subOrder_func : Tryd.prog.funcNamed "armillary/armillarylaw08.SubOrder" = some 6 := by kernel_rfl
theorem subOrder_plain : Tryd.f6.isWrapper Tryd.prog Rows.subOrderRow.wrapper Rows.subOrderRow.mainSum := by unfold Func.isWrapper; first | (rw [if_pos (by decide +kernel)]; kernel_rfl) | (rw [if_neg (by decide +kernel)]; exact ⟨rfl, rfl⟩)
theorem subOrder_over : Rows.SubOrderSaid :=
  OpenClaim.holds_of_wide 6 Tryd.f6 rfl rfl rfl rfl rfl rfl rfl ⟨rfl, rfl, rfl, rfl, rfl⟩ rfl rfl rfl rfl rfl subOrder_func Tryd.func6 subOrder_closed
    (of_decide_eq_true (by kernel_rfl)) subOrder_plain
    (fun os started H enc _ => subOrder_lifted os started H enc)
theorem subOrder_wft : Rows.subOrderRow.wfByText (OpenSpec.ofChange Rows.subOrderSpec) = true := by kernel_rfl
theorem subOrder_goes : false = Rows.subOrderRow.goesBy Tryd.pinned.checked.prog := by kernel_rfl
theorem subOrder_holds : Rows.SubOrderCardSaid :=
  Claim7.holds_tied_plain_at .later [] [.data] true (true, "b7f390f4ac617f6fa05530b730e12d26db561aeaf8ebef656134171ed864906e") false
    subOrder_over (fun _ h => by cases h) subOrder_wft (fun _ h => by cases h) subOrder_row_tie rfl ⟨rfl, rfl⟩ fact_mainIs rfl
    (fun f fn hf hfn => by
      obtain rfl : f = 6 := Option.some.inj (subOrder_func.symm.trans hf) |>.symm
      obtain rfl : fn = Tryd.f6 := (Option.some.inj (Tryd.func6.symm.trans hfn)).symm
      exact ⟨fact_looks, fun j t ht => by
        rw [Tryd.params6] at ht
        have hm : t ∈ [30] := by simpa using Array.mem_of_getElem? ht
        have hall : ([30].all fun u => !Tryd.prog.wantsStandIn u) = true := by kernel_rfl
        exact (show Tryd.prog.wantsStandIn t = false by simpa using List.all_eq_true.1 hall t hm)⟩)
    subOrder_goes
#print axioms subOrder_holds
end Go.Proofs.YtcljgfpcdlnlkaaDoor.Q
