/- The law SubTells and its tied card: for every input it returns true, and its arguments read as they did. Conditions: those of each theorem's own statement. -/
import Derived.Test.YtcljgfpcdlnlkaaDoorJSubTellsC
import Derived.Test.YtcljgfpcdlnlkaaDoorTie
import Derived.Test.YtcljgfpcdlnlkaaDoorClosedA
import Derived.Test.YtcljgfpcdlnlkaaDoorClosedB
import Derived.Test.YtcljgfpcdlnlkaaDoorClosedC
import Derived.SevenTiedAt
namespace Go.Proofs.YtcljgfpcdlnlkaaDoor.Q
open Go.ChangeShapes Go.WideShapes Go.ChangeAt Go.RowKit Go.Proofs.YtcljgfpcdlnlkaaDoorW.PrintWords Go.Proofs.YtcljgfpcdlnlkaaDoorW
theorem weights_all_mem {H : Type} {P : Program} {e : TypeId} : ∀ {l : List (DataW H)} {d : DataW H}, d ∈ l → ∀ n ∈ d.weights P e, n ∈ DataW.weightsAll P e l
  | d' :: r, d, hd, n, hn => by
    simp only [DataW.weightsAll, List.mem_append]
    rcases List.mem_cons.1 hd with rfl | h
    · exact Or.inl hn
    · exact Or.inr (weights_all_mem h n hn)
section
variable {H : Type} {enc : TypeId × Value → H} {w : World} {base : Nat} {spare : Nat → Bool} {held : Bool}
theorem open_kdW {α : Type} (d : Kd α) (Pd : α → Prop) {t e : TypeId} (ht : Tryd.prog.underlying t = some (.slice e)) (hsz : Tryd.prog.cellsOf e = d.sz)
    (hd : ∀ (n : Nat) (cs : List Value) (y : DataW H × List MemPlace), DataW.trod enc Tryd.prog w base spare held n e cs = some y → (∀ m ∈ y.1.weights Tryd.prog e, m ≤ reachBytes) → ∃ x, d.K w x cs ∧ Pd x)
    {fuel : Nat} {cs : List Value} {y : DataW H × List MemPlace} (h : DataW.trod enc Tryd.prog w base spare held fuel t cs = some y) (hw : ∀ m ∈ y.1.weights Tryd.prog t, m ≤ reachBytes) :
    ∃ A len cap xs, cs = [.slice A len cap] ∧ len ≤ cap ∧ cap ≤ maxLen ∧ xs.length = len ∧ d.C w A len xs ∧ (∀ x ∈ xs, Pd x) ∧ len * Tryd.prog.bytesOf e ≤ reachBytes := by
  rcases DataW.trod_slice ht h with ⟨rfl, _⟩ | ⟨a, len, cap, elems, rest, n, _, rfl, hx, hb, hl, hm, hlen, hel, _, _⟩
  · exact ⟨none, 0, 0, [], rfl, Nat.le_refl _, Nat.zero_le _, rfl, ⟨rfl, by simp, fun h => absurd h (by omega)⟩, fun x hx => by (cases hx), by simp⟩
  · have hy : y.1 = .slice (elems.map (·.1)) (rest.map (·.1)) := by rw [hx]
    rw [hy] at hw
    simp only [DataW.weights, ht, List.mem_cons, List.mem_append] at hw
    have hlw := hw _ (.inl rfl)
    obtain ⟨xs, hxl, hx⟩ := list_of len (fun i x => (∃ c, d.K w x c ∧ ∀ j u, c[j]? = some u → w.cell? (a.add (i * d.sz + j)) = some u) ∧ Pd x) (fun i hi => by
      have hE := hel i hi
      rw [List.getElem?_eq_getElem (by omega), Option.bind_eq_some_iff] at hE
      obtain ⟨c, hc, hy⟩ := hE
      obtain ⟨x, hK, hPd⟩ := hd _ _ _ hy (fun m hm => hw m (.inr (.inl (weights_all_mem (List.mem_map.2 ⟨_, List.getElem_mem _, rfl⟩) m hm))))
      refine ⟨x, ⟨c, hK, fun j u hu => ?_⟩, hPd⟩
      have := (cells_at hc).2 j u hu
      rw [hsz, Addr.add_add] at this
      exact this)
    refine ⟨some a, len, cap, xs, rfl, hl, hm, hxl, ⟨hxl, by simp only [maxLen] at hm; omega, fun _ => ⟨a, rfl, fun j p hp => ?_⟩⟩, fun x hm => ?_, ?_⟩
    · obtain ⟨⟨c, hK, hc⟩, _⟩ := hx j p hp
      exact ⟨c, d.K_len hK, hK, hc⟩
    · obtain ⟨i, hi, rfl⟩ := List.getElem_of_mem hm
      exact (hx i _ (List.getElem?_eq_getElem hi)).2
    · simp only [List.length_map, hlen] at hlw
      exact Nat.le_trans (Nat.mul_le_mul_right _ (by omega)) hlw
theorem open_sW (n : Nat) (cs : List Value) (y : DataW H × List MemPlace) (h : DataW.trod enc Tryd.prog w base spare held n 9 cs = some y) (_ : ∀ m ∈ y.1.weights Tryd.prog 9, m ≤ reachBytes) : ∃ x, Kd.string.K w x cs ∧ x.size ≤ 9223372036854775807 := by
  obtain ⟨k, rfl, _, hk⟩ := DataW.trod_string Tryd.underlying9 h
  exact ⟨k, rfl, hk⟩
theorem open_iW (n : Nat) (cs : List Value) (y : DataW H × List MemPlace) (h : DataW.trod enc Tryd.prog w base spare held n 3 cs = some y) (_ : ∀ m ∈ y.1.weights Tryd.prog 3, m ≤ reachBytes) : ∃ x, (Kd.int .i64).K w x cs ∧ True := by
  obtain ⟨k, rfl, _⟩ := DataW.trod_int Tryd.underlying3 h
  exact ⟨k, rfl, trivial⟩
theorem bytesOf9 : Tryd.prog.bytesOf 9 = 16 := by kernel_rfl
theorem bytesOf3 : Tryd.prog.bytesOf 3 = 8 := by kernel_rfl
theorem reach_is : reachBytes = 140737488351232 := rfl
/-- What the weights of a node say. -/
def NodeMet (x : S37) : Prop := (x.f2.size ≤ 9223372036854775807 ∧ ∀ s ∈ x.f3, s.size ≤ 9223372036854775807) ∧ x.f3.length < 8796093022208 ∧ x.f4.length < 17592186044416
theorem met_short {g : List S37} (h : ∀ x ∈ g, NodeMet x) : Short g := fun x hx => (h x hx).1
theorem met_lim {g : List S37} (h : ∀ x ∈ g, NodeMet x) : ∀ x ∈ g, x.f3.length < 8796093022208 ∧ x.f4.length < 17592186044416 := fun x hx => (h x hx).2
theorem open_node37W (n : Nat) (cs : List Value) (y : DataW H × List MemPlace) (h : DataW.trod enc Tryd.prog w base spare held n 37 cs = some y) (hw : ∀ m ∈ y.1.weights Tryd.prog 37, m ≤ reachBytes) : ∃ x, k37.K w x cs ∧ NodeMet x := by
  obtain ⟨xs, m, rfl, hx, hl, hn, hf⟩ := DataW.trod_struct Tryd.underlying37 h
  have hy : y.1 = .agg (xs.map (·.1)) := by rw [hx]
  rw [hy] at hw
  simp only [DataW.weights, Tryd.underlying37] at hw
  obtain ⟨a, b, c, d, e, rfl⟩ := five_cells (hl.trans cellsOf37)
  have h0 : DataW.trod enc Tryd.prog w base spare held m 3 (([a, b, c, d, e].drop 0).take (Tryd.prog.cellsOf 3)) = xs[0]? := hf 0 _ rfl
  have h1 : DataW.trod enc Tryd.prog w base spare held m 3 (([a, b, c, d, e].drop 1).take (Tryd.prog.cellsOf 3)) = xs[1]? := hf 1 _ rfl
  have h2 : DataW.trod enc Tryd.prog w base spare held m 9 (([a, b, c, d, e].drop 2).take (Tryd.prog.cellsOf 9)) = xs[2]? := hf 2 _ rfl
  have h3 : DataW.trod enc Tryd.prog w base spare held m 35 (([a, b, c, d, e].drop 3).take (Tryd.prog.cellsOf 35)) = xs[3]? := hf 3 _ rfl
  have h4 : DataW.trod enc Tryd.prog w base spare held m 23 (([a, b, c, d, e].drop 4).take (Tryd.prog.cellsOf 23)) = xs[4]? := hf 4 _ rfl
  rw [cellsOf3] at h0 h1
  rw [cellsOf9] at h2
  rw [cellsOf35] at h3
  rw [cellsOf23] at h4
  simp only [List.drop_zero, List.drop_succ_cons, List.take_succ_cons, List.take_zero] at h0 h1 h2 h3 h4
  have l5 : xs.length = 5 := by rw [hn]; rfl
  rw [List.getElem?_eq_getElem (by omega)] at h0 h1 h2 h3 h4
  have w3 : ∀ q ∈ (xs[3]'(by omega)).1.weights Tryd.prog 35, q ≤ reachBytes := fun q hq => hw q (DataW.weights_mem_each (j := 3) rfl (by rw [List.getElem?_map, List.getElem?_eq_getElem (by omega)]; rfl) q hq)
  have w4 : ∀ q ∈ (xs[4]'(by omega)).1.weights Tryd.prog 23, q ≤ reachBytes := fun q hq => hw q (DataW.weights_mem_each (j := 4) rfl (by rw [List.getElem?_map, List.getElem?_eq_getElem (by omega)]; rfl) q hq)
  obtain ⟨x0, e0, _⟩ := DataW.trod_int Tryd.underlying3 h0
  obtain ⟨x1, e1, _⟩ := DataW.trod_int Tryd.underlying3 h1
  obtain ⟨x2, e2, _, k2⟩ := DataW.trod_string Tryd.underlying9 h2
  obtain ⟨A3, n3, b3, x3, e3, l3, _, q3, g3, p3, r3⟩ := open_kdW Kd.string (fun s => s.size ≤ 9223372036854775807) Tryd.underlying35 (by kernel_rfl) open_sW h3 w3
  obtain ⟨A4, n4, b4, x4, e4, l4, _, q4, g4, _, r4⟩ := open_kdW (Kd.int .i64) (fun _ => True) Tryd.underlying23 (by kernel_rfl) open_iW h4 w4
  rw [bytesOf9, reach_is] at r3
  rw [bytesOf3, reach_is] at r4
  subst q3 q4
  simp only [List.cons.injEq, and_true] at e0 e1 e2 e3 e4
  subst e0 e1 e2 e3 e4
  exact ⟨⟨x0, x1, x2, x3, x4⟩, k37_mk w ⟨x0, x1, x2, x3, x4⟩ l3 g3 l4 g4, ⟨⟨k2, p3⟩, by show x3.length < _; omega, by show x4.length < _; omega⟩⟩
end
end Go.Proofs.YtcljgfpcdlnlkaaDoor.Q
namespace Go.Proofs.YtcljgfpcdlnlkaaDoor.Q
open Go.ChangeShapes Go.WideShapes Go.ChangeAt Go.RowKit Go.Proofs.YtcljgfpcdlnlkaaDoorW.PrintWords
set_option maxRecDepth 100000 in
theorem subTells_lifted (os : Os) (started : os.Started) (H : Type) (enc : TypeId × Value → H) :
    ReturnsInHanded {} Tryd.checked os 5 .any (fun w args => (Rows.subTellsSpec.pre enc Tryd.prog Tryd.f5 [] false w args ∧ laidMetH Tryd.prog laidKeys w) ∧ sizedMet enc Tryd.prog Tryd.f5 (OpenSpec.ofChange Rows.subTellsSpec) false w args)
      (Rows.subTellsSpec.post enc Tryd.prog Tryd.f5 false true false false) := by
  refine returnsInHanded_of_change_and (C := Tryd.checked) (X := fun w _ => laidMetH Tryd.prog laidKeys w) (fun _ _ _ hh h => h.of_heap hh) own started (by kernel_rfl) Tryd.func5
    (ChangeSpec.witness_shaped (enc := enc) (C := Tryd.checked) (os := os) (X := fun w _ => laidMetH Tryd.prog laidKeys w) false (World.doorLaid Tryd.prog 400 os) #[.slice none 0 0, .int .i64 0, .int .i64 0] 8 rfl (World.shaped_of_RefB (by kernel_rfl) (by kernel_rfl)) (by kernel_rfl) (by kernel_rfl) (by kernel_rfl) (door_met os _)) ?_
  intro W base args ds gs before hval0 hW _ hsz0 hL _
  have hval : ∀ (j : Nat) t v, Tryd.f5.params[j]? = some t → args[j]? = some v → Value.okWide Tryd.prog W .any base t v := hval0
  have hW' := hW
  obtain ⟨p, q, hA0, hV, rfl, hfz, hnd⟩ := hW
  have hA : DataW.TrodAll enc Tryd.prog W 0 (fun _ => true) true Tryd.f5.params.toList args.toList ds p := hA0
  have hsz : (DataW.weightsEach Tryd.prog (Tryd.f5.params.toList ++ Rows.subTellsSpec.plain.varTypes Tryd.prog) (ds ++ gs)).all (· ≤ reachBytes) = true := hsz0
  rw [Tryd.params5] at hA hval hsz
  obtain ⟨v0, vs0, d0, ds0, p0, q0, hargs, rfl, rfl, h0, r0⟩ := trodAll_cons hA
  obtain ⟨v1, vs1, d1, ds1, p1, q1, rfl, rfl, rfl, h1, r1⟩ := trodAll_cons r0
  obtain ⟨v2, vs2, d2, ds2, p2, q2, rfl, rfl, rfl, h2, r2⟩ := trodAll_cons r1
  obtain ⟨rfl, rfl, rfl⟩ := trodAll_nil r2
  obtain rfl : args = #[v0, v1, v2] := by cases args; simp_all
  obtain ⟨rfl, rfl⟩ := trodVars_none hV
  have k0 := h0
  have lt0 : ∀ x ∈ p0, x.block < W.heap.size := by obtain ⟨m, hm⟩ := k0; exact DataW.trod_lt m _ _ _ hm
  obtain ⟨a0, len0, cap0, rfl⟩ := okWide_slice Tryd.underlying22 (hval 0 22 v0 rfl rfl)
  obtain ⟨l0, hl0, hc0, hC0, hM0⟩ : ∃ xs, xs.length = len0 ∧ len0 ≤ cap0 ∧ Kd.C k37 W a0 len0 xs ∧ ∀ x ∈ xs, NodeMet x := by
    obtain ⟨fuel, hf⟩ := h0
    obtain ⟨A, len, cap, xs, hcs, e1, _, e3, e4, e5, _⟩ := open_kdW k37 NodeMet Tryd.underlying22 (by kernel_rfl) open_node37W hf (fun m hm => of_decide_eq_true (List.all_eq_true.1 hsz m (DataW.weights_mem_each (j := 0) rfl rfl m hm)))
    simp [Value.cells] at hcs
    obtain ⟨rfl, rfl, rfl⟩ := hcs
    exact ⟨xs, e3, e1, e4, e5⟩
  subst hl0
  have k1 := h1
  have lt1 : ∀ x ∈ p1, x.block < W.heap.size := by obtain ⟨m, hm⟩ := k1; exact DataW.trod_lt m _ _ _ hm
  obtain ⟨x1, rfl, _⟩ := open_int Tryd.underlying3 (hval 1 3 v1 rfl rfl) h1
  have k2 := h2
  have lt2 : ∀ x ∈ p2, x.block < W.heap.size := by obtain ⟨m, hm⟩ := k2; exact DataW.trod_lt m _ _ _ hm
  obtain ⟨x2, rfl, _⟩ := open_int Tryd.underlying3 (hval 2 3 v2 rfl rfl) h2
  clear hA0 hval0
  refine (tells_walk W a0 cap0 l0 x1 x2 (keys_of hL) hC0 hc0 (met_short hM0) (met_lim hM0)).mono fun e W' ⟨he, bel⟩ => ?_
  subst he
  exact ⟨_, rfl, _, _, _, [], _, [], hW', trodAll_mk1 (shut_bool Tryd.underlying4 _), (trodAll_cons_mk (Below.trod laidOut (by kernel_rfl) (of_decide_eq_true (by kernel_rfl)) k0 bel lt0) (trodAll_cons_mk (Below.trod laidOut (by kernel_rfl) (of_decide_eq_true (by kernel_rfl)) k1 bel lt1) (trodAll_cons_mk (Below.trod laidOut (by kernel_rfl) (of_decide_eq_true (by kernel_rfl)) k2 bel lt2) trodAll_mk0))), rfl, bel.frame _, fun h => by cases h⟩
theorem subTells_inPlace : (Rows.subTellsRow.inPlace == Tryd.prog.inPlace 5) = true := by kernel_rfl
theorem subTells_unfollowed : (Rows.subTellsRow.unfollowed == Tryd.prog.unfollowed 5) = true := by kernel_rfl
theorem subTells_recurses : (Rows.subTellsRow.recurses == Tryd.prog.recurses 5) = true := by kernel_rfl
theorem subTells_named : (Rows.subTellsRow.named == Tryd.prog.varsNamed 5) = true := by kernel_rfl
theorem subTells_wf : OpenClaim.wf (OpenSpec.ofChange Rows.subTellsSpec) Rows.subTellsRow = true := by kernel_rfl
theorem subTells_closed : joinedFacts Tryd.prog 5 Tryd.f5 Rows.subTellsSpec Rows.subTellsRow = true :=
  joined_of subTells_wf fact_laidOut fact_mapsRowed (by kernel_rfl) (by kernel_rfl) (by kernel_rfl) fact_stops (by kernel_rfl) fact_stopKnobs subTells_inPlace subTells_unfollowed subTells_recurses subTells_named (by kernel_rfl) (by kernel_rfl) (by kernel_rfl) (by kernel_rfl) (by kernel_rfl) (by kernel_rfl) (by kernel_rfl) (by kernel_rfl) (by kernel_rfl) fact_plainKeys (by kernel_rfl) fact_stopsHeard fact_mayEnter fact_lifted fact_make (by kernel_rfl) (by kernel_rfl) (by kernel_rfl) (by kernel_rfl)
theorem subTells_func : Tryd.prog.funcNamed "armillary/armillarylaw08.SubTells" = some 5 := by kernel_rfl
theorem subTells_plain : Tryd.f5.isWrapper Tryd.prog Rows.subTellsRow.wrapper Rows.subTellsRow.mainSum := by unfold Func.isWrapper; first | (rw [if_pos (by decide +kernel)]; kernel_rfl) | (rw [if_neg (by decide +kernel)]; exact ⟨rfl, rfl⟩)
theorem subTells_over : Rows.SubTellsSaid :=
  OpenClaim.holds_of_wide 5 Tryd.f5 rfl rfl rfl rfl rfl rfl rfl ⟨rfl, rfl, rfl, rfl, rfl⟩ rfl rfl rfl rfl rfl subTells_func Tryd.func5 subTells_closed
    (of_decide_eq_true (by kernel_rfl)) subTells_plain
    (fun os started H enc _ => subTells_lifted os started H enc)
theorem subTells_wft : Rows.subTellsRow.wfByText (OpenSpec.ofChange Rows.subTellsSpec) = true := by kernel_rfl
theorem subTells_goes : false = Rows.subTellsRow.goesBy Tryd.pinned.checked.prog := by kernel_rfl
theorem subTells_holds : Rows.SubTellsCardSaid :=
  Claim7.holds_tied_plain_at .later [] [.data] true (true, "b7f390f4ac617f6fa05530b730e12d26db561aeaf8ebef656134171ed864906e") false
    subTells_over (fun _ h => by cases h) subTells_wft (fun _ h => by cases h) subTells_row_tie rfl ⟨rfl, rfl⟩ fact_mainIs rfl
    (fun f fn hf hfn => by
      obtain rfl : f = 5 := Option.some.inj (subTells_func.symm.trans hf) |>.symm
      obtain rfl : fn = Tryd.f5 := (Option.some.inj (Tryd.func5.symm.trans hfn)).symm
      exact ⟨fact_looks, fun j t ht => by
        rw [Tryd.params5] at ht
        have hm : t ∈ [22, 3, 3] := by simpa using Array.mem_of_getElem? ht
        have hall : ([22, 3, 3].all fun u => !Tryd.prog.wantsStandIn u) = true := by kernel_rfl
        exact (show Tryd.prog.wantsStandIn t = false by simpa using List.all_eq_true.1 hall t hm)⟩)
    subTells_goes
#print axioms subTells_holds
end Go.Proofs.YtcljgfpcdlnlkaaDoor.Q
