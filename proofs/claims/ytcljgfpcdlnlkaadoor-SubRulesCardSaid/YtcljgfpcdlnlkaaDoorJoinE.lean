/- what every law opens: arguments, the keywords' table, the witness. Conditions: those of each theorem's own statement. -/
import Derived.Test.YtcljgfpcdlnlkaaDoorJoinA
import Derived.Test.YtcljgfpcdlnlkaaDoorRows
import Derived.ProofKit
import Derived.LaidMore
import Derived.OpenShut
import Derived.Stop.Joined
import Derived.WideKeyPair
namespace Go.Proofs.YtcljgfpcdlnlkaaDoor.Q
open Go.ChangeShapes Go.WideShapes Go.ChangeAt Go.RowKit Go.Proofs.YtcljgfpcdlnlkaaDoorW.PrintWords Go.Proofs.YtcljgfpcdlnlkaaDoorW
theorem own : ownKnob Tryd.prog.godebug = none := by kernel_rfl
theorem laidOut : laidOutB Tryd.prog = true := by kernel_rfl
/-- In a region that draws its order: the one operation that is ready, behind which S still holds. -/
theorem one_ {P : Program} {ops : Array Oper} {Q : Exit → Act → World → Prop} {md : Region.Mode} {S : World → Prop} {ds : List Nat} {i : Nat} {N : Option Tmp} {oi : Oper} {fuel : Nat} {l : Array Bool} {a : Act} {w : World} (l' : Array Bool) (hi : ops[i]? = some oi) (hN : oi.dst = N) (hc : PrintLast.readyB md ops l l' i = true) (hd : i ∉ ds)
    (h : ∀ K : Act → World → Prop, Shut (∀ a' w', S w' → (S w' → PrintLast.wpAnyLast P md ops Q S ds fuel l' a' w') → K a' w') → if Region.wanted oi (yielded ops a.tmps) = true then Oper.wp P oi a w K Q else K (a.put N undef) w) :
    PrintLast.wpAnyLast P md ops Q S ds (fuel + 1) l a w := by
  subst hN
  simp only [PrintLast.readyB, Bool.and_eq_true, beq_iff_eq] at hc
  obtain ⟨h1, h2⟩ := hc
  subst h2
  exact PrintLast.wpAnyLast_ready h1 (by simp) (PrintLast.AllReadyL.cons hi hd (fun K hK => h K hK) PrintLast.AllReadyL.nil)
theorem list_of {α : Type} (n : Nat) (Q : Nat → α → Prop) (h : ∀ i, i < n → ∃ x, Q i x) : ∃ xs : List α, xs.length = n ∧ ∀ i x, xs[i]? = some x → Q i x := by
  induction n with
  | zero => exact ⟨[], rfl, fun i x hx => by simp at hx⟩
  | succ n ih =>
    obtain ⟨xs, hl, hx⟩ := ih (fun i hi => h i (by omega))
    obtain ⟨y, hy⟩ := h n (by omega)
    refine ⟨xs ++ [y], by simp [hl], fun i x hi => ?_⟩
    rcases Nat.lt_or_ge i n with h1 | h1
    · rw [List.getElem?_append_left (by omega)] at hi
      exact hx i x hi
    · have hlt := (List.getElem?_eq_some_iff.1 hi).1
      simp only [List.length_append, List.length_singleton] at hlt
      obtain rfl : i = n := by omega
      rw [List.getElem?_append_right (by omega), hl, Nat.sub_self] at hi
      have : y = x := by simpa using hi
      rw [← this]
      exact hy
theorem cells_at {w : World} {base : Nat} {a : Addr} {n : Nat} {cs : List Value} (h : w.cells? base a n = some cs) : cs.length = n ∧ ∀ i u, cs[i]? = some u → w.cell? (a.add i) = some u := by
  unfold World.cells? at h
  split at h
  · have hl := mapM_some_length h
    rw [List.length_range] at hl
    refine ⟨hl, fun i u hu => ?_⟩
    have hi := (List.getElem?_eq_some_iff.1 hu).1
    have := mapM_some_get h i i (List.getElem?_range (by omega))
    rw [this, hu]
  · cases h
section
variable {H : Type} {enc : TypeId × Value → H} {w : World} {base : Nat} {spare : Nat → Bool} {held : Bool}
/-- A slice among the arguments, of elements that are told by a Kd. -/
theorem open_kd {α : Type} (d : Kd α) {t e : TypeId} (ht : Tryd.prog.underlying t = some (.slice e)) (hsz : Tryd.prog.cellsOf e = d.sz)
    (hd : ∀ (n : Nat) (cs : List Value) (y : DataW H × List MemPlace), DataW.trod enc Tryd.prog w base spare held n e cs = some y → ∃ x, d.K w x cs)
    {fuel : Nat} {cs : List Value} {y : DataW H × List MemPlace} (h : DataW.trod enc Tryd.prog w base spare held fuel t cs = some y) :
    ∃ A len cap xs, cs = [.slice A len cap] ∧ len ≤ cap ∧ cap ≤ maxLen ∧ xs.length = len ∧ d.C w A len xs := by
  rcases DataW.trod_slice ht h with ⟨rfl, _⟩ | ⟨a, len, cap, elems, rest, n, _, rfl, _, hb, hl, hm, hlen, hel, _, _⟩
  · exact ⟨none, 0, 0, [], rfl, Nat.le_refl _, Nat.zero_le _, rfl, rfl, by omega, fun h => absurd h (by omega)⟩
  · obtain ⟨xs, hxl, hx⟩ := list_of len (fun i x => ∃ c, d.K w x c ∧ ∀ j u, c[j]? = some u → w.cell? (a.add (i * d.sz + j)) = some u) (fun i hi => by
      have hE := hel i hi
      rw [List.getElem?_eq_getElem (by omega), Option.bind_eq_some_iff] at hE
      obtain ⟨c, hc, hy⟩ := hE
      obtain ⟨x, hK⟩ := hd _ _ _ hy
      refine ⟨x, c, hK, fun j u hu => ?_⟩
      have := (cells_at hc).2 j u hu
      rw [hsz, Addr.add_add] at this
      exact this)
    refine ⟨some a, len, cap, xs, rfl, hl, hm, hxl, hxl, by simp only [maxLen] at hm; omega, fun _ => ⟨a, rfl, fun j p hp => ?_⟩⟩
    obtain ⟨c, hK, hc⟩ := hx j p hp
    exact ⟨c, d.K_len hK, hK, hc⟩
theorem open_i (n : Nat) (cs : List Value) (y : DataW H × List MemPlace) (h : DataW.trod enc Tryd.prog w base spare held n 3 cs = some y) : ∃ x, (Kd.int .i64).K w x cs := by
  obtain ⟨k, rfl, _⟩ := DataW.trod_int Tryd.underlying3 h
  exact ⟨k, rfl⟩
theorem open_s (n : Nat) (cs : List Value) (y : DataW H × List MemPlace) (h : DataW.trod enc Tryd.prog w base spare held n 9 cs = some y) : ∃ x, Kd.string.K w x cs := by
  obtain ⟨k, rfl, _⟩ := DataW.trod_string Tryd.underlying9 h
  exact ⟨k, rfl⟩
theorem open_il (n : Nat) (cs : List Value) (y : DataW H × List MemPlace) (h : DataW.trod enc Tryd.prog w base spare held n 23 cs = some y) : ∃ A c xs, cs = [.slice A xs.length c] ∧ xs.length ≤ c ∧ (Kd.int .i64).C w A xs.length xs := by
  obtain ⟨A, len, cap, xs, rfl, h1, _, rfl, h2⟩ := open_kd (Kd.int .i64) Tryd.underlying23 (by kernel_rfl) open_i h
  exact ⟨A, cap, xs, rfl, h1, h2⟩
theorem open_sl (n : Nat) (cs : List Value) (y : DataW H × List MemPlace) (h : DataW.trod enc Tryd.prog w base spare held n 35 cs = some y) : ∃ A c xs, cs = [.slice A xs.length c] ∧ xs.length ≤ c ∧ Kd.string.C w A xs.length xs := by
  obtain ⟨A, len, cap, xs, rfl, h1, _, rfl, h2⟩ := open_kd Kd.string Tryd.underlying35 (by kernel_rfl) open_s h
  exact ⟨A, cap, xs, rfl, h1, h2⟩
theorem three_cells {cs : List Value} (h : cs.length = 3) : ∃ a b c, cs = [a, b, c] := by
  match cs, h with
  | [a, b, c], _ => exact ⟨a, b, c, rfl⟩
theorem five_cells {cs : List Value} (h : cs.length = 5) : ∃ a b c d e, cs = [a, b, c, d, e] := by
  match cs, h with
  | [a, b, c, d, e], _ => exact ⟨a, b, c, d, e, rfl⟩
theorem cellsOf3 : Tryd.prog.cellsOf 3 = 1 := by kernel_rfl
theorem cellsOf9 : Tryd.prog.cellsOf 9 = 1 := by kernel_rfl
theorem cellsOf23 : Tryd.prog.cellsOf 23 = 1 := by kernel_rfl
theorem cellsOf35 : Tryd.prog.cellsOf 35 = 1 := by kernel_rfl
theorem cellsOf93 : Tryd.prog.cellsOf 93 = 3 := by kernel_rfl
theorem cellsOf37 : Tryd.prog.cellsOf 37 = 5 := by kernel_rfl
/-- A row of a law's argument. -/
theorem open_row93 (n : Nat) (cs : List Value) (y : DataW H × List MemPlace) (h : DataW.trod enc Tryd.prog w base spare held n 93 cs = some y) : ∃ x, k119.K w x cs := by
  obtain ⟨xs, m, rfl, _, hl, hn, hf⟩ := DataW.trod_struct Tryd.underlying93 h
  obtain ⟨a, b, c, rfl⟩ := three_cells (hl.trans cellsOf93)
  have h0 : DataW.trod enc Tryd.prog w base spare held m 3 (([a, b, c].drop 0).take (Tryd.prog.cellsOf 3)) = xs[0]? := hf 0 _ rfl
  have h1 : DataW.trod enc Tryd.prog w base spare held m 3 (([a, b, c].drop 1).take (Tryd.prog.cellsOf 3)) = xs[1]? := hf 1 _ rfl
  have h2 : DataW.trod enc Tryd.prog w base spare held m 23 (([a, b, c].drop 2).take (Tryd.prog.cellsOf 23)) = xs[2]? := hf 2 _ rfl
  rw [cellsOf3] at h0 h1
  rw [cellsOf23] at h2
  simp only [List.drop_zero, List.drop_succ_cons, List.take_succ_cons, List.take_zero] at h0 h1 h2
  rw [List.getElem?_eq_getElem (by rw [hn]; decide)] at h0 h1 h2
  obtain ⟨x0, e0, _⟩ := DataW.trod_int Tryd.underlying3 h0
  obtain ⟨x1, e1, _⟩ := DataW.trod_int Tryd.underlying3 h1
  obtain ⟨A2, c2, x2, e2, l2, g2⟩ := open_il _ _ _ h2
  simp only [List.cons.injEq, and_true] at e0 e1 e2
  subst e0 e1 e2
  exact ⟨⟨x0, x1, x2⟩, k119_mk w ⟨x0, x1, x2⟩ l2 g2⟩
/-- A node of a law's argument. -/
theorem open_node37 (n : Nat) (cs : List Value) (y : DataW H × List MemPlace) (h : DataW.trod enc Tryd.prog w base spare held n 37 cs = some y) : ∃ x, k37.K w x cs := by
  obtain ⟨xs, m, rfl, _, hl, hn, hf⟩ := DataW.trod_struct Tryd.underlying37 h
  obtain ⟨a, b, c, d, e, rfl⟩ := five_cells (hl.trans cellsOf37)
  have h0 : DataW.trod enc Tryd.prog w base spare held m 3 (([a, b, c, d, e].drop 0).take (Tryd.prog.cellsOf 3)) = xs[0]? := hf 0 _ rfl
  have h1 : DataW.trod enc Tryd.prog w base spare held m 3 (([a, b, c, d, e].drop 1).take (Tryd.prog.cellsOf 3)) = xs[1]? := hf 1 _ rfl
  have h2 : DataW.trod enc Tryd.prog w base spare held m 9 (([a, b, c, d, e].drop 2).take (Tryd.prog.cellsOf 9)) = xs[2]? := hf 2 _ rfl
  have h3 : DataW.trod enc Tryd.prog w base spare held m 35 (([a, b, c, d, e].drop 3).take (Tryd.prog.cellsOf 35)) = xs[3]? := hf 3 _ rfl
  have h4 : DataW.trod enc Tryd.prog w base spare held m 23 (([a, b, c, d, e].drop 4).take (Tryd.prog.cellsOf 23)) = xs[4]? := hf 4 _ rfl
  rw [cellsOf3] at h0 h1
  rw [cellsOf9] at h2
  rw [cellsOf35] at h3
  rw [cellsOf23] at h4
  simp only [List.drop_zero, List.drop_succ_cons, List.take_succ_cons, List.take_zero] at h0 h1 h2 h3 h4
  rw [List.getElem?_eq_getElem (by rw [hn]; decide)] at h0 h1 h2 h3 h4
  obtain ⟨x0, e0, _⟩ := DataW.trod_int Tryd.underlying3 h0
  obtain ⟨x1, e1, _⟩ := DataW.trod_int Tryd.underlying3 h1
  obtain ⟨x2, e2, _⟩ := DataW.trod_string Tryd.underlying9 h2
  obtain ⟨A3, b3, x3, e3, l3, g3⟩ := open_sl _ _ _ h3
  obtain ⟨A4, b4, x4, e4, l4, g4⟩ := open_il _ _ _ h4
  simp only [List.cons.injEq, and_true] at e0 e1 e2 e3 e4
  subst e0 e1 e2 e3 e4
  exact ⟨⟨x0, x1, x2, x3, x4⟩, k37_mk w ⟨x0, x1, x2, x3, x4⟩ l3 g3 l4 g4⟩
end
theorem pair31 : WideMaps.ArrKey Tryd.prog 31 3 2 := ⟨Tryd.underlying31, by kernel_rfl, by kernel_rfl, by kernel_rfl⟩
/-! the keywords' table -/
theorem gKeys : Tryd.prog.globalNamed "armillary/lex.keys" = some 0 := by kernel_rfl
theorem tKeys : (Tryd.prog.globals[0]?).map (·.type) = some 153 := by kernel_rfl
def laidKeys : List (String × DataW Unit) := [("armillary/lex.keys", Rows.laid_armillary_lex_keys)]
set_option maxRecDepth 100000 in
theorem keys_of {W : World} (h : laidMetH Tryd.prog laidKeys W) : KeysIn W := by
  rw [MakeChecks.laidMetH_plain _ _ _ (by kernel_rfl)] at h
  obtain ⟨ps, ⟨g0, t0, cs0, f0, p0, q0, hg0, ht0, hv0, hd0, _⟩, _, _⟩ := h
  obtain rfl := Option.some.inj (gKeys.symm.trans hg0)
  obtain rfl := Option.some.inj (tKeys.symm.trans ht0)
  obtain ⟨xs, m1, rfl, hx1, hlen, hn, hel⟩ := DataW.trod_array Tryd.underlying153 hd0
  have cellsOf153 : Tryd.prog.cellsOf 153 = 18 := by kernel_rfl
  rw [cellsOf153] at hlen
  have hx := (Prod.mk.inj hx1).1
  intro i hi
  rw [World.var?_cell hg0 hv0 i]
  have h1 := hel i hi
  rw [cellsOf9, Nat.mul_one, List.getElem?_eq_getElem (by omega)] at h1
  obtain ⟨s, e1, e2, _⟩ := DataW.trod_string Tryd.underlying9 h1
  have hcs : cs0.toList[i]? = some (.string s) := by
    have : (cs0.toList.drop i)[0]? = some (.string s) := by
      have h2 : ((cs0.toList.drop i).take 1)[0]? = some (.string s) := by rw [e1]; rfl
      rwa [List.getElem?_take_of_lt (by omega)] at h2
    simpa using this
  rw [Array.getElem?_toList] at hcs
  rw [hcs]
  have hl : (xs.map (·.1)) = keyWords.map (fun k => (.lit (.string k.data.toList) : DataW Unit)) := (DataW.agg.inj hx).symm
  have h3 : (xs.map (·.1))[i]? = some (.lit (.string s.data.toList)) := by
    rw [List.getElem?_map, List.getElem?_eq_getElem (by omega), e2]; rfl
  have hk : keyWords[i]? = some (keyWords.getD i ByteArray.empty) := by
    rw [List.getD_eq_getElem?_getD, List.getElem?_eq_getElem (show i < keyWords.length from hi)]; rfl
  rw [hl, List.getElem?_map, hk] at h3
  generalize keyWords.getD i ByteArray.empty = k at h3 ⊢
  obtain ⟨d1⟩ := k
  obtain ⟨d2⟩ := s
  have h4 : d1.toList = d2.toList := by
    have h6 : (DataW.lit (Lit.string d1.toList) : DataW Unit) = DataW.lit (Lit.string d2.toList) := Option.some.inj h3
    generalize d1.toList = l1 at h6 ⊢
    generalize d2.toList = l2 at h6 ⊢
    injection h6 with h7
    injection h7
  rw [Array.toList_inj.1 h4]
/-- The door's own heap meets the condition. -/
theorem door_met (os : Os) (args : Array Value) : laidMetH Tryd.prog laidKeys ((World.doorLaid Tryd.prog 400 os).forCall (fun _ _ => 0) ⟨#[], args, []⟩).memory :=
  laidMetH_of_parts3 (fuel := 8) (laidMet_of_run' 8 (by kernel_rfl) (by kernel_rfl)) (by kernel_rfl) (by kernel_rfl)
end Go.Proofs.YtcljgfpcdlnlkaaDoor.Q
