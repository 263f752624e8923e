/- graph: which graphs may be, what a type is of, and the library's functions under it. Conditions: those of each theorem's own statement. -/
import Derived.Maps.RangeRun
import Derived.Laws.StructEq
import Derived.Below
import Derived.WalkKit
import Derived.Deep.Draws
import Derived.Test.YtcljgfpcdlnlkaaDoorQ0
import Derived.Lib.Hide
import Derived.WalkLawsBesides
import Derived.BigQuiet
import Derived.WalkSpells
import Derived.Carry
namespace Go.Proofs.YtcljgfpcdlnlkaaDoor.Mp
open Go.RowKit Go.ChangeMaps

def get {κ υ : Type} [DecidableEq κ] : List (κ × υ) → κ → Option υ
  | [], _ => none
  | p :: m, k => if p.1 = k then some p.2 else get m k
def put {κ υ : Type} [DecidableEq κ] : List (κ × υ) → κ → υ → List (κ × υ)
  | [], k, v => [(k, v)]
  | p :: m, k, v => if p.1 = k then (k, v) :: m else p :: put m k v
section
variable {κ υ : Type} [DecidableEq κ]
theorem get_put (m : List (κ × υ)) (k j : κ) (v : υ) : get (put m k v) j = if j = k then some v else get m j := by
  induction m with
  | nil =>
    simp only [put, get]
    split
    · rename_i h; rw [if_pos h.symm]
    · rename_i h; rw [if_neg (fun e => h e.symm)]
  | cons p m ih =>
    simp only [put]
    split
    · rename_i h
      simp only [get]
      by_cases e : k = j
      · rw [if_pos e, if_pos e.symm]
      · rw [if_neg e, if_neg (fun x => e x.symm), if_neg (by rw [h]; exact e)]
    · rename_i h
      simp only [get, ih]
      by_cases e : p.1 = j
      · rw [if_pos e, if_pos e, if_neg (by rw [← e]; exact h)]
      · rw [if_neg e, if_neg e]
theorem mem_of_get {m : List (κ × υ)} {k : κ} {v : υ} (h : get m k = some v) : (k, v) ∈ m := by
  induction m with
  | nil => simp [get] at h
  | cons p m ih =>
    simp only [get] at h
    split at h
    · rename_i e
      obtain rfl := Option.some.inj h
      rw [← e]
      exact List.mem_cons_self
    · exact List.mem_cons_of_mem _ (ih h)
theorem get_ne_none {m : List (κ × υ)} {k : κ} : get m k ≠ none ↔ k ∈ m.map (·.1) := by
  induction m with
  | nil => simp [get]
  | cons p m ih =>
    simp only [get, List.map_cons, List.mem_cons]
    split
    · rename_i e; simp [e]
    · rename_i e
      rw [ih]
      exact ⟨fun h => .inr h, fun h => h.elim (fun x => absurd x.symm e) id⟩
theorem put_keys {m : List (κ × υ)} {k : κ} {v : υ} : (put m k v).map (·.1) = if get m k = none then m.map (·.1) ++ [k] else m.map (·.1) := by
  induction m with
  | nil => simp [put, get]
  | cons p m ih =>
    simp only [put, get]
    split
    · rename_i e; simp [e]
    · simp only [List.map_cons, ih]
      split <;> simp
theorem put_length {m : List (κ × υ)} {k : κ} {v : υ} : (put m k v).length = if get m k = none then m.length + 1 else m.length := by
  have := congrArg List.length (put_keys (m := m) (k := k) (v := v))
  simp only [List.length_map] at this
  rw [this]
  split <;> simp
end

/-- Block b is a map that holds m. -/
def MapAt {κ υ : Type} (ek : κ → Value) (ev : υ → Value) (w : World) (b : Nat) (m : List (κ × υ)) : Prop :=
  ∃ es clock, w.heap[b]? = some (.map es clock) ∧ es.toList.map (fun e => (e.key, e.val)) = m.map (fun p => (ek p.1, ev p.2)) ∧ (es.toList.map (·.born)).Pairwise (· < ·) ∧ ∀ e ∈ es.toList, e.born < clock

section
variable {κ υ : Type} {ek : κ → Value} {ev : υ → Value} {w w' : World} {b : Nat} {m : List (κ × υ)}
theorem MapAt.lt (h : MapAt ek ev w b m) : b < w.heap.size := by
  obtain ⟨es, clock, hb, _⟩ := h
  exact (Array.getElem?_eq_some_iff.1 hb).1
theorem MapAt.of_block (h : MapAt ek ev w b m) (e : w'.heap[b]? = w.heap[b]?) : MapAt ek ev w' b m := by
  obtain ⟨es, clock, hb, r⟩ := h
  exact ⟨es, clock, e.trans hb, r⟩
theorem MapAt.new (ek : κ → Value) (ev : υ → Value) (w : World) : MapAt ek ev (w.alloc (.map #[] 0)) w.heap.size ([] : List (κ × υ)) :=
  ⟨#[], 0, Array.getElem?_push_size, rfl, by simp, by simp⟩

end
section
variable {κ υ : Type} [DecidableEq κ] {ek : κ → Value} {ev : υ → Value} {w w' : World} {b : Nat} {m : List (κ × υ)}
/-- What the model asks of a key's type. -/
structure KeyLaw (P : Program) (kt : TypeId) (ek : κ → Value) : Prop where
  check : ∀ em k w, (Instr.checkKey em 10000 kt (ek k)).run P w = .ok () w
  find : ∀ (k : κ) (l : List MapEntry) (ks : List κ) (w : World), l.map (·.key) = ks.map ek →
    (Instr.findKey kt (ek k) l).run P w = .ok ((l.zip ks).findIdx? (fun p => decide (p.2 = k)) |>.bind fun i => l[i]?.map fun e => (i, e.val)) w
  same : ∀ k, Instr.sameBits 10000 (ek k) (ek k) = true

theorem find_none {l : List MapEntry} {m : List (κ × υ)} {k : κ} (hl : l.length = m.length) (h : get m k = none) :
    (l.zip (m.map (·.1))).findIdx? (fun p => decide (p.2 = k)) = none := by
  induction m generalizing l with
  | nil => simp
  | cons p m ih =>
    cases l with
    | nil => simp at hl
    | cons e l =>
      simp only [get] at h
      split at h
      · simp at h
      · rename_i hp
        simp only [List.map_cons, List.zip_cons_cons, List.findIdx?_cons, decide_eq_true_eq, hp, if_false]
        rw [ih (by simpa using hl) h]
        rfl
theorem find_some {l : List MapEntry} {m : List (κ × υ)} {k : κ} {v : υ} (hl : l.map (fun e => (e.key, e.val)) = m.map (fun p => (ek p.1, ev p.2))) (h : get m k = some v) :
    ∃ i e, (l.zip (m.map (·.1))).findIdx? (fun p => decide (p.2 = k)) = some i ∧ l[i]? = some e ∧ e.val = ev v ∧ e.key = ek k ∧ ∀ u, put m k u = m.set i (k, u) := by
  induction m generalizing l with
  | nil => simp [get] at h
  | cons p m ih =>
    cases l with
    | nil => simp at hl
    | cons e l =>
      simp only [List.map_cons, List.cons.injEq, Prod.mk.injEq] at hl
      simp only [get] at h
      split at h
      · rename_i hp
        obtain rfl := Option.some.inj h
        refine ⟨0, e, by simp [List.findIdx?_cons, hp], rfl, hl.1.2, by rw [hl.1.1, hp], fun u => by simp [put, hp]⟩
      · rename_i hp
        obtain ⟨i, e', h1, h2, h3, h4, h5⟩ := ih hl.2 h
        refine ⟨i + 1, e', ?_, by simpa using h2, h3, h4, fun u => by simp [put, hp, h5 u]⟩
        simp only [List.map_cons, List.zip_cons_cons, List.findIdx?_cons, decide_eq_true_eq, hp, if_false, h1]
        rfl
theorem find_key {P : Program} {kt : TypeId} (K : KeyLaw P kt ek) {es : Array MapEntry} (hl : es.toList.map (fun e => (e.key, e.val)) = m.map (fun p => (ek p.1, ev p.2))) (k : κ) (w : World) :
    (get m k = none ∧ (Instr.findKey kt (ek k) es.toList).run P w = .ok none w) ∨
    ∃ v i e, get m k = some v ∧ (Instr.findKey kt (ek k) es.toList).run P w = .ok (some (i, ev v)) w ∧ es.toList[i]? = some e ∧ e.key = ek k ∧ ∀ u, put m k u = m.set i (k, u) := by
  have hk : es.toList.map (·.key) = (m.map (·.1)).map ek := by
    have := congrArg (List.map Prod.fst) hl
    simpa [List.map_map, Function.comp_def] using this
  have hf := K.find k es.toList (m.map (·.1)) w hk
  cases hg : get m k with
  | none =>
    left
    refine ⟨rfl, ?_⟩
    rw [hf, find_none (by have := congrArg List.length hl; simpa using this) hg]
    rfl
  | some v =>
    right
    obtain ⟨i, e, h1, h2, h3, h4, h5⟩ := find_some hl hg
    refine ⟨v, i, e, rfl, ?_, h2, h4, h5⟩
    rw [hf, h1]
    simp only [Option.bind_some, h2, Option.map_some, h3]

/-- 'v, ok := m[k]'. -/
theorem MapAt.lookup2 {P : Program} {t kt et : TypeId} (h : MapAt ek ev w b m) (K : KeyLaw P kt ek) (ht : P.underlying t = some (.map kt et)) {z : Value} (hz : ∀ w, (zeroValue et).run P w = .ok z w) (k : κ) :
    (Instr.lookup t (.map (some b)) (ek k) true).run P w = .ok (.tuple #[((get m k).map ev).getD z, .bool (get m k).isSome]) w := by
  obtain ⟨es, clock, hb, hl, _⟩ := h
  rcases find_key K hl k w with ⟨hg, hr⟩ | ⟨v, i, e, hg, hr, _⟩ <;>
    simp [Instr.lookup, Sem.run_bind, run_underlying ht, getObj, Sem.run, hb, K.check, hr, hg, hz, Result.andThen]
theorem MapAt.lookup1 {P : Program} {t kt et : TypeId} (h : MapAt ek ev w b m) (K : KeyLaw P kt ek) (ht : P.underlying t = some (.map kt et)) {z : Value} (hz : ∀ w, (zeroValue et).run P w = .ok z w) (k : κ) :
    (Instr.lookup t (.map (some b)) (ek k) false).run P w = .ok (((get m k).map ev).getD z) w := by
  obtain ⟨es, clock, hb, hl, _⟩ := h
  rcases find_key K hl k w with ⟨hg, hr⟩ | ⟨v, i, e, hg, hr, _⟩ <;>
    simp [Instr.lookup, Sem.run_bind, run_underlying ht, getObj, Sem.run, hb, K.check, hr, hg, hz, Result.andThen]
/-- 'm[k] = v'. -/
theorem MapAt.update {P : Program} {t kt et : TypeId} (h : MapAt ek ev w b m) (K : KeyLaw P kt ek) (ht : P.underlying t = some (.map kt et)) (k : κ) (v : υ) :
    ∃ o, (Instr.mapUpdate t (.map (some b)) (ek k) (ev v)).run P w = .ok () (setBlock w b o) ∧ MapAt ek ev (setBlock w b o) b (put m k v) := by
  obtain ⟨es, clock, hb, hl, hp, hc⟩ := h
  have hlt := (Array.getElem?_eq_some_iff.1 hb).1
  have hlen : es.toList.length = m.length := by have := congrArg List.length hl; simpa using this
  rcases find_key K hl k w with ⟨hg, hr⟩ | ⟨v0, i, e, hg, hr, hi, he, hset⟩
  · refine ⟨.map (es.push { key := ek k, val := ev v, born := clock }) (clock + 1), ?_, es.push { key := ek k, val := ev v, born := clock }, clock + 1, ?_, ?_, ?_, ?_⟩
    · simp [Instr.mapUpdate, Sem.run_bind, run_underlying ht, getObj, setObj, Sem.run, hb, K.check, hr, Result.andThen, setBlock]
    · simp [setBlock, hlt]
    · rw [Array.toList_push, List.map_append, hl]
      have : put m k v = m ++ [(k, v)] := by
        clear hl hlen hr
        induction m with
        | nil => rfl
        | cons p m ih =>
          simp only [get] at hg
          split at hg
          · simp at hg
          · rename_i hne
            simp [put, hne, ih hg]
      rw [this]
      simp
    · rw [Array.toList_push, List.map_append, List.pairwise_append]
      refine ⟨hp, by simp, ?_⟩
      intro a ha c hc'
      obtain ⟨e, he, rfl⟩ := List.mem_map.1 ha
      simp at hc'
      subst hc'
      exact hc e he
    · intro e he
      simp at he
      rcases he with he | rfl
      · have := hc e (by simpa using he)
        omega
      · simp
  · have hilt : i < es.size := by
      have := (List.getElem?_eq_some_iff.1 hi).1
      simpa using this
    have hkey : ((es[i]?).map (·.key)).getD (ek k) = ek k := by
      rw [← Array.getElem?_toList, hi]
      exact he
    refine ⟨.map (es.modify i fun e => { e with key := ek k, val := ev v }) clock, ?_, es.modify i fun e => { e with key := ek k, val := ev v }, clock, ?_, ?_, ?_, ?_⟩
    · simp [Instr.mapUpdate, Sem.run_bind, run_underlying ht, getObj, setObj, Sem.run, hb, K.check, hr, Result.andThen, setBlock, hkey, Instr.keyThatStays, K.same]
    · simp [setBlock, hlt]
    · rw [hset v, List.map_set]
      rw [← hl]
      apply List.ext_getElem?
      intro j
      simp only [List.getElem?_map, Array.getElem?_toList, Array.getElem?_modify, List.getElem?_set, List.length_map, Array.length_toList]
      by_cases e : i = j
      · subst e
        simp [hilt]
      · simp [e]
    · have : (es.modify i fun e => { e with key := ek k, val := ev v }).toList.map (·.born) = es.toList.map (·.born) := by
        apply List.ext_getElem?
        intro j
        simp only [List.getElem?_map, Array.getElem?_toList, Array.getElem?_modify]
        split
        · rename_i e
          subst e
          cases es[i]? <;> rfl
        · rfl
      rw [this]
      exact hp
    · intro x hx
      obtain ⟨j, hj⟩ := List.getElem?_of_mem hx
      rw [Array.getElem?_toList, Array.getElem?_modify] at hj
      split at hj
      · obtain ⟨y, hy, rfl⟩ := Option.map_eq_some_iff.1 hj
        exact hc y (by simpa using Array.mem_of_getElem? hy)
      · exact hc x (by simpa using Array.mem_of_getElem? hj)
omit [DecidableEq κ] in
theorem MapAt.len {P : Program} {t rt kt et : TypeId} (h : MapAt ek ev w b m) (ht : P.underlying t = some (.map kt et)) : (Builtin.len_ #[t] rt #[.map (some b)]).run P w = .ok (goInt m.length) w := by
  obtain ⟨es, clock, hb, hl, _⟩ := h
  have hlen : es.size = m.length := by have := congrArg List.length hl; simpa using this
  simp [Builtin.len_, Sem.run_bind, run_underlying ht, getObj, Sem.run, hb, Result.andThen, hlen]

/-! ### key types -/
theorem findNow_law {P : Program} {kt : TypeId} {d : TypeDesc} (ht : P.underlying kt = some d) (hs : ∀ k j : κ, Instr.sameNow d (ek k) (ek j) = some (decide (j = k))) (k : κ) (l : List MapEntry) (ks : List κ) (w : World)
    (hl : l.map (·.key) = ks.map ek) : (Instr.findKey kt (ek k) l).run P w = .ok ((l.zip ks).findIdx? (fun p => decide (p.2 = k)) |>.bind fun i => l[i]?.map fun e => (i, e.val)) w := by
  have h : ∀ (l : List MapEntry) (ks : List κ) (n : Nat), l.map (·.key) = ks.map ek → Instr.findNow d (ek k) l n = some ((l.zip ks).findIdx? (fun p => decide (p.2 = k)) |>.bind fun i => l[i]?.map fun e => (n + i, e.val)) := by
    intro l
    induction l with
    | nil => intro ks n _; simp [Instr.findNow]
    | cons e l ih =>
      intro ks n hl
      cases ks with
      | nil => simp at hl
      | cons j ks =>
        simp only [List.map_cons, List.cons.injEq] at hl
        rw [Instr.findNow, hl.1, hs]
        by_cases e : j = k
        · simp [e, List.findIdx?_cons]
        · simp only [e, decide_false]
          rw [ih ks (n + 1) hl.2]
          simp only [List.zip_cons_cons, List.findIdx?_cons, e, decide_false, Bool.false_eq_true, if_false]
          cases List.findIdx? (fun p => decide (p.2 = k)) (l.zip ks) with
          | none => rfl
          | some i => simp [Nat.add_assoc, Nat.add_comm 1 i]
  have h0 := h l ks 0 hl
  simp only [Nat.zero_add] at h0
  simp [Instr.findKey, Sem.run_bind, run_underlying ht, Result.andThen, h0]
theorem findAsking_law {P : Program} {kt : TypeId} (he : ∀ k j : κ, ∀ w, (Op.equal kt (ek k) (ek j)).run P w = .ok (decide (j = k)) w) (k : κ) (l : List MapEntry) (ks : List κ) (w : World) (n : Nat)
    (hl : l.map (·.key) = ks.map ek) : (Instr.findAsking kt (ek k) l n).run P w = .ok ((l.zip ks).findIdx? (fun p => decide (p.2 = k)) |>.bind fun i => l[i]?.map fun e => (n + i, e.val)) w := by
  induction l generalizing ks n with
  | nil => simp [Instr.findAsking]
  | cons e l ih =>
    cases ks with
    | nil => simp at hl
    | cons j ks =>
      simp only [List.map_cons, List.cons.injEq] at hl
      rw [Instr.findAsking, hl.1]
      simp only [Sem.run_bind, he, Result.andThen_ok]
      by_cases e : j = k
      · simp [e, List.findIdx?_cons]
      · simp only [e, decide_false, Bool.false_eq_true, if_false]
        rw [ih ks (n + 1) hl.2]
        simp only [List.zip_cons_cons, List.findIdx?_cons, e, decide_false, Bool.false_eq_true, if_false]
        cases List.findIdx? (fun p => decide (p.2 = k)) (l.zip ks) with
        | none => rfl
        | some i => simp [Nat.add_assoc, Nat.add_comm 1 i]
end
theorem check_int {P : Program} {kt : TypeId} (ht : P.underlying kt = some (.int .i64)) (em : Bool) (n : Nat) (v : Value) (w : World) : (Instr.checkKey em (n + 1) kt v).run P w = .ok () w := by
  unfold Instr.checkKey
  simp only [Sem.run_bind, run_underlying ht, Result.andThen_ok]
  cases v <;> rfl
theorem check_string {P : Program} {kt : TypeId} (ht : P.underlying kt = some .string) (em : Bool) (n : Nat) (v : Value) (w : World) : (Instr.checkKey em (n + 1) kt v).run P w = .ok () w := by
  unfold Instr.checkKey
  simp only [Sem.run_bind, run_underlying ht, Result.andThen_ok]
  cases v <;> rfl
theorem int_law {P : Program} {kt : TypeId} (ht : P.underlying kt = some (.int .i64)) : KeyLaw P kt (Value.int .i64) where
  check := fun em k w => check_int ht em 9999 _ w
  find := fun k l ks w hl => findNow_law ht (fun a b => by simp only [Instr.sameNow, if_true, Option.some.injEq]; rw [Bool.eq_iff_iff]; simp; exact eq_comm) k l ks w hl
  same := fun k => by unfold Instr.sameBits; simp
theorem bytes_beq (a b : ByteArray) : (a == b) = decide (a = b) := by
  rw [beq_toListBytes, ByteArray.toList_eq, ByteArray.toList_eq, Bool.eq_iff_iff, decide_eq_true_iff, beq_iff_eq]
  exact ⟨fun h => ByteArray.ext (Array.toList_inj.1 h), fun h => by rw [h]⟩
theorem string_law {P : Program} {kt : TypeId} (ht : P.underlying kt = some .string) : KeyLaw P kt Value.string where
  check := fun em k w => check_string ht em 9999 _ w
  find := fun k l ks w hl => findNow_law ht (fun a b => by simp only [Instr.sameNow, Option.some.injEq]; rw [bytes_beq, Bool.eq_iff_iff, decide_eq_true_iff, decide_eq_true_iff]; exact eq_comm) k l ks w hl
  same := fun k => by unfold Instr.sameBits; rw [bytes_beq]; simp
def pairV (p : Int × Int) : Value := .agg #[.int .i64 p.1, .int .i64 p.2]
theorem pair_law {P : Program} {kt it : TypeId} {f g : Field} (ht : P.underlying kt = some (.struct #[f, g])) (hp : P.stoodInHeld kt = false) (hf : f.type = it ∧ f.offset = 0 ∧ f.name ≠ "_") (hg : g.type = it ∧ g.offset = 1 ∧ g.name ≠ "_")
    (hi : P.underlying it = some (.int .i64)) (hpart : ∀ (a b : Int) w, (part it #[.int .i64 a, .int .i64 b] 0).run P w = .ok (.int .i64 a) w ∧ (part it #[.int .i64 a, .int .i64 b] 1).run P w = .ok (.int .i64 b) w) : KeyLaw P kt pairV where
  check := fun em k w => by
    show (Instr.checkKey em (9998 + 1 + 1) kt (pairV k)).run P w = _
    generalize 9998 = n
    unfold Instr.checkKey
    simp only [Sem.run_bind, run_underlying ht, Result.andThen_ok, pairV]
    rw [← Array.forIn_toList]
    simp [Sem.run_bind, hf, hg, hpart, check_int hi, Result.andThen_ok]
  find := fun k l ks w hl => by
    cases l with
    | nil => simp [Instr.findKey, run_underlying ht, Result.andThen, Instr.findNow]
    | cons e l =>
      have hn : Instr.findNow (.struct #[f, g]) (pairV k) (e :: l) 0 = none := by
        simp [Instr.findNow, Instr.sameNow]
      have := findAsking_law (P := P) (kt := kt) (ek := pairV) (fun a b w => by
        have hfo : P.fieldsOf kt = #[f, g] := by simp [Program.fieldsOf, ht]
        simp only [Op.equal, pairV]
        show (Op.equalIn (9998 + 1 + 1) kt _ _).run P w = _
        generalize 9998 = n
        rw [run_equalIn_struct w _ kt _ _ (by rw [hfo]; exact ht) hp, hfo]
        simp only [Op.eqFields, hf, hg, Sem.run_bind, hpart, Result.andThen_ok, run_equalIn_int _ _ it .i64 .i64 _ _ hi, ne_eq, not_false_eq_true, if_true]
        have e : (b = a) ↔ (a.1 = b.1 ∧ a.2 = b.2) := ⟨fun h => by rw [h]; exact ⟨rfl, rfl⟩, fun h => Prod.ext h.1.symm h.2.symm⟩
        by_cases h1 : a.1 = b.1 <;> by_cases h2 : a.2 = b.2
        · simp [h1, h2, e, hpart, run_equalIn_int _ _ it .i64 .i64 _ _ hi, Sem.run_bind, Result.andThen_ok]
        · simp [h1, h2, e, hpart, run_equalIn_int _ _ it .i64 .i64 _ _ hi, Sem.run_bind, Result.andThen_ok]
        · simp [h1, e]
        · simp [h1, e]) k (e :: l) ks w 0 hl
      simp only [Nat.zero_add] at this
      simp only [Instr.findKey, Sem.run_bind, run_underlying ht, Result.andThen_ok, hn]
      exact this
  same := fun k => by unfold Instr.sameBits; simp [pairV]; unfold Instr.sameBits; simp

/-- Nothing but block b (and new blocks) has changed. -/
structure Kp (b : Nat) (w w' : World) : Prop where
  os : w'.os = w.os
  tape : w'.tape = w.tape
  output : w'.output = w.output
  size : w.heap.size ≤ w'.heap.size
  block : ∀ i, i < w.heap.size → i ≠ b → w'.heap[i]? = w.heap[i]?
namespace Kp
theorem refl (b : Nat) (w : World) : Kp b w w := ⟨rfl, rfl, rfl, Nat.le_refl _, fun _ _ _ => rfl⟩
theorem trans {b : Nat} {x y z : World} (h : Kp b x y) (k : Kp b y z) : Kp b x z :=
  ⟨k.os.trans h.os, k.tape.trans h.tape, k.output.trans h.output, Nat.le_trans h.size k.size, fun i hi hb => (k.block i (Nat.lt_of_lt_of_le hi h.size) hb).trans (h.block i hi hb)⟩
theorem alloc (b : Nat) (w : World) (o : Obj) : Kp b w (w.alloc o) := ⟨rfl, rfl, rfl, by simp, fun i hi _ => Below.heap_alloc w o i hi⟩
theorem drewN (b : Nat) (w : World) (n : Nat) : Kp b w (w.drewN n) := ⟨rfl, rfl, rfl, Nat.le_refl _, fun _ _ _ => rfl⟩
theorem drew (b : Nat) (w : World) : Kp b w w.drew := ⟨rfl, rfl, rfl, Nat.le_refl _, fun _ _ _ => rfl⟩
theorem setBlock (b : Nat) (w : World) (o : Obj) : Kp b w (ChangeMaps.setBlock w b o) := ⟨rfl, rfl, rfl, by simp [ChangeMaps.setBlock], fun i hi hb => by simp [ChangeMaps.setBlock, Array.getElem?_setIfInBounds]; intro e; exact absurd e.symm hb⟩
theorem below {b B : Nat} {w w' : World} (h : Kp b w w') (hb : B ≤ b) (hw : B ≤ w.heap.size) : Below B w w' := ⟨h.os, h.tape, h.output, h.size, fun k hk => h.block k (by omega) (by omega)⟩
theorem cell {b : Nat} {w w' : World} (h : Kp b w w') {p : Addr} {v : Value} (hc : w.cell? p = some v) (hb : p.block ≠ b) : w'.cell? p = some v :=
  (World.cell?_of_block (w := w) (h.block p.block (World.block_lt_of_cell? w p hc) hb)).trans hc
end Kp
end Go.Proofs.YtcljgfpcdlnlkaaDoor.Mp
namespace Go.Proofs.YtcljgfpcdlnlkaaDoor.Q
open Go.RowKit Go.Proofs.YtcljgfpcdlnlkaaDoorW.PrintWords Go.Proofs.YtcljgfpcdlnlkaaDoorW.PrintLast
def EntersAt (g : Nat) : Prop := ∀ (args : Array Value) (w : World), (callFunc g args).run Tryd.prog w = .ok (.enter g args) w
theorem cell_alloc {w : World} {p : Addr} {v : Value} (o : Obj) (h : w.cell? p = some v) : (w.alloc o).cell? p = some v := (World.cell?_of_block (w := w) (Below.heap_alloc w o p.block (World.block_lt_of_cell? w p h))).trans h
theorem enters_at {f : Nat} {fn : Func} (hf : Tryd.prog.funcs[f]? = some fn) (hname : (fn.name == "runtime.NumGoroutine") = false) (hb : fn.body.isSome = true) : EntersAt f := enters_ hf hname hb

set_option maxRecDepth 100000 in
set_option maxHeartbeats 400000 in
theorem idx111 (A : Option Addr) (n c g : Nat) (lb : Array Value) (cv : Nat → Value) (I J : Nat → World → Prop) (w : World) (hn : n ≤ 9223372036854775807) (he : EntersAt g) (h0 : I 0 w)
    (hc : ∀ i W, I i W → i < n → ∃ ad, A = some ad ∧ W.cell? (ad.add i) = some (cv i))
    (hf : ∀ i W, i < n → I i W → Calls Tryd.prog g (#[cv i] ++ lb) W fun e W' => (e = .returned (.bool true) ∧ J i W') ∨ (e = .returned (.bool false) ∧ I (i + 1) W')) :
    Calls Tryd.prog 111 #[.slice A n c, .func (.func g) #[] lb] w fun e w' => (∃ i, i < n ∧ e = .returned (.int .i64 i) ∧ J i w') ∨ (e = .returned (.int .i64 (-1)) ∧ I n w') := by
  have HF := Lib.hid hf
  have HC := Lib.hid hc
  have H0 := Lib.hid h0
  clear hf hc h0
  unfold EntersAt at he
  go_enter Tryd.func111, Tryd.ntmps111
  go_wp2
  go_loopw [8] (fun i W => ∃ k : Nat, k ≤ n ∧ i = .int .i64 k ∧ Hid (I k W)) (fun i _ => n - (intOf i).toNat)
  case atStart => exact ⟨0, Nat.zero_le _, rfl, H0⟩
  case round =>
    obtain ⟨k, hk, rfl, HI⟩ := hrel
    by_cases hlt : k < n
    · obtain ⟨ad, rfl, hcell⟩ := HC.out k wr HI.out hlt
      go_wp2_with fail
      refine (HF.out k wr hlt HI.out).mono ?_
      rintro e W' (⟨rfl, hJ⟩ | ⟨rfl, hI⟩)
      · have HJ := Lib.hid hJ
        clear hJ
        go_wp2
        go_ret
        exact .inl ⟨k, hlt, rfl, HJ.out⟩
      · have HI2 := Lib.hid hI
        clear hI
        go_wp2
        go_roundw
        case rel => exact ⟨k + 1, by omega, by go_num, HI2⟩
        case measure => simp [intOf]; omega
    · obtain rfl : k = n := by omega
      go_wp2
      go_ret
      exact .inr ⟨rfl, HI.out⟩
set_option maxRecDepth 100000 in
theorem has65 (A : Option Addr) (n c g : Nat) (lb : Array Value) (cv : Nat → Value) (I J : Nat → World → Prop) (w : World) (hn : n ≤ 9223372036854775807) (he : EntersAt g) (h0 : I 0 w)
    (hc : ∀ i W, I i W → i < n → ∃ ad, A = some ad ∧ W.cell? (ad.add i) = some (cv i))
    (hf : ∀ i W, i < n → I i W → Calls Tryd.prog g (#[cv i] ++ lb) W fun e W' => (e = .returned (.bool true) ∧ J i W') ∨ (e = .returned (.bool false) ∧ I (i + 1) W')) :
    Calls Tryd.prog 65 #[.slice A n c, .func (.func g) #[] lb] w fun e w' => (∃ i, i < n ∧ e = .returned (.bool true) ∧ J i w') ∨ (e = .returned (.bool false) ∧ I n w') := by
  have HF := Lib.hid hf
  have HC := Lib.hid hc
  have H0 := Lib.hid h0
  have HE := Lib.hid he
  clear hf hc h0 he
  go_enter Tryd.func65, Tryd.ntmps65
  go_wp2_with fail
  refine (idx111 A n c g lb cv I J w hn HE.out H0.out HC.out HF.out).mono ?_
  rintro e W' (⟨i, hi, rfl, hJ⟩ | ⟨rfl, hI⟩)
  · have HJ := Lib.hid hJ
    clear hJ
    go_wp2
    go_ret
    exact .inl ⟨i, hi, rfl, HJ.out⟩
  · have HI := Lib.hid hI
    clear hI
    go_wp2
    go_ret
    exact .inr ⟨rfl, HI.out⟩

set_option maxRecDepth 100000 in
set_option maxHeartbeats 400000 in
theorem idx150 (A : Option Addr) (n c g : Nat) (lb : Array Value) (cv : Nat → Value) (I J : Nat → World → Prop) (w : World) (hn : n ≤ 9223372036854775807) (he : EntersAt g) (h0 : I 0 w)
    (hc : ∀ i W, I i W → i < n → ∃ ad, A = some ad ∧ W.cell? (ad.add i) = some (cv i))
    (hf : ∀ i W, i < n → I i W → Calls Tryd.prog g (#[cv i] ++ lb) W fun e W' => (e = .returned (.bool true) ∧ J i W') ∨ (e = .returned (.bool false) ∧ I (i + 1) W')) :
    Calls Tryd.prog 150 #[.slice A n c, .func (.func g) #[] lb] w fun e w' => (∃ i, i < n ∧ e = .returned (.int .i64 i) ∧ J i w') ∨ (e = .returned (.int .i64 (-1)) ∧ I n w') := by
  have HF := Lib.hid hf
  have HC := Lib.hid hc
  have H0 := Lib.hid h0
  clear hf hc h0
  unfold EntersAt at he
  go_enter Tryd.func150, Tryd.ntmps150
  go_wp2
  go_loopw [8] (fun i W => ∃ k : Nat, k ≤ n ∧ i = .int .i64 k ∧ Hid (I k W)) (fun i _ => n - (intOf i).toNat)
  case atStart => exact ⟨0, Nat.zero_le _, rfl, H0⟩
  case round =>
    obtain ⟨k, hk, rfl, HI⟩ := hrel
    by_cases hlt : k < n
    · obtain ⟨ad, rfl, hcell⟩ := HC.out k wr HI.out hlt
      go_wp2_with fail
      refine (HF.out k wr hlt HI.out).mono ?_
      rintro e W' (⟨rfl, hJ⟩ | ⟨rfl, hI⟩)
      · have HJ := Lib.hid hJ
        clear hJ
        go_wp2
        go_ret
        exact .inl ⟨k, hlt, rfl, HJ.out⟩
      · have HI2 := Lib.hid hI
        clear hI
        go_wp2
        go_roundw
        case rel => exact ⟨k + 1, by omega, by go_num, HI2⟩
        case measure => simp [intOf]; omega
    · obtain rfl : k = n := by omega
      go_wp2
      go_ret
      exact .inr ⟨rfl, HI.out⟩
set_option maxRecDepth 100000 in
theorem has123 (A : Option Addr) (n c g : Nat) (lb : Array Value) (cv : Nat → Value) (I J : Nat → World → Prop) (w : World) (hn : n ≤ 9223372036854775807) (he : EntersAt g) (h0 : I 0 w)
    (hc : ∀ i W, I i W → i < n → ∃ ad, A = some ad ∧ W.cell? (ad.add i) = some (cv i))
    (hf : ∀ i W, i < n → I i W → Calls Tryd.prog g (#[cv i] ++ lb) W fun e W' => (e = .returned (.bool true) ∧ J i W') ∨ (e = .returned (.bool false) ∧ I (i + 1) W')) :
    Calls Tryd.prog 123 #[.slice A n c, .func (.func g) #[] lb] w fun e w' => (∃ i, i < n ∧ e = .returned (.bool true) ∧ J i w') ∨ (e = .returned (.bool false) ∧ I n w') := by
  have HF := Lib.hid hf
  have HC := Lib.hid hc
  have H0 := Lib.hid h0
  have HE := Lib.hid he
  clear hf hc h0 he
  go_enter Tryd.func123, Tryd.ntmps123
  go_wp2_with fail
  refine (idx150 A n c g lb cv I J w hn HE.out H0.out HC.out HF.out).mono ?_
  rintro e W' (⟨i, hi, rfl, hJ⟩ | ⟨rfl, hI⟩)
  · have HJ := Lib.hid hJ
    clear hJ
    go_wp2
    go_ret
    exact .inl ⟨i, hi, rfl, HJ.out⟩
  · have HI := Lib.hid hI
    clear hI
    go_wp2
    go_ret
    exact .inr ⟨rfl, HI.out⟩

set_option maxRecDepth 100000 in
set_option maxHeartbeats 400000 in
theorem idx202 (A : Option Addr) (n c g : Nat) (lb : Array Value) (cv : Nat → Value) (I J : Nat → World → Prop) (w : World) (hn : n ≤ 9223372036854775807) (he : EntersAt g) (h0 : I 0 w)
    (hc : ∀ i W, I i W → i < n → ∃ ad, A = some ad ∧ W.cell? (ad.add i) = some (cv i))
    (hf : ∀ i W, i < n → I i W → Calls Tryd.prog g (#[cv i] ++ lb) W fun e W' => (e = .returned (.bool true) ∧ J i W') ∨ (e = .returned (.bool false) ∧ I (i + 1) W')) :
    Calls Tryd.prog 202 #[.slice A n c, .func (.func g) #[] lb] w fun e w' => (∃ i, i < n ∧ e = .returned (.int .i64 i) ∧ J i w') ∨ (e = .returned (.int .i64 (-1)) ∧ I n w') := by
  have HF := Lib.hid hf
  have HC := Lib.hid hc
  have H0 := Lib.hid h0
  clear hf hc h0
  unfold EntersAt at he
  go_enter Tryd.func202, Tryd.ntmps202
  go_wp2
  go_loopw [8] (fun i W => ∃ k : Nat, k ≤ n ∧ i = .int .i64 k ∧ Hid (I k W)) (fun i _ => n - (intOf i).toNat)
  case atStart => exact ⟨0, Nat.zero_le _, rfl, H0⟩
  case round =>
    obtain ⟨k, hk, rfl, HI⟩ := hrel
    by_cases hlt : k < n
    · obtain ⟨ad, rfl, hcell⟩ := HC.out k wr HI.out hlt
      go_wp2_with fail
      refine (HF.out k wr hlt HI.out).mono ?_
      rintro e W' (⟨rfl, hJ⟩ | ⟨rfl, hI⟩)
      · have HJ := Lib.hid hJ
        clear hJ
        go_wp2
        go_ret
        exact .inl ⟨k, hlt, rfl, HJ.out⟩
      · have HI2 := Lib.hid hI
        clear hI
        go_wp2
        go_roundw
        case rel => exact ⟨k + 1, by omega, by go_num, HI2⟩
        case measure => simp [intOf]; omega
    · obtain rfl : k = n := by omega
      go_wp2
      go_ret
      exact .inr ⟨rfl, HI.out⟩
set_option maxRecDepth 100000 in
theorem has190 (A : Option Addr) (n c g : Nat) (lb : Array Value) (cv : Nat → Value) (I J : Nat → World → Prop) (w : World) (hn : n ≤ 9223372036854775807) (he : EntersAt g) (h0 : I 0 w)
    (hc : ∀ i W, I i W → i < n → ∃ ad, A = some ad ∧ W.cell? (ad.add i) = some (cv i))
    (hf : ∀ i W, i < n → I i W → Calls Tryd.prog g (#[cv i] ++ lb) W fun e W' => (e = .returned (.bool true) ∧ J i W') ∨ (e = .returned (.bool false) ∧ I (i + 1) W')) :
    Calls Tryd.prog 190 #[.slice A n c, .func (.func g) #[] lb] w fun e w' => (∃ i, i < n ∧ e = .returned (.bool true) ∧ J i w') ∨ (e = .returned (.bool false) ∧ I n w') := by
  have HF := Lib.hid hf
  have HC := Lib.hid hc
  have H0 := Lib.hid h0
  have HE := Lib.hid he
  clear hf hc h0 he
  go_enter Tryd.func190, Tryd.ntmps190
  go_wp2_with fail
  refine (idx202 A n c g lb cv I J w hn HE.out H0.out HC.out HF.out).mono ?_
  rintro e W' (⟨i, hi, rfl, hJ⟩ | ⟨rfl, hI⟩)
  · have HJ := Lib.hid hJ
    clear hJ
    go_wp2
    go_ret
    exact .inl ⟨i, hi, rfl, HJ.out⟩
  · have HI := Lib.hid hI
    clear hI
    go_wp2
    go_ret
    exact .inr ⟨rfl, HI.out⟩
end Go.Proofs.YtcljgfpcdlnlkaaDoor.Q
namespace Go.Proofs.YtcljgfpcdlnlkaaDoor.Q
open Go.RowKit Go.Proofs.YtcljgfpcdlnlkaaDoorW.PrintWords
def smallB (c : Int) : Bool := decide (97 ≤ c) && decide (c ≤ 122)
def digitB (c : Int) : Bool := decide (48 ≤ c) && decide (c ≤ 57)
def scoreB (c : Int) : Bool := c == 95
set_option maxRecDepth 100000 in
theorem small_calls (c : Int) (w : World) : Calls Tryd.prog 171 #[.int .u8 c] w fun e w' => e = .returned (.bool (smallB c)) ∧ w' = w := by
  by_cases h : 97 ≤ c
  · go_enter Tryd.func171, Tryd.ntmps171
    go_wp2
    go_ret
    exact ⟨by simp [smallB, h], rfl⟩
  · have hd : decide (97 ≤ c) = false := decide_eq_false h
    go_enter Tryd.func171, Tryd.ntmps171
    go_wp2
    go_ret
    exact ⟨by rw [smallB, hd]; rfl, rfl⟩
set_option maxRecDepth 100000 in
theorem digit_calls (c : Int) (w : World) : Calls Tryd.prog 172 #[.int .u8 c] w fun e w' => e = .returned (.bool (digitB c)) ∧ w' = w := by
  by_cases h : 48 ≤ c
  · go_enter Tryd.func172, Tryd.ntmps172
    go_wp2
    go_ret
    exact ⟨by simp [digitB, h], rfl⟩
  · have hd : decide (48 ≤ c) = false := decide_eq_false h
    go_enter Tryd.func172, Tryd.ntmps172
    go_wp2
    go_ret
    exact ⟨by rw [digitB, hd]; rfl, rfl⟩
set_option maxRecDepth 100000 in
theorem score_calls (c : Int) (w : World) : Calls Tryd.prog 173 #[.int .u8 c] w fun e w' => e = .returned (.bool (scoreB c)) ∧ w' = w := by
  go_enter Tryd.func173, Tryd.ntmps173
  go_wp2
  go_ret
  exact ⟨rfl, rfl⟩
/-- The three sorts of bytes that stand in a name. -/
def sortV : Nat → Value
  | 0 => .func (.func 171) #[] #[]
  | 1 => .func (.func 172) #[] #[]
  | _ => .func (.func 173) #[] #[]
def sortB (c : Int) : Nat → Bool
  | 0 => smallB c
  | 1 => digitB c
  | _ => scoreB c
set_option maxRecDepth 100000 in
theorem sort_calls (i : Nat) (S K : Nat) (s : ByteArray) (k : Nat) (hk : k < s.size) (w : World) (hs : w.cell? ⟨S, 0, none⟩ = some (.string s)) (hK : w.cell? ⟨K, 0, none⟩ = some (.int .i64 k)) :
    Calls Tryd.prog 191 #[sortV i, .pointer (some ⟨S, 0, none⟩), .pointer (some ⟨K, 0, none⟩)] w fun e w' => e = .returned (.bool (sortB (s[k].toNat : Int) i)) ∧ w' = w := by
  rcases i with _ | _ | i <;> simp only [sortV, sortB]
  · go_enter Tryd.func191, Tryd.ntmps191
    go_wp2_with fail
    refine (small_calls _ _).mono ?_
    rintro e w' ⟨rfl, rfl⟩
    go_wp2
    go_ret
    exact ⟨rfl, rfl⟩
  · go_enter Tryd.func191, Tryd.ntmps191
    go_wp2_with fail
    refine (digit_calls _ _).mono ?_
    rintro e w' ⟨rfl, rfl⟩
    go_wp2
    go_ret
    exact ⟨rfl, rfl⟩
  · go_enter Tryd.func191, Tryd.ntmps191
    go_wp2_with fail
    refine (score_calls _ _).mono ?_
    rintro e w' ⟨rfl, rfl⟩
    go_wp2
    go_ret
    exact ⟨rfl, rfl⟩

def anyB (c : Int) : Bool := smallB c || digitB c || scoreB c
/-- May a text stand behind a '? -/
def taggedB (s : ByteArray) : Bool := decide (0 < s.size) && decide (s.size ≤ 16) && smallB (bt s 0) && (List.range s.size).all fun i => anyB (bt s i)
theorem sort_any (c : Int) : anyB c = true ↔ ∃ i, i < 3 ∧ sortB c i = true := by
  constructor
  · intro h
    simp only [anyB, Bool.or_eq_true] at h
    rcases h with (h | h) | h
    · exact ⟨0, by omega, h⟩
    · exact ⟨1, by omega, h⟩
    · exact ⟨2, by omega, h⟩
  · rintro ⟨i, hi, h⟩
    simp only [anyB, Bool.or_eq_true]
    rcases i with _ | _ | i
    · exact .inl (.inl h)
    · exact .inl (.inr h)
    · exact .inr h
theorem enters191 : EntersAt 191 := enters_at Tryd.func191 (by kernel_rfl) rfl
theorem enters171 : EntersAt 171 := enters_at Tryd.func171 (by kernel_rfl) rfl
set_option maxRecDepth 100000 in
/-- 'slices.ContainsFunc(others, ..)' at one byte. -/
theorem contains_calls (S K O c : Nat) (s : ByteArray) (k : Nat) (hk : k < s.size) (w : World) (hs : w.cell? ⟨S, 0, none⟩ = some (.string s)) (hK : w.cell? ⟨K, 0, none⟩ = some (.int .i64 k))
    (hO : ∀ i, i < 3 → w.cell? ⟨O, i, none⟩ = some (sortV i)) :
    Calls Tryd.prog 190 #[.slice (some ⟨O, 0, none⟩) 3 c, .func (.func 191) #[] #[.pointer (some ⟨S, 0, none⟩), .pointer (some ⟨K, 0, none⟩)]] w fun e w' => e = .returned (.bool (anyB (bt s k))) ∧ w' = w := by
  have e0 : (s[k].toNat : Int) = bt s k := bt_at s k (by simpa using hk)
  refine (has190 (some ⟨O, 0, none⟩) 3 c 191 #[.pointer (some ⟨S, 0, none⟩), .pointer (some ⟨K, 0, none⟩)] sortV (fun i W => W = w ∧ ∀ j, j < i → sortB (bt s k) j = false) (fun i W => W = w ∧ i < 3 ∧ sortB (bt s k) i = true) w (by omega) enters191
    ⟨rfl, fun j hj => absurd hj (by omega)⟩ ?_ ?_).mono ?_
  · rintro i W ⟨rfl, _⟩ hi
    exact ⟨_, rfl, by rw [add_plain]; exact hO i hi⟩
  · rintro i W hi ⟨rfl, hj⟩
    refine (sort_calls i S K s k hk W hs hK).mono ?_
    rintro e W' ⟨rfl, rfl⟩
    rw [e0]
    cases hb : sortB (bt s k) i with
    | true => exact .inl ⟨rfl, rfl, hi, rfl⟩
    | false => exact .inr ⟨rfl, rfl, fun j hj' => if h : j = i then by rw [h]; exact hb else hj j (by omega)⟩
  · rintro e W' (⟨i, _, rfl, rfl, hi, hb⟩ | ⟨rfl, rfl, hn⟩)
    · exact ⟨by rw [(sort_any _).2 ⟨i, hi, hb⟩], rfl⟩
    · refine ⟨?_, rfl⟩
      cases h : anyB (bt s k) with
      | false => rfl
      | true =>
        obtain ⟨i, hi, hb⟩ := (sort_any _).1 h
        rw [hn i hi] at hb
        cases hb
set_option maxRecDepth 100000 in
set_option maxHeartbeats 400000 in
theorem formed_calls (O c : Nat) (s : ByteArray) (w : World) (hO : ∀ i, i < 3 → w.cell? ⟨O, i, none⟩ = some (sortV i)) :
    Calls Tryd.prog 170 #[.string s, .func (.func 171) #[] #[], .slice (some ⟨O, 0, none⟩) 3 c] w fun e w' => e = .returned (.bool (taggedB s)) ∧ Below w.heap.size w w' := by
  have he := enters171
  unfold EntersAt at he
  have hOl : O < w.heap.size := World.block_lt_of_cell? w _ (hO 0 (by omega))
  by_cases h0 : s.size = 0
  · have hl : s.toList = [] := by rw [ByteArray.toList_eq]; exact List.eq_nil_of_length_eq_zero (by simpa using h0)
    have hB : taggedB s = false := by simp [taggedB, h0]
    have HB := Lib.hid hB
    clear hB
    go_enter Tryd.func170, Tryd.ntmps170
    go_wp2
    go_ret
    exact ⟨by rw [HB.out]; rfl, (Below.refl _ _).alloc (Nat.le_refl _) _⟩
  · have hl : s.toList.isEmpty = false := by rw [ByteArray.toList_eq]; cases h : s.data.toList with
      | nil => exact absurd (by simpa using congrArg List.length h) h0
      | cons _ _ => rfl
    by_cases h16 : s.size ≤ 16
    · have hd16 : decide (16 < (s.size : Int)) = false := decide_eq_false (by omega)
      have hp : 0 < s.size := by omega
      have e0 : (s[0].toNat : Int) = bt s 0 := bt_at s 0 (by simpa using hp)
      cases hsm : smallB (bt s 0) with
      | false =>
        have hB : taggedB s = false := by simp [taggedB, hsm]
        have HB := Lib.hid hB
        clear hB
        go_enter Tryd.func170, Tryd.ntmps170
        go_wp2_with fail
        refine (small_calls _ _).mono ?_
        rintro e w' ⟨rfl, rfl⟩
        go_wp2
        go_ret
        exact ⟨by rw [HB.out]; rfl, (Below.refl _ _).alloc (Nat.le_refl _) _⟩
      | true =>
        have hB : taggedB s = (List.range s.size).all fun i => anyB (bt s i) := by simp [taggedB, hsm, h16, hp]
        have HB := Lib.hid hB
        clear hB
        go_enter Tryd.func170, Tryd.ntmps170
        go_wp2_with fail
        refine (small_calls _ _).mono ?_
        rintro e w' ⟨rfl, rfl⟩
        have hs1 : (w.alloc (.cells #[.string s] 9)).cell? ⟨w.heap.size, 0, none⟩ = some (.string s) := by simp
        have hO1 : ∀ i, i < 3 → (w.alloc (.cells #[.string s] 9)).cell? ⟨O, i, none⟩ = some (sortV i) := fun i hi => cell_alloc _ (hO i hi)
        have hb1 : Below w.heap.size w (w.alloc (.cells #[.string s] 9)) := (Below.refl _ _).alloc (Nat.le_refl _) _
        have hl1 : w.heap.size < (w.alloc (.cells #[.string s] 9)).heap.size := by simp
        go_wp2
        generalize w.alloc (.cells #[.string s] 9) = w1 at *
        go_loopw [24] (fun i W => ∃ k : Nat, k ≤ s.size ∧ i = .int .i64 k ∧ Hid ((∀ j, j < k → anyB (bt s j) = true) ∧ Below w1.heap.size w1 W)) (fun i _ => s.size - (intOf i).toNat)
        case atStart => exact ⟨0, Nat.zero_le _, rfl, Lib.hid ⟨fun j hj => absurd hj (by omega), Below.refl _ _⟩⟩
        case round =>
          obtain ⟨k, hk, rfl, HI⟩ := hrel
          have hBW := HI.out.2
          by_cases hlt : k < s.size
          · have hs2 : (wr.alloc (.cells #[.int .i64 k] 3)).cell? ⟨w.heap.size, 0, none⟩ = some (.string s) := cell_alloc _ ((hBW.cell (p := ⟨w.heap.size, 0, none⟩) hl1).trans hs1)
            have hO2 : ∀ i, i < 3 → (wr.alloc (.cells #[.int .i64 k] 3)).cell? ⟨O, i, none⟩ = some (sortV i) := fun i hi => cell_alloc _ ((hBW.cell (p := ⟨O, i, none⟩) (World.block_lt_of_cell? w1 _ (hO1 i hi))).trans (hO1 i hi))
            have hk2 : (wr.alloc (.cells #[.int .i64 k] 3)).cell? ⟨wr.heap.size, 0, none⟩ = some (.int .i64 k) := by simp
            have HC := Lib.hid (contains_calls w.heap.size wr.heap.size O c s k hlt (wr.alloc (.cells #[.int .i64 k] 3)) hs2 hk2 hO2)
            clear hs1 hO1 hs2 hO2 hk2
            go_wp2_with fail
            refine HC.out.mono ?_
            rintro e w' ⟨rfl, rfl⟩
            cases hany : anyB (bt s k) with
            | true =>
              go_wp2
              go_roundw
              case rel => exact ⟨k + 1, by omega, by go_num, Lib.hid ⟨fun j hj => if h : j = k then by rw [h]; exact hany else HI.out.1 j (by omega), hBW.alloc hBW.size _⟩⟩
              case measure => simp [intOf]; omega
            | false =>
              go_wp2
              go_ret
              exact ⟨by rw [HB.out, List.all_eq_false.2 ⟨k, by simp; omega, by simp [hany]⟩]; rfl, hb1.trans ((hBW.alloc hBW.size _).mono (by omega))⟩
          · obtain rfl : k = s.size := by omega
            go_wp2
            go_ret
            exact ⟨by rw [HB.out, List.all_eq_true.2 (fun j hj => HI.out.1 j (by simpa using hj))]; rfl, hb1.trans (hBW.mono (by omega))⟩
    · have hd16 : decide (16 < (s.size : Int)) = true := decide_eq_true (by omega)
      have hB : taggedB s = false := by simp [taggedB, h16]
      have HB := Lib.hid hB
      clear hB
      go_enter Tryd.func170, Tryd.ntmps170
      go_wp2
      go_ret
      exact ⟨by rw [HB.out]; rfl, (Below.refl _ _).alloc (Nat.le_refl _) _⟩
end Go.Proofs.YtcljgfpcdlnlkaaDoor.Q
namespace Go.Proofs.YtcljgfpcdlnlkaaDoor.Q
open Go.RowKit Go.Proofs.YtcljgfpcdlnlkaaDoorW.PrintWords
/-- The language's own words. -/
def keyWords : List ByteArray := [⟨#[109, 111, 100, 117, 108, 101]⟩, ⟨#[105, 109, 112, 111, 114, 116]⟩, ⟨#[116, 121, 112, 101]⟩, ⟨#[102, 110]⟩, ⟨#[108, 101, 116]⟩, ⟨#[105, 110]⟩, ⟨#[105, 102]⟩, ⟨#[116, 104, 101, 110]⟩, ⟨#[101, 108, 115, 101]⟩, ⟨#[105, 115]⟩, ⟨#[97, 115]⟩, ⟨#[116, 114, 117, 101]⟩, ⟨#[102, 97, 108, 115, 101]⟩, ⟨#[110, 117, 108, 108]⟩, ⟨#[100, 121, 110]⟩, ⟨#[98, 111, 111, 108]⟩, ⟨#[105, 110, 116]⟩, ⟨#[114, 101, 99]⟩]
/-- The table lies in memory as the text lays it. -/
def KeysIn (w : World) : Prop := ∀ i : Nat, i < 18 → w.cell? ⟨0, i, none⟩ = some (.string (keyWords.getD i ByteArray.empty))
theorem KeysIn.below {w w' : World} (h : KeysIn w) (hb : Below w.heap.size w w') : KeysIn w' := fun i hi => (hb.cell (p := ⟨0, i, none⟩) (World.block_lt_of_cell? w _ (h i hi))).trans (h i hi)
def isKeyB (s : ByteArray) : Bool := keyWords.any fun k => decide (k = s)
def isNameB (s : ByteArray) : Bool := taggedB s && !isKeyB s
theorem str_eq (a b : ByteArray) : (a.toList == b.toList) = decide (a = b) := by rw [← beq_toListBytes, Mp.bytes_beq]
theorem keyWord_mem (k : Nat) (hk : k < 18) : keyWords.getD k ByteArray.empty ∈ keyWords := by
  rw [List.getD_eq_getElem?_getD, List.getElem?_eq_getElem (show k < keyWords.length from hk)]
  exact List.getElem_mem _
set_option maxRecDepth 100000 in
set_option maxHeartbeats 400000 in
theorem isKey_calls (s : ByteArray) (w : World) (hk : KeysIn w) : Calls Tryd.prog 119 #[.string s] w fun e w' => e = .returned (.bool (isKeyB s)) ∧ w' = w := by
  have HK := Lib.hid hk
  clear hk
  go_enter Tryd.func119, Tryd.ntmps119
  go_wp2
  go_loop [4] (fun i => ∃ k : Nat, k ≤ 18 ∧ i = .int .i64 k ∧ Hid (∀ j, j < k → keyWords.getD j ByteArray.empty ≠ s)) (fun i => 18 - (intOf i).toNat)
  case atStart => exact ⟨0, by omega, rfl, Lib.hid fun j hj => absurd hj (by omega)⟩
  case round =>
    obtain ⟨k, hk, rfl, HI⟩ := hrel
    by_cases hlt : k < 18
    · have hc := HK.out k hlt
      have hlt' : (k : Int) < 18 := by omega
      by_cases he : keyWords.getD k ByteArray.empty = s
      · have heq : ((keyWords.getD k ByteArray.empty).toList == s.toList) = true := by rw [str_eq]; exact decide_eq_true he
        have hB : isKeyB s = true := List.any_eq_true.2 ⟨keyWords.getD k ByteArray.empty, keyWord_mem k hlt, decide_eq_true he⟩
        have HB := Lib.hid hB
        clear he hB
        generalize keyWords.getD k ByteArray.empty = x at hc heq
        go_wp2
        go_ret
        exact ⟨by rw [HB.out]; rfl, rfl⟩
      · have heq : ((keyWords.getD k ByteArray.empty).toList == s.toList) = false := by rw [str_eq]; exact decide_eq_false he
        have HE := Lib.hid he
        clear he
        have HI2 : Hid (∀ j, j < k + 1 → keyWords.getD j ByteArray.empty ≠ s) := Lib.hid fun j hj => if h : j = k then by rw [h]; exact HE.out else HI.out j (by omega)
        clear HE
        generalize keyWords.getD k ByteArray.empty = x at hc heq
        go_wp2
        go_round
        case rel => exact ⟨k + 1, by omega, by go_num, HI2⟩
        case measure => simp [intOf]; omega
    · obtain rfl : k = 18 := by omega
      go_wp2
      go_ret
      refine ⟨?_, rfl⟩
      have : isKeyB s = false := List.any_eq_false.2 (fun x hx => by
        obtain ⟨i, hi, rfl⟩ := List.getElem_of_mem hx
        have := HI.out i (by simpa [keyWords] using hi)
        rw [List.getD_eq_getElem?_getD, List.getElem?_eq_getElem hi] at this
        simpa using this)
      rw [this]; rfl

set_option maxRecDepth 100000 in
theorem tagged_calls (s : ByteArray) (w : World) : Calls Tryd.prog 148 #[.string s] w fun e w' => e = .returned (.bool (taggedB s)) ∧ Below w.heap.size w w' := by
  go_enter Tryd.func148, Tryd.ntmps148
  go_wp2_with fail
  refine (formed_calls w.heap.size 3 s _ ?_).mono ?_
  · intro i hi
    rcases i with _ | _ | _ | i
    · simp [sortV]
    · simp [sortV]
    · simp [sortV]
    · omega
  · rintro e w' ⟨rfl, hb⟩
    go_wp2
    go_ret
    exact ⟨rfl, ((Below.refl _ _).alloc (Nat.le_refl _) _).trans (hb.mono (by simp))⟩
set_option maxRecDepth 100000 in
theorem isName_calls (s : ByteArray) (w : World) (hk : KeysIn w) : Calls Tryd.prog 118 #[.string s] w fun e w' => e = .returned (.bool (isNameB s)) ∧ Below w.heap.size w w' := by
  have HK := Lib.hid hk
  clear hk
  go_enter Tryd.func118, Tryd.ntmps118
  cases ht : taggedB s with
  | true =>
    have hB : isNameB s = !isKeyB s := by simp [isNameB, ht]
    have HB := Lib.hid hB
    have HT := Lib.hid ht
    clear hB ht
    go_wp2_with fail
    refine (tagged_calls s w).mono ?_
    rintro e w' ⟨rfl, hb⟩
    have hk2 := Lib.hid (HK.out.below hb)
    rw [HT.out]
    go_wp2_with fail
    refine (isKey_calls s w' hk2.out).mono ?_
    rintro e w2 ⟨rfl, rfl⟩
    go_wp2
    go_ret
    exact ⟨by rw [HB.out]; rfl, hb⟩
  | false =>
    have hB : isNameB s = false := by simp [isNameB, ht]
    have HB := Lib.hid hB
    have HT := Lib.hid ht
    clear hB ht
    go_wp2_with fail
    refine (tagged_calls s w).mono ?_
    rintro e w' ⟨rfl, hb⟩
    rw [HT.out]
    go_wp2
    go_ret
    exact ⟨by rw [HB.out]; rfl, hb⟩
end Go.Proofs.YtcljgfpcdlnlkaaDoor.Q
namespace Go.Proofs.YtcljgfpcdlnlkaaDoor.Q
open Go.RowKit Go.Proofs.YtcljgfpcdlnlkaaDoorW.PrintWords
theorem int_cell {w : World} {A : Option Addr} {n : Nat} {xs : List Int} (h : Kd.C (Kd.int .i64) w A n xs) (i : Nat) (hi : i < n) : ∃ ad, A = some ad ∧ w.cell? (ad.add i) = some (.int .i64 (rd xs i)) := by
  obtain ⟨ad, c, e, _, hK, hc⟩ := Kd.C_get h (0 : Int) i (by omega) (by omega)
  have := hc 0 (.int .i64 (rd xs i)) (by rw [show c = [Value.int .i64 (xs.getD (i : Int).toNat 0)] from hK]; rfl)
  refine ⟨ad, e, ?_⟩
  simpa [Kd.int, Kd.scalar] using this
theorem str_cell {w : World} {A : Option Addr} {n : Nat} {xs : List ByteArray} (h : Kd.C Kd.string w A n xs) (i : Nat) (hi : i < n) : ∃ ad, A = some ad ∧ w.cell? (ad.add i) = some (.string (xs.getD i ByteArray.empty)) := by
  obtain ⟨ad, c, e, _, hK, hc⟩ := Kd.C_get h ByteArray.empty i (by omega) (by omega)
  have := hc 0 (.string (xs.getD i ByteArray.empty)) (by rw [show c = [Value.string (xs.getD (i : Int).toNat ByteArray.empty)] from hK]; rfl)
  refine ⟨ad, e, ?_⟩
  simpa [Kd.string, Kd.scalar] using this
/-- Is a number no place among n? -/
def outB (n : Nat) (k : Int) : Bool := decide (k < 0) || decide ((n : Int) ≤ k)
set_option maxRecDepth 100000 in
theorem out_calls (k : Int) (G : Nat) (A : Option Addr) (n c : Nat) (w : World) (hG : w.cell? ⟨G, 0, none⟩ = some (.slice A n c)) :
    Calls Tryd.prog 117 #[.int .i64 k, .pointer (some ⟨G, 0, none⟩)] w fun e w' => e = .returned (.bool (outB n k)) ∧ w' = w := by
  by_cases h : k < 0
  · have hd : decide (k < 0) = true := decide_eq_true h
    go_enter Tryd.func117, Tryd.ntmps117
    go_wp2
    go_ret
    exact ⟨by rw [outB, hd]; rfl, rfl⟩
  · have hd : decide (k < 0) = false := decide_eq_false h
    go_enter Tryd.func117, Tryd.ntmps117
    go_wp2
    go_ret
    exact ⟨by rw [outB, hd]; rfl, rfl⟩
theorem enters117 : EntersAt 117 := enters_at Tryd.func117 (by kernel_rfl) rfl
theorem any_of_idx {α : Type} (l : List α) (d : α) (p : α → Bool) (i : Nat) (hi : i < l.length) (h : p (l.getD i d) = true) : l.any p = true := by
  rw [List.getD_eq_getElem?_getD, List.getElem?_eq_getElem hi] at h
  exact List.any_eq_true.2 ⟨_, List.getElem_mem hi, h⟩
theorem any_none {α : Type} (l : List α) (d : α) (p : α → Bool) (h : ∀ i, i < l.length → p (l.getD i d) = false) : l.any p = false := by
  refine List.any_eq_false.2 fun x hx => ?_
  obtain ⟨i, hi, rfl⟩ := List.getElem_of_mem hx
  have := h i hi
  rw [List.getD_eq_getElem?_getD, List.getElem?_eq_getElem hi] at this
  simpa using this
/-- 'slices.ContainsFunc(n.L, out)'. -/
theorem outs_calls (G : Nat) (A : Option Addr) (n c : Nat) (A1 : Option Addr) (c1 : Nat) (l : List Int) (w : World) (hG : w.cell? ⟨G, 0, none⟩ = some (.slice A n c)) (hl : Kd.C (Kd.int .i64) w A1 l.length l) (hn : l.length ≤ 9223372036854775807) :
    Calls Tryd.prog 65 #[.slice A1 l.length c1, .func (.func 117) #[] #[.pointer (some ⟨G, 0, none⟩)]] w fun e w' => e = .returned (.bool (l.any (outB n))) ∧ w' = w := by
  refine (has65 A1 l.length c1 117 #[.pointer (some ⟨G, 0, none⟩)] (fun i => .int .i64 (rd l i)) (fun i W => W = w ∧ ∀ j, j < i → outB n (l.getD j 0) = false) (fun i W => W = w ∧ i < l.length ∧ outB n (l.getD i 0) = true) w hn enters117
    ⟨rfl, fun j hj => absurd hj (by omega)⟩ ?_ ?_).mono ?_
  · rintro i W ⟨rfl, _⟩ hi
    exact int_cell hl i hi
  · rintro i W hi ⟨rfl, hj⟩
    refine (out_calls _ G A n c W hG).mono ?_
    rintro e W' ⟨rfl, rfl⟩
    rw [show rd l (i : Int) = l.getD i 0 from rfl]
    cases hb : outB n (l.getD i 0) with
    | true => exact .inl ⟨rfl, rfl, hi, rfl⟩
    | false => exact .inr ⟨rfl, rfl, fun j hj' => if h : j = i then by rw [h]; exact hb else hj j (by omega)⟩
  · rintro e W' (⟨i, _, rfl, rfl, hi, hb⟩ | ⟨rfl, rfl, hn⟩)
    · exact ⟨by rw [any_of_idx l 0 _ i hi hb], rfl⟩
    · exact ⟨by rw [any_none l 0 _ hn], rfl⟩
/-- 'func(s string) bool { return !lex.IsName(s) }'. -/
theorem noName_calls (s : ByteArray) (w : World) (hk : KeysIn w) : Calls Tryd.prog 124 #[.string s] w fun e w' => e = .returned (.bool (!isNameB s)) ∧ Below w.heap.size w w' := by
  go_enter Tryd.func124, Tryd.ntmps124
  have HK := Lib.hid hk
  clear hk
  go_wp2_with fail
  refine (isName_calls s w HK.out).mono ?_
  rintro e w' ⟨rfl, hb⟩
  go_wp2
  go_ret
  exact ⟨rfl, hb⟩
theorem enters124 : EntersAt 124 := enters_at Tryd.func124 (by kernel_rfl) rfl
theorem names_calls (A1 : Option Addr) (c1 : Nat) (l : List ByteArray) (w : World) (hk : KeysIn w) (hl : Kd.C Kd.string w A1 l.length l) (hn : l.length ≤ 9223372036854775807) :
    Calls Tryd.prog 123 #[.slice A1 l.length c1, .func (.func 124) #[] #[]] w fun e w' => e = .returned (.bool (l.any fun s => !isNameB s)) ∧ Below w.heap.size w w' := by
  refine (has123 A1 l.length c1 124 #[] (fun i => .string (l.getD i ByteArray.empty)) (fun i W => Below w.heap.size w W ∧ ∀ j, j < i → (!isNameB (l.getD j ByteArray.empty)) = false) (fun i W => Below w.heap.size w W ∧ i < l.length ∧ (!isNameB (l.getD i ByteArray.empty)) = true) w hn enters124
    ⟨Below.refl _ _, fun j hj => absurd hj (by omega)⟩ ?_ ?_).mono ?_
  · rintro i W ⟨hb, _⟩ hi
    exact str_cell (Kd.C_below hl hb) i hi
  · rintro i W hi ⟨hb, hj⟩
    refine (noName_calls _ W (hk.below hb)).mono ?_
    rintro e W' ⟨rfl, hb'⟩
    have hb2 := hb.trans (hb'.mono hb.size)
    cases hc : (!isNameB (l.getD i ByteArray.empty)) with
    | true => exact .inl ⟨rfl, hb2, hi, rfl⟩
    | false => exact .inr ⟨rfl, hb2, fun j hj' => if h : j = i then by rw [h]; exact hc else hj j (by omega)⟩
  · rintro e W' (⟨i, _, rfl, hb, hi, hc⟩ | ⟨rfl, hb, hn⟩)
    · exact ⟨by rw [any_of_idx l ByteArray.empty _ i hi hc], hb⟩
    · exact ⟨by rw [any_none l ByteArray.empty _ hn], hb⟩
end Go.Proofs.YtcljgfpcdlnlkaaDoor.Q
namespace Go.Proofs.YtcljgfpcdlnlkaaDoor.Q
open Go.RowKit Go.Proofs.YtcljgfpcdlnlkaaDoorW.PrintWords
def ltB (a b : ByteArray) : Bool := Op.bytesLess a.toList b.toList
def cmpS (a b : ByteArray) : Int := if ltB a b = true then -1 else if a = b then 0 else 1
def riseCmp (a b : ByteArray) : Int := if a = b then -1 else cmpS a b
theorem riseCmp_range (a b : ByteArray) : -1 ≤ riseCmp a b ∧ riseCmp a b ≤ 1 := by
  unfold riseCmp cmpS
  (repeat' split) <;> omega
set_option maxRecDepth 100000 in
theorem nanS_calls (a : ByteArray) (w : World) : Calls Tryd.prog 149 #[.string a] w fun e w' => e = .returned (.bool false) ∧ w' = w := by
  have h : (a.toList == a.toList) = true := by simp
  go_enter Tryd.func149, Tryd.ntmps149
  go_wp2
  go_ret
  exact ⟨rfl, rfl⟩
set_option maxRecDepth 100000 in
set_option maxHeartbeats 400000 in
theorem cmpS_calls (a b : ByteArray) (w : World) : Calls Tryd.prog 122 #[.string a, .string b] w fun e w' => e = .returned (.int .i64 (cmpS a b)) ∧ w' = w := by
  cases h1 : Op.bytesLess a.toList b.toList with
  | true =>
    have H := Lib.hid (show cmpS a b = -1 by simp only [cmpS, ltB, h1, if_true])
    go_enter Tryd.func122, Tryd.ntmps122
    go_wp2_with (go_at_call 149; refine (nanS_calls _ _).mono ?_; rintro e w' ⟨rfl, rfl⟩)
    go_ret
    exact ⟨by rw [H.out]; rfl, rfl⟩
  | false =>
    by_cases he : a = b
    · have H := Lib.hid (show cmpS a b = 0 by unfold cmpS ltB; rw [if_neg (by rw [h1]; exact Bool.false_ne_true), if_pos he])
      have h2 : (a.toList == b.toList) = true := by rw [str_eq]; exact decide_eq_true he
      clear he
      go_enter Tryd.func122, Tryd.ntmps122
      go_wp2_with (go_at_call 149; refine (nanS_calls _ _).mono ?_; rintro e w' ⟨rfl, rfl⟩)
      go_ret
      exact ⟨by rw [H.out]; rfl, rfl⟩
    · have H := Lib.hid (show cmpS a b = 1 by simp only [cmpS, ltB, h1, he, Bool.false_eq_true, if_false])
      have h2 : (a.toList == b.toList) = false := by rw [str_eq]; exact decide_eq_false he
      clear he
      go_enter Tryd.func122, Tryd.ntmps122
      go_wp2_with (go_at_call 149; refine (nanS_calls _ _).mono ?_; rintro e w' ⟨rfl, rfl⟩)
      go_ret
      exact ⟨by rw [H.out]; rfl, rfl⟩
set_option maxRecDepth 100000 in
theorem rise_calls (a b : ByteArray) (w : World) : Calls Tryd.prog 121 #[.string a, .string b] w fun e w' => e = .returned (.int .i64 (riseCmp a b)) ∧ w' = w := by
  by_cases h : a = b
  · have H := Lib.hid (show riseCmp a b = -1 from if_pos h)
    have h1 : (a.toList == b.toList) = true := by rw [str_eq]; exact decide_eq_true h
    clear h
    go_enter Tryd.func121, Tryd.ntmps121
    go_wp2
    go_ret
    exact ⟨by rw [H.out]; rfl, rfl⟩
  · have H := Lib.hid (show riseCmp a b = cmpS a b from if_neg h)
    have h1 : (a.toList == b.toList) = false := by rw [str_eq]; exact decide_eq_false h
    clear h
    go_enter Tryd.func121, Tryd.ntmps121
    go_wp2_with (go_at_call 122; refine (cmpS_calls _ _ _).mono ?_; rintro e w' ⟨rfl, rfl⟩)
    go_ret
    exact ⟨by rw [H.out]; rfl, rfl⟩
theorem enters121 : EntersAt 121 := enters_at Tryd.func121 (by kernel_rfl) rfl
/-- Do texts rise? -/
def risingB (l : List ByteArray) : Bool := (List.range (l.length - 1)).all fun i => !decide (riseCmp (l.getD (i + 1) ByteArray.empty) (l.getD i ByteArray.empty) < 0)
set_option maxRecDepth 100000 in
set_option maxHeartbeats 400000 in
theorem rising_calls (A : Option Addr) (c : Nat) (l : List ByteArray) (w : World) (hl : Kd.C Kd.string w A l.length l) (hn : l.length ≤ 9223372036854775807) :
    Calls Tryd.prog 120 #[.slice A l.length c, .func (.func 121) #[] #[]] w fun e w' => e = .returned (.bool (risingB l)) ∧ ∃ n, w' = w.drewN n := by
  have he := enters121
  unfold EntersAt at he
  have HL := Lib.hid hl
  clear hl
  go_enter Tryd.func120, Tryd.ntmps120
  go_wp2
  go_loopw [5] (fun i W => ∃ j : Int, -1 ≤ j ∧ j ≤ (l.length : Int) - 1 ∧ i = .int .i64 j ∧ Hid (∀ m : Nat, j ≤ m → m + 1 < l.length → ¬ riseCmp (l.getD (m + 1) ByteArray.empty) (l.getD m ByteArray.empty) < 0) ∧ Hid (∃ n, W = w.drewN n)) (fun i _ => (intOf i).toNat)
  case atStart => exact ⟨(l.length : Int) - 1, by omega, by omega, rfl, Lib.hid fun m h1 h2 => absurd h2 (by omega), Lib.hid ⟨0, rfl⟩⟩
  case round =>
    obtain ⟨j, hj0, hj1, rfl, HI, HW⟩ := hrel
    by_cases hlt : 0 < j
    · obtain ⟨k, rfl⟩ : ∃ k : Nat, j = (k : Int) + 1 := ⟨(j - 1).toNat, by omega⟩
      have hL2 : Kd.C Kd.string wr A l.length l := by obtain ⟨nn, hnn⟩ := HW.out; rw [hnn]; exact Kd.C_drewN HL.out nn
      obtain ⟨ad, rfl, hc1⟩ := str_cell hL2 (k + 1) (by omega)
      obtain ⟨ad', e', hc0⟩ := str_cell hL2 k (by omega)
      clear hL2
      obtain rfl := Option.some.inj e'
      have hb : (k : Int) + 1 < l.length := by omega
      have hb2 : (k : Int) < l.length := by omega
      clear hj1 e'
      have hc1' : wr.cell? ⟨ad.block, ad.off + (k + 1), none⟩ = some (.string (l.getD (k + 1) ByteArray.empty)) := by rw [← hc1]; congr 1
      have hr := riseCmp_range (l.getD (k + 1) ByteArray.empty) (l.getD k ByteArray.empty)
      have f1 : (0 : Int) ≤ (k : Int) + 1 := by omega
      have f3 : IntKind.i64.wrap (k : Int) = (k : Int) := by rw [IntWalk.i64_in _ (by omega)]
      have f2 : ((k : Int) + 1).toNat = k + 1 := by omega
      go_wp2
      go_quiet ((go_at_call 121; exact Calls.quiet_of_same (rise_calls _ _ _)))
      go_wp2
      · have hlt2 : riseCmp (l[k + 1]?.getD ByteArray.empty) (l[k]?.getD ByteArray.empty) < 0 := by assumption
        have hB : risingB l = false := List.all_eq_false.2 ⟨k, List.mem_range.2 (by omega), by
          rw [List.getD_eq_getElem?_getD, List.getD_eq_getElem?_getD, decide_eq_true hlt2]; simp⟩
        go_ret
        refine ⟨by rw [hB]; rfl, ?_⟩
        obtain ⟨n1, h1⟩ := HW.out
        exact ⟨n1 + nq, by rw [h1, World.drewN_drewN]⟩
      · have hge : 0 ≤ riseCmp (l[k + 1]?.getD ByteArray.empty) (l[k]?.getD ByteArray.empty) := by assumption
        have HI2 : Hid (∀ m : Nat, (k : Int) ≤ m → m + 1 < l.length → ¬ riseCmp (l.getD (m + 1) ByteArray.empty) (l.getD m ByteArray.empty) < 0) := Lib.hid fun m h1 h2 => by
          by_cases e : m = k
          · subst e
            rw [List.getD_eq_getElem?_getD, List.getD_eq_getElem?_getD]
            omega
          · exact Int.not_lt.2 (HI.out m (by omega) h2)
        go_roundw
        case rel => exact ⟨(k : Int), by omega, by omega, rfl, HI2, Lib.hid (by obtain ⟨n1, h1⟩ := HW.out; exact ⟨n1 + nq, by rw [h1, World.drewN_drewN]⟩)⟩
        case measure => simp [intOf]
    · have hB : risingB l = true := List.all_eq_true.2 (fun m hm => by
        have := HI.out m (by omega) (by have := List.mem_range.1 hm; omega)
        simpa using this)
      have HB := Lib.hid hB
      clear hB
      go_wp2
      go_ret
      exact ⟨by rw [HB.out]; rfl, HW.out⟩
end Go.Proofs.YtcljgfpcdlnlkaaDoor.Q
namespace Go.Proofs.YtcljgfpcdlnlkaaDoor.Q
open Go.RowKit Go.Proofs.YtcljgfpcdlnlkaaDoorW.PrintWords Mp
def distinctB (l : List Int) : Bool := match l with
  | [] => true
  | x :: r => !r.contains x && distinctB r
/-- What graph.may asks ahead of the kinds. -/
def headB (n : Nat) (x : S37) : Bool := x.f4.any (outB n) || (decide (x.f1 ≠ 0) && decide (x.f0 ≠ 9)) || (decide (0 < x.f2.size) && decide (x.f0 ≠ 5)) || (decide (0 < x.f3.length) && decide (x.f0 ≠ 7))
/-- May a node be? -/
def mayB (g : List S37) (x : S37) : Bool :=
  if headB g.length x = true then false
  else if x.f0 = 1 ∨ x.f0 = 2 ∨ x.f0 = 3 ∨ x.f0 = 4 then decide (x.f4.length = 0)
  else if x.f0 = 5 then decide (x.f4.length = 0) && (isNameB x.f2 || isKeyB x.f2)
  else if x.f0 = 7 then decide (x.f4.length = x.f3.length) && decide (x.f3.length ≤ 16) && risingB x.f3 && !(x.f3.any fun s => !isNameB s)
  else if x.f0 = 8 then (x.f4.all fun k => decide ((rd_T37 g k).f0 ≠ 8)) && decide (2 ≤ x.f4.length) && distinctB x.f4
  else if x.f0 = 9 then decide (0 ≤ x.f1) && decide (x.f1 < 16) && decide (x.f4.length = 1)
  else false
theorem nonempty_bytes {s : ByteArray} (h : ¬ s.size = 0) : s.toList.isEmpty = false := by
  rw [ByteArray.toList_eq]
  cases e : s.data.toList with
  | nil => exact absurd (by simpa using congrArg List.length e) h
  | cons _ _ => rfl
end Go.Proofs.YtcljgfpcdlnlkaaDoor.Q
namespace Go.Proofs.YtcljgfpcdlnlkaaDoor.Q
open Go.RowKit Go.Proofs.YtcljgfpcdlnlkaaDoorW.PrintWords Mp
set_option maxRecDepth 100000 in
set_option maxHeartbeats 1000000 in
theorem may_1 (A : Option Addr) (g : List S37) (c : Nat) (x : S37) (A3 : Option Addr) (c3 : Nat) (A4 : Option Addr) (c4 : Nat) (w : World) (hk : KeysIn w) (hg : Kd.C k37 w A g.length g) (h3 : Kd.C Kd.string w A3 x.f3.length x.f3) (h4 : Kd.C (Kd.int .i64) w A4 x.f4.length x.f4)
    (hn3 : x.f3.length ≤ 9223372036854775807) (hn4 : x.f4.length ≤ 9223372036854775807) (hx : x.f0 = 1) :
    Calls Tryd.prog 77 #[.slice A g.length c, .agg #[.int .i64 x.f0, .int .i64 x.f1, .string x.f2, .slice A3 x.f3.length c3, .slice A4 x.f4.length c4]] w fun e w' => e = .returned (.bool (mayB g x)) ∧ Below w.heap.size w w' := by
  have H3 := Lib.hid h3
  have H4 := Lib.hid h4
  have HG := Lib.hid hg
  have HKW := Lib.hid hk
  clear h3 h4 hg hk
  have hb : Below w.heap.size w ((w.alloc (Obj.cells #[Value.slice A g.length c] 22)).alloc (Obj.cells #[Value.int IntKind.i64 x.f0, Value.int IntKind.i64 x.f1, Value.string x.f2, Value.slice A3 x.f3.length c3, Value.slice A4 x.f4.length c4] 37)) := ((Below.refl _ _).alloc (Nat.le_refl _) _).alloc (by simp) _
  have h4' := Lib.hid (Kd.C_below H4.out hb)
  have h3' := Lib.hid (Kd.C_below H3.out hb)
  have hg' := Lib.hid (Kd.C_below HG.out hb)
  have hk' := Lib.hid (HKW.out.below hb)
  clear hb
  have q1 : (x.f0 == 1) = true := by simp [hx]
  have q2 : (x.f0 == 2) = false := by simp [hx]
  have q3 : (x.f0 == 3) = false := by simp [hx]
  have q4 : (x.f0 == 4) = false := by simp [hx]
  have q5 : (x.f0 == 5) = false := by simp [hx]
  have q7 : (x.f0 == 7) = false := by simp [hx]
  have q8 : (x.f0 == 8) = false := by simp [hx]
  have q9 : (x.f0 == 9) = false := by simp [hx]
  have r5 : (x.f0 != 5) = true := by simp [hx]
  have r7 : (x.f0 != 7) = true := by simp [hx]
  have r9 : (x.f0 != 9) = true := by simp [hx]
  cases hO : x.f4.any (outB g.length) with
  | true =>
    have HB := Lib.hid (show mayB g x = false by unfold mayB; rw [if_pos (by simp [headB, hO])])
    have HO := Lib.hid hO
    clear hO hx
    go_enter Tryd.func77, Tryd.ntmps77
    go_wp2_with fail
    refine (outs_calls w.heap.size A g.length c A4 c4 x.f4 _ (by simp) h4'.out hn4).mono ?_
    rintro e w' ⟨rfl, rfl⟩
    rw [HO.out]
    go_wp2
    all_goals
      go_ret
      exact ⟨by rw [HB.out]; rfl, ((Below.refl _ _).alloc (Nat.le_refl _) _).alloc (by simp) _⟩
  | false =>
    have HO := Lib.hid hO
    by_cases c1 : x.f1 = 0
    · have n1a : (x.f1 != 0) = false := by simp [c1]
      have n1b : (x.f1 == 0) = true := by simp [c1]
      have D1 := Lib.hid c1
      clear c1
      by_cases c2 : x.f2.size = 0
      · have n2a : x.f2.toList = [] := by rw [ByteArray.toList_eq]; exact List.eq_nil_of_length_eq_zero (by simpa using c2)
        have D2 := Lib.hid c2
        clear c2
        by_cases d3 : x.f3.length = 0
        · have n3a : decide (0 < x.f3.length) = false := decide_eq_false (by omega)
          have n3b : decide (0 < (x.f3.length : Int)) = false := decide_eq_false (by omega)
          have D3 := Lib.hid d3
          clear d3
          have hH : headB g.length x = false := by simp [headB, hO, hx, D1.out, D2.out, D3.out]
          have HM := Lib.hid (show mayB g x = decide (x.f4.length = 0) by unfold mayB; rw [if_neg (by rw [hH]; exact Bool.false_ne_true), if_pos (by simp [hx])])
          by_cases c5 : x.f4.length = 0
          · have n5 : ((x.f4.length : Int) == 0) = true := by simp [c5]
            have n5b : (x.f4.length == 0) = true := by simp [c5]
            have HB := Lib.hid (show mayB g x = true by rw [HM.out]; exact decide_eq_true c5)
            clear hO hx hH c5
            go_enter Tryd.func77, Tryd.ntmps77
            go_wp2_with fail
            refine (outs_calls w.heap.size A g.length c A4 c4 x.f4 _ (by simp) h4'.out hn4).mono ?_
            rintro e w' ⟨rfl, rfl⟩
            rw [HO.out]
            go_wp2
            all_goals
              go_ret
              exact ⟨by rw [HB.out]; rfl, ((Below.refl _ _).alloc (Nat.le_refl _) _).alloc (by simp) _⟩
          · have n5 : ((x.f4.length : Int) == 0) = false := by simp; exact fun e => c5 (by rw [e]; rfl)
            have n5b : (x.f4.length == 0) = false := by simp; exact fun e => c5 (by rw [e]; rfl)
            have HB := Lib.hid (show mayB g x = false by rw [HM.out]; exact decide_eq_false c5)
            clear hO hx hH c5
            go_enter Tryd.func77, Tryd.ntmps77
            go_wp2_with fail
            refine (outs_calls w.heap.size A g.length c A4 c4 x.f4 _ (by simp) h4'.out hn4).mono ?_
            rintro e w' ⟨rfl, rfl⟩
            rw [HO.out]
            go_wp2
            all_goals
              go_ret
              exact ⟨by rw [HB.out]; rfl, ((Below.refl _ _).alloc (Nat.le_refl _) _).alloc (by simp) _⟩
        · have n3a : decide (0 < x.f3.length) = true := decide_eq_true (by omega)
          have n3b : decide (0 < (x.f3.length : Int)) = true := decide_eq_true (by omega)
          have HB := Lib.hid (show mayB g x = false by unfold mayB; rw [if_pos (by simp [headB, hO, hx]; omega)])
          clear hO hx d3
          go_enter Tryd.func77, Tryd.ntmps77
          go_wp2_with fail
          refine (outs_calls w.heap.size A g.length c A4 c4 x.f4 _ (by simp) h4'.out hn4).mono ?_
          rintro e w' ⟨rfl, rfl⟩
          rw [HO.out]
          go_wp2
          all_goals
            go_ret
            exact ⟨by rw [HB.out]; rfl, ((Below.refl _ _).alloc (Nat.le_refl _) _).alloc (by simp) _⟩
      · have n2a : x.f2.toList.isEmpty = false := nonempty_bytes c2
        have n2b : ¬ x.f2.toList = [] := fun e => by rw [e] at n2a; cases n2a
        have HB := Lib.hid (show mayB g x = false by unfold mayB; rw [if_pos (by simp [headB, hO, hx]; omega)])
        clear hO hx c2
        go_enter Tryd.func77, Tryd.ntmps77
        go_wp2_with fail
        refine (outs_calls w.heap.size A g.length c A4 c4 x.f4 _ (by simp) h4'.out hn4).mono ?_
        rintro e w' ⟨rfl, rfl⟩
        rw [HO.out]
        go_wp2
        all_goals
          go_ret
          exact ⟨by rw [HB.out]; rfl, ((Below.refl _ _).alloc (Nat.le_refl _) _).alloc (by simp) _⟩
    · have n1a : (x.f1 != 0) = true := by simp [c1]
      have n1b : (x.f1 == 0) = false := by simp [c1]
      have HB := Lib.hid (show mayB g x = false by unfold mayB; rw [if_pos (by simp [headB, hO, c1, hx])])
      clear hO hx c1
      go_enter Tryd.func77, Tryd.ntmps77
      go_wp2_with fail
      refine (outs_calls w.heap.size A g.length c A4 c4 x.f4 _ (by simp) h4'.out hn4).mono ?_
      rintro e w' ⟨rfl, rfl⟩
      rw [HO.out]
      go_wp2
      all_goals
        go_ret
        exact ⟨by rw [HB.out]; rfl, ((Below.refl _ _).alloc (Nat.le_refl _) _).alloc (by simp) _⟩

set_option maxRecDepth 100000 in
set_option maxHeartbeats 1000000 in
theorem may_2 (A : Option Addr) (g : List S37) (c : Nat) (x : S37) (A3 : Option Addr) (c3 : Nat) (A4 : Option Addr) (c4 : Nat) (w : World) (hk : KeysIn w) (hg : Kd.C k37 w A g.length g) (h3 : Kd.C Kd.string w A3 x.f3.length x.f3) (h4 : Kd.C (Kd.int .i64) w A4 x.f4.length x.f4)
    (hn3 : x.f3.length ≤ 9223372036854775807) (hn4 : x.f4.length ≤ 9223372036854775807) (hx : x.f0 = 2) :
    Calls Tryd.prog 77 #[.slice A g.length c, .agg #[.int .i64 x.f0, .int .i64 x.f1, .string x.f2, .slice A3 x.f3.length c3, .slice A4 x.f4.length c4]] w fun e w' => e = .returned (.bool (mayB g x)) ∧ Below w.heap.size w w' := by
  have H3 := Lib.hid h3
  have H4 := Lib.hid h4
  have HG := Lib.hid hg
  have HKW := Lib.hid hk
  clear h3 h4 hg hk
  have hb : Below w.heap.size w ((w.alloc (Obj.cells #[Value.slice A g.length c] 22)).alloc (Obj.cells #[Value.int IntKind.i64 x.f0, Value.int IntKind.i64 x.f1, Value.string x.f2, Value.slice A3 x.f3.length c3, Value.slice A4 x.f4.length c4] 37)) := ((Below.refl _ _).alloc (Nat.le_refl _) _).alloc (by simp) _
  have h4' := Lib.hid (Kd.C_below H4.out hb)
  have h3' := Lib.hid (Kd.C_below H3.out hb)
  have hg' := Lib.hid (Kd.C_below HG.out hb)
  have hk' := Lib.hid (HKW.out.below hb)
  clear hb
  have q1 : (x.f0 == 1) = false := by simp [hx]
  have q2 : (x.f0 == 2) = true := by simp [hx]
  have q3 : (x.f0 == 3) = false := by simp [hx]
  have q4 : (x.f0 == 4) = false := by simp [hx]
  have q5 : (x.f0 == 5) = false := by simp [hx]
  have q7 : (x.f0 == 7) = false := by simp [hx]
  have q8 : (x.f0 == 8) = false := by simp [hx]
  have q9 : (x.f0 == 9) = false := by simp [hx]
  have r5 : (x.f0 != 5) = true := by simp [hx]
  have r7 : (x.f0 != 7) = true := by simp [hx]
  have r9 : (x.f0 != 9) = true := by simp [hx]
  cases hO : x.f4.any (outB g.length) with
  | true =>
    have HB := Lib.hid (show mayB g x = false by unfold mayB; rw [if_pos (by simp [headB, hO])])
    have HO := Lib.hid hO
    clear hO hx
    go_enter Tryd.func77, Tryd.ntmps77
    go_wp2_with fail
    refine (outs_calls w.heap.size A g.length c A4 c4 x.f4 _ (by simp) h4'.out hn4).mono ?_
    rintro e w' ⟨rfl, rfl⟩
    rw [HO.out]
    go_wp2
    all_goals
      go_ret
      exact ⟨by rw [HB.out]; rfl, ((Below.refl _ _).alloc (Nat.le_refl _) _).alloc (by simp) _⟩
  | false =>
    have HO := Lib.hid hO
    by_cases c1 : x.f1 = 0
    · have n1a : (x.f1 != 0) = false := by simp [c1]
      have n1b : (x.f1 == 0) = true := by simp [c1]
      have D1 := Lib.hid c1
      clear c1
      by_cases c2 : x.f2.size = 0
      · have n2a : x.f2.toList = [] := by rw [ByteArray.toList_eq]; exact List.eq_nil_of_length_eq_zero (by simpa using c2)
        have D2 := Lib.hid c2
        clear c2
        by_cases d3 : x.f3.length = 0
        · have n3a : decide (0 < x.f3.length) = false := decide_eq_false (by omega)
          have n3b : decide (0 < (x.f3.length : Int)) = false := decide_eq_false (by omega)
          have D3 := Lib.hid d3
          clear d3
          have hH : headB g.length x = false := by simp [headB, hO, hx, D1.out, D2.out, D3.out]
          have HM := Lib.hid (show mayB g x = decide (x.f4.length = 0) by unfold mayB; rw [if_neg (by rw [hH]; exact Bool.false_ne_true), if_pos (by simp [hx])])
          by_cases c5 : x.f4.length = 0
          · have n5 : ((x.f4.length : Int) == 0) = true := by simp [c5]
            have n5b : (x.f4.length == 0) = true := by simp [c5]
            have HB := Lib.hid (show mayB g x = true by rw [HM.out]; exact decide_eq_true c5)
            clear hO hx hH c5
            go_enter Tryd.func77, Tryd.ntmps77
            go_wp2_with fail
            refine (outs_calls w.heap.size A g.length c A4 c4 x.f4 _ (by simp) h4'.out hn4).mono ?_
            rintro e w' ⟨rfl, rfl⟩
            rw [HO.out]
            go_wp2
            all_goals
              go_ret
              exact ⟨by rw [HB.out]; rfl, ((Below.refl _ _).alloc (Nat.le_refl _) _).alloc (by simp) _⟩
          · have n5 : ((x.f4.length : Int) == 0) = false := by simp; exact fun e => c5 (by rw [e]; rfl)
            have n5b : (x.f4.length == 0) = false := by simp; exact fun e => c5 (by rw [e]; rfl)
            have HB := Lib.hid (show mayB g x = false by rw [HM.out]; exact decide_eq_false c5)
            clear hO hx hH c5
            go_enter Tryd.func77, Tryd.ntmps77
            go_wp2_with fail
            refine (outs_calls w.heap.size A g.length c A4 c4 x.f4 _ (by simp) h4'.out hn4).mono ?_
            rintro e w' ⟨rfl, rfl⟩
            rw [HO.out]
            go_wp2
            all_goals
              go_ret
              exact ⟨by rw [HB.out]; rfl, ((Below.refl _ _).alloc (Nat.le_refl _) _).alloc (by simp) _⟩
        · have n3a : decide (0 < x.f3.length) = true := decide_eq_true (by omega)
          have n3b : decide (0 < (x.f3.length : Int)) = true := decide_eq_true (by omega)
          have HB := Lib.hid (show mayB g x = false by unfold mayB; rw [if_pos (by simp [headB, hO, hx]; omega)])
          clear hO hx d3
          go_enter Tryd.func77, Tryd.ntmps77
          go_wp2_with fail
          refine (outs_calls w.heap.size A g.length c A4 c4 x.f4 _ (by simp) h4'.out hn4).mono ?_
          rintro e w' ⟨rfl, rfl⟩
          rw [HO.out]
          go_wp2
          all_goals
            go_ret
            exact ⟨by rw [HB.out]; rfl, ((Below.refl _ _).alloc (Nat.le_refl _) _).alloc (by simp) _⟩
      · have n2a : x.f2.toList.isEmpty = false := nonempty_bytes c2
        have n2b : ¬ x.f2.toList = [] := fun e => by rw [e] at n2a; cases n2a
        have HB := Lib.hid (show mayB g x = false by unfold mayB; rw [if_pos (by simp [headB, hO, hx]; omega)])
        clear hO hx c2
        go_enter Tryd.func77, Tryd.ntmps77
        go_wp2_with fail
        refine (outs_calls w.heap.size A g.length c A4 c4 x.f4 _ (by simp) h4'.out hn4).mono ?_
        rintro e w' ⟨rfl, rfl⟩
        rw [HO.out]
        go_wp2
        all_goals
          go_ret
          exact ⟨by rw [HB.out]; rfl, ((Below.refl _ _).alloc (Nat.le_refl _) _).alloc (by simp) _⟩
    · have n1a : (x.f1 != 0) = true := by simp [c1]
      have n1b : (x.f1 == 0) = false := by simp [c1]
      have HB := Lib.hid (show mayB g x = false by unfold mayB; rw [if_pos (by simp [headB, hO, c1, hx])])
      clear hO hx c1
      go_enter Tryd.func77, Tryd.ntmps77
      go_wp2_with fail
      refine (outs_calls w.heap.size A g.length c A4 c4 x.f4 _ (by simp) h4'.out hn4).mono ?_
      rintro e w' ⟨rfl, rfl⟩
      rw [HO.out]
      go_wp2
      all_goals
        go_ret
        exact ⟨by rw [HB.out]; rfl, ((Below.refl _ _).alloc (Nat.le_refl _) _).alloc (by simp) _⟩

set_option maxRecDepth 100000 in
set_option maxHeartbeats 1000000 in
theorem may_3 (A : Option Addr) (g : List S37) (c : Nat) (x : S37) (A3 : Option Addr) (c3 : Nat) (A4 : Option Addr) (c4 : Nat) (w : World) (hk : KeysIn w) (hg : Kd.C k37 w A g.length g) (h3 : Kd.C Kd.string w A3 x.f3.length x.f3) (h4 : Kd.C (Kd.int .i64) w A4 x.f4.length x.f4)
    (hn3 : x.f3.length ≤ 9223372036854775807) (hn4 : x.f4.length ≤ 9223372036854775807) (hx : x.f0 = 3) :
    Calls Tryd.prog 77 #[.slice A g.length c, .agg #[.int .i64 x.f0, .int .i64 x.f1, .string x.f2, .slice A3 x.f3.length c3, .slice A4 x.f4.length c4]] w fun e w' => e = .returned (.bool (mayB g x)) ∧ Below w.heap.size w w' := by
  have H3 := Lib.hid h3
  have H4 := Lib.hid h4
  have HG := Lib.hid hg
  have HKW := Lib.hid hk
  clear h3 h4 hg hk
  have hb : Below w.heap.size w ((w.alloc (Obj.cells #[Value.slice A g.length c] 22)).alloc (Obj.cells #[Value.int IntKind.i64 x.f0, Value.int IntKind.i64 x.f1, Value.string x.f2, Value.slice A3 x.f3.length c3, Value.slice A4 x.f4.length c4] 37)) := ((Below.refl _ _).alloc (Nat.le_refl _) _).alloc (by simp) _
  have h4' := Lib.hid (Kd.C_below H4.out hb)
  have h3' := Lib.hid (Kd.C_below H3.out hb)
  have hg' := Lib.hid (Kd.C_below HG.out hb)
  have hk' := Lib.hid (HKW.out.below hb)
  clear hb
  have q1 : (x.f0 == 1) = false := by simp [hx]
  have q2 : (x.f0 == 2) = false := by simp [hx]
  have q3 : (x.f0 == 3) = true := by simp [hx]
  have q4 : (x.f0 == 4) = false := by simp [hx]
  have q5 : (x.f0 == 5) = false := by simp [hx]
  have q7 : (x.f0 == 7) = false := by simp [hx]
  have q8 : (x.f0 == 8) = false := by simp [hx]
  have q9 : (x.f0 == 9) = false := by simp [hx]
  have r5 : (x.f0 != 5) = true := by simp [hx]
  have r7 : (x.f0 != 7) = true := by simp [hx]
  have r9 : (x.f0 != 9) = true := by simp [hx]
  cases hO : x.f4.any (outB g.length) with
  | true =>
    have HB := Lib.hid (show mayB g x = false by unfold mayB; rw [if_pos (by simp [headB, hO])])
    have HO := Lib.hid hO
    clear hO hx
    go_enter Tryd.func77, Tryd.ntmps77
    go_wp2_with fail
    refine (outs_calls w.heap.size A g.length c A4 c4 x.f4 _ (by simp) h4'.out hn4).mono ?_
    rintro e w' ⟨rfl, rfl⟩
    rw [HO.out]
    go_wp2
    all_goals
      go_ret
      exact ⟨by rw [HB.out]; rfl, ((Below.refl _ _).alloc (Nat.le_refl _) _).alloc (by simp) _⟩
  | false =>
    have HO := Lib.hid hO
    by_cases c1 : x.f1 = 0
    · have n1a : (x.f1 != 0) = false := by simp [c1]
      have n1b : (x.f1 == 0) = true := by simp [c1]
      have D1 := Lib.hid c1
      clear c1
      by_cases c2 : x.f2.size = 0
      · have n2a : x.f2.toList = [] := by rw [ByteArray.toList_eq]; exact List.eq_nil_of_length_eq_zero (by simpa using c2)
        have D2 := Lib.hid c2
        clear c2
        by_cases d3 : x.f3.length = 0
        · have n3a : decide (0 < x.f3.length) = false := decide_eq_false (by omega)
          have n3b : decide (0 < (x.f3.length : Int)) = false := decide_eq_false (by omega)
          have D3 := Lib.hid d3
          clear d3
          have hH : headB g.length x = false := by simp [headB, hO, hx, D1.out, D2.out, D3.out]
          have HM := Lib.hid (show mayB g x = decide (x.f4.length = 0) by unfold mayB; rw [if_neg (by rw [hH]; exact Bool.false_ne_true), if_pos (by simp [hx])])
          by_cases c5 : x.f4.length = 0
          · have n5 : ((x.f4.length : Int) == 0) = true := by simp [c5]
            have n5b : (x.f4.length == 0) = true := by simp [c5]
            have HB := Lib.hid (show mayB g x = true by rw [HM.out]; exact decide_eq_true c5)
            clear hO hx hH c5
            go_enter Tryd.func77, Tryd.ntmps77
            go_wp2_with fail
            refine (outs_calls w.heap.size A g.length c A4 c4 x.f4 _ (by simp) h4'.out hn4).mono ?_
            rintro e w' ⟨rfl, rfl⟩
            rw [HO.out]
            go_wp2
            all_goals
              go_ret
              exact ⟨by rw [HB.out]; rfl, ((Below.refl _ _).alloc (Nat.le_refl _) _).alloc (by simp) _⟩
          · have n5 : ((x.f4.length : Int) == 0) = false := by simp; exact fun e => c5 (by rw [e]; rfl)
            have n5b : (x.f4.length == 0) = false := by simp; exact fun e => c5 (by rw [e]; rfl)
            have HB := Lib.hid (show mayB g x = false by rw [HM.out]; exact decide_eq_false c5)
            clear hO hx hH c5
            go_enter Tryd.func77, Tryd.ntmps77
            go_wp2_with fail
            refine (outs_calls w.heap.size A g.length c A4 c4 x.f4 _ (by simp) h4'.out hn4).mono ?_
            rintro e w' ⟨rfl, rfl⟩
            rw [HO.out]
            go_wp2
            all_goals
              go_ret
              exact ⟨by rw [HB.out]; rfl, ((Below.refl _ _).alloc (Nat.le_refl _) _).alloc (by simp) _⟩
        · have n3a : decide (0 < x.f3.length) = true := decide_eq_true (by omega)
          have n3b : decide (0 < (x.f3.length : Int)) = true := decide_eq_true (by omega)
          have HB := Lib.hid (show mayB g x = false by unfold mayB; rw [if_pos (by simp [headB, hO, hx]; omega)])
          clear hO hx d3
          go_enter Tryd.func77, Tryd.ntmps77
          go_wp2_with fail
          refine (outs_calls w.heap.size A g.length c A4 c4 x.f4 _ (by simp) h4'.out hn4).mono ?_
          rintro e w' ⟨rfl, rfl⟩
          rw [HO.out]
          go_wp2
          all_goals
            go_ret
            exact ⟨by rw [HB.out]; rfl, ((Below.refl _ _).alloc (Nat.le_refl _) _).alloc (by simp) _⟩
      · have n2a : x.f2.toList.isEmpty = false := nonempty_bytes c2
        have n2b : ¬ x.f2.toList = [] := fun e => by rw [e] at n2a; cases n2a
        have HB := Lib.hid (show mayB g x = false by unfold mayB; rw [if_pos (by simp [headB, hO, hx]; omega)])
        clear hO hx c2
        go_enter Tryd.func77, Tryd.ntmps77
        go_wp2_with fail
        refine (outs_calls w.heap.size A g.length c A4 c4 x.f4 _ (by simp) h4'.out hn4).mono ?_
        rintro e w' ⟨rfl, rfl⟩
        rw [HO.out]
        go_wp2
        all_goals
          go_ret
          exact ⟨by rw [HB.out]; rfl, ((Below.refl _ _).alloc (Nat.le_refl _) _).alloc (by simp) _⟩
    · have n1a : (x.f1 != 0) = true := by simp [c1]
      have n1b : (x.f1 == 0) = false := by simp [c1]
      have HB := Lib.hid (show mayB g x = false by unfold mayB; rw [if_pos (by simp [headB, hO, c1, hx])])
      clear hO hx c1
      go_enter Tryd.func77, Tryd.ntmps77
      go_wp2_with fail
      refine (outs_calls w.heap.size A g.length c A4 c4 x.f4 _ (by simp) h4'.out hn4).mono ?_
      rintro e w' ⟨rfl, rfl⟩
      rw [HO.out]
      go_wp2
      all_goals
        go_ret
        exact ⟨by rw [HB.out]; rfl, ((Below.refl _ _).alloc (Nat.le_refl _) _).alloc (by simp) _⟩

set_option maxRecDepth 100000 in
set_option maxHeartbeats 1000000 in
theorem may_4 (A : Option Addr) (g : List S37) (c : Nat) (x : S37) (A3 : Option Addr) (c3 : Nat) (A4 : Option Addr) (c4 : Nat) (w : World) (hk : KeysIn w) (hg : Kd.C k37 w A g.length g) (h3 : Kd.C Kd.string w A3 x.f3.length x.f3) (h4 : Kd.C (Kd.int .i64) w A4 x.f4.length x.f4)
    (hn3 : x.f3.length ≤ 9223372036854775807) (hn4 : x.f4.length ≤ 9223372036854775807) (hx : x.f0 = 4) :
    Calls Tryd.prog 77 #[.slice A g.length c, .agg #[.int .i64 x.f0, .int .i64 x.f1, .string x.f2, .slice A3 x.f3.length c3, .slice A4 x.f4.length c4]] w fun e w' => e = .returned (.bool (mayB g x)) ∧ Below w.heap.size w w' := by
  have H3 := Lib.hid h3
  have H4 := Lib.hid h4
  have HG := Lib.hid hg
  have HKW := Lib.hid hk
  clear h3 h4 hg hk
  have hb : Below w.heap.size w ((w.alloc (Obj.cells #[Value.slice A g.length c] 22)).alloc (Obj.cells #[Value.int IntKind.i64 x.f0, Value.int IntKind.i64 x.f1, Value.string x.f2, Value.slice A3 x.f3.length c3, Value.slice A4 x.f4.length c4] 37)) := ((Below.refl _ _).alloc (Nat.le_refl _) _).alloc (by simp) _
  have h4' := Lib.hid (Kd.C_below H4.out hb)
  have h3' := Lib.hid (Kd.C_below H3.out hb)
  have hg' := Lib.hid (Kd.C_below HG.out hb)
  have hk' := Lib.hid (HKW.out.below hb)
  clear hb
  have q1 : (x.f0 == 1) = false := by simp [hx]
  have q2 : (x.f0 == 2) = false := by simp [hx]
  have q3 : (x.f0 == 3) = false := by simp [hx]
  have q4 : (x.f0 == 4) = true := by simp [hx]
  have q5 : (x.f0 == 5) = false := by simp [hx]
  have q7 : (x.f0 == 7) = false := by simp [hx]
  have q8 : (x.f0 == 8) = false := by simp [hx]
  have q9 : (x.f0 == 9) = false := by simp [hx]
  have r5 : (x.f0 != 5) = true := by simp [hx]
  have r7 : (x.f0 != 7) = true := by simp [hx]
  have r9 : (x.f0 != 9) = true := by simp [hx]
  cases hO : x.f4.any (outB g.length) with
  | true =>
    have HB := Lib.hid (show mayB g x = false by unfold mayB; rw [if_pos (by simp [headB, hO])])
    have HO := Lib.hid hO
    clear hO hx
    go_enter Tryd.func77, Tryd.ntmps77
    go_wp2_with fail
    refine (outs_calls w.heap.size A g.length c A4 c4 x.f4 _ (by simp) h4'.out hn4).mono ?_
    rintro e w' ⟨rfl, rfl⟩
    rw [HO.out]
    go_wp2
    all_goals
      go_ret
      exact ⟨by rw [HB.out]; rfl, ((Below.refl _ _).alloc (Nat.le_refl _) _).alloc (by simp) _⟩
  | false =>
    have HO := Lib.hid hO
    by_cases c1 : x.f1 = 0
    · have n1a : (x.f1 != 0) = false := by simp [c1]
      have n1b : (x.f1 == 0) = true := by simp [c1]
      have D1 := Lib.hid c1
      clear c1
      by_cases c2 : x.f2.size = 0
      · have n2a : x.f2.toList = [] := by rw [ByteArray.toList_eq]; exact List.eq_nil_of_length_eq_zero (by simpa using c2)
        have D2 := Lib.hid c2
        clear c2
        by_cases d3 : x.f3.length = 0
        · have n3a : decide (0 < x.f3.length) = false := decide_eq_false (by omega)
          have n3b : decide (0 < (x.f3.length : Int)) = false := decide_eq_false (by omega)
          have D3 := Lib.hid d3
          clear d3
          have hH : headB g.length x = false := by simp [headB, hO, hx, D1.out, D2.out, D3.out]
          have HM := Lib.hid (show mayB g x = decide (x.f4.length = 0) by unfold mayB; rw [if_neg (by rw [hH]; exact Bool.false_ne_true), if_pos (by simp [hx])])
          by_cases c5 : x.f4.length = 0
          · have n5 : ((x.f4.length : Int) == 0) = true := by simp [c5]
            have n5b : (x.f4.length == 0) = true := by simp [c5]
            have HB := Lib.hid (show mayB g x = true by rw [HM.out]; exact decide_eq_true c5)
            clear hO hx hH c5
            go_enter Tryd.func77, Tryd.ntmps77
            go_wp2_with fail
            refine (outs_calls w.heap.size A g.length c A4 c4 x.f4 _ (by simp) h4'.out hn4).mono ?_
            rintro e w' ⟨rfl, rfl⟩
            rw [HO.out]
            go_wp2
            all_goals
              go_ret
              exact ⟨by rw [HB.out]; rfl, ((Below.refl _ _).alloc (Nat.le_refl _) _).alloc (by simp) _⟩
          · have n5 : ((x.f4.length : Int) == 0) = false := by simp; exact fun e => c5 (by rw [e]; rfl)
            have n5b : (x.f4.length == 0) = false := by simp; exact fun e => c5 (by rw [e]; rfl)
            have HB := Lib.hid (show mayB g x = false by rw [HM.out]; exact decide_eq_false c5)
            clear hO hx hH c5
            go_enter Tryd.func77, Tryd.ntmps77
            go_wp2_with fail
            refine (outs_calls w.heap.size A g.length c A4 c4 x.f4 _ (by simp) h4'.out hn4).mono ?_
            rintro e w' ⟨rfl, rfl⟩
            rw [HO.out]
            go_wp2
            all_goals
              go_ret
              exact ⟨by rw [HB.out]; rfl, ((Below.refl _ _).alloc (Nat.le_refl _) _).alloc (by simp) _⟩
        · have n3a : decide (0 < x.f3.length) = true := decide_eq_true (by omega)
          have n3b : decide (0 < (x.f3.length : Int)) = true := decide_eq_true (by omega)
          have HB := Lib.hid (show mayB g x = false by unfold mayB; rw [if_pos (by simp [headB, hO, hx]; omega)])
          clear hO hx d3
          go_enter Tryd.func77, Tryd.ntmps77
          go_wp2_with fail
          refine (outs_calls w.heap.size A g.length c A4 c4 x.f4 _ (by simp) h4'.out hn4).mono ?_
          rintro e w' ⟨rfl, rfl⟩
          rw [HO.out]
          go_wp2
          all_goals
            go_ret
            exact ⟨by rw [HB.out]; rfl, ((Below.refl _ _).alloc (Nat.le_refl _) _).alloc (by simp) _⟩
      · have n2a : x.f2.toList.isEmpty = false := nonempty_bytes c2
        have n2b : ¬ x.f2.toList = [] := fun e => by rw [e] at n2a; cases n2a
        have HB := Lib.hid (show mayB g x = false by unfold mayB; rw [if_pos (by simp [headB, hO, hx]; omega)])
        clear hO hx c2
        go_enter Tryd.func77, Tryd.ntmps77
        go_wp2_with fail
        refine (outs_calls w.heap.size A g.length c A4 c4 x.f4 _ (by simp) h4'.out hn4).mono ?_
        rintro e w' ⟨rfl, rfl⟩
        rw [HO.out]
        go_wp2
        all_goals
          go_ret
          exact ⟨by rw [HB.out]; rfl, ((Below.refl _ _).alloc (Nat.le_refl _) _).alloc (by simp) _⟩
    · have n1a : (x.f1 != 0) = true := by simp [c1]
      have n1b : (x.f1 == 0) = false := by simp [c1]
      have HB := Lib.hid (show mayB g x = false by unfold mayB; rw [if_pos (by simp [headB, hO, c1, hx])])
      clear hO hx c1
      go_enter Tryd.func77, Tryd.ntmps77
      go_wp2_with fail
      refine (outs_calls w.heap.size A g.length c A4 c4 x.f4 _ (by simp) h4'.out hn4).mono ?_
      rintro e w' ⟨rfl, rfl⟩
      rw [HO.out]
      go_wp2
      all_goals
        go_ret
        exact ⟨by rw [HB.out]; rfl, ((Below.refl _ _).alloc (Nat.le_refl _) _).alloc (by simp) _⟩

set_option maxRecDepth 100000 in
set_option maxHeartbeats 1000000 in
theorem may_other (A : Option Addr) (g : List S37) (c : Nat) (x : S37) (A3 : Option Addr) (c3 : Nat) (A4 : Option Addr) (c4 : Nat) (w : World) (hk : KeysIn w) (hg : Kd.C k37 w A g.length g) (h3 : Kd.C Kd.string w A3 x.f3.length x.f3) (h4 : Kd.C (Kd.int .i64) w A4 x.f4.length x.f4)
    (hn3 : x.f3.length ≤ 9223372036854775807) (hn4 : x.f4.length ≤ 9223372036854775807) (hx : x.f0 ≠ 1 ∧ x.f0 ≠ 2 ∧ x.f0 ≠ 3 ∧ x.f0 ≠ 4 ∧ x.f0 ≠ 5 ∧ x.f0 ≠ 7 ∧ x.f0 ≠ 8 ∧ x.f0 ≠ 9) :
    Calls Tryd.prog 77 #[.slice A g.length c, .agg #[.int .i64 x.f0, .int .i64 x.f1, .string x.f2, .slice A3 x.f3.length c3, .slice A4 x.f4.length c4]] w fun e w' => e = .returned (.bool (mayB g x)) ∧ Below w.heap.size w w' := by
  have H3 := Lib.hid h3
  have H4 := Lib.hid h4
  have HG := Lib.hid hg
  have HKW := Lib.hid hk
  clear h3 h4 hg hk
  have hb : Below w.heap.size w ((w.alloc (Obj.cells #[Value.slice A g.length c] 22)).alloc (Obj.cells #[Value.int IntKind.i64 x.f0, Value.int IntKind.i64 x.f1, Value.string x.f2, Value.slice A3 x.f3.length c3, Value.slice A4 x.f4.length c4] 37)) := ((Below.refl _ _).alloc (Nat.le_refl _) _).alloc (by simp) _
  have h4' := Lib.hid (Kd.C_below H4.out hb)
  have h3' := Lib.hid (Kd.C_below H3.out hb)
  have hg' := Lib.hid (Kd.C_below HG.out hb)
  have hk' := Lib.hid (HKW.out.below hb)
  clear hb
  have q1 : (x.f0 == 1) = false := by simp [hx]
  have q2 : (x.f0 == 2) = false := by simp [hx]
  have q3 : (x.f0 == 3) = false := by simp [hx]
  have q4 : (x.f0 == 4) = false := by simp [hx]
  have q5 : (x.f0 == 5) = false := by simp [hx]
  have q7 : (x.f0 == 7) = false := by simp [hx]
  have q8 : (x.f0 == 8) = false := by simp [hx]
  have q9 : (x.f0 == 9) = false := by simp [hx]
  have r5 : (x.f0 != 5) = true := by simp [hx]
  have r7 : (x.f0 != 7) = true := by simp [hx]
  have r9 : (x.f0 != 9) = true := by simp [hx]
  cases hO : x.f4.any (outB g.length) with
  | true =>
    have HB := Lib.hid (show mayB g x = false by unfold mayB; rw [if_pos (by simp [headB, hO])])
    have HO := Lib.hid hO
    clear hO hx
    go_enter Tryd.func77, Tryd.ntmps77
    go_wp2_with fail
    refine (outs_calls w.heap.size A g.length c A4 c4 x.f4 _ (by simp) h4'.out hn4).mono ?_
    rintro e w' ⟨rfl, rfl⟩
    rw [HO.out]
    go_wp2
    all_goals
      go_ret
      exact ⟨by rw [HB.out]; rfl, ((Below.refl _ _).alloc (Nat.le_refl _) _).alloc (by simp) _⟩
  | false =>
    have HO := Lib.hid hO
    by_cases c1 : x.f1 = 0
    · have n1a : (x.f1 != 0) = false := by simp [c1]
      have n1b : (x.f1 == 0) = true := by simp [c1]
      have D1 := Lib.hid c1
      clear c1
      by_cases c2 : x.f2.size = 0
      · have n2a : x.f2.toList = [] := by rw [ByteArray.toList_eq]; exact List.eq_nil_of_length_eq_zero (by simpa using c2)
        have D2 := Lib.hid c2
        clear c2
        by_cases d3 : x.f3.length = 0
        · have n3a : decide (0 < x.f3.length) = false := decide_eq_false (by omega)
          have n3b : decide (0 < (x.f3.length : Int)) = false := decide_eq_false (by omega)
          have D3 := Lib.hid d3
          clear d3
          have hH : headB g.length x = false := by simp [headB, hO, hx, D1.out, D2.out, D3.out]
          have HB := Lib.hid (show mayB g x = false by unfold mayB; rw [if_neg (by rw [hH]; exact Bool.false_ne_true), if_neg (by simp [hx]), if_neg (by simp [hx]), if_neg (by simp [hx]), if_neg (by simp [hx]), if_neg (by simp [hx])])
          clear hO hx hH
          go_enter Tryd.func77, Tryd.ntmps77
          go_wp2_with fail
          refine (outs_calls w.heap.size A g.length c A4 c4 x.f4 _ (by simp) h4'.out hn4).mono ?_
          rintro e w' ⟨rfl, rfl⟩
          rw [HO.out]
          go_wp2
          all_goals
            go_ret
            exact ⟨by rw [HB.out]; rfl, ((Below.refl _ _).alloc (Nat.le_refl _) _).alloc (by simp) _⟩
        · have n3a : decide (0 < x.f3.length) = true := decide_eq_true (by omega)
          have n3b : decide (0 < (x.f3.length : Int)) = true := decide_eq_true (by omega)
          have HB := Lib.hid (show mayB g x = false by unfold mayB; rw [if_pos (by simp [headB, hO, hx]; omega)])
          clear hO hx d3
          go_enter Tryd.func77, Tryd.ntmps77
          go_wp2_with fail
          refine (outs_calls w.heap.size A g.length c A4 c4 x.f4 _ (by simp) h4'.out hn4).mono ?_
          rintro e w' ⟨rfl, rfl⟩
          rw [HO.out]
          go_wp2
          all_goals
            go_ret
            exact ⟨by rw [HB.out]; rfl, ((Below.refl _ _).alloc (Nat.le_refl _) _).alloc (by simp) _⟩
      · have n2a : x.f2.toList.isEmpty = false := nonempty_bytes c2
        have n2b : ¬ x.f2.toList = [] := fun e => by rw [e] at n2a; cases n2a
        have HB := Lib.hid (show mayB g x = false by unfold mayB; rw [if_pos (by simp [headB, hO, hx]; omega)])
        clear hO hx c2
        go_enter Tryd.func77, Tryd.ntmps77
        go_wp2_with fail
        refine (outs_calls w.heap.size A g.length c A4 c4 x.f4 _ (by simp) h4'.out hn4).mono ?_
        rintro e w' ⟨rfl, rfl⟩
        rw [HO.out]
        go_wp2
        all_goals
          go_ret
          exact ⟨by rw [HB.out]; rfl, ((Below.refl _ _).alloc (Nat.le_refl _) _).alloc (by simp) _⟩
    · have n1a : (x.f1 != 0) = true := by simp [c1]
      have n1b : (x.f1 == 0) = false := by simp [c1]
      have HB := Lib.hid (show mayB g x = false by unfold mayB; rw [if_pos (by simp [headB, hO, c1, hx])])
      clear hO hx c1
      go_enter Tryd.func77, Tryd.ntmps77
      go_wp2_with fail
      refine (outs_calls w.heap.size A g.length c A4 c4 x.f4 _ (by simp) h4'.out hn4).mono ?_
      rintro e w' ⟨rfl, rfl⟩
      rw [HO.out]
      go_wp2
      all_goals
        go_ret
        exact ⟨by rw [HB.out]; rfl, ((Below.refl _ _).alloc (Nat.le_refl _) _).alloc (by simp) _⟩

end Go.Proofs.YtcljgfpcdlnlkaaDoor.Q
namespace Go.Proofs.YtcljgfpcdlnlkaaDoor.Q
open Go.RowKit Go.Proofs.YtcljgfpcdlnlkaaDoorW.PrintWords Mp
set_option maxRecDepth 100000 in
set_option maxHeartbeats 1000000 in
theorem may_5 (A : Option Addr) (g : List S37) (c : Nat) (x : S37) (A3 : Option Addr) (c3 : Nat) (A4 : Option Addr) (c4 : Nat) (w : World) (hk : KeysIn w) (hg : Kd.C k37 w A g.length g) (h3 : Kd.C Kd.string w A3 x.f3.length x.f3) (h4 : Kd.C (Kd.int .i64) w A4 x.f4.length x.f4)
    (hn3 : x.f3.length ≤ 9223372036854775807) (hn4 : x.f4.length ≤ 9223372036854775807) (hx : x.f0 = 5) :
    Calls Tryd.prog 77 #[.slice A g.length c, .agg #[.int .i64 x.f0, .int .i64 x.f1, .string x.f2, .slice A3 x.f3.length c3, .slice A4 x.f4.length c4]] w fun e w' => e = .returned (.bool (mayB g x)) ∧ Below w.heap.size w w' := by
  have H3 := Lib.hid h3
  have H4 := Lib.hid h4
  have HG := Lib.hid hg
  have HKW := Lib.hid hk
  clear h3 h4 hg hk
  have hb : Below w.heap.size w ((w.alloc (Obj.cells #[Value.slice A g.length c] 22)).alloc (Obj.cells #[Value.int IntKind.i64 x.f0, Value.int IntKind.i64 x.f1, Value.string x.f2, Value.slice A3 x.f3.length c3, Value.slice A4 x.f4.length c4] 37)) := ((Below.refl _ _).alloc (Nat.le_refl _) _).alloc (by simp) _
  have h4' := Lib.hid (Kd.C_below H4.out hb)
  have h3' := Lib.hid (Kd.C_below H3.out hb)
  have hg' := Lib.hid (Kd.C_below HG.out hb)
  have hk' := Lib.hid (HKW.out.below hb)
  clear hb
  have q1 : (x.f0 == 1) = false := by simp [hx]
  have q2 : (x.f0 == 2) = false := by simp [hx]
  have q3 : (x.f0 == 3) = false := by simp [hx]
  have q4 : (x.f0 == 4) = false := by simp [hx]
  have q5 : (x.f0 == 5) = true := by simp [hx]
  have q7 : (x.f0 == 7) = false := by simp [hx]
  have q8 : (x.f0 == 8) = false := by simp [hx]
  have q9 : (x.f0 == 9) = false := by simp [hx]
  have r5 : (x.f0 != 5) = false := by simp [hx]
  have r7 : (x.f0 != 7) = true := by simp [hx]
  have r9 : (x.f0 != 9) = true := by simp [hx]
  cases hO : x.f4.any (outB g.length) with
  | true =>
    have HB := Lib.hid (show mayB g x = false by unfold mayB; rw [if_pos (by simp [headB, hO])])
    have HO := Lib.hid hO
    clear hO hx
    go_enter Tryd.func77, Tryd.ntmps77
    go_wp2_with fail
    refine (outs_calls w.heap.size A g.length c A4 c4 x.f4 _ (by simp) h4'.out hn4).mono ?_
    rintro e w' ⟨rfl, rfl⟩
    rw [HO.out]
    go_wp2
    all_goals
      go_ret
      exact ⟨by rw [HB.out]; rfl, ((Below.refl _ _).alloc (Nat.le_refl _) _).alloc (by simp) _⟩
  | false =>
    have HO := Lib.hid hO
    by_cases c1 : x.f1 = 0
    · have n1a : (x.f1 != 0) = false := by simp [c1]
      have n1b : (x.f1 == 0) = true := by simp [c1]
      have D1 := Lib.hid c1
      clear c1
      by_cases d3 : x.f3.length = 0
      · have n3a : decide (0 < x.f3.length) = false := decide_eq_false (by omega)
        have n3b : decide (0 < (x.f3.length : Int)) = false := decide_eq_false (by omega)
        have D3 := Lib.hid d3
        clear d3
        by_cases c2 : x.f2.size = 0
        · have n2a : x.f2.toList = [] := by rw [ByteArray.toList_eq]; exact List.eq_nil_of_length_eq_zero (by simpa using c2)
          clear c2
          have hH : headB g.length x = false := by simp [headB, hO, hx, D1.out, D3.out]
          have HM := Lib.hid (show mayB g x = (decide (x.f4.length = 0) && (isNameB x.f2 || isKeyB x.f2)) by unfold mayB; rw [if_neg (by rw [hH]; exact Bool.false_ne_true), if_neg (by simp [hx]), if_pos hx])
          by_cases c5 : x.f4.length = 0
          · have n5 : ((x.f4.length : Int) == 0) = true := by simp [c5]
            have n5b : (x.f4.length == 0) = true := by simp [c5]
            cases hN : isNameB x.f2 with
            | true =>
              have HB := Lib.hid (show mayB g x = true by rw [HM.out, decide_eq_true c5, hN]; rfl)
              have HNm := Lib.hid hN
              clear hO hx hH c5 hN
              go_enter Tryd.func77, Tryd.ntmps77
              go_wp2_with fail
              refine (outs_calls w.heap.size A g.length c A4 c4 x.f4 _ (by simp) h4'.out hn4).mono ?_
              rintro e w' ⟨rfl, rfl⟩
              rw [HO.out]
              go_wp2_with fail
              refine (isName_calls x.f2 _ hk'.out).mono ?_
              rintro e w' ⟨rfl, hb1⟩
              rw [HNm.out]
              go_wp2
              go_ret
              exact ⟨by rw [HB.out]; rfl, (((Below.refl _ _).alloc (Nat.le_refl _) _).alloc (by simp) _).trans (hb1.mono (by simp; omega))⟩
            | false =>
              have HB := Lib.hid (show mayB g x = isKeyB x.f2 by rw [HM.out, decide_eq_true c5, hN]; rfl)
              have HNm := Lib.hid hN
              clear hO hx hH c5 hN
              go_enter Tryd.func77, Tryd.ntmps77
              go_wp2_with fail
              refine (outs_calls w.heap.size A g.length c A4 c4 x.f4 _ (by simp) h4'.out hn4).mono ?_
              rintro e w' ⟨rfl, rfl⟩
              rw [HO.out]
              go_wp2_with fail
              refine (isName_calls x.f2 _ hk'.out).mono ?_
              rintro e w' ⟨rfl, hb1⟩
              rw [HNm.out]
              have hk2 := Lib.hid (hk'.out.below hb1)
              have kc : w'.cell? ⟨w.heap.size + 1, 2, none⟩ = some (.string x.f2) := (hb1.cell (p := ⟨w.heap.size + 1, 2, none⟩) (by simp)).trans (by simp)
              go_wp2_with fail
              refine (isKey_calls x.f2 _ hk2.out).mono ?_
              rintro e w2 ⟨rfl, rfl⟩
              go_wp2
              go_ret
              exact ⟨by rw [HB.out]; rfl, (((Below.refl _ _).alloc (Nat.le_refl _) _).alloc (by simp) _).trans (hb1.mono (by simp; omega))⟩
          · have n5 : ((x.f4.length : Int) == 0) = false := by simp; exact fun e => c5 (by rw [e]; rfl)
            have n5b : (x.f4.length == 0) = false := by simp; exact fun e => c5 (by rw [e]; rfl)
            have HB := Lib.hid (show mayB g x = false by rw [HM.out, decide_eq_false c5]; rfl)
            clear hO hx hH c5
            go_enter Tryd.func77, Tryd.ntmps77
            go_wp2_with fail
            refine (outs_calls w.heap.size A g.length c A4 c4 x.f4 _ (by simp) h4'.out hn4).mono ?_
            rintro e w' ⟨rfl, rfl⟩
            rw [HO.out]
            go_wp2
            all_goals
              go_ret
              exact ⟨by rw [HB.out]; rfl, ((Below.refl _ _).alloc (Nat.le_refl _) _).alloc (by simp) _⟩
        · have n2a : x.f2.toList.isEmpty = false := nonempty_bytes c2
          have n2b : ¬ x.f2.toList = [] := fun e => by rw [e] at n2a; cases n2a
          clear c2
          have hH : headB g.length x = false := by simp [headB, hO, hx, D1.out, D3.out]
          have HM := Lib.hid (show mayB g x = (decide (x.f4.length = 0) && (isNameB x.f2 || isKeyB x.f2)) by unfold mayB; rw [if_neg (by rw [hH]; exact Bool.false_ne_true), if_neg (by simp [hx]), if_pos hx])
          by_cases c5 : x.f4.length = 0
          · have n5 : ((x.f4.length : Int) == 0) = true := by simp [c5]
            have n5b : (x.f4.length == 0) = true := by simp [c5]
            cases hN : isNameB x.f2 with
            | true =>
              have HB := Lib.hid (show mayB g x = true by rw [HM.out, decide_eq_true c5, hN]; rfl)
              have HNm := Lib.hid hN
              clear hO hx hH c5 hN
              go_enter Tryd.func77, Tryd.ntmps77
              go_wp2_with fail
              refine (outs_calls w.heap.size A g.length c A4 c4 x.f4 _ (by simp) h4'.out hn4).mono ?_
              rintro e w' ⟨rfl, rfl⟩
              rw [HO.out]
              go_wp2_with fail
              refine (isName_calls x.f2 _ hk'.out).mono ?_
              rintro e w' ⟨rfl, hb1⟩
              rw [HNm.out]
              go_wp2
              go_ret
              exact ⟨by rw [HB.out]; rfl, (((Below.refl _ _).alloc (Nat.le_refl _) _).alloc (by simp) _).trans (hb1.mono (by simp; omega))⟩
            | false =>
              have HB := Lib.hid (show mayB g x = isKeyB x.f2 by rw [HM.out, decide_eq_true c5, hN]; rfl)
              have HNm := Lib.hid hN
              clear hO hx hH c5 hN
              go_enter Tryd.func77, Tryd.ntmps77
              go_wp2_with fail
              refine (outs_calls w.heap.size A g.length c A4 c4 x.f4 _ (by simp) h4'.out hn4).mono ?_
              rintro e w' ⟨rfl, rfl⟩
              rw [HO.out]
              go_wp2_with fail
              refine (isName_calls x.f2 _ hk'.out).mono ?_
              rintro e w' ⟨rfl, hb1⟩
              rw [HNm.out]
              have hk2 := Lib.hid (hk'.out.below hb1)
              have kc : w'.cell? ⟨w.heap.size + 1, 2, none⟩ = some (.string x.f2) := (hb1.cell (p := ⟨w.heap.size + 1, 2, none⟩) (by simp)).trans (by simp)
              go_wp2_with fail
              refine (isKey_calls x.f2 _ hk2.out).mono ?_
              rintro e w2 ⟨rfl, rfl⟩
              go_wp2
              go_ret
              exact ⟨by rw [HB.out]; rfl, (((Below.refl _ _).alloc (Nat.le_refl _) _).alloc (by simp) _).trans (hb1.mono (by simp; omega))⟩
          · have n5 : ((x.f4.length : Int) == 0) = false := by simp; exact fun e => c5 (by rw [e]; rfl)
            have n5b : (x.f4.length == 0) = false := by simp; exact fun e => c5 (by rw [e]; rfl)
            have HB := Lib.hid (show mayB g x = false by rw [HM.out, decide_eq_false c5]; rfl)
            clear hO hx hH c5
            go_enter Tryd.func77, Tryd.ntmps77
            go_wp2_with fail
            refine (outs_calls w.heap.size A g.length c A4 c4 x.f4 _ (by simp) h4'.out hn4).mono ?_
            rintro e w' ⟨rfl, rfl⟩
            rw [HO.out]
            go_wp2
            all_goals
              go_ret
              exact ⟨by rw [HB.out]; rfl, ((Below.refl _ _).alloc (Nat.le_refl _) _).alloc (by simp) _⟩
      · have n3a : decide (0 < x.f3.length) = true := decide_eq_true (by omega)
        have n3b : decide (0 < (x.f3.length : Int)) = true := decide_eq_true (by omega)
        have HB := Lib.hid (show mayB g x = false by unfold mayB; rw [if_pos (by simp [headB, hO, hx]; omega)])
        clear hO hx d3
        go_enter Tryd.func77, Tryd.ntmps77
        go_wp2_with fail
        refine (outs_calls w.heap.size A g.length c A4 c4 x.f4 _ (by simp) h4'.out hn4).mono ?_
        rintro e w' ⟨rfl, rfl⟩
        rw [HO.out]
        go_wp2
        all_goals
          go_ret
          exact ⟨by rw [HB.out]; rfl, ((Below.refl _ _).alloc (Nat.le_refl _) _).alloc (by simp) _⟩
    · have n1a : (x.f1 != 0) = true := by simp [c1]
      have n1b : (x.f1 == 0) = false := by simp [c1]
      have HB := Lib.hid (show mayB g x = false by unfold mayB; rw [if_pos (by simp [headB, hO, c1, hx])])
      clear hO hx c1
      go_enter Tryd.func77, Tryd.ntmps77
      go_wp2_with fail
      refine (outs_calls w.heap.size A g.length c A4 c4 x.f4 _ (by simp) h4'.out hn4).mono ?_
      rintro e w' ⟨rfl, rfl⟩
      rw [HO.out]
      go_wp2
      all_goals
        go_ret
        exact ⟨by rw [HB.out]; rfl, ((Below.refl _ _).alloc (Nat.le_refl _) _).alloc (by simp) _⟩

set_option maxRecDepth 100000 in
set_option maxHeartbeats 1000000 in
theorem may_7 (A : Option Addr) (g : List S37) (c : Nat) (x : S37) (A3 : Option Addr) (c3 : Nat) (A4 : Option Addr) (c4 : Nat) (w : World) (hk : KeysIn w) (hg : Kd.C k37 w A g.length g) (h3 : Kd.C Kd.string w A3 x.f3.length x.f3) (h4 : Kd.C (Kd.int .i64) w A4 x.f4.length x.f4)
    (hn3 : x.f3.length ≤ 9223372036854775807) (hn4 : x.f4.length ≤ 9223372036854775807) (hx : x.f0 = 7) :
    Calls Tryd.prog 77 #[.slice A g.length c, .agg #[.int .i64 x.f0, .int .i64 x.f1, .string x.f2, .slice A3 x.f3.length c3, .slice A4 x.f4.length c4]] w fun e w' => e = .returned (.bool (mayB g x)) ∧ Below w.heap.size w w' := by
  have H3 := Lib.hid h3
  have H4 := Lib.hid h4
  have HG := Lib.hid hg
  have HKW := Lib.hid hk
  clear h3 h4 hg hk
  have hb : Below w.heap.size w ((w.alloc (Obj.cells #[Value.slice A g.length c] 22)).alloc (Obj.cells #[Value.int IntKind.i64 x.f0, Value.int IntKind.i64 x.f1, Value.string x.f2, Value.slice A3 x.f3.length c3, Value.slice A4 x.f4.length c4] 37)) := ((Below.refl _ _).alloc (Nat.le_refl _) _).alloc (by simp) _
  have h4' := Lib.hid (Kd.C_below H4.out hb)
  have h3' := Lib.hid (Kd.C_below H3.out hb)
  have hg' := Lib.hid (Kd.C_below HG.out hb)
  have hk' := Lib.hid (HKW.out.below hb)
  clear hb
  have q1 : (x.f0 == 1) = false := by simp [hx]
  have q2 : (x.f0 == 2) = false := by simp [hx]
  have q3 : (x.f0 == 3) = false := by simp [hx]
  have q4 : (x.f0 == 4) = false := by simp [hx]
  have q5 : (x.f0 == 5) = false := by simp [hx]
  have q7 : (x.f0 == 7) = true := by simp [hx]
  have q8 : (x.f0 == 8) = false := by simp [hx]
  have q9 : (x.f0 == 9) = false := by simp [hx]
  have r5 : (x.f0 != 5) = true := by simp [hx]
  have r7 : (x.f0 != 7) = false := by simp [hx]
  have r9 : (x.f0 != 9) = true := by simp [hx]
  cases hO : x.f4.any (outB g.length) with
  | true =>
    have HB := Lib.hid (show mayB g x = false by unfold mayB; rw [if_pos (by simp [headB, hO])])
    have HO := Lib.hid hO
    clear hO hx
    go_enter Tryd.func77, Tryd.ntmps77
    go_wp2_with fail
    refine (outs_calls w.heap.size A g.length c A4 c4 x.f4 _ (by simp) h4'.out hn4).mono ?_
    rintro e w' ⟨rfl, rfl⟩
    rw [HO.out]
    go_wp2
    all_goals
      go_ret
      exact ⟨by rw [HB.out]; rfl, ((Below.refl _ _).alloc (Nat.le_refl _) _).alloc (by simp) _⟩
  | false =>
    have HO := Lib.hid hO
    by_cases c1 : x.f1 = 0
    · have n1a : (x.f1 != 0) = false := by simp [c1]
      have n1b : (x.f1 == 0) = true := by simp [c1]
      have D1 := Lib.hid c1
      clear c1
      by_cases c2 : x.f2.size = 0
      · have n2a : x.f2.toList = [] := by rw [ByteArray.toList_eq]; exact List.eq_nil_of_length_eq_zero (by simpa using c2)
        have D2 := Lib.hid c2
        clear c2
        by_cases d3 : x.f3.length = 0
        · have n3a : decide (0 < x.f3.length) = false := decide_eq_false (by omega)
          have n3b : decide (0 < (x.f3.length : Int)) = false := decide_eq_false (by omega)
          clear d3
          have hH : headB g.length x = false := by simp [headB, hO, hx, D1.out, D2.out]
          have HM := Lib.hid (show mayB g x = (decide (x.f4.length = x.f3.length) && decide (x.f3.length ≤ 16) && risingB x.f3 && !(x.f3.any fun s => !isNameB s)) by unfold mayB; rw [if_neg (by rw [hH]; exact Bool.false_ne_true), if_neg (by simp [hx]), if_neg (by simp [hx]), if_pos hx])
          by_cases c5 : x.f4.length = x.f3.length
          · have n5 : ((x.f4.length : Int) == (x.f3.length : Int)) = true := by simp [c5]
            have n5b : (x.f4.length == x.f3.length) = true := by simp [c5]
            by_cases c6 : x.f3.length ≤ 16
            · have n6 : decide ((x.f3.length : Int) ≤ 16) = true := decide_eq_true (by omega)
              have n6b : decide (x.f3.length ≤ 16) = true := decide_eq_true (by omega)
              cases hR : risingB x.f3 with
              | true =>
                have HB := Lib.hid (show mayB g x = !(x.f3.any fun s => !isNameB s) by rw [HM.out, decide_eq_true c5, decide_eq_true c6, hR]; rfl)
                have HR := Lib.hid hR
                have C5 := Lib.hid c5
                clear hO hx hH c5 c6 hR
                go_enter Tryd.func77, Tryd.ntmps77
                go_wp2_with fail
                refine (outs_calls w.heap.size A g.length c A4 c4 x.f4 _ (by simp) h4'.out hn4).mono ?_
                rintro e w' ⟨rfl, rfl⟩
                rw [HO.out]
                go_wp2_with fail
                refine (rising_calls A3 c3 x.f3 _ h3'.out hn3).mono ?_
                rintro e w' ⟨rfl, nr, rfl⟩
                rw [HR.out]
                have h3'' := Lib.hid (Kd.C_drewN h3'.out nr)
                have hk'' := Lib.hid (show KeysIn (World.drewN ((w.alloc (Obj.cells #[Value.slice A g.length c] 22)).alloc (Obj.cells #[Value.int IntKind.i64 x.f0, Value.int IntKind.i64 x.f1, Value.string x.f2, Value.slice A3 x.f3.length c3, Value.slice A4 x.f4.length c4] 37)) nr) from hk'.out)
                go_wp2_with fail
                refine (names_calls A3 c3 x.f3 _ hk''.out h3''.out hn3).mono ?_
                rintro e w' ⟨rfl, hb1⟩
                go_wp2
                go_ret
                exact ⟨by rw [HB.out]; rfl, (pw_below_drewN (((Below.refl _ _).alloc (Nat.le_refl _) _).alloc (by simp) _) nr).trans (hb1.mono (by simp; omega))⟩
              | false =>
                have HB := Lib.hid (show mayB g x = false by rw [HM.out, decide_eq_true c5, decide_eq_true c6, hR]; rfl)
                have HR := Lib.hid hR
                clear hO hx hH c5 c6 hR
                go_enter Tryd.func77, Tryd.ntmps77
                go_wp2_with fail
                refine (outs_calls w.heap.size A g.length c A4 c4 x.f4 _ (by simp) h4'.out hn4).mono ?_
                rintro e w' ⟨rfl, rfl⟩
                rw [HO.out]
                go_wp2_with fail
                refine (rising_calls A3 c3 x.f3 _ h3'.out hn3).mono ?_
                rintro e w' ⟨rfl, nr, rfl⟩
                rw [HR.out]
                go_wp2
                go_ret
                exact ⟨by rw [HB.out]; rfl, pw_below_drewN (((Below.refl _ _).alloc (Nat.le_refl _) _).alloc (by simp) _) _⟩
            · have n6 : decide ((x.f3.length : Int) ≤ 16) = false := decide_eq_false (by omega)
              have n6b : decide (x.f3.length ≤ 16) = false := decide_eq_false (by omega)
              have HB := Lib.hid (show mayB g x = false by rw [HM.out, decide_eq_true c5, decide_eq_false c6]; rfl)
              clear hO hx hH c5 c6
              go_enter Tryd.func77, Tryd.ntmps77
              go_wp2_with fail
              refine (outs_calls w.heap.size A g.length c A4 c4 x.f4 _ (by simp) h4'.out hn4).mono ?_
              rintro e w' ⟨rfl, rfl⟩
              rw [HO.out]
              go_wp2_with fail
              refine (rising_calls A3 c3 x.f3 _ h3'.out hn3).mono ?_
              rintro e w' ⟨rfl, nr, rfl⟩
              go_wp2
              go_ret
              exact ⟨by rw [HB.out]; rfl, pw_below_drewN (((Below.refl _ _).alloc (Nat.le_refl _) _).alloc (by simp) _) _⟩
          · have n5 : ((x.f4.length : Int) == (x.f3.length : Int)) = false := by simp; omega
            have n5b : (x.f4.length == x.f3.length) = false := by simp; omega
            have HB := Lib.hid (show mayB g x = false by rw [HM.out, decide_eq_false c5]; rfl)
            clear hO hx hH c5
            go_enter Tryd.func77, Tryd.ntmps77
            go_wp2_with fail
            refine (outs_calls w.heap.size A g.length c A4 c4 x.f4 _ (by simp) h4'.out hn4).mono ?_
            rintro e w' ⟨rfl, rfl⟩
            rw [HO.out]
            go_wp2_with fail
            refine (rising_calls A3 c3 x.f3 _ h3'.out hn3).mono ?_
            rintro e w' ⟨rfl, nr, rfl⟩
            go_wp2
            go_ret
            exact ⟨by rw [HB.out]; rfl, pw_below_drewN (((Below.refl _ _).alloc (Nat.le_refl _) _).alloc (by simp) _) _⟩
        · have n3a : decide (0 < x.f3.length) = true := decide_eq_true (by omega)
          have n3b : decide (0 < (x.f3.length : Int)) = true := decide_eq_true (by omega)
          clear d3
          have hH : headB g.length x = false := by simp [headB, hO, hx, D1.out, D2.out]
          have HM := Lib.hid (show mayB g x = (decide (x.f4.length = x.f3.length) && decide (x.f3.length ≤ 16) && risingB x.f3 && !(x.f3.any fun s => !isNameB s)) by unfold mayB; rw [if_neg (by rw [hH]; exact Bool.false_ne_true), if_neg (by simp [hx]), if_neg (by simp [hx]), if_pos hx])
          by_cases c5 : x.f4.length = x.f3.length
          · have n5 : ((x.f4.length : Int) == (x.f3.length : Int)) = true := by simp [c5]
            have n5b : (x.f4.length == x.f3.length) = true := by simp [c5]
            by_cases c6 : x.f3.length ≤ 16
            · have n6 : decide ((x.f3.length : Int) ≤ 16) = true := decide_eq_true (by omega)
              have n6b : decide (x.f3.length ≤ 16) = true := decide_eq_true (by omega)
              cases hR : risingB x.f3 with
              | true =>
                have HB := Lib.hid (show mayB g x = !(x.f3.any fun s => !isNameB s) by rw [HM.out, decide_eq_true c5, decide_eq_true c6, hR]; rfl)
                have HR := Lib.hid hR
                have C5 := Lib.hid c5
                clear hO hx hH c5 c6 hR
                go_enter Tryd.func77, Tryd.ntmps77
                go_wp2_with fail
                refine (outs_calls w.heap.size A g.length c A4 c4 x.f4 _ (by simp) h4'.out hn4).mono ?_
                rintro e w' ⟨rfl, rfl⟩
                rw [HO.out]
                go_wp2_with fail
                refine (rising_calls A3 c3 x.f3 _ h3'.out hn3).mono ?_
                rintro e w' ⟨rfl, nr, rfl⟩
                rw [HR.out]
                have h3'' := Lib.hid (Kd.C_drewN h3'.out nr)
                have hk'' := Lib.hid (show KeysIn (World.drewN ((w.alloc (Obj.cells #[Value.slice A g.length c] 22)).alloc (Obj.cells #[Value.int IntKind.i64 x.f0, Value.int IntKind.i64 x.f1, Value.string x.f2, Value.slice A3 x.f3.length c3, Value.slice A4 x.f4.length c4] 37)) nr) from hk'.out)
                go_wp2_with fail
                refine (names_calls A3 c3 x.f3 _ hk''.out h3''.out hn3).mono ?_
                rintro e w' ⟨rfl, hb1⟩
                go_wp2
                go_ret
                exact ⟨by rw [HB.out]; rfl, (pw_below_drewN (((Below.refl _ _).alloc (Nat.le_refl _) _).alloc (by simp) _) nr).trans (hb1.mono (by simp; omega))⟩
              | false =>
                have HB := Lib.hid (show mayB g x = false by rw [HM.out, decide_eq_true c5, decide_eq_true c6, hR]; rfl)
                have HR := Lib.hid hR
                clear hO hx hH c5 c6 hR
                go_enter Tryd.func77, Tryd.ntmps77
                go_wp2_with fail
                refine (outs_calls w.heap.size A g.length c A4 c4 x.f4 _ (by simp) h4'.out hn4).mono ?_
                rintro e w' ⟨rfl, rfl⟩
                rw [HO.out]
                go_wp2_with fail
                refine (rising_calls A3 c3 x.f3 _ h3'.out hn3).mono ?_
                rintro e w' ⟨rfl, nr, rfl⟩
                rw [HR.out]
                go_wp2
                go_ret
                exact ⟨by rw [HB.out]; rfl, pw_below_drewN (((Below.refl _ _).alloc (Nat.le_refl _) _).alloc (by simp) _) _⟩
            · have n6 : decide ((x.f3.length : Int) ≤ 16) = false := decide_eq_false (by omega)
              have n6b : decide (x.f3.length ≤ 16) = false := decide_eq_false (by omega)
              have HB := Lib.hid (show mayB g x = false by rw [HM.out, decide_eq_true c5, decide_eq_false c6]; rfl)
              clear hO hx hH c5 c6
              go_enter Tryd.func77, Tryd.ntmps77
              go_wp2_with fail
              refine (outs_calls w.heap.size A g.length c A4 c4 x.f4 _ (by simp) h4'.out hn4).mono ?_
              rintro e w' ⟨rfl, rfl⟩
              rw [HO.out]
              go_wp2_with fail
              refine (rising_calls A3 c3 x.f3 _ h3'.out hn3).mono ?_
              rintro e w' ⟨rfl, nr, rfl⟩
              go_wp2
              go_ret
              exact ⟨by rw [HB.out]; rfl, pw_below_drewN (((Below.refl _ _).alloc (Nat.le_refl _) _).alloc (by simp) _) _⟩
          · have n5 : ((x.f4.length : Int) == (x.f3.length : Int)) = false := by simp; omega
            have n5b : (x.f4.length == x.f3.length) = false := by simp; omega
            have HB := Lib.hid (show mayB g x = false by rw [HM.out, decide_eq_false c5]; rfl)
            clear hO hx hH c5
            go_enter Tryd.func77, Tryd.ntmps77
            go_wp2_with fail
            refine (outs_calls w.heap.size A g.length c A4 c4 x.f4 _ (by simp) h4'.out hn4).mono ?_
            rintro e w' ⟨rfl, rfl⟩
            rw [HO.out]
            go_wp2_with fail
            refine (rising_calls A3 c3 x.f3 _ h3'.out hn3).mono ?_
            rintro e w' ⟨rfl, nr, rfl⟩
            go_wp2
            go_ret
            exact ⟨by rw [HB.out]; rfl, pw_below_drewN (((Below.refl _ _).alloc (Nat.le_refl _) _).alloc (by simp) _) _⟩
      · have n2a : x.f2.toList.isEmpty = false := nonempty_bytes c2
        have n2b : ¬ x.f2.toList = [] := fun e => by rw [e] at n2a; cases n2a
        have HB := Lib.hid (show mayB g x = false by unfold mayB; rw [if_pos (by simp [headB, hO, hx]; omega)])
        clear hO hx c2
        go_enter Tryd.func77, Tryd.ntmps77
        go_wp2_with fail
        refine (outs_calls w.heap.size A g.length c A4 c4 x.f4 _ (by simp) h4'.out hn4).mono ?_
        rintro e w' ⟨rfl, rfl⟩
        rw [HO.out]
        go_wp2
        all_goals
          go_ret
          exact ⟨by rw [HB.out]; rfl, ((Below.refl _ _).alloc (Nat.le_refl _) _).alloc (by simp) _⟩
    · have n1a : (x.f1 != 0) = true := by simp [c1]
      have n1b : (x.f1 == 0) = false := by simp [c1]
      have HB := Lib.hid (show mayB g x = false by unfold mayB; rw [if_pos (by simp [headB, hO, c1, hx])])
      clear hO hx c1
      go_enter Tryd.func77, Tryd.ntmps77
      go_wp2_with fail
      refine (outs_calls w.heap.size A g.length c A4 c4 x.f4 _ (by simp) h4'.out hn4).mono ?_
      rintro e w' ⟨rfl, rfl⟩
      rw [HO.out]
      go_wp2
      all_goals
        go_ret
        exact ⟨by rw [HB.out]; rfl, ((Below.refl _ _).alloc (Nat.le_refl _) _).alloc (by simp) _⟩

set_option maxRecDepth 100000 in
set_option maxHeartbeats 1000000 in
theorem may_9 (A : Option Addr) (g : List S37) (c : Nat) (x : S37) (A3 : Option Addr) (c3 : Nat) (A4 : Option Addr) (c4 : Nat) (w : World) (hk : KeysIn w) (hg : Kd.C k37 w A g.length g) (h3 : Kd.C Kd.string w A3 x.f3.length x.f3) (h4 : Kd.C (Kd.int .i64) w A4 x.f4.length x.f4)
    (hn3 : x.f3.length ≤ 9223372036854775807) (hn4 : x.f4.length ≤ 9223372036854775807) (hx : x.f0 = 9) :
    Calls Tryd.prog 77 #[.slice A g.length c, .agg #[.int .i64 x.f0, .int .i64 x.f1, .string x.f2, .slice A3 x.f3.length c3, .slice A4 x.f4.length c4]] w fun e w' => e = .returned (.bool (mayB g x)) ∧ Below w.heap.size w w' := by
  have H3 := Lib.hid h3
  have H4 := Lib.hid h4
  have HG := Lib.hid hg
  have HKW := Lib.hid hk
  clear h3 h4 hg hk
  have hb : Below w.heap.size w ((w.alloc (Obj.cells #[Value.slice A g.length c] 22)).alloc (Obj.cells #[Value.int IntKind.i64 x.f0, Value.int IntKind.i64 x.f1, Value.string x.f2, Value.slice A3 x.f3.length c3, Value.slice A4 x.f4.length c4] 37)) := ((Below.refl _ _).alloc (Nat.le_refl _) _).alloc (by simp) _
  have h4' := Lib.hid (Kd.C_below H4.out hb)
  have h3' := Lib.hid (Kd.C_below H3.out hb)
  have hg' := Lib.hid (Kd.C_below HG.out hb)
  have hk' := Lib.hid (HKW.out.below hb)
  clear hb
  have q1 : (x.f0 == 1) = false := by simp [hx]
  have q2 : (x.f0 == 2) = false := by simp [hx]
  have q3 : (x.f0 == 3) = false := by simp [hx]
  have q4 : (x.f0 == 4) = false := by simp [hx]
  have q5 : (x.f0 == 5) = false := by simp [hx]
  have q7 : (x.f0 == 7) = false := by simp [hx]
  have q8 : (x.f0 == 8) = false := by simp [hx]
  have q9 : (x.f0 == 9) = true := by simp [hx]
  have r5 : (x.f0 != 5) = true := by simp [hx]
  have r7 : (x.f0 != 7) = true := by simp [hx]
  have r9 : (x.f0 != 9) = false := by simp [hx]
  cases hO : x.f4.any (outB g.length) with
  | true =>
    have HB := Lib.hid (show mayB g x = false by unfold mayB; rw [if_pos (by simp [headB, hO])])
    have HO := Lib.hid hO
    clear hO hx
    go_enter Tryd.func77, Tryd.ntmps77
    go_wp2_with fail
    refine (outs_calls w.heap.size A g.length c A4 c4 x.f4 _ (by simp) h4'.out hn4).mono ?_
    rintro e w' ⟨rfl, rfl⟩
    rw [HO.out]
    go_wp2
    all_goals
      go_ret
      exact ⟨by rw [HB.out]; rfl, ((Below.refl _ _).alloc (Nat.le_refl _) _).alloc (by simp) _⟩
  | false =>
    have HO := Lib.hid hO
    by_cases c2 : x.f2.size = 0
    · have n2a : x.f2.toList = [] := by rw [ByteArray.toList_eq]; exact List.eq_nil_of_length_eq_zero (by simpa using c2)
      have D2 := Lib.hid c2
      clear c2
      by_cases d3 : x.f3.length = 0
      · have n3a : decide (0 < x.f3.length) = false := decide_eq_false (by omega)
        have n3b : decide (0 < (x.f3.length : Int)) = false := decide_eq_false (by omega)
        have D3 := Lib.hid d3
        clear d3
        by_cases c1 : x.f1 = 0
        · have n1a : (x.f1 != 0) = false := by simp [c1]
          have n1b : (x.f1 == 0) = true := by simp [c1]
          clear c1
          have hH : headB g.length x = false := by simp [headB, hO, hx, D2.out, D3.out]
          have HM := Lib.hid (show mayB g x = (decide (0 ≤ x.f1) && decide (x.f1 < 16) && decide (x.f4.length = 1)) by unfold mayB; rw [if_neg (by rw [hH]; exact Bool.false_ne_true), if_neg (by simp [hx]), if_neg (by simp [hx]), if_neg (by simp [hx]), if_neg (by simp [hx]), if_pos hx])
          by_cases c5 : 0 ≤ x.f1
          · have n5 : decide (0 ≤ x.f1) = true := decide_eq_true c5
            by_cases c6 : x.f1 < 16
            · have n6 : decide (x.f1 < 16) = true := decide_eq_true c6
              by_cases c7 : x.f4.length = 1
              · have n7 : ((x.f4.length : Int) == 1) = true := by simp [c7]
                have n7b : (x.f4.length == 1) = true := by simp [c7]
                have HB := Lib.hid (show mayB g x = true by rw [HM.out, n5, n6, decide_eq_true c7]; rfl)
                clear hO hx hH c5 c6 c7
                go_enter Tryd.func77, Tryd.ntmps77
                go_wp2_with fail
                refine (outs_calls w.heap.size A g.length c A4 c4 x.f4 _ (by simp) h4'.out hn4).mono ?_
                rintro e w' ⟨rfl, rfl⟩
                rw [HO.out]
                go_wp2
                all_goals
                  go_ret
                  exact ⟨by rw [HB.out]; rfl, ((Below.refl _ _).alloc (Nat.le_refl _) _).alloc (by simp) _⟩
              · have n7 : ((x.f4.length : Int) == 1) = false := by simp; omega
                have n7b : (x.f4.length == 1) = false := by simp; omega
                have HB := Lib.hid (show mayB g x = false by rw [HM.out, n5, n6, decide_eq_false c7]; rfl)
                clear hO hx hH c5 c6 c7
                go_enter Tryd.func77, Tryd.ntmps77
                go_wp2_with fail
                refine (outs_calls w.heap.size A g.length c A4 c4 x.f4 _ (by simp) h4'.out hn4).mono ?_
                rintro e w' ⟨rfl, rfl⟩
                rw [HO.out]
                go_wp2
                all_goals
                  go_ret
                  exact ⟨by rw [HB.out]; rfl, ((Below.refl _ _).alloc (Nat.le_refl _) _).alloc (by simp) _⟩
            · have n6 : decide (x.f1 < 16) = false := decide_eq_false c6
              have HB := Lib.hid (show mayB g x = false by rw [HM.out, n5, n6]; rfl)
              clear hO hx hH c5 c6
              go_enter Tryd.func77, Tryd.ntmps77
              go_wp2_with fail
              refine (outs_calls w.heap.size A g.length c A4 c4 x.f4 _ (by simp) h4'.out hn4).mono ?_
              rintro e w' ⟨rfl, rfl⟩
              rw [HO.out]
              go_wp2
              all_goals
                go_ret
                exact ⟨by rw [HB.out]; rfl, ((Below.refl _ _).alloc (Nat.le_refl _) _).alloc (by simp) _⟩
          · have n5 : decide (0 ≤ x.f1) = false := decide_eq_false c5
            have HB := Lib.hid (show mayB g x = false by rw [HM.out, n5]; rfl)
            clear hO hx hH c5
            go_enter Tryd.func77, Tryd.ntmps77
            go_wp2_with fail
            refine (outs_calls w.heap.size A g.length c A4 c4 x.f4 _ (by simp) h4'.out hn4).mono ?_
            rintro e w' ⟨rfl, rfl⟩
            rw [HO.out]
            go_wp2
            all_goals
              go_ret
              exact ⟨by rw [HB.out]; rfl, ((Below.refl _ _).alloc (Nat.le_refl _) _).alloc (by simp) _⟩
        · have n1a : (x.f1 != 0) = true := by simp [c1]
          have n1b : (x.f1 == 0) = false := by simp [c1]
          clear c1
          have hH : headB g.length x = false := by simp [headB, hO, hx, D2.out, D3.out]
          have HM := Lib.hid (show mayB g x = (decide (0 ≤ x.f1) && decide (x.f1 < 16) && decide (x.f4.length = 1)) by unfold mayB; rw [if_neg (by rw [hH]; exact Bool.false_ne_true), if_neg (by simp [hx]), if_neg (by simp [hx]), if_neg (by simp [hx]), if_neg (by simp [hx]), if_pos hx])
          by_cases c5 : 0 ≤ x.f1
          · have n5 : decide (0 ≤ x.f1) = true := decide_eq_true c5
            by_cases c6 : x.f1 < 16
            · have n6 : decide (x.f1 < 16) = true := decide_eq_true c6
              by_cases c7 : x.f4.length = 1
              · have n7 : ((x.f4.length : Int) == 1) = true := by simp [c7]
                have n7b : (x.f4.length == 1) = true := by simp [c7]
                have HB := Lib.hid (show mayB g x = true by rw [HM.out, n5, n6, decide_eq_true c7]; rfl)
                clear hO hx hH c5 c6 c7
                go_enter Tryd.func77, Tryd.ntmps77
                go_wp2_with fail
                refine (outs_calls w.heap.size A g.length c A4 c4 x.f4 _ (by simp) h4'.out hn4).mono ?_
                rintro e w' ⟨rfl, rfl⟩
                rw [HO.out]
                go_wp2
                all_goals
                  go_ret
                  exact ⟨by rw [HB.out]; rfl, ((Below.refl _ _).alloc (Nat.le_refl _) _).alloc (by simp) _⟩
              · have n7 : ((x.f4.length : Int) == 1) = false := by simp; omega
                have n7b : (x.f4.length == 1) = false := by simp; omega
                have HB := Lib.hid (show mayB g x = false by rw [HM.out, n5, n6, decide_eq_false c7]; rfl)
                clear hO hx hH c5 c6 c7
                go_enter Tryd.func77, Tryd.ntmps77
                go_wp2_with fail
                refine (outs_calls w.heap.size A g.length c A4 c4 x.f4 _ (by simp) h4'.out hn4).mono ?_
                rintro e w' ⟨rfl, rfl⟩
                rw [HO.out]
                go_wp2
                all_goals
                  go_ret
                  exact ⟨by rw [HB.out]; rfl, ((Below.refl _ _).alloc (Nat.le_refl _) _).alloc (by simp) _⟩
            · have n6 : decide (x.f1 < 16) = false := decide_eq_false c6
              have HB := Lib.hid (show mayB g x = false by rw [HM.out, n5, n6]; rfl)
              clear hO hx hH c5 c6
              go_enter Tryd.func77, Tryd.ntmps77
              go_wp2_with fail
              refine (outs_calls w.heap.size A g.length c A4 c4 x.f4 _ (by simp) h4'.out hn4).mono ?_
              rintro e w' ⟨rfl, rfl⟩
              rw [HO.out]
              go_wp2
              all_goals
                go_ret
                exact ⟨by rw [HB.out]; rfl, ((Below.refl _ _).alloc (Nat.le_refl _) _).alloc (by simp) _⟩
          · have n5 : decide (0 ≤ x.f1) = false := decide_eq_false c5
            have HB := Lib.hid (show mayB g x = false by rw [HM.out, n5]; rfl)
            clear hO hx hH c5
            go_enter Tryd.func77, Tryd.ntmps77
            go_wp2_with fail
            refine (outs_calls w.heap.size A g.length c A4 c4 x.f4 _ (by simp) h4'.out hn4).mono ?_
            rintro e w' ⟨rfl, rfl⟩
            rw [HO.out]
            go_wp2
            all_goals
              go_ret
              exact ⟨by rw [HB.out]; rfl, ((Below.refl _ _).alloc (Nat.le_refl _) _).alloc (by simp) _⟩
      · have n3a : decide (0 < x.f3.length) = true := decide_eq_true (by omega)
        have n3b : decide (0 < (x.f3.length : Int)) = true := decide_eq_true (by omega)
        have HB := Lib.hid (show mayB g x = false by unfold mayB; rw [if_pos (by simp [headB, hO, hx]; omega)])
        clear hO hx d3
        go_enter Tryd.func77, Tryd.ntmps77
        go_wp2_with fail
        refine (outs_calls w.heap.size A g.length c A4 c4 x.f4 _ (by simp) h4'.out hn4).mono ?_
        rintro e w' ⟨rfl, rfl⟩
        rw [HO.out]
        go_wp2
        all_goals
          go_ret
          exact ⟨by rw [HB.out]; rfl, ((Below.refl _ _).alloc (Nat.le_refl _) _).alloc (by simp) _⟩
    · have n2a : x.f2.toList.isEmpty = false := nonempty_bytes c2
      have n2b : ¬ x.f2.toList = [] := fun e => by rw [e] at n2a; cases n2a
      have HB := Lib.hid (show mayB g x = false by unfold mayB; rw [if_pos (by simp [headB, hO, hx]; omega)])
      clear hO hx c2
      go_enter Tryd.func77, Tryd.ntmps77
      go_wp2_with fail
      refine (outs_calls w.heap.size A g.length c A4 c4 x.f4 _ (by simp) h4'.out hn4).mono ?_
      rintro e w' ⟨rfl, rfl⟩
      rw [HO.out]
      go_wp2
      all_goals
        go_ret
        exact ⟨by rw [HB.out]; rfl, ((Below.refl _ _).alloc (Nat.le_refl _) _).alloc (by simp) _⟩

end Go.Proofs.YtcljgfpcdlnlkaaDoor.Q
namespace Go.Proofs.YtcljgfpcdlnlkaaDoor.Q
open Go.RowKit Go.Proofs.YtcljgfpcdlnlkaaDoorW.PrintWords Mp
theorem zero3m (w : World) : (zeroValue 3).run Tryd.prog w = .ok (.int .i64 0) w := by kernel_rfl
theorem in_of_outs {n : Nat} {l : List Int} (h : l.any (outB n) = false) (k : Nat) (hk : k < l.length) : 0 ≤ rd l k ∧ rd l k < n := by
  have := List.any_eq_false.1 h (l.getD k 0) (by rw [List.getD_eq_getElem?_getD, List.getElem?_eq_getElem hk]; exact List.getElem_mem _)
  simp only [outB, Bool.or_eq_true, decide_eq_true_eq, not_or] at this
  show 0 ≤ l.getD k 0 ∧ l.getD k 0 < n
  omega
/-- Each number once, as it comes first. -/
def uniq (l : List Int) : List Int := l.foldl (fun ks k => if k ∈ ks then ks else ks ++ [k]) []
theorem uniq_snoc (l : List Int) (k : Int) : uniq (l ++ [k]) = if k ∈ uniq l then uniq l else uniq l ++ [k] := by unfold uniq; rw [List.foldl_append]; rfl
theorem rd_mem {l : List Int} {k : Nat} (hk : k < l.length) : rd l k ∈ l := by
  unfold rd
  rw [Int.toNat_natCast, List.getD_eq_getElem?_getD, List.getElem?_eq_getElem hk]
  exact List.getElem_mem _
theorem take_rd {l : List Int} {k : Nat} (hk : k < l.length) : l.take (k + 1) = l.take k ++ [rd l k] := by
  unfold rd
  rw [Int.toNat_natCast, List.getD_eq_getElem?_getD, List.getElem?_eq_getElem hk, List.take_succ_eq_append_getElem hk]
  rfl
theorem uniq_spec (l : List Int) : ∀ ks : List Int, (l.foldl (fun ks k => if k ∈ ks then ks else ks ++ [k]) ks).length ≤ ks.length + l.length ∧
    ((l.foldl (fun ks k => if k ∈ ks then ks else ks ++ [k]) ks).length = ks.length + l.length ↔ (∀ k ∈ l, k ∉ ks) ∧ distinctB l = true) := by
  induction l with
  | nil => intro ks; simp [distinctB]
  | cons x l ih =>
    intro ks
    simp only [List.foldl_cons, List.length_cons]
    by_cases h : x ∈ ks
    · rw [if_pos h]
      have := ih ks
      refine ⟨by omega, ⟨fun e => by omega, fun e => absurd h (e.1 x List.mem_cons_self)⟩⟩
    · rw [if_neg h]
      have := ih (ks ++ [x])
      rw [List.length_append] at this
      simp only [List.length_singleton] at this
      refine ⟨by omega, ?_⟩
      rw [show ks.length + (l.length + 1) = ks.length + 1 + l.length by omega, this.2]
      simp only [distinctB, Bool.and_eq_true, Bool.not_eq_true', List.mem_append, List.mem_cons, List.not_mem_nil, or_false, forall_eq_or_imp, h, not_false_eq_true, true_and]
      constructor
      · rintro ⟨h1, h2⟩
        refine ⟨fun k hk e => h1 k hk (.inl e), ?_, h2⟩
        simpa using fun e => h1 x e (.inr rfl)
      · rintro ⟨h1, h2, h3⟩
        refine ⟨fun k hk e => ?_, h3⟩
        rcases e with e | e
        · exact h1 k hk e
        · subst e
          simp [hk] at h2
theorem uniq_distinct (l : List Int) : distinctB l = decide ((uniq l).length = l.length) := by
  have := (uniq_spec l []).2
  simp only [List.length_nil, Nat.zero_add, List.not_mem_nil, not_false_eq_true, implies_true, true_and] at this
  rw [Bool.eq_iff_iff, decide_eq_true_iff]
  exact this.symm
set_option maxRecDepth 100000 in
set_option maxHeartbeats 1000000 in
theorem may_8 (A : Option Addr) (g : List S37) (c : Nat) (x : S37) (A3 : Option Addr) (c3 : Nat) (A4 : Option Addr) (c4 : Nat) (w : World) (hk : KeysIn w) (hg : Kd.C k37 w A g.length g) (h3 : Kd.C Kd.string w A3 x.f3.length x.f3) (h4 : Kd.C (Kd.int .i64) w A4 x.f4.length x.f4)
    (hn3 : x.f3.length ≤ 9223372036854775807) (hn4 : x.f4.length ≤ 9223372036854775807) (hx : x.f0 = 8) :
    Calls Tryd.prog 77 #[.slice A g.length c, .agg #[.int .i64 x.f0, .int .i64 x.f1, .string x.f2, .slice A3 x.f3.length c3, .slice A4 x.f4.length c4]] w fun e w' => e = .returned (.bool (mayB g x)) ∧ Below w.heap.size w w' := by
  have H3 := Lib.hid h3
  have H4 := Lib.hid h4
  have HG := Lib.hid hg
  have HKW := Lib.hid hk
  clear h3 h4 hg hk
  have hb : Below w.heap.size w ((w.alloc (Obj.cells #[Value.slice A g.length c] 22)).alloc (Obj.cells #[Value.int IntKind.i64 x.f0, Value.int IntKind.i64 x.f1, Value.string x.f2, Value.slice A3 x.f3.length c3, Value.slice A4 x.f4.length c4] 37)) := ((Below.refl _ _).alloc (Nat.le_refl _) _).alloc (by simp) _
  have h4' := Lib.hid (Kd.C_below H4.out hb)
  have h3' := Lib.hid (Kd.C_below H3.out hb)
  have hg' := Lib.hid (Kd.C_below HG.out hb)
  have hk' := Lib.hid (HKW.out.below hb)
  clear hb
  have q1 : (x.f0 == 1) = false := by simp [hx]
  have q2 : (x.f0 == 2) = false := by simp [hx]
  have q3 : (x.f0 == 3) = false := by simp [hx]
  have q4 : (x.f0 == 4) = false := by simp [hx]
  have q5 : (x.f0 == 5) = false := by simp [hx]
  have q7 : (x.f0 == 7) = false := by simp [hx]
  have q8 : (x.f0 == 8) = true := by simp [hx]
  have q9 : (x.f0 == 9) = false := by simp [hx]
  have r5 : (x.f0 != 5) = true := by simp [hx]
  have r7 : (x.f0 != 7) = true := by simp [hx]
  have r9 : (x.f0 != 9) = true := by simp [hx]
  cases hO : x.f4.any (outB g.length) with
  | true =>
    have HB := Lib.hid (show mayB g x = false by unfold mayB; rw [if_pos (by simp [headB, hO])])
    have HO := Lib.hid hO
    clear hO hx
    go_enter Tryd.func77, Tryd.ntmps77
    go_wp2_with fail
    refine (outs_calls w.heap.size A g.length c A4 c4 x.f4 _ (by simp) h4'.out hn4).mono ?_
    rintro e w' ⟨rfl, rfl⟩
    rw [HO.out]
    go_wp2
    all_goals
      go_ret
      exact ⟨by rw [HB.out]; rfl, ((Below.refl _ _).alloc (Nat.le_refl _) _).alloc (by simp) _⟩
  | false =>
    have HO := Lib.hid hO
    by_cases c1 : x.f1 = 0
    · have n1a : (x.f1 != 0) = false := by simp [c1]
      have n1b : (x.f1 == 0) = true := by simp [c1]
      have D1 := Lib.hid c1
      clear c1
      by_cases c2 : x.f2.size = 0
      · have n2a : x.f2.toList = [] := by rw [ByteArray.toList_eq]; exact List.eq_nil_of_length_eq_zero (by simpa using c2)
        have D2 := Lib.hid c2
        clear c2
        by_cases d3 : x.f3.length = 0
        · have n3a : decide (0 < x.f3.length) = false := decide_eq_false (by omega)
          have n3b : decide (0 < (x.f3.length : Int)) = false := decide_eq_false (by omega)
          have D3 := Lib.hid d3
          clear d3
          have hH : headB g.length x = false := by simp [headB, hO, hx, D1.out, D2.out, D3.out]
          have HM := Lib.hid (show mayB g x = ((x.f4.all fun k => decide ((rd_T37 g k).f0 ≠ 8)) && decide (2 ≤ x.f4.length) && distinctB x.f4) by unfold mayB; rw [if_neg (by rw [hH]; exact Bool.false_ne_true), if_neg (by simp [hx]), if_neg (by simp [hx]), if_neg (by simp [hx]), if_pos hx])
          have hin : ∀ k : Nat, k < x.f4.length → 0 ≤ rd x.f4 k ∧ rd x.f4 k < g.length := fun k hk => in_of_outs hO k hk
          have HIN := Lib.hid hin
          have hmm := @run_makeMap Tryd.prog
          clear hO hx hH hin
          go_enter Tryd.func77, Tryd.ntmps77
          go_wp2_with fail
          refine (outs_calls w.heap.size A g.length c A4 c4 x.f4 _ (by simp) h4'.out hn4).mono ?_
          rintro e w' ⟨rfl, rfl⟩
          rw [HO.out]
          go_wp2
          have hM : MapAt (Value.int .i64) (Value.int .i64) (((w.alloc (Obj.cells #[Value.slice A g.length c] 22)).alloc (Obj.cells #[Value.int IntKind.i64 x.f0, Value.int IntKind.i64 x.f1, Value.string x.f2, Value.slice A3 x.f3.length c3, Value.slice A4 x.f4.length c4] 37)).alloc (.map #[] 0)) (w.heap.size + 1 + 1) ([] : List (Int × Int)) := by have := MapAt.new (κ := Int) (υ := Int) (Value.int .i64) (Value.int .i64) ((w.alloc (Obj.cells #[Value.slice A g.length c] 22)).alloc (Obj.cells #[Value.int IntKind.i64 x.f0, Value.int IntKind.i64 x.f1, Value.string x.f2, Value.slice A3 x.f3.length c3, Value.slice A4 x.f4.length c4] 37)); simpa using this
          have hB0 : Below w.heap.size w (((w.alloc (Obj.cells #[Value.slice A g.length c] 22)).alloc (Obj.cells #[Value.int IntKind.i64 x.f0, Value.int IntKind.i64 x.f1, Value.string x.f2, Value.slice A3 x.f3.length c3, Value.slice A4 x.f4.length c4] 37)).alloc (.map #[] 0)) := (((Below.refl _ _).alloc (Nat.le_refl _) _).alloc (by simp) _).alloc (by simp; omega) _
          have c3_ : (((w.alloc (Obj.cells #[Value.slice A g.length c] 22)).alloc (Obj.cells #[Value.int IntKind.i64 x.f0, Value.int IntKind.i64 x.f1, Value.string x.f2, Value.slice A3 x.f3.length c3, Value.slice A4 x.f4.length c4] 37)).alloc (.map #[] 0)).cell? ⟨w.heap.size + 1, 4, none⟩ = some (.slice A4 x.f4.length c4) := cell_alloc _ (by simp)
          have c2_ : (((w.alloc (Obj.cells #[Value.slice A g.length c] 22)).alloc (Obj.cells #[Value.int IntKind.i64 x.f0, Value.int IntKind.i64 x.f1, Value.string x.f2, Value.slice A3 x.f3.length c3, Value.slice A4 x.f4.length c4] 37)).alloc (.map #[] 0)).cell? ⟨w.heap.size, 0, none⟩ = some (.slice A g.length c) := cell_alloc _ (by simp)
          have h4'' : Kd.C (Kd.int .i64) (((w.alloc (Obj.cells #[Value.slice A g.length c] 22)).alloc (Obj.cells #[Value.int IntKind.i64 x.f0, Value.int IntKind.i64 x.f1, Value.string x.f2, Value.slice A3 x.f3.length c3, Value.slice A4 x.f4.length c4] 37)).alloc (.map #[] 0)) A4 x.f4.length x.f4 := Kd.C_alloc h4'.out _
          have hg'' : Kd.C k37 (((w.alloc (Obj.cells #[Value.slice A g.length c] 22)).alloc (Obj.cells #[Value.int IntKind.i64 x.f0, Value.int IntKind.i64 x.f1, Value.string x.f2, Value.slice A3 x.f3.length c3, Value.slice A4 x.f4.length c4] 37)).alloc (.map #[] 0)) A g.length g := Kd.C_alloc hg'.out _
          have hs_ : w.heap.size + 1 + 1 + 1 ≤ (((w.alloc (Obj.cells #[Value.slice A g.length c] 22)).alloc (Obj.cells #[Value.int IntKind.i64 x.f0, Value.int IntKind.i64 x.f1, Value.string x.f2, Value.slice A3 x.f3.length c3, Value.slice A4 x.f4.length c4] 37)).alloc (.map #[] 0)).heap.size := by simp
          generalize ((w.alloc (Obj.cells #[Value.slice A g.length c] 22)).alloc (Obj.cells #[Value.int IntKind.i64 x.f0, Value.int IntKind.i64 x.f1, Value.string x.f2, Value.slice A3 x.f3.length c3, Value.slice A4 x.f4.length c4] 37)).alloc (.map #[] 0) = w0 at *
          go_loopw [106] (fun i W => ∃ k : Nat, k ≤ x.f4.length ∧ i = .int .i64 k ∧ Hid ((∃ m : List (Int × Int), MapAt (Value.int .i64) (Value.int .i64) W (w.heap.size + 1 + 1) m ∧ m.map (·.1) = uniq (x.f4.take k)) ∧ Kp (w.heap.size + 1 + 1) w0 W ∧ ∀ j : Nat, j < k → (rd_T37 g (rd x.f4 j)).f0 ≠ 8)) (fun i _ => x.f4.length - (intOf i).toNat)
          case atStart => exact ⟨0, Nat.zero_le _, rfl, Lib.hid ⟨⟨[], hM, rfl⟩, Kp.refl _ _, fun j hj => absurd hj (by omega)⟩⟩
          case round =>
            obtain ⟨k, hk, rfl, HI⟩ := hrel
            have hBr := HI.out.2.1.below (B := w.heap.size) (by omega) (by omega)
            have hBw := hB0.trans hBr
            have c3r := HI.out.2.1.cell c3_ (by simp)
            have c2r := HI.out.2.1.cell c2_ (by simp; omega)
            clear c3_ c2_ hM h4'' hg'' hmm
            by_cases hlt : k < x.f4.length
            · obtain ⟨m, hm, hu⟩ := HI.out.1
              obtain ⟨ad, hA4, hck⟩ := int_cell (Kd.C_below H4.out hBw) k hlt
              have hin := HIN.out k hlt
              obtain ⟨ad5, B3, b3, B4, b4, hA, hk5, _, _, _, _, _, _, _, _⟩ := at_T37 HG.out (rd x.f4 k) hin.1 hin.2
              have hk5r := (hBw.cell (World.block_lt_of_cell? w _ hk5)).trans hk5
              obtain ⟨v, hv⟩ : ∃ v, ((get m (rd x.f4 k)).map (Value.int .i64)).getD (.int .i64 0) = Value.int .i64 v := by cases get m (rd x.f4 k) <;> exact ⟨_, rfl⟩
              have hl := hm.lookup1 (int_law Tryd.underlying3) Tryd.underlying103 zero3m (rd x.f4 k)
              rw [hv] at hl
              obtain ⟨o, hup, hm2⟩ := hm.update (int_law Tryd.underlying3) Tryd.underlying103 (rd x.f4 k) (wrap64 (v + 1))
              have hK2 : Kp (w.heap.size + 1 + 1) wr (ChangeMaps.setBlock wr (w.heap.size + 1 + 1) o) := Kp.setBlock _ _ _
              have c2s := hK2.cell c2r (by simp; omega)
              have hk5s := hK2.cell hk5r (by have := World.block_lt_of_cell? w _ hk5; omega)
              have HS := Lib.hid (show _ ∧ _ from ⟨hm2, hK2⟩)
              have HU := Lib.hid hu
              have HA := Lib.hid hA
              have i0 := hin.1
              have i1 := hin.2
              clear hm2 hK2 hv hm hu hin hk5 hk5r hBr hBw
              subst hA4
              by_cases h8 : (rd_T37 g (rd x.f4 k)).f0 = 8
              · have n8 : ((rd_T37 g (rd x.f4 k)).f0 == 8) = true := by simp [h8]
                have HB := Lib.hid (show mayB g x = false by
                  rw [HM.out, (List.all_eq_false.2 ⟨rd x.f4 k, rd_mem hlt, by simp [h8]⟩ : (x.f4.all fun k => decide ((rd_T37 g k).f0 ≠ 8)) = false)]; rfl)
                clear h8
                go_wp2
                go_ret
                exact ⟨by rw [HB.out]; rfl, hB0.trans ((HI.out.2.1.trans HS.out.2).below (by omega) (by omega))⟩
              · have n8 : ((rd_T37 g (rd x.f4 k)).f0 == 8) = false := by simp [h8]
                have H8 := Lib.hid h8
                clear h8
                go_wp2
                go_roundw
                case rel =>
                  refine ⟨k + 1, by omega, by go_num, Lib.hid ⟨⟨_, HS.out.1, ?_⟩, HI.out.2.1.trans HS.out.2, fun j hj => if h : j = k then by rw [h]; exact H8.out else HI.out.2.2 j (by omega)⟩⟩
                  rw [put_keys, take_rd hlt, uniq_snoc, ← HU.out]
                  by_cases hm : get m (rd x.f4 k) = none
                  · rw [if_pos hm, if_neg (fun e => get_ne_none.2 e hm)]
                  · rw [if_neg hm, if_pos (get_ne_none.1 hm)]
                case measure => simp [intOf]; omega
            · obtain rfl : k = x.f4.length := by omega
              obtain ⟨m, hm, hu⟩ := HI.out.1
              rw [List.take_length] at hu
              have hl := hm.len (rt := 3) Tryd.underlying103
              have hlen : m.length = (uniq x.f4).length := by rw [← hu, List.length_map]
              rw [hlen] at hl
              have hall : (x.f4.all fun k => decide ((rd_T37 g k).f0 ≠ 8)) = true := List.all_eq_true.2 (fun y hy => by
                obtain ⟨i, hi, rfl⟩ := List.getElem_of_mem hy
                have := HI.out.2.2 i hi
                unfold rd at this
                rw [Int.toNat_natCast, List.getD_eq_getElem?_getD, List.getElem?_eq_getElem hi] at this
                exact decide_eq_true this)
              have HM2 := Lib.hid (show mayB g x = (decide (2 ≤ x.f4.length) && decide ((uniq x.f4).length = x.f4.length)) by rw [HM.out, hall, uniq_distinct]; rfl)
              have HE := Lib.hid (hB0.trans (HI.out.2.1.below (B := w.heap.size) (by omega) (by omega)))
              clear hall hm hu hlen hBr hBw hB0
              by_cases e2 : 2 ≤ x.f4.length
              · have m2 : decide (2 ≤ (x.f4.length : Int)) = true := decide_eq_true (by omega)
                have m2b : decide (2 ≤ x.f4.length) = true := decide_eq_true e2
                by_cases e3 : (uniq x.f4).length = x.f4.length
                · have m3 : (((uniq x.f4).length : Int) == (x.f4.length : Int)) = true := by simp [e3]
                  have m3b : ((uniq x.f4).length == x.f4.length) = true := by simp [e3]
                  have HB := Lib.hid (show mayB g x = true by rw [HM2.out, m2b, decide_eq_true e3]; rfl)
                  clear e2 e3
                  go_wp2
                  go_ret
                  exact ⟨by rw [HB.out]; rfl, HE.out⟩
                · have m3 : (((uniq x.f4).length : Int) == (x.f4.length : Int)) = false := by simp; omega
                  have m3b : ((uniq x.f4).length == x.f4.length) = false := by simp; omega
                  have HB := Lib.hid (show mayB g x = false by rw [HM2.out, m2b, decide_eq_false e3]; rfl)
                  clear e2 e3
                  go_wp2
                  go_ret
                  exact ⟨by rw [HB.out]; rfl, HE.out⟩
              · have m2 : decide (2 ≤ (x.f4.length : Int)) = false := decide_eq_false (by omega)
                have m2b : decide (2 ≤ x.f4.length) = false := decide_eq_false e2
                have HB := Lib.hid (show mayB g x = false by rw [HM2.out, m2b]; rfl)
                clear e2
                go_wp2
                go_ret
                exact ⟨by rw [HB.out]; rfl, HE.out⟩
        · have n3a : decide (0 < x.f3.length) = true := decide_eq_true (by omega)
          have n3b : decide (0 < (x.f3.length : Int)) = true := decide_eq_true (by omega)
          have HB := Lib.hid (show mayB g x = false by unfold mayB; rw [if_pos (by simp [headB, hO, hx]; omega)])
          clear hO hx d3
          go_enter Tryd.func77, Tryd.ntmps77
          go_wp2_with fail
          refine (outs_calls w.heap.size A g.length c A4 c4 x.f4 _ (by simp) h4'.out hn4).mono ?_
          rintro e w' ⟨rfl, rfl⟩
          rw [HO.out]
          go_wp2
          all_goals
            go_ret
            exact ⟨by rw [HB.out]; rfl, ((Below.refl _ _).alloc (Nat.le_refl _) _).alloc (by simp) _⟩
      · have n2a : x.f2.toList.isEmpty = false := nonempty_bytes c2
        have n2b : ¬ x.f2.toList = [] := fun e => by rw [e] at n2a; cases n2a
        have HB := Lib.hid (show mayB g x = false by unfold mayB; rw [if_pos (by simp [headB, hO, hx]; omega)])
        clear hO hx c2
        go_enter Tryd.func77, Tryd.ntmps77
        go_wp2_with fail
        refine (outs_calls w.heap.size A g.length c A4 c4 x.f4 _ (by simp) h4'.out hn4).mono ?_
        rintro e w' ⟨rfl, rfl⟩
        rw [HO.out]
        go_wp2
        all_goals
          go_ret
          exact ⟨by rw [HB.out]; rfl, ((Below.refl _ _).alloc (Nat.le_refl _) _).alloc (by simp) _⟩
    · have n1a : (x.f1 != 0) = true := by simp [c1]
      have n1b : (x.f1 == 0) = false := by simp [c1]
      have HB := Lib.hid (show mayB g x = false by unfold mayB; rw [if_pos (by simp [headB, hO, c1, hx])])
      clear hO hx c1
      go_enter Tryd.func77, Tryd.ntmps77
      go_wp2_with fail
      refine (outs_calls w.heap.size A g.length c A4 c4 x.f4 _ (by simp) h4'.out hn4).mono ?_
      rintro e w' ⟨rfl, rfl⟩
      rw [HO.out]
      go_wp2
      all_goals
        go_ret
        exact ⟨by rw [HB.out]; rfl, ((Below.refl _ _).alloc (Nat.le_refl _) _).alloc (by simp) _⟩

end Go.Proofs.YtcljgfpcdlnlkaaDoor.Q
namespace Go.Proofs.YtcljgfpcdlnlkaaDoor.Q
open Go.RowKit Go.Proofs.YtcljgfpcdlnlkaaDoorW.PrintWords Mp
/-- The cells of a graph's node, at a number. -/
theorem at_node {w : World} {A : Option Addr} {n : Nat} {xs : List S37} (h : Kd.C k37 w A n xs) (k : Nat) (hk : k < n) : ∃ ad A3 c3 A4 c4, A = some ad ∧ w.cell? (ad.add (k * 5)) = some (.int .i64 (rd_T37 xs k).f0) ∧ w.cell? ⟨(ad.add (k * 5)).block, (ad.add (k * 5)).off + 1, none⟩ = some (.int .i64 (rd_T37 xs k).f1) ∧ w.cell? ⟨(ad.add (k * 5)).block, (ad.add (k * 5)).off + 2, none⟩ = some (.string (rd_T37 xs k).f2) ∧ w.cell? ⟨(ad.add (k * 5)).block, (ad.add (k * 5)).off + 3, none⟩ = some (.slice A3 (rd_T37 xs k).f3.length c3) ∧ w.cell? ⟨(ad.add (k * 5)).block, (ad.add (k * 5)).off + 4, none⟩ = some (.slice A4 (rd_T37 xs k).f4.length c4) ∧ (rd_T37 xs k).f3.length ≤ c3 ∧ Kd.string.C w A3 (rd_T37 xs k).f3.length (rd_T37 xs k).f3 ∧ (rd_T37 xs k).f4.length ≤ c4 ∧ (Kd.int .i64).C w A4 (rd_T37 xs k).f4.length (rd_T37 xs k).f4 := by
  have := at_T37 h k (by omega) (by omega)
  simpa only [Int.toNat_natCast] using this
/-- What a type is of. -/
def membersL (g : List S37) (n : Int) : List Int := if n < 0 ∨ (g.length : Int) ≤ n then [] else if (rd_T37 g n).f0 = 8 then (rd_T37 g n).f4 else [n]
theorem R_empty {α : Type} (d : Kd α) (e : Nat) (w : World) : d.R e (w.alloc (.cells #[] e)) w.heap.size (fun _ => True) (.slice (some ⟨w.heap.size, 0, none⟩) 0 0) [] :=
  ⟨fun _ _ => trivial, [], ⟨by simp, .inr ⟨w.heap.size, 0, #[], rfl, Nat.le_refl _, Array.getElem?_push_size, Nat.le_refl _, by decide, by simp, by simp⟩⟩, Reps.none _ _⟩
set_option maxRecDepth 100000 in
set_option maxHeartbeats 400000 in
theorem cloneI_calls (A : Option Addr) (c : Nat) (l : List Int) (w : World) (hl : Kd.C (Kd.int .i64) w A l.length l) (hc : l.length ≤ c) (hn : l.length < 17592186044416) :
    Calls Tryd.prog 72 #[.slice A l.length c] w fun e w' => ∃ v, e = .returned v ∧ Kd.R (Kd.int .i64) 3 w' w.heap.size (fun _ => True) v l ∧ Below w.heap.size w w' := by
  have HL := Lib.hid hl
  clear hl
  have heq := fun (w : World) (A : Option Addr) (n c : Nat) => Lib.run_eql_slice_nil (P := Tryd.prog) w 23 3 A n c 0 0 Tryd.underlying23
  cases A with
  | none =>
    have h0 : l.length = 0 := by
      rcases Nat.eq_zero_or_pos l.length with h | h
      · exact h
      · obtain ⟨ad, e, _⟩ := int_cell HL.out 0 h
        cases e
    obtain rfl := List.eq_nil_of_length_eq_zero h0
    go_enter Tryd.func72, Tryd.ntmps72
    go_wp2
    go_ret
    exact ⟨_, rfl, Kd.R_nil _ _ _ _ _, Below.refl _ _⟩
  | some ad =>
    have hE := R_empty (Kd.int .i64) 3 w
    have hB : Below w.heap.size w (w.alloc (.cells #[] 3)) := (Below.refl _ _).alloc (Nat.le_refl _) _
    have HL2 := Lib.hid (Kd.C_alloc HL.out (.cells #[] 3))
    go_enter Tryd.func72, Tryd.ntmps72
    go_wp2_with (at_builtin; refine Kd.R_append_rows (Kd.int .i64) (w0 := w) w.heap.size rfl (.tmp 5) (.tmp 6) 23 3 (.int .i64 0) 8 rfl Tryd.underlying23 info3 rfl (by decide) (by omega) _ [] l (some ad) l.length c (fun _ => True) (fun _ => False) rfl rfl hE HL2.out (fun _ _ h => h) (fun _ h => h.elim) (fun _ _ => trivial) hB (by simp) (by simp; omega) ?_; intro v1 w1 ho hb hg hat; have HO := Lib.hid ho; have HB := Lib.hid hb; clear ho hb hg hat hE hB)
    go_ret
    exact ⟨_, rfl, by simpa using HO.out, HB.out⟩
theorem R_one (w : World) (n : Int) : (Kd.int .i64).R 3 (w.alloc (.cells #[.int .i64 n] 3)) w.heap.size (fun _ => True) (.slice (some ⟨w.heap.size, 0, none⟩) 1 1) [n] :=
  ⟨fun _ _ => trivial, [.int .i64 n], ⟨by simp [Kd.int, Kd.scalar], .inr ⟨w.heap.size, 1, #[.int .i64 n], rfl, Nat.le_refl _, Array.getElem?_push_size, Nat.le_refl _, by decide, by simp [Kd.int, Kd.scalar], by simp [Kd.int, Kd.scalar]⟩⟩, by
    refine ⟨by simp [Kd.int, Kd.scalar], fun j p hj => ?_⟩
    cases j with
    | zero => simp at hj; subst hj; rfl
    | succ j => simp at hj⟩
set_option maxRecDepth 100000 in
set_option maxHeartbeats 400000 in
theorem members_calls (A : Option Addr) (c : Nat) (g : List S37) (n : Int) (w : World) (hg : Kd.C k37 w A g.length g) (hn : (rd_T37 g n).f4.length < 17592186044416) :
    Calls Tryd.prog 26 #[.slice A g.length c, .int .i64 n] w fun e w' => ∃ v, e = .returned v ∧ Kd.R (Kd.int .i64) 3 w' w.heap.size (fun _ => True) v (membersL g n) ∧ Below w.heap.size w w' := by
  have HG := Lib.hid hg
  clear hg
  by_cases h1 : n < 0
  · have d1 : decide (n < 0) = true := decide_eq_true h1
    have HM := Lib.hid (show membersL g n = [] from if_pos (.inl h1))
    go_enter Tryd.func26, Tryd.ntmps26
    go_wp2
    go_ret
    exact ⟨_, rfl, by rw [HM.out]; exact Kd.R_nil _ _ _ _ _, Below.refl _ _⟩
  · have d1 : decide (n < 0) = false := decide_eq_false h1
    by_cases h2 : (g.length : Int) ≤ n
    · have d2 : decide ((g.length : Int) ≤ n) = true := decide_eq_true h2
      have HM := Lib.hid (show membersL g n = [] from if_pos (.inr h2))
      go_enter Tryd.func26, Tryd.ntmps26
      go_wp2
      go_ret
      exact ⟨_, rfl, by rw [HM.out]; exact Kd.R_nil _ _ _ _ _, Below.refl _ _⟩
    · have d2 : decide ((g.length : Int) ≤ n) = false := decide_eq_false h2
      obtain ⟨ad, B3, b3, B4, b4, rfl, hk0, _, _, _, hk4, _, _, hl4, hc4⟩ := at_T37 HG.out n (by omega) (by omega)
      have i0 : 0 ≤ n := by omega
      have i1 : n < g.length := by omega
      by_cases h8 : (rd_T37 g n).f0 = 8
      · have n8 : ((rd_T37 g n).f0 == 8) = true := by simp [h8]
        have HM := Lib.hid (show membersL g n = (rd_T37 g n).f4 by unfold membersL; rw [if_neg (by omega), if_pos h8])
        have HC := Lib.hid (cloneI_calls B4 b4 (rd_T37 g n).f4 w hc4 hl4 hn)
        clear h8 h1 h2 hc4 hl4 hn
        go_enter Tryd.func26, Tryd.ntmps26
        go_wp2_with fail
        refine HC.out.mono ?_
        rintro e w' ⟨v, rfl, hr, hb⟩
        have HR := Lib.hid hr
        have HB := Lib.hid hb
        clear hr hb
        go_wp2
        go_ret
        exact ⟨_, rfl, by rw [HM.out]; exact HR.out, HB.out⟩
      · have n8 : ((rd_T37 g n).f0 == 8) = false := by simp [h8]
        have HM := Lib.hid (show membersL g n = [n] by unfold membersL; rw [if_neg (by omega), if_neg h8])
        clear h8 h1 h2 hc4 hl4 hn
        go_enter Tryd.func26, Tryd.ntmps26
        go_wp2
        go_ret
        exact ⟨_, rfl, by rw [HM.out]; exact R_one w n, (Below.refl _ _).alloc (Nat.le_refl _) _⟩
end Go.Proofs.YtcljgfpcdlnlkaaDoor.Q
namespace Go.Proofs.YtcljgfpcdlnlkaaDoor.Q
open Go.RowKit Go.Proofs.YtcljgfpcdlnlkaaDoorW.PrintWords Mp
theorem may_calls (A : Option Addr) (g : List S37) (c : Nat) (x : S37) (A3 : Option Addr) (c3 : Nat) (A4 : Option Addr) (c4 : Nat) (w : World) (hk : KeysIn w) (hg : Kd.C k37 w A g.length g) (h3 : Kd.C Kd.string w A3 x.f3.length x.f3) (h4 : Kd.C (Kd.int .i64) w A4 x.f4.length x.f4)
    (hn3 : x.f3.length ≤ 9223372036854775807) (hn4 : x.f4.length ≤ 9223372036854775807) :
    Calls Tryd.prog 77 #[.slice A g.length c, .agg #[.int .i64 x.f0, .int .i64 x.f1, .string x.f2, .slice A3 x.f3.length c3, .slice A4 x.f4.length c4]] w fun e w' => e = .returned (.bool (mayB g x)) ∧ Below w.heap.size w w' := by
  by_cases h : x.f0 = 1
  · exact may_1 A g c x A3 c3 A4 c4 w hk hg h3 h4 hn3 hn4 h
  by_cases h2 : x.f0 = 2
  · exact may_2 A g c x A3 c3 A4 c4 w hk hg h3 h4 hn3 hn4 h2
  by_cases h3_ : x.f0 = 3
  · exact may_3 A g c x A3 c3 A4 c4 w hk hg h3 h4 hn3 hn4 h3_
  by_cases h4_ : x.f0 = 4
  · exact may_4 A g c x A3 c3 A4 c4 w hk hg h3 h4 hn3 hn4 h4_
  by_cases h5 : x.f0 = 5
  · exact may_5 A g c x A3 c3 A4 c4 w hk hg h3 h4 hn3 hn4 h5
  by_cases h7 : x.f0 = 7
  · exact may_7 A g c x A3 c3 A4 c4 w hk hg h3 h4 hn3 hn4 h7
  by_cases h8 : x.f0 = 8
  · exact may_8 A g c x A3 c3 A4 c4 w hk hg h3 h4 hn3 hn4 h8
  by_cases h9 : x.f0 = 9
  · exact may_9 A g c x A3 c3 A4 c4 w hk hg h3 h4 hn3 hn4 h9
  · exact may_other A g c x A3 c3 A4 c4 w hk hg h3 h4 hn3 hn4 ⟨h, h2, h3_, h4_, h5, h7, h8, h9⟩
/-- What graph.Check answers. -/
def checkP (g : List S37) : Int := if 2000 < g.length then 5 else if g.all (mayB g) = true then 0 else 2
theorem rd_get (g : List S37) (k : Nat) (hk : k < g.length) : rd_T37 g k = g[k] := by
  unfold rd_T37
  rw [Int.toNat_natCast, List.getD_eq_getElem?_getD, List.getElem?_eq_getElem hk]
  rfl
set_option maxRecDepth 100000 in
set_option maxHeartbeats 400000 in
theorem check_calls (A : Option Addr) (g : List S37) (c : Nat) (w : World) (hk : KeysIn w) (hg : Kd.C k37 w A g.length g) (hs : ∀ x ∈ g, x.f3.length ≤ 9223372036854775807 ∧ x.f4.length ≤ 9223372036854775807) :
    Calls Tryd.prog 37 #[.slice A g.length c] w fun e w' => e = .returned (.int .i64 (checkP g)) ∧ Below w.heap.size w w' := by
  have HK := Lib.hid hk
  have HG := Lib.hid hg
  have HS := Lib.hid hs
  clear hk hg hs
  by_cases h1 : 2000 < g.length
  · have d1 : decide (2000 < (g.length : Int)) = true := decide_eq_true (by omega)
    have d1b : decide (2000 < g.length) = true := decide_eq_true h1
    have HC := Lib.hid (show checkP g = 5 from if_pos h1)
    clear h1
    go_enter Tryd.func37, Tryd.ntmps37
    go_wp2
    go_ret
    exact ⟨by rw [HC.out]; rfl, Below.refl _ _⟩
  · have d1 : decide (2000 < (g.length : Int)) = false := decide_eq_false (by omega)
    have d1b : decide (2000 < g.length) = false := decide_eq_false h1
    have HC := Lib.hid (show checkP g = if g.all (mayB g) = true then 0 else 2 from if_neg h1)
    have hlen : g.length ≤ 2000 := by omega
    clear h1
    go_enter Tryd.func37, Tryd.ntmps37
    go_wp2
    go_loopw [10] (fun i W => ∃ k : Nat, k ≤ g.length ∧ i = .int .i64 k ∧ Hid ((∀ j : Nat, j < k → mayB g (rd_T37 g j) = true) ∧ Below w.heap.size w W)) (fun i _ => g.length - (intOf i).toNat)
    case atStart => exact ⟨0, Nat.zero_le _, rfl, Lib.hid ⟨fun j hj => absurd hj (by omega), Below.refl _ _⟩⟩
    case round =>
      obtain ⟨k, hk, rfl, HI⟩ := hrel
      by_cases hlt : k < g.length
      · have hgr := Kd.C_below HG.out HI.out.2
        obtain ⟨ad, B3, b3, B4, b4, rfl, hk0, hk1, hk2, hk3, hk4, hl3, hc3, hl4, hc4⟩ := at_node hgr k hlt
        have hsm := HS.out (rd_T37 g k) (by rw [rd_get g k hlt]; exact List.getElem_mem _)
        have HM := Lib.hid (may_calls _ g c (rd_T37 g k) B3 b3 B4 b4 (wr.alloc (.cells #[.int .i64 (rd_T37 g k).f0, .int .i64 (rd_T37 g k).f1, .string (rd_T37 g k).f2, .slice B3 (rd_T37 g k).f3.length b3, .slice B4 (rd_T37 g k).f4.length b4] 37)) ((HK.out.below HI.out.2).below ((Below.refl _ _).alloc (Nat.le_refl _) _)) (Kd.C_alloc hgr _) (Kd.C_alloc hc3 _) (Kd.C_alloc hc4 _) hsm.1 hsm.2)
        have HB2 := Lib.hid (HI.out.2.alloc HI.out.2.size (.cells #[.int .i64 (rd_T37 g k).f0, .int .i64 (rd_T37 g k).f1, .string (rd_T37 g k).f2, .slice B3 (rd_T37 g k).f3.length b3, .slice B4 (rd_T37 g k).f4.length b4] 37))
        clear hgr hl3 hc3 hl4 hc4 hsm
        go_wp2_with fail
        refine HM.out.mono ?_
        rintro e w' ⟨rfl, hb⟩
        have HB3 := Lib.hid (HB2.out.trans (hb.mono HB2.out.size))
        clear hb
        cases hm : mayB g (rd_T37 g k) with
        | true =>
          go_wp2
          go_roundw
          case rel => exact ⟨k + 1, by omega, by go_num, Lib.hid ⟨fun j hj => if h : j = k then by rw [h]; exact hm else HI.out.1 j (by omega), HB3.out⟩⟩
          case measure => simp [intOf]; omega
        | false =>
          have HA := Lib.hid (show checkP g = 2 by rw [HC.out, if_neg (by rw [List.all_eq_false.2 ⟨rd_T37 g k, by rw [rd_get g k hlt]; exact List.getElem_mem _, by rw [hm]; exact Bool.false_ne_true⟩]; exact Bool.false_ne_true)])
          go_wp2
          go_ret
          exact ⟨by rw [HA.out]; rfl, HB3.out⟩
      · obtain rfl : k = g.length := by omega
        have HA := Lib.hid (show checkP g = 0 by
          rw [HC.out, if_pos (List.all_eq_true.2 (fun y hy => by
            obtain ⟨i, hi, rfl⟩ := List.getElem_of_mem hy
            rw [← rd_get g i hi]
            exact HI.out.1 i hi))])
        go_wp2
        go_ret
        exact ⟨by rw [HA.out]; rfl, HI.out.2⟩
end Go.Proofs.YtcljgfpcdlnlkaaDoor.Q
