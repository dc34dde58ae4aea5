/- PROVED: two frames, two entries are compared by their fields and slots. Conditions: 24 slots each. -/
import Derived.Test.YtblgcodkbapccaaCertWalk
namespace Go.Proofs.Ytblgcodkbapccaa.CertWalk
open Go.RowKit Go.Proofs.Ytblgcodkbapccaa.PCertChecks Go.Proofs.YtblgcodkbapccaaW.PrintWords Go.Proofs.YtblgcodkbapccaaW.PrintLast Go.Proofs.YtblgcodkbapccaaW.PrintMore
attribute [local go_sem] max2_int min2_int max_two min_two max_three min_three max_four min_four
set_option linter.unusedVariables false
set_option linter.unusedSimpArgs false

theorem eqU8 (d : Nat) (a b : Int) (W : World) : (Op.equalIn (d + 1) 78 (.int .u8 a) (.int .u8 b)).run Try.prog W = .ok (a == b) W := by
  simp [Op.equalIn, Sem.run_bind, run_underlying Try.underlying78]
theorem eqI64 (d : Nat) (a b : Int) (W : World) : (Op.equalIn (d + 1) 3 (.int .i64 a) (.int .i64 b)).run Try.prog W = .ok (a == b) W := by
  simp [Op.equalIn, Sem.run_bind, run_underlying Try.underlying3]
theorem eqBool (d : Nat) (a b : Bool) (W : World) : (Op.equalIn (d + 1) 4 (.bool a) (.bool b)).run Try.prog W = .ok (a == b) W := by
  simp [Op.equalIn, Sem.run_bind, run_underlying Try.underlying4]
theorem part_one {t : TypeId} {d : TypeDesc} (hu : Try.prog.underlying t = some d) (hd : (match d with | .struct _ | .array _ _ => true | _ => false) = false) {xs : Array Value} {o : Nat} {v : Value} (hx : xs[o]? = some v) (W : World) : (part t xs o).run Try.prog W = .ok v W := by
  unfold part isAgg
  simp only [Sem.run_bind, run_underlying hu]
  cases d <;> simp_all
theorem part_agg {t : TypeId} {d : TypeDesc} {n : Nat} (hu : Try.prog.underlying t = some d) (hd : (match d with | .struct _ | .array _ _ => true | _ => false) = true) (hi : (Try.prog.info? t).map (·.size) = some n) (xs : Array Value) (o : Nat) (W : World) : (part t xs o).run Try.prog W = .ok (.agg (xs.extract o (o + n))) W := by
  unfold part isAgg
  simp only [Sem.run_bind, run_underlying hu]
  cases d <;> simp_all [size_map hi]
theorem eqItems_ints (d : Nat) (l l' : List Int) (W : World) : ∀ is : List Nat, (∀ i ∈ is, i < l.length ∧ i < l'.length) →
    (Op.eqItems (d + 1) 78 1 (l.map (Value.int .u8)).toArray (l'.map (Value.int .u8)).toArray is).run Try.prog W = .ok (is.all (fun i => l.getD i 0 == l'.getD i 0)) W
  | [], _ => by simp [Op.eqItems]
  | i :: is, h => by
    obtain ⟨h1, h2⟩ := h i (by simp)
    have ih := eqItems_ints d l l' W is (fun j hj => h j (by simp [hj]))
    have p1 := part_one (t := 78) (xs := (l.map (Value.int .u8)).toArray) (o := i * 1) (v := .int .u8 (l.getD i 0)) Try.underlying78 rfl (by simp [List.getElem?_eq_getElem h1]) W
    have p2 := part_one (t := 78) (xs := (l'.map (Value.int .u8)).toArray) (o := i * 1) (v := .int .u8 (l'.getD i 0)) Try.underlying78 rfl (by simp [List.getElem?_eq_getElem h2]) W
    simp only [Op.eqItems, Sem.run_bind, p1, p2, Result.andThen_ok, eqU8, List.all_cons]
    cases hc : (l.getD i 0 == l'.getD i 0)
    · simp
    · simp [ih]
theorem all_eq_iff (l l' : List Int) (h : l.length = l'.length) : (List.range l.length).all (fun i => l.getD i 0 == l'.getD i 0) = (l == l') := by
  rw [Bool.eq_iff_iff, List.all_eq_true, beq_iff_eq]
  constructor
  · intro hh
    apply List.ext_getElem h
    intro i h1 h2
    have := hh i (List.mem_range.2 h1)
    simpa [List.getElem?_eq_getElem h1, List.getElem?_eq_getElem h2] using this
  · rintro rfl i _
    exact beq_self_eq_true _
theorem eqSlots (d : Nat) (l l' : List Int) (h : l.length = 24) (h' : l'.length = 24) (W : World) : (Op.equalIn (d + 2) 95 (.agg (l.map (Value.int .u8)).toArray) (.agg (l'.map (Value.int .u8)).toArray)).run Try.prog W = .ok (l == l') W := by
  obtain ⟨i, hi⟩ : ∃ i, Try.prog.info? 78 = some i := by
    have := size_map (t := 78) (n := 1) (by kernel_rfl) W
    cases hq : Try.prog.info? 78 with
    | none => exact absurd hq (by intro hq; have : (Try.prog.info? 78).isSome = true := by kernel_rfl
                                  rw [hq] at this; cases this)
    | some i => exact ⟨i, rfl⟩
  rw [run_equalIn_array W (d + 1) _ _ Try.underlying95 hi, show Try.prog.cellsOf 78 = 1 from by kernel_rfl, eqItems_ints d l l' W _ (fun i hi => by rw [h, h']; exact ⟨List.mem_range.1 hi, List.mem_range.1 hi⟩)]
  rw [← all_eq_iff l l' (by omega), h]
theorem eqFrame (d : Nat) (a b a' b' : Int) (l l' : List Int) (h : l.length = 24) (h' : l'.length = 24) (W : World) : (Op.equalIn (d + 3) 97 (.agg (frameCells a b l).toArray) (.agg (frameCells a' b' l').toArray)).run Try.prog W = .ok (a == a' && (b == b' && (l == l'))) W := by
  have he : ∀ (a b : Int) (l : List Int), l.length = 24 → (frameCells a b l).toArray.extract 2 (2 + 24) = (l.map (Value.int .u8)).toArray := by
    intro a b l h
    apply Array.ext'
    simp [frameCells, List.take_of_length_le, h]
  refine eqA_of Try.underlying97 (by kernel_rfl) ?_
  refine eqf_cons rfl (part_one Try.underlying3 rfl rfl W) (part_one Try.underlying3 rfl rfl W) (eqI64 _ _ _ W) ?_
  refine eqf_cons rfl (part_one Try.underlying3 rfl rfl W) (part_one Try.underlying3 rfl rfl W) (eqI64 _ _ _ W) ?_
  refine eqf_last rfl (part_agg (n := 24) Try.underlying95 rfl (by kernel_rfl) _ _ W) (part_agg (n := 24) Try.underlying95 rfl (by kernel_rfl) _ _ W) ?_
  rw [he a b l h, he a' b' l' h']
  exact eqSlots _ l l' h h' W
theorem eqEnt (d : Nat) (x y : Ent) (h : x.sl.length = 24) (h' : y.sl.length = 24) (W : World) : (Op.equalIn (d + 4) 99 (.agg x.cells.toArray) (.agg y.cells.toArray)).run Try.prog W = .ok (x.ad == y.ad && (x.dead == y.dead && (x.loc == y.loc && (x.hgt == y.hgt && (x.sl == y.sl))))) W := by
  have he : ∀ x : Ent, x.sl.length = 24 → x.cells.toArray.extract 2 (2 + 26) = (frameCells x.loc x.hgt x.sl).toArray := by
    intro x h
    apply Array.ext'
    simp [Ent.cells, List.take_of_length_le, frameCells_len, h]
  refine eqA_of Try.underlying99 (by kernel_rfl) ?_
  refine eqf_cons rfl (part_one Try.underlying3 rfl rfl W) (part_one Try.underlying3 rfl rfl W) (eqI64 _ _ _ W) ?_
  refine eqf_cons rfl (part_one Try.underlying4 rfl rfl W) (part_one Try.underlying4 rfl rfl W) (eqBool _ _ _ W) ?_
  refine eqf_last rfl (part_agg (n := 26) Try.underlying97 rfl (by kernel_rfl) _ _ W) (part_agg (n := 26) Try.underlying97 rfl (by kernel_rfl) _ _ W) ?_
  rw [he x h, he y h']
  exact eqFrame _ _ _ _ _ _ _ h h' W
end Go.Proofs.Ytblgcodkbapccaa.CertWalk
