/- PROVED: a slice that reads as data, of elements of whatever type, is a row of cells that are read element by element ('ReadsRow'), as soon as each element's cells tell an element. Conditions: none beyond the lemmas' own hypotheses. -/
import Derived.Test.YtblgcodkbapccaaWWords
import Derived.Deep.Slices
import Derived.ChangeSame
import Derived.SizedLaws
namespace Go.Proofs.Ytblgcodkbapccaa.OpenRows
open Go.RowKit Go.ChangeShapes Go.WideShapes Go.Deep Go.Proofs.YtblgcodkbapccaaW.PrintWords

/-- From an element at each place to the row. -/
theorem reads_of {α : Type} {R : α → List Value → Prop} {size : Nat} {w : World} {ad : Addr} {n : Nat} (hn : n ≤ 9223372036854775807)
    (h : ∀ i, i < n → ∃ (x : α) (c : List Value), c.length = size ∧ R x c ∧ ∀ j u, c[j]? = some u → w.cell? (ad.add (i * size + j)) = some u) :
    ∃ xs : List α, ReadsRow R size w (some ad) n xs := by
  have key : ∀ m, m ≤ n → ∃ xs : List α, xs.length = m ∧ ∀ j p, xs[j]? = some p → ∃ c, c.length = size ∧ R p c ∧ ∀ i u, c[i]? = some u → w.cell? (ad.add (j * size + i)) = some u := by
    intro m
    induction m with
    | zero => exact fun _ => ⟨[], rfl, fun j p hj => by simp at hj⟩
    | succ m ih =>
      intro hm
      obtain ⟨xs, hl, hx⟩ := ih (by omega)
      obtain ⟨x, c, hc⟩ := h m (by omega)
      refine ⟨xs ++ [x], by simp [hl], fun j p hj => ?_⟩
      by_cases hjm : j < xs.length
      · rw [List.getElem?_append_left hjm] at hj
        exact hx j p hj
      · rw [List.getElem?_append_right (by omega)] at hj
        have h0 : j - xs.length = 0 := by
          rcases Nat.eq_zero_or_pos (j - xs.length) with h0 | h0
          · exact h0
          · rw [List.getElem?_eq_none (by simp; omega)] at hj
            cases hj
        rw [h0] at hj
        simp only [List.getElem?_cons_zero, Option.some.injEq] at hj
        subst hj
        have : j = m := by omega
        subst this
        exact ⟨c, hc⟩
  obtain ⟨xs, hl, hx⟩ := key n (Nat.le_refl _)
  exact ⟨xs, hl, hn, fun _ => ⟨ad, rfl, hx⟩⟩

section
variable {H : Type} {enc : TypeId × Value → H} {P : Program} {w : World} {base : Nat} {spare : Nat → Bool} {held : Bool}
/-- A slice's one cell, opened: nil, or a row. hel: an element's cells, read with less fuel, tell an element. -/
theorem open_row_cs {α : Type} {R : α → List Value → Prop} {size fuel : Nat} {t e : TypeId} {cs : List Value} {y : DataW H × List MemPlace} (ht : P.underlying t = some (.slice e)) (hC : P.cellsOf e = size)
    (h : DataW.trod enc P w base spare held fuel t cs = some y) (hel : ∀ n, n < fuel → ∀ (cs : List Value) (z : DataW H × List MemPlace), DataW.trod enc P w base spare held n e cs = some z → ∃ x : α, R x cs) :
    (cs = [.slice none 0 0] ∧ y.1 = .nil) ∨ ∃ (a : Addr) (len cap : Nat) (xs : List α) (elems spares : List (DataW H)), cs = [.slice (some a) len cap] ∧ len ≤ cap ∧ y.1 = .slice elems spares ∧ elems.length = len ∧ ReadsRow R size w (some a) len xs := by
  rcases DataW.trod_slice ht h with ⟨h0, h1⟩ | ⟨a, len, cap, elems, rest, n, hfu, hcs, hy, _, hl, hm, hlen, hx, _, _⟩
  · exact .inl ⟨h0, by rw [h1]⟩
  · have hm' : len ≤ 9223372036854775807 := by unfold maxLen at hm; omega
    obtain ⟨xs, hxs⟩ := reads_of (R := R) (size := size) (w := w) (ad := a) (n := len) hm' (fun i hi => by
      have h1 := hx i hi
      rw [List.getElem?_eq_getElem (by omega)] at h1
      obtain ⟨cs', h2, h3⟩ := Option.bind_eq_some_iff.1 h1
      obtain ⟨_, hcl, hat⟩ := World.cells?_some h2
      obtain ⟨x, hR⟩ := hel n (by omega) cs' _ h3
      rw [hC] at hcl hat
      refine ⟨x, cs', hcl, hR, fun j u hu => ?_⟩
      have hj : j < size := by
        rw [← hcl]
        exact (List.getElem?_eq_some_iff.1 hu).1
      rw [← hu, ← hat j hj, Go.Deep.add_add])
    exact .inr ⟨a, len, cap, xs, elems.map (·.1), rest.map (·.1), hcs, hl, by rw [hy], by rw [List.length_map, hlen], hxs⟩

/-- An argument that is a slice. -/
theorem open_row {α : Type} {R : α → List Value → Prop} {size : Nat} {t e : TypeId} {A : Option Addr} {len cap : Nat} {d : DataW H} {ps : List MemPlace} (ht : P.underlying t = some (.slice e)) (hC : P.cellsOf e = size)
    (h : DataW.Trod enc P w base spare held t (.slice A len cap) d ps) (hel : ∀ (n : Nat) (cs : List Value) (z : DataW H × List MemPlace), DataW.trod enc P w base spare held n e cs = some z → ∃ x : α, R x cs) :
    ∃ xs : List α, len ≤ cap ∧ ReadsRow R size w A len xs ∧ (len = 0 ∨ ∃ elems spares : List (DataW H), d = .slice elems spares ∧ elems.length = len) := by
  obtain ⟨fuel, hf⟩ := h
  rcases open_row_cs ht hC hf (fun n _ => hel n) with ⟨h0, _⟩ | ⟨a, l, c, xs, elems, spares, hcs, hl, hd, hlen, hr⟩
  · simp [Value.cells] at h0
    obtain ⟨rfl, rfl, rfl⟩ := h0
    exact ⟨[], Nat.le_refl _, ⟨rfl, by omega, fun h => absurd h (Nat.lt_irrefl 0)⟩, .inl rfl⟩
  · simp [Value.cells] at hcs
    obtain ⟨rfl, rfl, rfl⟩ := hcs
    exact ⟨xs, hl, hr, .inr ⟨elems, spares, hd, hlen⟩⟩
end
end Go.Proofs.Ytblgcodkbapccaa.OpenRows
