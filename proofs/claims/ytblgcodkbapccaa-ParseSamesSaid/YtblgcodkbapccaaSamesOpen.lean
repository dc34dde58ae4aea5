/- PROVED: a Program that reads as data is made of the kinds' rows, each list inside within the reach. Conditions: the data's sizes within the reach. -/
import Derived.Test.YtblgcodkbapccaaSamesLaw
import Derived.Test.YtblgcodkbapccaaOpenRows
import Derived.ChangeSame
import Derived.SizedLaws
import Derived.ProofKit
import Derived.Lib.SmallJoins
import Derived.Deep.Strs
namespace Go.Proofs.Ytblgcodkbapccaa.SamesWalk
open Go.Deep Go.ChangeShapes Go.WideShapes Go.Joins Go.Proofs.Ytblgcodkbapccaa.OpenRows Go.RowKit Go.Proofs.Ytblgcodkbapccaa.PParseSames Go.Proofs.YtblgcodkbapccaaW.PrintWords Go.Proofs.YtblgcodkbapccaaW.PrintLast Go.Proofs.YtblgcodkbapccaaW.PrintMore
attribute [local go_sem] max2_int min2_int max_two min_two max_three min_three max_four min_four
set_option linter.unusedVariables false
set_option linter.unusedSimpArgs false

theorem cells3 : Try.prog.cellsOf 3 = 1 := by kernel_rfl
theorem cells9 : Try.prog.cellsOf 9 = 1 := by kernel_rfl
theorem cells78 : Try.prog.cellsOf 78 = 1 := by kernel_rfl
theorem cells74 : Try.prog.cellsOf 74 = 1 := by kernel_rfl
theorem cells107 : Try.prog.cellsOf 107 = 1 := by kernel_rfl
theorem cells81 : Try.prog.cellsOf 81 = 1 := by kernel_rfl
theorem cells80 : Try.prog.cellsOf 80 = 4 := by kernel_rfl
theorem cells111 : Try.prog.cellsOf 111 = 8 := by kernel_rfl
theorem cells109 : Try.prog.cellsOf 109 = 10 := by kernel_rfl
theorem cells76 : Try.prog.cellsOf 76 = 4 := by kernel_rfl
theorem cells83 : Try.prog.cellsOf 83 = 7 := by kernel_rfl
theorem cells38 : Try.prog.cellsOf 38 = 2 := by kernel_rfl
theorem cells35 : Try.prog.cellsOf 35 = 1 := by kernel_rfl
theorem cells36 : Try.prog.cellsOf 36 = 1 := by kernel_rfl
theorem bytes80 : Try.prog.bytesOf 80 = 48 := by kernel_rfl
theorem bytes111 : Try.prog.bytesOf 111 = 88 := by kernel_rfl
theorem bytes109 : Try.prog.bytesOf 109 = 144 := by kernel_rfl
theorem bytes76 : Try.prog.bytesOf 76 = 64 := by kernel_rfl
theorem bytes83 : Try.prog.bytesOf 83 = 104 := by kernel_rfl
theorem weights_mem_all {H : Type} {P : Program} {e : TypeId} : ∀ {ds : List (DataW H)} {d : DataW H}, d ∈ ds → ∀ n ∈ d.weights P e, n ∈ DataW.weightsAll P e ds
  | x :: xs, d, h, n, hn => by
    rcases List.mem_cons.1 h with rfl | h
    · exact List.mem_append_left _ hn
    · exact List.mem_append_right _ (weights_mem_all h n hn)
section
variable {H : Type} {enc : TypeId × Value → H} {w : World} {base : Nat} {spare : Nat → Bool} {held : Bool}
/-- A slice's one cell, opened: a row of elements of a kind, its bytes within the reach, and what each element tells. -/
theorem open_slice_w {α : Type} {d : Kd α} {T : α → Prop} {fuel : Nat} {t e : TypeId} {b : Nat} {v : Value} {y : DataW H × List MemPlace} (ht : Try.prog.underlying t = some (.slice e)) (hC : Try.prog.cellsOf e = d.sz) (hb : Try.prog.bytesOf e = b)
    (h : DataW.trod enc Try.prog w base spare held fuel t [v] = some y) (hw : ∀ m ∈ y.1.weights Try.prog t, m ≤ reachBytes)
    (hel : ∀ n, n < fuel → ∀ (cs : List Value) (z : DataW H × List MemPlace), DataW.trod enc Try.prog w base spare held n e cs = some z → (∀ m ∈ z.1.weights Try.prog e, m ≤ reachBytes) → ∃ x : α, d.K w x cs ∧ T x) :
    ∃ (A : Option Addr) (c : Nat) (xs : List α), [v] = [.slice A xs.length c] ∧ xs.length ≤ c ∧ Kd.C d w A xs.length xs ∧ xs.length * b ≤ 140737488355328 ∧ ∀ x ∈ xs, T x := by
  rcases DataW.trod_slice ht h with ⟨h0, _⟩ | ⟨a, len, cap, elems, rest, n, hfu, hcs, hy, _, hl, hm, hlen, hx, _, _⟩
  · exact ⟨none, 0, [], h0, Nat.le_refl _, ⟨rfl, by simp, fun h => absurd h (by simp)⟩, by simp, fun x hx => by simp at hx⟩
  · have hm' : len ≤ 9223372036854775807 := by unfold maxLen at hm; omega
    have hwt : ∀ m ∈ (elems.length + rest.length) * b :: (DataW.weightsAll Try.prog e (elems.map (·.1)) ++ DataW.weightsAll Try.prog e (rest.map (·.1))), m ≤ reachBytes := fun m hm => hw m (by rw [hy]; simp only [DataW.weights, ht, List.length_map, hb]; exact hm)
    obtain ⟨xs, hxs⟩ := reads_of (R := fun (x : α) cs => d.K w x cs ∧ T x) (size := d.sz) (w := w) (ad := a) (n := len) hm' (fun i hi => by
      have h1 := hx i hi
      rw [List.getElem?_eq_getElem (by omega)] at h1
      obtain ⟨cs', h2, h3⟩ := Option.bind_eq_some_iff.1 h1
      obtain ⟨_, hcl, hat⟩ := World.cells?_some h2
      obtain ⟨x, hR⟩ := hel n (by omega) cs' _ h3 (fun m hm => hwt m (List.mem_cons_of_mem _ (List.mem_append_left _ (weights_mem_all (List.mem_map.2 ⟨_, List.getElem_mem (by omega), rfl⟩) m hm))))
      rw [hC] at hcl hat
      refine ⟨x, cs', hcl, hR, fun j u hu => ?_⟩
      have hj : j < d.sz := by
        rw [← hcl]
        exact (List.getElem?_eq_some_iff.1 hu).1
      rw [← hu, ← hat j hj, Go.Deep.add_add])
    have hxl : xs.length = len := hxs.1
    refine ⟨some a, cap, xs, by rw [hxl]; exact hcs, by omega, by rw [hxl]; exact hxs.imp_ (Below.refl _ _) (fun _ _ h => h.1), ?_, fun x hx => ?_⟩
    · have h1 := hwt _ List.mem_cons_self
      have h2 : reachBytes = 140737488351232 := rfl
      have h3 : xs.length * b ≤ (elems.length + rest.length) * b := Nat.mul_le_mul_right b (by omega)
      omega
    · obtain ⟨i, hi, rfl⟩ := List.mem_iff_getElem.1 hx
      obtain ⟨ad, _, hg⟩ := hxs.2.2 (by omega)
      obtain ⟨c, _, hRc, _⟩ := hg i _ (List.getElem?_eq_getElem hi)
      exact hRc.2

set_option maxRecDepth 100000 in
theorem open80 (n : Nat) (cs : List Value) (z : DataW H × List MemPlace) (h : DataW.trod enc Try.prog w base spare held n 80 cs = some z) (hw : ∀ m ∈ z.1.weights Try.prog 80, m ≤ reachBytes) : ∃ x : S80, k80.K w x cs ∧ True := by
  obtain ⟨xs, n', hfu, hz, hl, hlen, hf⟩ := DataW.trod_struct Try.underlying80 h
  rw [cells80] at hl
  obtain ⟨v0, v1, v2, v3, hcs⟩ : ∃ v0 v1 v2 v3, cs = [v0, v1, v2, v3] := by
    match cs, hl with
    | [v0, v1, v2, v3], _ => exact ⟨v0, v1, v2, v3, rfl⟩
  obtain ⟨y0, y1, y2, y3, hxs⟩ : ∃ y0 y1 y2 y3, xs = [y0, y1, y2, y3] := by
    match xs, hlen with
    | [y0, y1, y2, y3], _ => exact ⟨y0, y1, y2, y3, rfl⟩
  subst hcs hxs hfu hz
  have h0 : DataW.trod enc Try.prog w base spare held n' 3 [v0] = some y0 := by have q := hf 0 _ rfl; have q2 : DataW.trod enc Try.prog w base spare held n' 3 ((List.drop 0 [v0, v1, v2, v3]).take (Try.prog.cellsOf 3)) = some y0 := q; rw [cells3] at q2; exact q2
  have h1 : DataW.trod enc Try.prog w base spare held n' 9 [v1] = some y1 := by have q := hf 1 _ rfl; have q2 : DataW.trod enc Try.prog w base spare held n' 9 ((List.drop 1 [v0, v1, v2, v3]).take (Try.prog.cellsOf 9)) = some y1 := q; rw [cells9] at q2; exact q2
  have h2 : DataW.trod enc Try.prog w base spare held n' 9 [v2] = some y2 := by have q := hf 2 _ rfl; have q2 : DataW.trod enc Try.prog w base spare held n' 9 ((List.drop 2 [v0, v1, v2, v3]).take (Try.prog.cellsOf 9)) = some y2 := q; rw [cells9] at q2; exact q2
  have h3 : DataW.trod enc Try.prog w base spare held n' 78 [v3] = some y3 := by have q := hf 3 _ rfl; have q2 : DataW.trod enc Try.prog w base spare held n' 78 ((List.drop 3 [v0, v1, v2, v3]).take (Try.prog.cellsOf 78)) = some y3 := q; rw [cells78] at q2; exact q2
  clear hf
  obtain ⟨a0, e0, _, _⟩ := DataW.trod_int Try.underlying3 h0
  obtain ⟨a1, e1, _, _⟩ := DataW.trod_string Try.underlying9 h1
  obtain ⟨a2, e2, _, _⟩ := DataW.trod_string Try.underlying9 h2
  obtain ⟨a3, e3, _, _⟩ := DataW.trod_int Try.underlying78 h3
  simp only [List.cons.injEq, and_true] at e0 e1 e2 e3
  subst e0 e1 e2 e3
  exact ⟨⟨a0, a1, a2, a3⟩, k80_mk w (⟨a0, a1, a2, a3⟩ : S80) , trivial⟩
set_option maxRecDepth 100000 in
theorem open111 (n : Nat) : ∀ (cs : List Value) (z : DataW H × List MemPlace), DataW.trod enc Try.prog w base spare held n 111 cs = some z → (∀ m ∈ z.1.weights Try.prog 111, m ≤ reachBytes) → ∃ x : S111, k111.K w x cs ∧ FitE x := by
  induction n using Nat.strongRecOn with
  | _ n ih =>
  intro cs z h hw
  obtain ⟨xs, n', hfu, hz, hl, hlen, hf⟩ := DataW.trod_struct Try.underlying111 h
  rw [cells111] at hl
  obtain ⟨v0, v1, v2, v3, v4, v5, v6, v7, hcs⟩ : ∃ v0 v1 v2 v3 v4 v5 v6 v7, cs = [v0, v1, v2, v3, v4, v5, v6, v7] := by
    match cs, hl with
    | [v0, v1, v2, v3, v4, v5, v6, v7], _ => exact ⟨v0, v1, v2, v3, v4, v5, v6, v7, rfl⟩
  obtain ⟨y0, y1, y2, y3, y4, y5, y6, y7, hxs⟩ : ∃ y0 y1 y2 y3 y4 y5 y6 y7, xs = [y0, y1, y2, y3, y4, y5, y6, y7] := by
    match xs, hlen with
    | [y0, y1, y2, y3, y4, y5, y6, y7], _ => exact ⟨y0, y1, y2, y3, y4, y5, y6, y7, rfl⟩
  subst hcs hxs hfu hz
  have h0 : DataW.trod enc Try.prog w base spare held n' 3 [v0] = some y0 := by have q := hf 0 _ rfl; have q2 : DataW.trod enc Try.prog w base spare held n' 3 ((List.drop 0 [v0, v1, v2, v3, v4, v5, v6, v7]).take (Try.prog.cellsOf 3)) = some y0 := q; rw [cells3] at q2; exact q2
  have h1 : DataW.trod enc Try.prog w base spare held n' 3 [v1] = some y1 := by have q := hf 1 _ rfl; have q2 : DataW.trod enc Try.prog w base spare held n' 3 ((List.drop 1 [v0, v1, v2, v3, v4, v5, v6, v7]).take (Try.prog.cellsOf 3)) = some y1 := q; rw [cells3] at q2; exact q2
  have h2 : DataW.trod enc Try.prog w base spare held n' 9 [v2] = some y2 := by have q := hf 2 _ rfl; have q2 : DataW.trod enc Try.prog w base spare held n' 9 ((List.drop 2 [v0, v1, v2, v3, v4, v5, v6, v7]).take (Try.prog.cellsOf 9)) = some y2 := q; rw [cells9] at q2; exact q2
  have h3 : DataW.trod enc Try.prog w base spare held n' 3 [v3] = some y3 := by have q := hf 3 _ rfl; have q2 : DataW.trod enc Try.prog w base spare held n' 3 ((List.drop 3 [v0, v1, v2, v3, v4, v5, v6, v7]).take (Try.prog.cellsOf 3)) = some y3 := q; rw [cells3] at q2; exact q2
  have h4 : DataW.trod enc Try.prog w base spare held n' 107 [v4] = some y4 := by have q := hf 4 _ rfl; have q2 : DataW.trod enc Try.prog w base spare held n' 107 ((List.drop 4 [v0, v1, v2, v3, v4, v5, v6, v7]).take (Try.prog.cellsOf 107)) = some y4 := q; rw [cells107] at q2; exact q2
  have w4 : ∀ m ∈ y4.1.weights Try.prog 107, m ≤ reachBytes := fun m hm => hw m (by simp only [DataW.weights, Try.underlying111]; exact DataW.weights_mem_each (j := 4) (t := 107) rfl rfl m hm)
  have h5 : DataW.trod enc Try.prog w base spare held n' 78 [v5] = some y5 := by have q := hf 5 _ rfl; have q2 : DataW.trod enc Try.prog w base spare held n' 78 ((List.drop 5 [v0, v1, v2, v3, v4, v5, v6, v7]).take (Try.prog.cellsOf 78)) = some y5 := q; rw [cells78] at q2; exact q2
  have h6 : DataW.trod enc Try.prog w base spare held n' 3 [v6] = some y6 := by have q := hf 6 _ rfl; have q2 : DataW.trod enc Try.prog w base spare held n' 3 ((List.drop 6 [v0, v1, v2, v3, v4, v5, v6, v7]).take (Try.prog.cellsOf 3)) = some y6 := q; rw [cells3] at q2; exact q2
  have h7 : DataW.trod enc Try.prog w base spare held n' 3 [v7] = some y7 := by have q := hf 7 _ rfl; have q2 : DataW.trod enc Try.prog w base spare held n' 3 ((List.drop 7 [v0, v1, v2, v3, v4, v5, v6, v7]).take (Try.prog.cellsOf 3)) = some y7 := q; rw [cells3] at q2; exact q2
  clear hf
  obtain ⟨a0, e0, _, _⟩ := DataW.trod_int Try.underlying3 h0
  obtain ⟨a1, e1, _, _⟩ := DataW.trod_int Try.underlying3 h1
  obtain ⟨a2, e2, _, _⟩ := DataW.trod_string Try.underlying9 h2
  obtain ⟨a3, e3, _, _⟩ := DataW.trod_int Try.underlying3 h3
  obtain ⟨A4, c4, a4, e4, l4, g4, b4, f4⟩ := open_slice_w (d := k111) (T := FitE) Try.underlying107 cells111 bytes111 h4 w4 (fun n'' hn cs z h hw => ih n'' (by omega) cs z h hw)
  obtain ⟨a5, e5, _, _⟩ := DataW.trod_int Try.underlying78 h5
  obtain ⟨a6, e6, _, _⟩ := DataW.trod_int Try.underlying3 h6
  obtain ⟨a7, e7, _, _⟩ := DataW.trod_int Try.underlying3 h7
  simp only [List.cons.injEq, and_true] at e0 e1 e2 e3 e4 e5 e6 e7
  subst e0 e1 e2 e3 e4 e5 e6 e7
  exact ⟨⟨a0, a1, a2, a3, a4, a5, a6, a7⟩, k111_mk w (⟨a0, a1, a2, a3, a4, a5, a6, a7⟩ : S111) l4 g4, FitE.mk _ b4 f4⟩
set_option maxRecDepth 100000 in
theorem open109 (n : Nat) : ∀ (cs : List Value) (z : DataW H × List MemPlace), DataW.trod enc Try.prog w base spare held n 109 cs = some z → (∀ m ∈ z.1.weights Try.prog 109, m ≤ reachBytes) → ∃ x : S109, k109.K w x cs ∧ FitS x := by
  induction n using Nat.strongRecOn with
  | _ n ih =>
  intro cs z h hw
  obtain ⟨xs, n', hfu, hz, hl, hlen, hf⟩ := DataW.trod_struct Try.underlying109 h
  rw [cells109] at hl
  obtain ⟨v0, v1, v2, v3, v4, v5, v6, v7, v8, v9, hcs⟩ : ∃ v0 v1 v2 v3 v4 v5 v6 v7 v8 v9, cs = [v0, v1, v2, v3, v4, v5, v6, v7, v8, v9] := by
    match cs, hl with
    | [v0, v1, v2, v3, v4, v5, v6, v7, v8, v9], _ => exact ⟨v0, v1, v2, v3, v4, v5, v6, v7, v8, v9, rfl⟩
  obtain ⟨y0, y1, y2, y3, y4, y5, y6, y7, y8, y9, hxs⟩ : ∃ y0 y1 y2 y3 y4 y5 y6 y7 y8 y9, xs = [y0, y1, y2, y3, y4, y5, y6, y7, y8, y9] := by
    match xs, hlen with
    | [y0, y1, y2, y3, y4, y5, y6, y7, y8, y9], _ => exact ⟨y0, y1, y2, y3, y4, y5, y6, y7, y8, y9, rfl⟩
  subst hcs hxs hfu hz
  have h0 : DataW.trod enc Try.prog w base spare held n' 3 [v0] = some y0 := by have q := hf 0 _ rfl; have q2 : DataW.trod enc Try.prog w base spare held n' 3 ((List.drop 0 [v0, v1, v2, v3, v4, v5, v6, v7, v8, v9]).take (Try.prog.cellsOf 3)) = some y0 := q; rw [cells3] at q2; exact q2
  have h1 : DataW.trod enc Try.prog w base spare held n' 3 [v1] = some y1 := by have q := hf 1 _ rfl; have q2 : DataW.trod enc Try.prog w base spare held n' 3 ((List.drop 1 [v0, v1, v2, v3, v4, v5, v6, v7, v8, v9]).take (Try.prog.cellsOf 3)) = some y1 := q; rw [cells3] at q2; exact q2
  have h2 : DataW.trod enc Try.prog w base spare held n' 9 [v2] = some y2 := by have q := hf 2 _ rfl; have q2 : DataW.trod enc Try.prog w base spare held n' 9 ((List.drop 2 [v0, v1, v2, v3, v4, v5, v6, v7, v8, v9]).take (Try.prog.cellsOf 9)) = some y2 := q; rw [cells9] at q2; exact q2
  have h3 : DataW.trod enc Try.prog w base spare held n' 9 [v3] = some y3 := by have q := hf 3 _ rfl; have q2 : DataW.trod enc Try.prog w base spare held n' 9 ((List.drop 3 [v0, v1, v2, v3, v4, v5, v6, v7, v8, v9]).take (Try.prog.cellsOf 9)) = some y3 := q; rw [cells9] at q2; exact q2
  have h4 : DataW.trod enc Try.prog w base spare held n' 3 [v4] = some y4 := by have q := hf 4 _ rfl; have q2 : DataW.trod enc Try.prog w base spare held n' 3 ((List.drop 4 [v0, v1, v2, v3, v4, v5, v6, v7, v8, v9]).take (Try.prog.cellsOf 3)) = some y4 := q; rw [cells3] at q2; exact q2
  have h5 : DataW.trod enc Try.prog w base spare held n' 107 [v5] = some y5 := by have q := hf 5 _ rfl; have q2 : DataW.trod enc Try.prog w base spare held n' 107 ((List.drop 5 [v0, v1, v2, v3, v4, v5, v6, v7, v8, v9]).take (Try.prog.cellsOf 107)) = some y5 := q; rw [cells107] at q2; exact q2
  have w5 : ∀ m ∈ y5.1.weights Try.prog 107, m ≤ reachBytes := fun m hm => hw m (by simp only [DataW.weights, Try.underlying109]; exact DataW.weights_mem_each (j := 5) (t := 107) rfl rfl m hm)
  have h6 : DataW.trod enc Try.prog w base spare held n' 81 [v6] = some y6 := by have q := hf 6 _ rfl; have q2 : DataW.trod enc Try.prog w base spare held n' 81 ((List.drop 6 [v0, v1, v2, v3, v4, v5, v6, v7, v8, v9]).take (Try.prog.cellsOf 81)) = some y6 := q; rw [cells81] at q2; exact q2
  have w6 : ∀ m ∈ y6.1.weights Try.prog 81, m ≤ reachBytes := fun m hm => hw m (by simp only [DataW.weights, Try.underlying109]; exact DataW.weights_mem_each (j := 6) (t := 81) rfl rfl m hm)
  have h7 : DataW.trod enc Try.prog w base spare held n' 81 [v7] = some y7 := by have q := hf 7 _ rfl; have q2 : DataW.trod enc Try.prog w base spare held n' 81 ((List.drop 7 [v0, v1, v2, v3, v4, v5, v6, v7, v8, v9]).take (Try.prog.cellsOf 81)) = some y7 := q; rw [cells81] at q2; exact q2
  have w7 : ∀ m ∈ y7.1.weights Try.prog 81, m ≤ reachBytes := fun m hm => hw m (by simp only [DataW.weights, Try.underlying109]; exact DataW.weights_mem_each (j := 7) (t := 81) rfl rfl m hm)
  have h8 : DataW.trod enc Try.prog w base spare held n' 78 [v8] = some y8 := by have q := hf 8 _ rfl; have q2 : DataW.trod enc Try.prog w base spare held n' 78 ((List.drop 8 [v0, v1, v2, v3, v4, v5, v6, v7, v8, v9]).take (Try.prog.cellsOf 78)) = some y8 := q; rw [cells78] at q2; exact q2
  have h9 : DataW.trod enc Try.prog w base spare held n' 3 [v9] = some y9 := by have q := hf 9 _ rfl; have q2 : DataW.trod enc Try.prog w base spare held n' 3 ((List.drop 9 [v0, v1, v2, v3, v4, v5, v6, v7, v8, v9]).take (Try.prog.cellsOf 3)) = some y9 := q; rw [cells3] at q2; exact q2
  clear hf
  obtain ⟨a0, e0, _, _⟩ := DataW.trod_int Try.underlying3 h0
  obtain ⟨a1, e1, _, _⟩ := DataW.trod_int Try.underlying3 h1
  obtain ⟨a2, e2, _, _⟩ := DataW.trod_string Try.underlying9 h2
  obtain ⟨a3, e3, _, _⟩ := DataW.trod_string Try.underlying9 h3
  obtain ⟨a4, e4, _, _⟩ := DataW.trod_int Try.underlying3 h4
  obtain ⟨A5, c5, a5, e5, l5, g5, b5, f5⟩ := open_slice_w (d := k111) (T := FitE) Try.underlying107 cells111 bytes111 h5 w5 (fun n'' _ => open111 n'')
  obtain ⟨A6, c6, a6, e6, l6, g6, b6, f6⟩ := open_slice_w (d := k109) (T := FitS) Try.underlying81 cells109 bytes109 h6 w6 (fun n'' hn cs z h hw => ih n'' (by omega) cs z h hw)
  obtain ⟨A7, c7, a7, e7, l7, g7, b7, f7⟩ := open_slice_w (d := k109) (T := FitS) Try.underlying81 cells109 bytes109 h7 w7 (fun n'' hn cs z h hw => ih n'' (by omega) cs z h hw)
  obtain ⟨a8, e8, _, _⟩ := DataW.trod_int Try.underlying78 h8
  obtain ⟨a9, e9, _, _⟩ := DataW.trod_int Try.underlying3 h9
  simp only [List.cons.injEq, and_true] at e0 e1 e2 e3 e4 e5 e6 e7 e8 e9
  subst e0 e1 e2 e3 e4 e5 e6 e7 e8 e9
  exact ⟨⟨a0, a1, a2, a3, a4, a5, a6, a7, a8, a9⟩, k109_mk w (⟨a0, a1, a2, a3, a4, a5, a6, a7, a8, a9⟩ : S109) l5 g5 l6 g6 l7 g7, FitS.mk _ b5 f5 b6 f6 b7 f7⟩
set_option maxRecDepth 100000 in
theorem open76 (n : Nat) (cs : List Value) (z : DataW H × List MemPlace) (h : DataW.trod enc Try.prog w base spare held n 76 cs = some z) (hw : ∀ m ∈ z.1.weights Try.prog 76, m ≤ reachBytes) : ∃ x : S76, k76.K w x cs ∧ x.f3.length * 48 ≤ 140737488355328 := by
  obtain ⟨xs, n', hfu, hz, hl, hlen, hf⟩ := DataW.trod_struct Try.underlying76 h
  rw [cells76] at hl
  obtain ⟨v0, v1, v2, v3, hcs⟩ : ∃ v0 v1 v2 v3, cs = [v0, v1, v2, v3] := by
    match cs, hl with
    | [v0, v1, v2, v3], _ => exact ⟨v0, v1, v2, v3, rfl⟩
  obtain ⟨y0, y1, y2, y3, hxs⟩ : ∃ y0 y1 y2 y3, xs = [y0, y1, y2, y3] := by
    match xs, hlen with
    | [y0, y1, y2, y3], _ => exact ⟨y0, y1, y2, y3, rfl⟩
  subst hcs hxs hfu hz
  have h0 : DataW.trod enc Try.prog w base spare held n' 3 [v0] = some y0 := by have q := hf 0 _ rfl; have q2 : DataW.trod enc Try.prog w base spare held n' 3 ((List.drop 0 [v0, v1, v2, v3]).take (Try.prog.cellsOf 3)) = some y0 := q; rw [cells3] at q2; exact q2
  have h1 : DataW.trod enc Try.prog w base spare held n' 9 [v1] = some y1 := by have q := hf 1 _ rfl; have q2 : DataW.trod enc Try.prog w base spare held n' 9 ((List.drop 1 [v0, v1, v2, v3]).take (Try.prog.cellsOf 9)) = some y1 := q; rw [cells9] at q2; exact q2
  have h2 : DataW.trod enc Try.prog w base spare held n' 9 [v2] = some y2 := by have q := hf 2 _ rfl; have q2 : DataW.trod enc Try.prog w base spare held n' 9 ((List.drop 2 [v0, v1, v2, v3]).take (Try.prog.cellsOf 9)) = some y2 := q; rw [cells9] at q2; exact q2
  have h3 : DataW.trod enc Try.prog w base spare held n' 74 [v3] = some y3 := by have q := hf 3 _ rfl; have q2 : DataW.trod enc Try.prog w base spare held n' 74 ((List.drop 3 [v0, v1, v2, v3]).take (Try.prog.cellsOf 74)) = some y3 := q; rw [cells74] at q2; exact q2
  have w3 : ∀ m ∈ y3.1.weights Try.prog 74, m ≤ reachBytes := fun m hm => hw m (by simp only [DataW.weights, Try.underlying76]; exact DataW.weights_mem_each (j := 3) (t := 74) rfl rfl m hm)
  clear hf
  obtain ⟨a0, e0, _, _⟩ := DataW.trod_int Try.underlying3 h0
  obtain ⟨a1, e1, _, _⟩ := DataW.trod_string Try.underlying9 h1
  obtain ⟨a2, e2, _, _⟩ := DataW.trod_string Try.underlying9 h2
  obtain ⟨A3, c3, a3, e3, l3, g3, b3, f3⟩ := open_slice_w (d := k80) (T := fun _ => True) Try.underlying74 cells80 bytes80 h3 w3 (fun n'' _ => open80 n'')
  simp only [List.cons.injEq, and_true] at e0 e1 e2 e3
  subst e0 e1 e2 e3
  exact ⟨⟨a0, a1, a2, a3⟩, k76_mk w (⟨a0, a1, a2, a3⟩ : S76) l3 g3, b3⟩
set_option maxRecDepth 100000 in
theorem open83 (n : Nat) (cs : List Value) (z : DataW H × List MemPlace) (h : DataW.trod enc Try.prog w base spare held n 83 cs = some z) (hw : ∀ m ∈ z.1.weights Try.prog 83, m ≤ reachBytes) : ∃ x : S83, k83.K w x cs ∧ (x.f3.length * 48 ≤ 140737488355328 ∧ x.f4.length * 144 ≤ 140737488355328 ∧ ∀ z ∈ x.f4, FitS z) := by
  obtain ⟨xs, n', hfu, hz, hl, hlen, hf⟩ := DataW.trod_struct Try.underlying83 h
  rw [cells83] at hl
  obtain ⟨v0, v1, v2, v3, v4, v5, v6, hcs⟩ : ∃ v0 v1 v2 v3 v4 v5 v6, cs = [v0, v1, v2, v3, v4, v5, v6] := by
    match cs, hl with
    | [v0, v1, v2, v3, v4, v5, v6], _ => exact ⟨v0, v1, v2, v3, v4, v5, v6, rfl⟩
  obtain ⟨y0, y1, y2, y3, y4, y5, y6, hxs⟩ : ∃ y0 y1 y2 y3 y4 y5 y6, xs = [y0, y1, y2, y3, y4, y5, y6] := by
    match xs, hlen with
    | [y0, y1, y2, y3, y4, y5, y6], _ => exact ⟨y0, y1, y2, y3, y4, y5, y6, rfl⟩
  subst hcs hxs hfu hz
  have h0 : DataW.trod enc Try.prog w base spare held n' 3 [v0] = some y0 := by have q := hf 0 _ rfl; have q2 : DataW.trod enc Try.prog w base spare held n' 3 ((List.drop 0 [v0, v1, v2, v3, v4, v5, v6]).take (Try.prog.cellsOf 3)) = some y0 := q; rw [cells3] at q2; exact q2
  have h1 : DataW.trod enc Try.prog w base spare held n' 9 [v1] = some y1 := by have q := hf 1 _ rfl; have q2 : DataW.trod enc Try.prog w base spare held n' 9 ((List.drop 1 [v0, v1, v2, v3, v4, v5, v6]).take (Try.prog.cellsOf 9)) = some y1 := q; rw [cells9] at q2; exact q2
  have h2 : DataW.trod enc Try.prog w base spare held n' 9 [v2] = some y2 := by have q := hf 2 _ rfl; have q2 : DataW.trod enc Try.prog w base spare held n' 9 ((List.drop 2 [v0, v1, v2, v3, v4, v5, v6]).take (Try.prog.cellsOf 9)) = some y2 := q; rw [cells9] at q2; exact q2
  have h3 : DataW.trod enc Try.prog w base spare held n' 74 [v3] = some y3 := by have q := hf 3 _ rfl; have q2 : DataW.trod enc Try.prog w base spare held n' 74 ((List.drop 3 [v0, v1, v2, v3, v4, v5, v6]).take (Try.prog.cellsOf 74)) = some y3 := q; rw [cells74] at q2; exact q2
  have w3 : ∀ m ∈ y3.1.weights Try.prog 74, m ≤ reachBytes := fun m hm => hw m (by simp only [DataW.weights, Try.underlying83]; exact DataW.weights_mem_each (j := 3) (t := 74) rfl rfl m hm)
  have h4 : DataW.trod enc Try.prog w base spare held n' 81 [v4] = some y4 := by have q := hf 4 _ rfl; have q2 : DataW.trod enc Try.prog w base spare held n' 81 ((List.drop 4 [v0, v1, v2, v3, v4, v5, v6]).take (Try.prog.cellsOf 81)) = some y4 := q; rw [cells81] at q2; exact q2
  have w4 : ∀ m ∈ y4.1.weights Try.prog 81, m ≤ reachBytes := fun m hm => hw m (by simp only [DataW.weights, Try.underlying83]; exact DataW.weights_mem_each (j := 4) (t := 81) rfl rfl m hm)
  have h5 : DataW.trod enc Try.prog w base spare held n' 78 [v5] = some y5 := by have q := hf 5 _ rfl; have q2 : DataW.trod enc Try.prog w base spare held n' 78 ((List.drop 5 [v0, v1, v2, v3, v4, v5, v6]).take (Try.prog.cellsOf 78)) = some y5 := q; rw [cells78] at q2; exact q2
  have h6 : DataW.trod enc Try.prog w base spare held n' 3 [v6] = some y6 := by have q := hf 6 _ rfl; have q2 : DataW.trod enc Try.prog w base spare held n' 3 ((List.drop 6 [v0, v1, v2, v3, v4, v5, v6]).take (Try.prog.cellsOf 3)) = some y6 := q; rw [cells3] at q2; exact q2
  clear hf
  obtain ⟨a0, e0, _, _⟩ := DataW.trod_int Try.underlying3 h0
  obtain ⟨a1, e1, _, _⟩ := DataW.trod_string Try.underlying9 h1
  obtain ⟨a2, e2, _, _⟩ := DataW.trod_string Try.underlying9 h2
  obtain ⟨A3, c3, a3, e3, l3, g3, b3, f3⟩ := open_slice_w (d := k80) (T := fun _ => True) Try.underlying74 cells80 bytes80 h3 w3 (fun n'' _ => open80 n'')
  obtain ⟨A4, c4, a4, e4, l4, g4, b4, f4⟩ := open_slice_w (d := k109) (T := FitS) Try.underlying81 cells109 bytes109 h4 w4 (fun n'' _ => open109 n'')
  obtain ⟨a5, e5, _, _⟩ := DataW.trod_int Try.underlying78 h5
  obtain ⟨a6, e6, _, _⟩ := DataW.trod_int Try.underlying3 h6
  simp only [List.cons.injEq, and_true] at e0 e1 e2 e3 e4 e5 e6
  subst e0 e1 e2 e3 e4 e5 e6
  exact ⟨⟨a0, a1, a2, a3, a4, a5, a6⟩, k83_mk w (⟨a0, a1, a2, a3, a4, a5, a6⟩ : S83) l3 g3 l4 g4, b3, b4, f4⟩
end
/-- How deep the statements go. -/
theorem deep_le {fs : List S83} : ∀ x ∈ fs, ∀ z ∈ x.f4, SizeOf.sizeOf z ≤ SizeOf.sizeOf fs := fun x hx z hz => by
  have h1 := List.sizeOf_lt_of_mem hx
  have h2 := List.sizeOf_lt_of_mem hz
  cases x
  simp only [S83.mk.sizeOf_spec] at h1 h2
  omega

end Go.Proofs.Ytblgcodkbapccaa.SamesWalk
