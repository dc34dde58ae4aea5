/- PROVED: for every instruction (four numbers of their kinds), CodeEncodes answers true: the program's Encode gives the reference's bytes and error. Conditions: none beyond the statement's own. -/
import Derived.Test.YtblgcodkbapccaaPCodeEncodesx3
namespace Go.Proofs.Ytblgcodkbapccaa.Pure
open Go.RowKit Go.Proofs.Ytblgcodkbapccaa.PCodeEncodes Go.Proofs.YtblgcodkbapccaaW.PrintWords Go.Proofs.YtblgcodkbapccaaW.PrintLast
theorem w3 : wrap64 3 = 3 := by decide +kernel
theorem w2 : wrap64 2 = 2 := by decide +kernel
theorem w1 : wrap64 1 = 1 := by decide +kernel
theorem w0 : wrap64 0 = 0 := by decide +kernel
theorem wm1 : wrap64 (-1) = -1 := by decide +kernel
theorem dv {n : Int} (h0 : 0 ≤ n) (h : n < 4294967296) : wrap64 (Int.tdiv n 256) = n / 256 := by
  rw [Int.tdiv_eq_ediv_of_nonneg h0]; unfold wrap64; omega
theorem md {n : Int} (h0 : 0 ≤ n) : Int.tmod n 256 % 256 = n % 256 := by
  rw [Int.tmod_eq_emod_of_nonneg h0]; omega

/-- The bytes of a number in so many bytes, the great ones first. -/
def bytesOf (x w : Int) : List Int :=
  if w = 4 then [x / 16777216 % 256, x / 65536 % 256, x / 256 % 256, x % 256] else if w = 2 then [x / 256 % 256, x % 256] else if w = 1 then [x % 256] else []

theorem put_is (l : List Int) (x w : Int) (hl : l.length < 1000) (hw : w = 4 ∨ w = 2 ∨ w = 1 ∨ w = 0) : code_put.f 40 l x w = some (l ++ bytesOf x w) := by
  rcases hw with rfl | rfl | rfl | rfl
  · simp [code_put.f, code_put.l0, wrap64, shr, IntKind.bits, List.append_assoc, bytesOf]; omega
  · simp [code_put.f, code_put.l0, wrap64, shr, IntKind.bits, List.append_assoc, bytesOf]; omega
  · simp [code_put.f, code_put.l0, wrap64, shr, IntKind.bits, bytesOf]; omega
  · simp [code_put.f, code_put.l0, wrap64, bytesOf]

theorem rput_is (l : List Int) (x w : Int) (hl : l.length < 1000) (hw : (w = 4 ∧ -2147483648 ≤ x ∧ x ≤ 2147483647) ∨ (w = 2 ∧ 0 ≤ x ∧ x ≤ 65535) ∨ (w = 1 ∧ 0 ≤ x ∧ x ≤ 255) ∨ (w = 0 ∧ x = 0)) : provisoref04_put.f 40 l x w = some (l ++ bytesOf x w) := by
  have l0 : l.length < 140737488355328 := by omega
  have l1 : l.length + 1 < 140737488355328 := by omega
  have l2 : l.length + 2 < 140737488355328 := by omega
  have l3 : l.length + 3 < 140737488355328 := by omega
  have pos : ∀ n : Int, 0 ≤ n → n < 4294967296 → provisoref04_put.j0 40 l n 4 = some (l ++ [n / 16777216 % 256, n / 65536 % 256, n / 256 % 256, n % 256]) := by
    intro n h0 h1
    have a1 := dv h0 h1
    have a2 := dv (n := n / 256) (by omega) (by omega)
    have a3 := dv (n := n / 256 / 256) (by omega) (by omega)
    simp [provisoref04_put.j0, provisoref04_put.l0, provisoref04_put.l1, w3, w2, w1, w0, wm1, a1, a2, a3, md h0, md (n := n / 256) (by omega), md (n := n / 256 / 256) (by omega), md (n := n / 256 / 256 / 256) (by omega), l0, l1, l2, l3, List.append_assoc]
    omega
  rcases hw with ⟨rfl, h0, h1⟩ | ⟨rfl, h0, h1⟩ | ⟨rfl, h0, h1⟩ | ⟨rfl, rfl⟩
  · unfold provisoref04_put.f
    by_cases hx : x < 0
    · have hwr : wrap64 (x + 4294967296) = x + 4294967296 := by unfold wrap64; omega
      rw [if_pos hx, hwr, pos _ (by omega) (by omega)]
      simp only [bytesOf, if_true, Option.some.injEq, List.append_cancel_left_eq, List.cons.injEq, and_true]
      omega
    · rw [if_neg hx, pos _ (by omega) (by omega)]
      simp only [bytesOf, if_true]
  · have a1 := dv h0 (by omega)
    have hx : ¬ x < 0 := by omega
    simp [provisoref04_put.f, hx, provisoref04_put.j0, provisoref04_put.l0, provisoref04_put.l1, w1, w0, wm1, a1, md h0, md (n := x / 256) (by omega), l0, l1, List.append_assoc, bytesOf]
  · have hx : ¬ x < 0 := by omega
    simp [provisoref04_put.f, hx, provisoref04_put.j0, provisoref04_put.l0, provisoref04_put.l1, w0, wm1, md h0, l0, bytesOf]
  · simp [provisoref04_put.f, provisoref04_put.j0, provisoref04_put.l0, wm1, bytesOf]

/-- How many bytes the operands have. -/
def wide (op : Int) : Int × Int :=
  if op = 1 then (4, 0) else if op = 19 ∨ op = 20 then (2, 0) else if op = 24 ∨ op = 25 then (1, 1)
  else if op = 2 ∨ op = 4 ∨ op = 5 ∨ op = 21 ∨ op = 23 ∨ op = 30 ∨ op = 31 ∨ op = 32 then (1, 0) else (0, 0)

theorem wides : ∀ i : Fin 256, code_widths.f 40 (i.val : Int) = some (wide (i.val : Int)) ∧ provisoref04_wide.f 40 (i.val : Int) = some (wide (i.val : Int)) := by decide +kernel
theorem sizes_in : ∀ i : Fin 34, code_Size.f 40 (i.val : Int) = some (1 + (wide (i.val : Int)).1 + (wide (i.val : Int)).2) ∧ provisoref04_Size.f 40 (i.val : Int) = some (1 + (wide (i.val : Int)).1 + (wide (i.val : Int)).2) := by decide +kernel
theorem sizes_out : ∀ i : Fin 256, 34 ≤ i.val → code_Size.f 40 (i.val : Int) = some 0 ∧ provisoref04_Size.f 40 (i.val : Int) = some 0 := by decide +kernel
theorem wide_cases : ∀ i : Fin 256, (wide (i.val : Int) = (4, 0) ∧ (i.val : Int) ≠ 2) ∨ (wide (i.val : Int) = (2, 0) ∧ (i.val : Int) ≠ 2) ∨ (wide (i.val : Int) = (1, 1) ∧ (i.val : Int) ≠ 2) ∨ wide (i.val : Int) = (1, 0) ∨ (wide (i.val : Int) = (0, 0) ∧ (i.val : Int) ≠ 2) := by decide +kernel

/-- Does a number fit into an operand of so many bytes? -/
def fit (x w : Int) : Bool := if w = 0 then x == 0 else if w = 1 then decide (0 ≤ x) && decide (x ≤ 255) else if w = 2 then decide (0 ≤ x) && decide (x ≤ 65535) else decide (-2147483648 ≤ x) && decide (x ≤ 2147483647)
/-- Does an instruction fit? -/
def fits (op a b : Int) : Bool := fit a (wide op).1 && fit b (wide op).2 && !(op == 2 && decide (a > 1))
/-- What encoding answers. -/
def encoded (op a b : Int) : List Int × Int :=
  if 34 ≤ op then ([], 40) else if fits op a b = true then ([op] ++ bytesOf a (wide op).1 ++ bytesOf b (wide op).2, 0) else ([], 5)

theorem byte_nat {a : Int} (h : (Lit.int .u8 a).wf = true) : ∃ i : Fin 256, a = (i.val : Int) := by
  have hb : 0 ≤ a ∧ a ≤ 255 := by
    simp [Lit.wf, go_sem] at h
    exact ⟨h.1, h.2⟩
  exact ⟨⟨a.toNat, by omega⟩, by simp; omega⟩

theorem rfits_is (x w : Int) : provisoref04_fits.f x w = some (fit x w) := by
  unfold provisoref04_fits.f fit
  by_cases h0 : w = 0
  · simp [h0]
  · by_cases h1 : w = 1
    · subst h1; by_cases a : 0 ≤ x <;> simp [a]
    · by_cases h3 : w = 2
      · subst h3; by_cases a : 0 ≤ x <;> simp [a]
      · by_cases a : -2147483648 ≤ x <;> simp [a, h0, h1, h3]

theorem cfits_is (op x w : Int) : code_fits.f op x w = some (fit x w && !(op == 2 && w == 1 && decide (x > 1))) := by
  unfold code_fits.f fit
  by_cases h0 : w = 0
  · simp [h0]
  · by_cases h1 : w = 1
    · subst h1
      by_cases a : 0 ≤ x
      · by_cases b : x ≤ 255
        · by_cases c : op = 2
          · simp only [if_pos (show x ≥ 0 from a), if_pos b, c]
            by_cases d : x ≤ 1
            · simp [a, b, d]
            · have d' : 1 < x := by omega
              simp [d, d']
          · simp [a, b, c]
        · simp [a, b]
      · simp [a]
    · by_cases h3 : w = 2
      · subst h3; by_cases a : 0 ≤ x <;> simp [a]
      · by_cases a : -2147483648 ≤ x <;> simp [a, h0, h1, h3]

/-- The operands' widths are of five kinds; that of a bool is the fourth. -/
theorem fit_two (op a b : Int) (hw : (wide op = (4, 0) ∧ op ≠ 2) ∨ (wide op = (2, 0) ∧ op ≠ 2) ∨ (wide op = (1, 1) ∧ op ≠ 2) ∨ wide op = (1, 0) ∨ (wide op = (0, 0) ∧ op ≠ 2)) :
    ((fit a (wide op).1 && !(op == 2 && (wide op).1 == 1 && decide (a > 1))) && (fit b (wide op).2 && !(op == 2 && (wide op).2 == 1 && decide (b > 1)))) = fits op a b := by
  unfold fits
  rcases hw with ⟨h, n⟩ | ⟨h, n⟩ | ⟨h, n⟩ | h | ⟨h, n⟩
  · simp [h, n]
  · simp [h, n]
  · have n' : (op == 2) = false := by simpa using n
    simp [h, n']
  · simp only [h]
    cases fit a 1 <;> cases fit b 0 <;> cases (op == 2) <;> simp
  · simp [h, n]

theorem fit_put {x w : Int} (h : fit x w = true) (hw : w = 4 ∨ w = 2 ∨ w = 1 ∨ w = 0) : (w = 4 ∧ -2147483648 ≤ x ∧ x ≤ 2147483647) ∨ (w = 2 ∧ 0 ≤ x ∧ x ≤ 65535) ∨ (w = 1 ∧ 0 ≤ x ∧ x ≤ 255) ∨ (w = 0 ∧ x = 0) := by
  rcases hw with rfl | rfl | rfl | rfl
  · exact .inl ⟨rfl, by simpa [fit] using h⟩
  · exact .inr (.inl ⟨rfl, by simpa [fit] using h⟩)
  · exact .inr (.inr (.inl ⟨rfl, by simpa [fit] using h⟩))
  · exact .inr (.inr (.inr ⟨rfl, by simpa [fit] using h⟩))

theorem wide_in (i : Fin 256) : ((wide (i.val : Int)).1 = 4 ∨ (wide (i.val : Int)).1 = 2 ∨ (wide (i.val : Int)).1 = 1 ∨ (wide (i.val : Int)).1 = 0) ∧ ((wide (i.val : Int)).2 = 4 ∨ (wide (i.val : Int)).2 = 2 ∨ (wide (i.val : Int)).2 = 1 ∨ (wide (i.val : Int)).2 = 0) := by
  rcases wide_cases i with ⟨h, _⟩ | ⟨h, _⟩ | ⟨h, _⟩ | h | ⟨h, _⟩ <;> simp [h]

theorem bytes_len (x w : Int) : (bytesOf x w).length ≤ 4 := by
  unfold bytesOf
  split
  · simp
  · split
    · simp
    · split <;> simp

theorem code_encode_is (i : Fin 256) (at_ a b : Int) : code_Encode.f 41 at_ (i.val : Int) a b = some (encoded (i.val : Int) a b) := by
  have up : ∀ x w, code_Size.f 40 x = some w → code_Size.f 41 x = some w := fun x w h => at_rounds (fun k => code_Size.mono _ k) (by omega) h
  have uw : ∀ x w, code_widths.f 40 x = some w → code_widths.f 41 x = some w := fun x w h => at_rounds (fun k => code_widths.mono _ k) (by omega) h
  unfold code_Encode.f encoded
  by_cases h34 : 34 ≤ i.val
  · rw [up _ _ (sizes_out i h34).1, if_pos (by omega)]
    simp
  · rw [up _ _ (sizes_in ⟨i.val, by omega⟩).1, if_neg (by omega)]
    obtain ⟨w1, w2⟩ := wide_in i
    have hne : ¬ (1 + (wide (i.val : Int)).1 + (wide (i.val : Int)).2 = 0) := by omega
    simp only [Option.bind_some]
    rw [if_neg hne, uw _ _ (wides i).1]
    simp only [Option.bind_some, cfits_is]
    have hf := fit_two (i.val : Int) a b (wide_cases i)
    by_cases ha : (fit a (wide (i.val : Int)).1 && !((i.val : Int) == 2 && (wide (i.val : Int)).1 == 1 && decide (a > 1))) = true
    · rw [ha, Bool.true_and] at hf
      rw [if_pos ha, hf]
      simp only [code_Encode.j0]
      by_cases hb : fits (i.val : Int) a b = true
      · have hl := bytes_len a (wide (i.val : Int)).1
        rw [if_neg (by simp [hb]), if_pos hb, put_is _ _ _ (by simp) w1]
        simp only [Option.bind_some]
        rw [put_is _ _ _ (by simp; omega) w2]
        simp
      · rw [if_pos (by simp [hb]), if_neg hb]
    · have hb : ¬ fits (i.val : Int) a b = true := by
        rw [← hf]; simp only [Bool.and_eq_true]; exact fun h => ha (by simp only [Bool.and_eq_true]; exact h.1)
      rw [if_neg ha, if_neg hb]
      simp only [code_Encode.j0]
      simp

theorem ref_encode_is (i : Fin 256) (at_ a b : Int) : provisoref04_Encode.f 41 at_ (i.val : Int) a b = some (encoded (i.val : Int) a b) := by
  have up : ∀ x w, provisoref04_Size.f 40 x = some w → provisoref04_Size.f 41 x = some w := fun x w h => at_rounds (fun k => provisoref04_Size.mono _ k) (by omega) h
  have uw : ∀ x w, provisoref04_wide.f 40 x = some w → provisoref04_wide.f 41 x = some w := fun x w h => at_rounds (fun k => provisoref04_wide.mono _ k) (by omega) h
  unfold provisoref04_Encode.f encoded
  by_cases h34 : 34 ≤ i.val
  · rw [up _ _ (sizes_out i h34).2, if_pos (by omega)]
    simp
  · rw [up _ _ (sizes_in ⟨i.val, by omega⟩).2, if_neg (by omega)]
    obtain ⟨w1, w2⟩ := wide_in i
    have hne : ¬ (1 + (wide (i.val : Int)).1 + (wide (i.val : Int)).2 = 0) := by omega
    simp only [Option.bind_some]
    rw [if_neg hne, uw _ _ (wides i).2]
    simp only [Option.bind_some, rfits_is]
    have e : ∀ c : Bool, provisoref04_Encode.j0 41 (wide (i.val : Int)).1 (wide (i.val : Int)).2 c at_ (i.val : Int) a b = if c = true then some ([], 5) else ((provisoref04_put.f 40 [(i.val : Int)] a (wide (i.val : Int)).1).bind fun t => (provisoref04_put.f 40 t b (wide (i.val : Int)).2).bind fun t => some (t, 0)) := fun c => by simp only [provisoref04_Encode.j0]
    simp only [e]
    by_cases ha : fit a (wide (i.val : Int)).1 = true
    · by_cases hb : fit b (wide (i.val : Int)).2 = true
      · have hl := bytes_len a (wide (i.val : Int)).1
        have hput : ((provisoref04_put.f 40 [(i.val : Int)] a (wide (i.val : Int)).1).bind fun t => (provisoref04_put.f 40 t b (wide (i.val : Int)).2).bind fun t => some (t, (0 : Int))) = some ([(i.val : Int)] ++ bytesOf a (wide (i.val : Int)).1 ++ bytesOf b (wide (i.val : Int)).2, 0) := by
          rw [rput_is _ _ _ (by simp) (fit_put ha w1)]
          simp only [Option.bind_some]
          rw [rput_is _ _ _ (by simp; omega) (fit_put hb w2)]
          simp only [Option.bind_some]
        rw [hput]
        clear up uw w1 w2 hne e hput hl
        generalize (i.val : Int) = op at ha hb ⊢
        by_cases h2 : op = 2
        · subst h2
          by_cases hc : a > 1 <;> simp [fits, ha, hb, hc]
        · simp [fits, ha, hb, h2]
      · simp [fits, ha, hb]
    · simp [fits, ha]

theorem equal_loop (l : List Int) (n d : Nat) : ∀ (k i : Nat), l.length = n → i + d = n → d < k → n < 1000 → slices_Equal_byte_byte.l0 k l l (n : Int) (i : Int) = some true := by
  induction d with
  | zero =>
    intro k i hn hi hk h
    obtain ⟨k, rfl⟩ : ∃ m, k = m + 1 := ⟨k - 1, by omega⟩
    simp only [slices_Equal_byte_byte.l0]
    rw [if_neg (by omega)]
  | succ d ih =>
    intro k i hn hi hk h
    obtain ⟨k, rfl⟩ : ∃ m, k = m + 1 := ⟨k - 1, by omega⟩
    simp only [slices_Equal_byte_byte.l0]
    rw [if_pos (by omega), if_pos (by omega), if_pos (by omega), if_pos (by omega)]
    simp only [if_true]
    rw [show wrap64 ((i : Int) + 1) = ((i + 1 : Nat) : Int) by unfold wrap64; omega]
    exact ih k (i + 1) hn (by omega) (by omega) h

theorem equal_same (l : List Int) (hl : l.length < 30) : slices_Equal_byte_byte.f 41 l l = some true := by
  unfold slices_Equal_byte_byte.f
  rw [if_pos rfl]
  exact equal_loop l l.length l.length 41 0 rfl (by omega) (by omega) (by omega)

theorem encoded_len (op a b : Int) : (encoded op a b).1.length ≤ 9 := by
  have h1 := bytes_len a (wide op).1
  have h2 := bytes_len b (wide op).2
  unfold encoded
  split
  · simp
  · split
    · simp; omega
    · simp

/-- The statement behind the row. -/
theorem CodeEncodes (at_ op a b : Int) (h : (Lit.int .u8 op).wf = true) : ∃ k, provisolaw04_CodeEncodes.f k at_ op a b = some true := by
  obtain ⟨i, rfl⟩ := byte_nat h
  refine ⟨41, ?_⟩
  have hl := encoded_len (i.val : Int) a b
  unfold provisolaw04_CodeEncodes.f
  rw [code_encode_is, ref_encode_is]
  simp only [Option.bind_some, if_true]
  rw [equal_same _ (by omega)]
  rfl
end Go.Proofs.Ytblgcodkbapccaa.Pure
