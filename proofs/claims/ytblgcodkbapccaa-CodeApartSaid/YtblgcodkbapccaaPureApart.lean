/- PROVED: the program's Encode, of any instruction whose operation is a byte: its bytes, or its error (over the functions that CodeApart reaches). Conditions: none beyond the lemmas' own hypotheses. -/
import Derived.Test.YtblgcodkbapccaaPCodeApartx3
import Derived.Test.YtblgcodkbapccaaPCodeApartx2
namespace Go.Proofs.Ytblgcodkbapccaa.PureApart
open Go.RowKit Go.Proofs.Ytblgcodkbapccaa.PCodeApart Go.Proofs.YtblgcodkbapccaaW.PrintWords Go.Proofs.YtblgcodkbapccaaW.PrintLast
/-- The bytes of a number in so many bytes, the great ones first. -/
def opBytes (x w : Int) : List Int :=
  if w = 4 then [x / 16777216 % 256, x / 65536 % 256, x / 256 % 256, x % 256] else if w = 2 then [x / 256 % 256, x % 256] else if w = 1 then [x % 256] else []

theorem put_is (l : List Int) (x w : Int) (hl : l.length < 1000) (hw : w = 4 ∨ w = 2 ∨ w = 1 ∨ w = 0) : code_put.f 40 l x w = some (l ++ opBytes x w) := by
  rcases hw with rfl | rfl | rfl | rfl
  · simp [code_put.f, code_put.l0, wrap64, shr, IntKind.bits, List.append_assoc, opBytes]; omega
  · simp [code_put.f, code_put.l0, wrap64, shr, IntKind.bits, List.append_assoc, opBytes]; omega
  · simp [code_put.f, code_put.l0, wrap64, shr, IntKind.bits, opBytes]; omega
  · simp [code_put.f, code_put.l0, wrap64, opBytes]

/-- How many bytes the operands have. -/
def wide (op : Int) : Int × Int :=
  if op = 1 then (4, 0) else if op = 19 ∨ op = 20 then (2, 0) else if op = 24 ∨ op = 25 then (1, 1)
  else if op = 2 ∨ op = 4 ∨ op = 5 ∨ op = 21 ∨ op = 23 ∨ op = 30 ∨ op = 31 ∨ op = 32 then (1, 0) else (0, 0)

theorem wides : ∀ i : Fin 256, code_widths.f 40 (i.val : Int) = some (wide (i.val : Int)) := by decide +kernel
theorem sizes_in : ∀ i : Fin 34, code_Size.f 40 (i.val : Int) = some (1 + (wide (i.val : Int)).1 + (wide (i.val : Int)).2) := by decide +kernel
theorem sizes_out : ∀ i : Fin 256, 34 ≤ i.val → code_Size.f 40 (i.val : Int) = some 0 := by decide +kernel
theorem wide_cases : ∀ i : Fin 256, (wide (i.val : Int) = (4, 0) ∧ (i.val : Int) ≠ 2) ∨ (wide (i.val : Int) = (2, 0) ∧ (i.val : Int) ≠ 2) ∨ (wide (i.val : Int) = (1, 1) ∧ (i.val : Int) ≠ 2) ∨ wide (i.val : Int) = (1, 0) ∨ (wide (i.val : Int) = (0, 0) ∧ (i.val : Int) ≠ 2) := by decide +kernel

/-- Does a number fit into an operand of so many bytes? -/
def fit (x w : Int) : Bool := if w = 0 then x == 0 else if w = 1 then decide (0 ≤ x) && decide (x ≤ 255) else if w = 2 then decide (0 ≤ x) && decide (x ≤ 65535) else decide (-2147483648 ≤ x) && decide (x ≤ 2147483647)
/-- Does an instruction fit? -/
def fits (op a b : Int) : Bool := fit a (wide op).1 && fit b (wide op).2 && !(op == 2 && decide (a > 1))
/-- What encoding answers. -/
def encoded (op a b : Int) : List Int × Int :=
  if 34 ≤ op then ([], 40) else if fits op a b = true then ([op] ++ opBytes a (wide op).1 ++ opBytes b (wide op).2, 0) else ([], 5)

theorem byte_nat {a : Int} (h : (Lit.int .u8 a).wf = true) : ∃ i : Fin 256, a = (i.val : Int) := by
  have hb : 0 ≤ a ∧ a ≤ 255 := by
    simp [Lit.wf, go_sem] at h
    exact ⟨h.1, h.2⟩
  exact ⟨⟨a.toNat, by omega⟩, by simp; omega⟩

theorem cfits_is (op x w : Int) : code_fits.f op x w = some (fit x w && !(op == 2 && w == 1 && decide (x > 1))) := by
  unfold code_fits.f fit
  by_cases h0 : w = 0
  · simp [h0]
  · by_cases h1 : w = 1
    · subst h1
      by_cases a : 0 ≤ x
      · by_cases b : x ≤ 255
        · by_cases c : op = 2
          · simp only [if_pos (show x ≥ 0 from a), if_pos b, c]
            by_cases d : x ≤ 1
            · simp [a, b, d]
            · have d' : 1 < x := by omega
              simp [d, d']
          · simp [a, b, c]
        · simp [a, b]
      · simp [a]
    · by_cases h3 : w = 2
      · subst h3; by_cases a : 0 ≤ x <;> simp [a]
      · by_cases a : -2147483648 ≤ x <;> simp [a, h0, h1, h3]

/-- The operands' widths are of five kinds; that of a bool is the fourth. -/
theorem fit_two (op a b : Int) (hw : (wide op = (4, 0) ∧ op ≠ 2) ∨ (wide op = (2, 0) ∧ op ≠ 2) ∨ (wide op = (1, 1) ∧ op ≠ 2) ∨ wide op = (1, 0) ∨ (wide op = (0, 0) ∧ op ≠ 2)) :
    ((fit a (wide op).1 && !(op == 2 && (wide op).1 == 1 && decide (a > 1))) && (fit b (wide op).2 && !(op == 2 && (wide op).2 == 1 && decide (b > 1)))) = fits op a b := by
  unfold fits
  rcases hw with ⟨h, n⟩ | ⟨h, n⟩ | ⟨h, n⟩ | h | ⟨h, n⟩
  · simp [h, n]
  · simp [h, n]
  · have n' : (op == 2) = false := by simpa using n
    simp [h, n']
  · simp only [h]
    cases fit a 1 <;> cases fit b 0 <;> cases (op == 2) <;> simp
  · simp [h, n]

theorem fit_put {x w : Int} (h : fit x w = true) (hw : w = 4 ∨ w = 2 ∨ w = 1 ∨ w = 0) : (w = 4 ∧ -2147483648 ≤ x ∧ x ≤ 2147483647) ∨ (w = 2 ∧ 0 ≤ x ∧ x ≤ 65535) ∨ (w = 1 ∧ 0 ≤ x ∧ x ≤ 255) ∨ (w = 0 ∧ x = 0) := by
  rcases hw with rfl | rfl | rfl | rfl
  · exact .inl ⟨rfl, by simpa [fit] using h⟩
  · exact .inr (.inl ⟨rfl, by simpa [fit] using h⟩)
  · exact .inr (.inr (.inl ⟨rfl, by simpa [fit] using h⟩))
  · exact .inr (.inr (.inr ⟨rfl, by simpa [fit] using h⟩))

theorem wide_in (i : Fin 256) : ((wide (i.val : Int)).1 = 4 ∨ (wide (i.val : Int)).1 = 2 ∨ (wide (i.val : Int)).1 = 1 ∨ (wide (i.val : Int)).1 = 0) ∧ ((wide (i.val : Int)).2 = 4 ∨ (wide (i.val : Int)).2 = 2 ∨ (wide (i.val : Int)).2 = 1 ∨ (wide (i.val : Int)).2 = 0) := by
  rcases wide_cases i with ⟨h, _⟩ | ⟨h, _⟩ | ⟨h, _⟩ | h | ⟨h, _⟩ <;> simp [h]

theorem bytes_len (x w : Int) : (opBytes x w).length ≤ 4 := by
  unfold opBytes
  split
  · simp
  · split
    · simp
    · split <;> simp

theorem code_encode_is (i : Fin 256) (at_ a b : Int) : code_Encode.f 41 at_ (i.val : Int) a b = some (encoded (i.val : Int) a b) := by
  have up : ∀ x w, code_Size.f 40 x = some w → code_Size.f 41 x = some w := fun x w h => at_rounds (fun k => code_Size.mono _ k) (by omega) h
  have uw : ∀ x w, code_widths.f 40 x = some w → code_widths.f 41 x = some w := fun x w h => at_rounds (fun k => code_widths.mono _ k) (by omega) h
  unfold code_Encode.f encoded
  by_cases h34 : 34 ≤ i.val
  · rw [up _ _ (sizes_out i h34), if_pos (by omega)]
    simp
  · rw [up _ _ (sizes_in ⟨i.val, by omega⟩), if_neg (by omega)]
    obtain ⟨w1, w2⟩ := wide_in i
    have hne : ¬ (1 + (wide (i.val : Int)).1 + (wide (i.val : Int)).2 = 0) := by omega
    simp only [Option.bind_some]
    rw [if_neg hne, uw _ _ (wides i)]
    simp only [Option.bind_some, cfits_is]
    have hf := fit_two (i.val : Int) a b (wide_cases i)
    by_cases ha : (fit a (wide (i.val : Int)).1 && !((i.val : Int) == 2 && (wide (i.val : Int)).1 == 1 && decide (a > 1))) = true
    · rw [ha, Bool.true_and] at hf
      rw [if_pos ha, hf]
      simp only [code_Encode.j0]
      by_cases hb : fits (i.val : Int) a b = true
      · have hl := bytes_len a (wide (i.val : Int)).1
        rw [if_neg (by simp [hb]), if_pos hb, put_is _ _ _ (by simp) w1]
        simp only [Option.bind_some]
        rw [put_is _ _ _ (by simp; omega) w2]
        simp
      · rw [if_pos (by simp [hb]), if_neg hb]
    · have hb : ¬ fits (i.val : Int) a b = true := by
        rw [← hf]; simp only [Bool.and_eq_true]; exact fun h => ha (by simp only [Bool.and_eq_true]; exact h.1)
      rw [if_neg ha, if_neg hb]
      simp only [code_Encode.j0]
      simp

theorem equal_loop (l : List Int) (n d : Nat) : ∀ (k i : Nat), l.length = n → i + d = n → d < k → n < 4611686018427387904 → slices_Equal_byte_byte.l0 k l l (n : Int) (i : Int) = some true := by
  induction d with
  | zero =>
    intro k i hn hi hk h
    obtain ⟨k, rfl⟩ : ∃ m, k = m + 1 := ⟨k - 1, by omega⟩
    simp only [slices_Equal_byte_byte.l0]
    rw [if_neg (by omega)]
  | succ d ih =>
    intro k i hn hi hk h
    obtain ⟨k, rfl⟩ : ∃ m, k = m + 1 := ⟨k - 1, by omega⟩
    simp only [slices_Equal_byte_byte.l0]
    rw [if_pos (by omega), if_pos (by omega), if_pos (by omega), if_pos (by omega)]
    simp only [if_true]
    rw [show wrap64 ((i : Int) + 1) = ((i + 1 : Nat) : Int) by unfold wrap64; omega]
    exact ih k (i + 1) hn (by omega) (by omega) h

theorem equal_same (l : List Int) (k : Nat) (hk : l.length < k) (hl : l.length < 4611686018427387904) : slices_Equal_byte_byte.f k l l = some true := by
  unfold slices_Equal_byte_byte.f
  rw [if_pos rfl]
  exact equal_loop l l.length l.length k 0 rfl (by omega) hk hl

end Go.Proofs.Ytblgcodkbapccaa.PureApart
