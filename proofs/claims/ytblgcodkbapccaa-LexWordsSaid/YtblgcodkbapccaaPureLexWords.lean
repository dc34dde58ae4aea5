/- PROVED: for every whole number and every text, LexWords answers true: the program's Word and Kind agree with the reference's at that number and that text. Conditions: none beyond the statement's own (each text takes at most 2^47 - 4096 bytes). -/
import Derived.Test.YtblgcodkbapccaaPLexWordsx1
namespace Go.Proofs.Ytblgcodkbapccaa.Pure
open Go.RowKit Go.Proofs.Ytblgcodkbapccaa.PLexWords Go.Proofs.YtblgcodkbapccaaW.PrintWords Go.Proofs.YtblgcodkbapccaaW.PrintLast

/-- The table of words, by their kinds from 3 on. -/
def tab : List ByteArray := (lex_words.f).getD []
theorem tab_some : lex_words.f = some tab := rfl
theorem tab_len : tab.length = 47 := by decide +kernel
theorem tab_while : (rdOf ByteArray.empty tab 21).toList = [119, 104, 105, 108, 101] := by decide +kernel

/-- The first place from i on at which a text stands in the table, among d places. -/
def place (s : List UInt8) : Nat → Nat → Int
  | 0, _ => -1
  | d + 1, i => if s = (rdOf ByteArray.empty tab i).toList then i else place s d (i + 1)

theorem wrap_small {n : Int} (h0 : -1000 ≤ n) (h : n ≤ 1000) : wrap64 n = n := by
  unfold wrap64; omega

theorem index_is (s : ByteArray) (d : Nat) : ∀ (k i : Nat), i + d = 47 → d < k → slices_Index_string_string.l0 k tab s (47 : Int) (i : Int) = some (place s.toList d i) := by
  induction d with
  | zero =>
    intro k i hi hk
    obtain ⟨k, rfl⟩ : ∃ m, k = m + 1 := ⟨k - 1, by omega⟩
    simp only [slices_Index_string_string.l0, place]
    rw [if_neg (by omega)]
  | succ d ih =>
    intro k i hi hk
    obtain ⟨k, rfl⟩ : ∃ m, k = m + 1 := ⟨k - 1, by omega⟩
    simp only [slices_Index_string_string.l0, place, tab_len]
    rw [if_pos (by omega), if_pos (by omega), if_pos (by omega)]
    by_cases h : s.toList = (rdOf ByteArray.empty tab i).toList
    · rw [if_pos h, if_pos h]
    · rw [if_neg h, if_neg h, wrap_small (by omega) (by omega)]
      exact ih k (i + 1) (by omega) (by omega)

theorem ref_word : ∀ i : Fin 47, provisoref10_Word.f 1 ((i.val : Int) + 3) = some (rdOf ByteArray.empty tab (i.val : Int)) := by decide +kernel
theorem ref_word' (k i : Nat) (hk : 1 ≤ k) (hi : i < 47) : provisoref10_Word.f k ((i : Int) + 3) = some (rdOf ByteArray.empty tab (i : Int)) :=
  at_rounds (fun k => provisoref10_Word.mono _ k) hk (ref_word ⟨i, hi⟩)

/-- What the reference's search answers, from the place. -/
def told (n : Int) : Int × Bool := if n < 0 then (0, false) else (n + 3, true)

theorem ref_kind_is (s : ByteArray) (d : Nat) : ∀ (k i : Nat), i + d = 47 → d < k → 1 ≤ k - d → provisoref10_Kind.l0 k s ((i : Int) + 3) = some (told (place s.toList d i)) := by
  induction d with
  | zero =>
    intro k i hi hk _
    obtain ⟨k, rfl⟩ : ∃ m, k = m + 1 := ⟨k - 1, by omega⟩
    simp only [provisoref10_Kind.l0, place]
    rw [if_neg (by omega)]
    rfl
  | succ d ih =>
    intro k i hi hk hk1
    obtain ⟨k, rfl⟩ : ∃ m, k = m + 1 := ⟨k - 1, by omega⟩
    simp only [provisoref10_Kind.l0, place]
    rw [if_pos (by omega), ref_word' k i (by omega) (by omega)]
    simp only [Option.bind_some]
    by_cases h : s.toList = (rdOf ByteArray.empty tab i).toList
    · rw [if_pos h, if_pos h.symm]
      unfold told
      rw [if_neg (by omega)]
    · rw [if_neg h, if_neg (fun e => h e.symm), wrap_small (by omega) (by omega), show (i : Int) + 3 + 1 = ((i + 1 : Nat) : Int) + 3 by omega]
      exact ih k (i + 1) (by omega) (by omega) (by omega)

theorem place_lt (s : List UInt8) (d : Nat) : ∀ i : Nat, i + d = 47 → place s d i = -1 ∨ (0 ≤ place s d i ∧ place s d i < 47) := by
  induction d with
  | zero => intro i _; exact .inl rfl
  | succ d ih =>
    intro i hi
    unfold place
    split
    · exact .inr ⟨by omega, by omega⟩
    · exact ih (i + 1) (by omega)

theorem word_same (a0 : Int) (k : Nat) (hk : 1 ≤ k) (w0 : (Lit.int .i64 a0).wf = true) : ∃ t, lex_Word.f a0 = some t ∧ provisoref10_Word.f k a0 = some t := by
  by_cases h3 : a0 < 3
  · refine ⟨⟨#[]⟩, by unfold lex_Word.f; rw [if_pos h3], ?_⟩
    refine at_rounds (fun k => provisoref10_Word.mono _ k) hk ?_
    unfold provisoref10_Word.f
    simp only [Option.bind_some, provisoref10_Word.j0]
    rw [if_neg (by omega), if_neg (by decide), if_neg (by omega)]
  · by_cases h50 : a0 ≥ 50
    · refine ⟨⟨#[]⟩, by unfold lex_Word.f; rw [if_neg h3, if_pos h50], ?_⟩
      refine at_rounds (fun k => provisoref10_Word.mono _ k) hk ?_
      unfold provisoref10_Word.f
      simp only [Option.bind_some, provisoref10_Word.j0]
      rw [if_pos (by omega), decide_eq_false (by omega), if_neg (by decide), if_pos (by omega), if_neg (by omega)]
    · obtain ⟨i, rfl⟩ : ∃ i : Nat, a0 = (i : Int) + 3 := ⟨(a0 - 3).toNat, by omega⟩
      refine ⟨_, ?_, ref_word' k i hk (by omega)⟩
      unfold lex_Word.f
      rw [if_neg h3, if_neg h50, tab_some]
      simp only [Option.bind_some, tab_len]
      rw [wrap_small (by omega) (by omega), show (i : Int) + 3 - 3 = (i : Int) by omega, if_pos (by omega), if_pos (by omega)]

theorem LexWords : provisolaw10_LexWords.Pure := by
  intro a0 s w0 _
  refine ⟨60, ?_⟩
  have hk : lex_Kind.f 60 s = some (told (place s.toList 47 0)) := by
    unfold lex_Kind.f
    rw [tab_some]
    simp only [Option.bind_some]
    unfold slices_Index_string_string.f
    rw [tab_len, show ((47 : Nat) : Int) = 47 from rfl, show (0 : Int) = ((0 : Nat) : Int) from rfl, index_is s 47 60 0 (by omega) (by omega)]
    simp only [Option.bind_some]
    unfold told
    rcases place_lt s.toList 47 0 (by omega) with h | ⟨h0, h1⟩
    · rw [h]; rfl
    · rw [if_neg (by omega), if_neg (by omega), wrap_small (by omega) (by omega), Int.add_comm]
  have hr : provisoref10_Kind.f 60 s = some (told (place s.toList 47 0)) := by
    unfold provisoref10_Kind.f
    exact ref_kind_is s 47 60 0 (by omega) (by omega) (by omega)
  obtain ⟨t, h1, h2⟩ := word_same a0 60 (by omega) w0
  have hw : lex_Word.f 24 = some (rdOf ByteArray.empty tab 21) := by decide +kernel
  unfold provisolaw10_LexWords.f
  rw [hk, hr, h1, h2, hw]
  simp only [Option.bind_some, if_true]
  rw [if_pos (by simp), tab_while]
  rfl

end Go.Proofs.Ytblgcodkbapccaa.Pure
