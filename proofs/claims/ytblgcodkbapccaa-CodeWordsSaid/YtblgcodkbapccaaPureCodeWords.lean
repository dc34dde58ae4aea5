/- PROVED: for every byte and every text, CodeWords answers true: the program's Size, Name, Op, Jumps and Ends agree with the reference's there. Conditions: none beyond the statement's own (each text takes at most 2^47 - 4096 bytes). -/
import Derived.Test.YtblgcodkbapccaaPCodeWordsx2
namespace Go.Proofs.Ytblgcodkbapccaa.Pure
open Go.RowKit Go.Proofs.Ytblgcodkbapccaa.PCodeWords Go.Proofs.YtblgcodkbapccaaW.PrintWords Go.Proofs.YtblgcodkbapccaaW.PrintLast

/-- The table of the instructions' words. -/
def tab : List ByteArray := (code_words.f).getD []
theorem tab_some : code_words.f = some tab := rfl
theorem tab_len : tab.length = 34 := by decide +kernel

/-- The first place from i on at which a text stands in the table, among d places. -/
def place (s : List UInt8) : Nat → Nat → Int
  | 0, _ => -1
  | d + 1, i => if s = (rdOf ByteArray.empty tab i).toList then i else place s d (i + 1)

theorem wrap_small {n : Int} (h0 : -1000 ≤ n) (h : n ≤ 1000) : wrap64 n = n := by
  unfold wrap64; omega

theorem index_is (s : ByteArray) (d : Nat) : ∀ (k i : Nat), i + d = 34 → d < k → slices_Index_string_string.l0 k tab s (34 : Int) (i : Int) = some (place s.toList d i) := by
  induction d with
  | zero =>
    intro k i hi hk
    obtain ⟨k, rfl⟩ : ∃ m, k = m + 1 := ⟨k - 1, by omega⟩
    simp only [slices_Index_string_string.l0, place]
    rw [if_neg (by omega)]
  | succ d ih =>
    intro k i hi hk
    obtain ⟨k, rfl⟩ : ∃ m, k = m + 1 := ⟨k - 1, by omega⟩
    simp only [slices_Index_string_string.l0, place, tab_len]
    rw [if_pos (by omega), if_pos (by omega), if_pos (by omega)]
    by_cases h : s.toList = (rdOf ByteArray.empty tab i).toList
    · rw [if_pos h, if_pos h]
    · rw [if_neg h, if_neg h, wrap_small (by omega) (by omega)]
      exact ih k (i + 1) (by omega) (by omega)

theorem ref_name : ∀ i : Fin 34, provisoref04_Name.f (i.val : Int) = some (rdOf ByteArray.empty tab (i.val : Int)) := by decide +kernel

/-- What a search answers, from the place. -/
def told (n : Int) : Int × Bool := if n < 0 then (0, false) else (n, true)

theorem ref_op_is (s : ByteArray) (d : Nat) : ∀ (k i : Nat), i + d = 34 → d < k → provisoref04_Op.l0 k s (i : Int) = some (told (place s.toList d i)) := by
  induction d with
  | zero =>
    intro k i hi hk
    obtain ⟨k, rfl⟩ : ∃ m, k = m + 1 := ⟨k - 1, by omega⟩
    simp only [provisoref04_Op.l0, place]
    rw [if_neg (by omega)]
    rfl
  | succ d ih =>
    intro k i hi hk
    obtain ⟨k, rfl⟩ : ∃ m, k = m + 1 := ⟨k - 1, by omega⟩
    simp only [provisoref04_Op.l0, place]
    rw [if_pos (by omega), ref_name ⟨i, by omega⟩]
    simp only [Option.bind_some]
    by_cases h : s.toList = (rdOf ByteArray.empty tab i).toList
    · rw [if_pos h, if_pos h.symm]
      unfold told
      rw [if_neg (by omega)]
    · rw [if_neg h, if_neg (fun e => h e.symm), show ((i : Int) + 1) % 256 = ((i + 1 : Nat) : Int) by omega]
      exact ih k (i + 1) (by omega) (by omega)

theorem place_lt (s : List UInt8) (d : Nat) : ∀ i : Nat, i + d = 34 → place s d i = -1 ∨ (0 ≤ place s d i ∧ place s d i < 34) := by
  induction d with
  | zero => intro i _; exact .inl rfl
  | succ d ih =>
    intro i hi
    unfold place
    split
    · exact .inr ⟨by omega, by omega⟩
    · exact ih (i + 1) (by omega)

theorem sizes : ∀ i : Fin 256, code_Size.f 60 (i.val : Int) = provisoref04_Size.f 60 (i.val : Int) ∧ (code_Size.f 60 (i.val : Int)).isSome = true := by decide +kernel
theorem names : ∀ i : Fin 256, code_Name.f (i.val : Int) = provisoref04_Name.f (i.val : Int) ∧ (code_Name.f (i.val : Int)).isSome = true := by decide +kernel
theorem jumps : ∀ i : Fin 256, code_Jumps.f (i.val : Int) = provisoref04_Jumps.f (i.val : Int) ∧ (code_Jumps.f (i.val : Int)).isSome = true := by decide +kernel
theorem ends : ∀ i : Fin 256, code_Ends.f (i.val : Int) = provisoref04_Ends.f (i.val : Int) ∧ (code_Ends.f (i.val : Int)).isSome = true := by decide +kernel
theorem size_int : code_Size.f 59 1 = some 5 := by decide +kernel

theorem byte_nat {a : Int} (h : (Lit.int .u8 a).wf = true) : ∃ i : Fin 256, a = (i.val : Int) := by
  have hb : 0 ≤ a ∧ a ≤ 255 := by
    simp [Lit.wf, go_sem] at h
    exact ⟨h.1, h.2⟩
  exact ⟨⟨a.toNat, by omega⟩, by simp; omega⟩

theorem CodeWords : provisolaw04_CodeWords.Pure := by
  intro a0 s w0 _
  refine ⟨60, ?_⟩
  have hk : code_Op.f 60 s = some (told (place s.toList 34 0)) := by
    unfold code_Op.f
    rw [tab_some]
    simp only [Option.bind_some]
    unfold slices_Index_string_string.f
    rw [tab_len, show ((34 : Nat) : Int) = 34 from rfl, show (0 : Int) = ((0 : Nat) : Int) from rfl, index_is s 34 60 0 (by omega) (by omega)]
    simp only [Option.bind_some]
    unfold told
    rcases place_lt s.toList 34 0 (by omega) with h | ⟨h0, h1⟩
    · rw [h]; rfl
    · rw [if_neg (by omega), if_neg (by omega), show place s.toList 34 0 % 256 = place s.toList 34 0 by omega]
  have hr : provisoref04_Op.f 60 s = some (told (place s.toList 34 0)) := by
    unfold provisoref04_Op.f
    exact ref_op_is s 34 60 0 (by omega) (by omega)
  obtain ⟨i, rfl⟩ := byte_nat w0
  obtain ⟨s1, s2⟩ := sizes i
  obtain ⟨n1, n2⟩ := names i
  obtain ⟨j1, j2⟩ := jumps i
  obtain ⟨e1, e2⟩ := ends i
  obtain ⟨x, hx⟩ := Option.isSome_iff_exists.1 s2
  obtain ⟨y, hy⟩ := Option.isSome_iff_exists.1 n2
  obtain ⟨z, hz⟩ := Option.isSome_iff_exists.1 j2
  obtain ⟨v, hv⟩ := Option.isSome_iff_exists.1 e2
  unfold provisolaw04_CodeWords.f
  rw [hk, hr, ← s1, ← n1, hx, hy]
  simp only [Option.bind_some, if_true, provisolaw04_CodeWords.j0]
  rw [if_pos (by simp), ← j1, ← e1, hz, hv, size_int]
  simp

end Go.Proofs.Ytblgcodkbapccaa.Pure
