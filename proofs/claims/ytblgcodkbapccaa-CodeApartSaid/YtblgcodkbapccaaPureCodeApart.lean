/- PROVED: unlike instructions that fit have unlike words, and no one's bytes are the beginning of another one's: the law CodeApart's function answers true. Conditions: both operations are bytes. -/
import Derived.Test.YtblgcodkbapccaaApartLaw
namespace Go.Proofs.Ytblgcodkbapccaa.PureCodeApart
open Go.RowKit Go.Proofs.Ytblgcodkbapccaa.PCodeApart Go.Proofs.Ytblgcodkbapccaa.PureApart Go.Proofs.Ytblgcodkbapccaa.ApartFits Go.Proofs.Ytblgcodkbapccaa.ApartLaw Go.Proofs.YtblgcodkbapccaaW.PrintWords Go.Proofs.YtblgcodkbapccaaW.PrintLast Go.Proofs.YtblgcodkbapccaaW.PrintMore

theorem names : ∀ i : Fin 34, (code_Name.f (i.val : Int)).bind (code_Op.f 59) = some ((i.val : Int), true) := by decide +kernel
theorem apart : ∀ i j : Fin 34, i ≠ j → ((code_Name.f (i.val : Int)).getD ByteArray.empty).toList ≠ ((code_Name.f (j.val : Int)).getD ByteArray.empty).toList := by decide +kernel

theorem rd_at (l : List Int) (i : Nat) (h : i < l.length) : rd l (i : Int) = l[i] := by
  unfold rd
  simp [List.getD_eq_getElem?_getD, List.getElem?_eq_getElem h]

theorem equal_any (l m : List Int) (n d : Nat) : ∀ (k i : Nat), l.length = n → m.length = n → i + d = n → d < k → n < 4611686018427387904 → slices_Equal_byte_byte.l0 k l m (n : Int) (i : Int) = some (decide (l.drop i = m.drop i)) := by
  induction d with
  | zero =>
    intro k i hl hm hi hk h
    obtain ⟨k, rfl⟩ : ∃ m, k = m + 1 := ⟨k - 1, by omega⟩
    simp only [slices_Equal_byte_byte.l0]
    rw [if_neg (by omega), List.drop_eq_nil_of_le (by omega), List.drop_eq_nil_of_le (by omega)]
    simp
  | succ d ih =>
    intro k i hl hm hi hk h
    obtain ⟨k, rfl⟩ : ∃ m, k = m + 1 := ⟨k - 1, by omega⟩
    have h1 : i < l.length := by omega
    have h2 : i < m.length := by omega
    simp only [slices_Equal_byte_byte.l0]
    rw [if_pos (by omega), if_pos (by omega), if_pos (by omega), if_pos (by omega), rd_at l i h1, rd_at m i h2, List.drop_eq_getElem_cons h1, List.drop_eq_getElem_cons h2]
    by_cases he : l[i] = m[i]
    · rw [if_pos he, show wrap64 ((i : Int) + 1) = ((i + 1 : Nat) : Int) by unfold wrap64; omega, ih k (i + 1) hl hm (by omega) (by omega) h]
      congr 1
      rw [decide_eq_decide]
      exact ⟨fun e => by rw [e, he], fun e => (List.cons.inj e).2⟩
    · rw [if_neg he]
      congr 1
      symm
      rw [decide_eq_false_iff_not]
      exact fun e => he (List.cons.inj e).1

theorem equal_is (l m : List Int) (k : Nat) (hlm : l.length = m.length) (hk : l.length < k) (hl : l.length < 4611686018427387904) : slices_Equal_byte_byte.f k l m = some (decide (l = m)) := by
  unfold slices_Equal_byte_byte.f
  rw [if_pos (by omega), show (0 : Int) = ((0 : Nat) : Int) from rfl, equal_any l m l.length l.length k 0 rfl hlm.symm (by omega) hk hl]
  simp

theorem bytes_length (x y w : Int) : (opBytes x w).length = (opBytes y w).length := by
  unfold opBytes
  split
  · rfl
  · split
    · rfl
    · split <;> rfl

theorem bytes_inj {x y w : Int} (hx : fit x w = true) (hy : fit y w = true) (hw : w = 4 ∨ w = 2 ∨ w = 1 ∨ w = 0) (h : opBytes x w = opBytes y w) : x = y := by
  have h1 := fit_put hx hw
  have h2 := fit_put hy hw
  rcases hw with rfl | rfl | rfl | rfl
  · simp [opBytes] at h; omega
  · simp [opBytes] at h; omega
  · simp [opBytes] at h; omega
  · omega

/-- The words of an instruction that fits. -/
def wordsOf (m A B : Int) : List Int := [m] ++ opBytes A (wide m).1 ++ opBytes B (wide m).2

theorem words_len (m A B : Int) : 1 ≤ (wordsOf m A B).length ∧ (wordsOf m A B).length ≤ 9 := by
  have h1 := bytes_len A (wide m).1
  have h2 := bytes_len B (wide m).2
  unfold wordsOf
  simp
  omega

theorem words_same {m A B A' B' : Int} : (wordsOf m A B).length = (wordsOf m A' B').length := by
  unfold wordsOf
  simp [bytes_length A A', bytes_length B B']

theorem words_inj {m A B A' B' : Int} (i : Fin 256) (hm : m = (i.val : Int)) (h : fits m A B = true) (h' : fits m A' B' = true) (he : wordsOf m A B = wordsOf m A' B') : A = A' ∧ B = B' := by
  subst hm
  obtain ⟨w1, w2⟩ := wide_in i
  simp only [fits, Bool.and_eq_true] at h h'
  unfold wordsOf at he
  obtain ⟨e1, e2⟩ := List.append_inj he (by simp [bytes_length A A'])
  have e3 := List.append_cancel_left e1
  exact ⟨bytes_inj h.1.1 h'.1.1 w1 e3, bytes_inj h.1.2 h'.1.2 w2 e2⟩

theorem mn_take (a b : List Int) : ((mn (a.length : Int) (b.length : Int)) : Int).toNat = min a.length b.length ∧ 0 ≤ mn (a.length : Int) (b.length : Int) ∧ mn (a.length : Int) (b.length : Int) ≤ a.length ∧ mn (a.length : Int) (b.length : Int) ≤ b.length := by
  unfold mn
  split <;> omega

theorem CodeApart (a0 a1 a2 a3 b0 b1 b2 b3 : Int) (ha : (Lit.int .u8 a1).wf = true) (hb : (Lit.int .u8 b1).wf = true) : ∃ k, provisolaw04_CodeApart.f k a0 a1 a2 a3 b0 b1 b2 b3 = some true := by
  have ha' : 0 ≤ a1 ∧ a1 ≤ 255 := by
    simp [Lit.wf, go_sem] at ha
    exact ⟨ha.1, ha.2⟩
  have hb' : 0 ≤ b1 ∧ b1 ≤ 255 := by
    simp [Lit.wf, go_sem] at hb
    exact ⟨hb.1, hb.2⟩
  have fa := (fitted_spec a0 a1 a2 a3 ha'.1 ha'.2).1
  have fb := (fitted_spec b0 b1 b2 b3 hb'.1 hb'.2).1
  have ma : 0 ≤ Int.tmod a1 34 ∧ Int.tmod a1 34 ≤ 33 := by rw [Int.tmod_eq_emod_of_nonneg ha'.1]; omega
  have mb : 0 ≤ Int.tmod b1 34 ∧ Int.tmod b1 34 ≤ 33 := by rw [Int.tmod_eq_emod_of_nonneg hb'.1]; omega
  have ea : fit_.f 59 a0 a1 a2 a3 = some (0, Int.tmod a1 34, (fitted a0 a1 a2 a3).1, (fitted a0 a1 a2 a3).2) := by unfold fit_.f; rw [if_pos ha']
  have eb : fit_.f 59 b0 b1 b2 b3 = some (0, Int.tmod b1 34, (fitted b0 b1 b2 b3).1, (fitted b0 b1 b2 b3).2) := by unfold fit_.f; rw [if_pos hb']
  generalize (fitted a0 a1 a2 a3).1 = A at *
  generalize (fitted a0 a1 a2 a3).2 = B at *
  generalize (fitted b0 b1 b2 b3).1 = A' at *
  generalize (fitted b0 b1 b2 b3).2 = B' at *
  obtain ⟨i, hi⟩ : ∃ i : Fin 34, Int.tmod a1 34 = (i.val : Int) := ⟨⟨(Int.tmod a1 34).toNat, by omega⟩, by simp; omega⟩
  obtain ⟨j, hj⟩ : ∃ j : Fin 34, Int.tmod b1 34 = (j.val : Int) := ⟨⟨(Int.tmod b1 34).toNat, by omega⟩, by simp; omega⟩
  rw [hi] at ea fa
  rw [hj] at eb fb
  clear hi hj ma mb
  have enc : ∀ (q : Fin 34) (X Y : Int), fits (q.val : Int) X Y = true → code_Encode.f 59 0 (q.val : Int) X Y = some (wordsOf (q.val : Int) X Y, 0) := by
    intro q X Y h
    have h1 := at_rounds (fun k => code_Encode.mono _ _ _ _ k) (show 41 ≤ 59 by omega) (code_encode_is ⟨q.val, by omega⟩ 0 X Y)
    rw [h1]
    unfold encoded wordsOf
    rw [if_neg (by simp; omega), if_pos h]
  have e1 := enc i A B fa
  have e2 := enc j A' B' fb
  have n1 := names i
  obtain ⟨nm, hn, ho⟩ := Option.bind_eq_some_iff.1 n1
  have n2 := names j
  obtain ⟨nm', hn', _⟩ := Option.bind_eq_some_iff.1 n2
  obtain ⟨l1, l2⟩ := words_len (i.val : Int) A B
  obtain ⟨l3, l4⟩ := words_len (j.val : Int) A' B'
  obtain ⟨t0, t1, t2, t3⟩ := mn_take (wordsOf (i.val : Int) A B) (wordsOf (j.val : Int) A' B')
  refine ⟨59, ?_⟩
  unfold provisolaw04_CodeApart.f
  rw [ea, eb, Option.bind_some, Option.bind_some, e1, e2, Option.bind_some, Option.bind_some, hn, Option.bind_some, ho, Option.bind_some]
  dsimp only
  rw [if_pos rfl, if_pos rfl, if_neg (by omega), if_neg (by omega), if_pos rfl, show ((i.val : Int) != (i.val : Int)) = false by simp]
  simp only [provisolaw04_CodeApart.j0]
  rw [if_neg (by decide)]
  by_cases hij : i = j
  · subst hij
    have hl : (wordsOf (i.val : Int) A B).length = (wordsOf (i.val : Int) A' B').length := words_same
    rw [if_pos rfl, if_pos t1, if_pos t2, if_pos t3, t0, List.take_of_length_le (by omega), List.take_of_length_le (by omega), equal_is _ _ 58 hl (by omega) (by omega), Option.bind_some]
    congr 1
    by_cases hw : wordsOf (i.val : Int) A B = wordsOf (i.val : Int) A' B'
    · obtain ⟨rfl, rfl⟩ := words_inj ⟨i.val, by omega⟩ rfl fa fb hw
      simp
    · have hne : ¬ (A = A' ∧ B = B') := fun h => hw (by rw [h.1, h.2])
      simp only [hw, decide_false]
      by_cases hA : A = A'
      · have hB : B ≠ B' := fun h => hne ⟨hA, h⟩
        simp [hA, hB]
      · simp [hA]
  · have hv : (i.val : Int) ≠ (j.val : Int) := fun h => hij (Fin.ext (by omega))
    have hnn := apart i j hij
    rw [hn, hn'] at hnn
    simp only [Option.getD_some] at hnn
    rw [if_neg hv, hn, hn', Option.bind_some, Option.bind_some, if_neg hnn, if_pos t1, if_pos t2, if_pos t3, t0]
    have hx : (wordsOf (i.val : Int) A B).take (min (wordsOf (i.val : Int) A B).length (wordsOf (j.val : Int) A' B').length) ≠ (wordsOf (j.val : Int) A' B').take (min (wordsOf (i.val : Int) A B).length (wordsOf (j.val : Int) A' B').length) := by
      obtain ⟨q, hq⟩ : ∃ q, min (wordsOf (i.val : Int) A B).length (wordsOf (j.val : Int) A' B').length = q + 1 := ⟨min (wordsOf (i.val : Int) A B).length (wordsOf (j.val : Int) A' B').length - 1, by omega⟩
      rw [hq]
      unfold wordsOf
      simp only [List.cons_append, List.nil_append, List.take_succ_cons]
      intro h
      exact hv (List.cons.inj h).1
    rw [equal_is _ _ 58 (by rw [List.length_take, List.length_take]; omega) (by rw [List.length_take]; omega) (by rw [List.length_take]; omega), Option.bind_some]
    congr 1
    simp [hx, hv]
end Go.Proofs.Ytblgcodkbapccaa.PureCodeApart
