/- PROVED: fit, of any instruction whose operation is a byte, answers one that fits its operation. fit_ tells which, under the names that the law's walk uses. Conditions: the operation's number is a byte. -/
import Derived.Test.YtblgcodkbapccaaApartFit
import Derived.Test.YtblgcodkbapccaaPureApart
namespace Go.Proofs.Ytblgcodkbapccaa.ApartFits
open Go.RowKit Go.Proofs.Ytblgcodkbapccaa.PCodeApart Go.Proofs.Ytblgcodkbapccaa.ApartFit Go.Proofs.Ytblgcodkbapccaa.PureApart Go.Proofs.YtblgcodkbapccaaW.PrintWords Go.Proofs.YtblgcodkbapccaaW.PrintLast Go.Proofs.YtblgcodkbapccaaW.PrintMore

theorem and_low (a : Int) (n : Nat) (hn : n ≤ 255) : 0 ≤ Go.bits .and .i64 a (n : Int) ∧ Go.bits .and .i64 a (n : Int) ≤ n := by
  have e : (BitVec.ofInt 64 (n : Int)).toNat = n := by
    rw [BitVec.ofInt_natCast, BitVec.toNat_ofNat]; exact Nat.mod_eq_of_lt (by omega)
  have h : Go.bits .and .i64 a (n : Int) = IntKind.i64.wrap ((BitVec.ofInt 64 a &&& BitVec.ofInt 64 (n : Int)).toNat : Int) := rfl
  have hle : (BitVec.ofInt 64 a &&& BitVec.ofInt 64 (n : Int)).toNat ≤ n := by
    rw [BitVec.toNat_and, e]; exact Nat.and_le_right
  rw [h, IntKind.wrap_i64]
  omega

theorem wrapped (z : Int) : -2147483648 ≤ wrap64 (wrap32 z) ∧ wrap64 (wrap32 z) ≤ 2147483647 := by
  unfold wrap64 wrap32
  omega

theorem fit_ex (a0 a1 a2 a3 : Int) (h0 : 0 ≤ a1) : ∃ A B : Int, fits (Int.tmod a1 34) A B = true ∧ Gives a0 a1 a2 a3 (Int.tmod a1 34) A B := by
  obtain ⟨x0, x1⟩ := and_low a2 255 (by omega)
  obtain ⟨y0, y1⟩ := and_low a3 255 (by omega)
  have hm : 0 ≤ Int.tmod a1 34 ∧ Int.tmod a1 34 ≤ 33 := by rw [Int.tmod_eq_emod_of_nonneg h0]; omega
  generalize hx : Go.bits .and .i64 a2 ((255 : Nat) : Int) = x at *
  generalize hy : Go.bits .and .i64 a3 ((255 : Nat) : Int) = y at *
  replace hx : Go.bits .and .i64 a2 255 = x := hx
  replace hy : Go.bits .and .i64 a3 255 = y := hy
  generalize hmm : Int.tmod a1 34 = m at *
  by_cases c1 : m = 1
  · subst c1
    obtain ⟨z0, z1⟩ := wrapped (wrap64 (wrap64 (wrap64 (wrap64 (x * x) * x) * x) - wrap64 (wrap64 (y * y) * y)))
    exact ⟨_, _, by simp [fits, wide, fit]; omega, fit_1 a0 a1 a2 a3 x y hmm hx hy x0 x1 y0 y1⟩
  by_cases c2 : m = 2
  · subst c2
    obtain ⟨z0, z1⟩ : 0 ≤ Go.bits .and .i64 x 1 ∧ Go.bits .and .i64 x 1 ≤ 1 := and_low x 1 (by omega)
    exact ⟨_, _, by simp [fits, wide, fit]; omega, fit_2 a0 a1 a2 a3 x y hmm hx hy x0 x1 y0 y1⟩
  by_cases c19 : m = 19
  · subst c19
    exact ⟨_, _, by simp [fits, wide, fit]; omega, fit_19 a0 a1 a2 a3 x y hmm hx hy x0 x1 y0 y1⟩
  by_cases c20 : m = 20
  · subst c20
    exact ⟨_, _, by simp [fits, wide, fit]; omega, fit_20 a0 a1 a2 a3 x y hmm hx hy x0 x1 y0 y1⟩
  by_cases c24 : m = 24
  · subst c24
    exact ⟨_, _, by simp [fits, wide, fit]; omega, fit_24 a0 a1 a2 a3 x y hmm hx hy x0 x1 y0 y1⟩
  by_cases c25 : m = 25
  · subst c25
    exact ⟨_, _, by simp [fits, wide, fit]; omega, fit_25 a0 a1 a2 a3 x y hmm hx hy x0 x1 y0 y1⟩
  by_cases c4 : m = 4
  · subst c4
    exact ⟨_, _, by simp [fits, wide, fit]; omega, fit_4 a0 a1 a2 a3 x y hmm hx hy x0 x1 y0 y1⟩
  by_cases c5 : m = 5
  · subst c5
    exact ⟨_, _, by simp [fits, wide, fit]; omega, fit_5 a0 a1 a2 a3 x y hmm hx hy x0 x1 y0 y1⟩
  by_cases c21 : m = 21
  · subst c21
    exact ⟨_, _, by simp [fits, wide, fit]; omega, fit_21 a0 a1 a2 a3 x y hmm hx hy x0 x1 y0 y1⟩
  by_cases c23 : m = 23
  · subst c23
    exact ⟨_, _, by simp [fits, wide, fit]; omega, fit_23 a0 a1 a2 a3 x y hmm hx hy x0 x1 y0 y1⟩
  by_cases c30 : m = 30
  · subst c30
    exact ⟨_, _, by simp [fits, wide, fit]; omega, fit_30 a0 a1 a2 a3 x y hmm hx hy x0 x1 y0 y1⟩
  by_cases c31 : m = 31
  · subst c31
    exact ⟨_, _, by simp [fits, wide, fit]; omega, fit_31 a0 a1 a2 a3 x y hmm hx hy x0 x1 y0 y1⟩
  by_cases c32 : m = 32
  · subst c32
    exact ⟨_, _, by simp [fits, wide, fit]; omega, fit_32 a0 a1 a2 a3 x y hmm hx hy x0 x1 y0 y1⟩
  exact ⟨_, _, by simp [fits, wide, fit, c1, c2, c19, c20, c24, c25, c4, c5, c21, c23, c30, c31, c32], fit_other a0 a1 a2 a3 x y m hmm (beq_eq_false_iff_ne.mpr c1) (beq_eq_false_iff_ne.mpr c2) (beq_eq_false_iff_ne.mpr c19) (beq_eq_false_iff_ne.mpr c20) (beq_eq_false_iff_ne.mpr c24) (beq_eq_false_iff_ne.mpr c25) (beq_eq_false_iff_ne.mpr c4) (beq_eq_false_iff_ne.mpr c5) (beq_eq_false_iff_ne.mpr c21) (beq_eq_false_iff_ne.mpr c23) (beq_eq_false_iff_ne.mpr c30) (beq_eq_false_iff_ne.mpr c31) (beq_eq_false_iff_ne.mpr c32) hx hy x0 x1 y0 y1⟩

open Classical in
/-- What fit answers (its first operand, its second one), where the operation is a byte. -/
noncomputable def fitted (a0 a1 a2 a3 : Int) : Int × Int := if h : 0 ≤ a1 ∧ a1 ≤ 255 then (Classical.choose (fit_ex a0 a1 a2 a3 h.1), Classical.choose (Classical.choose_spec (fit_ex a0 a1 a2 a3 h.1))) else (0, 0)
theorem fitted_spec (a0 a1 a2 a3 : Int) (h0 : 0 ≤ a1) (h1 : a1 ≤ 255) : fits (Int.tmod a1 34) (fitted a0 a1 a2 a3).1 (fitted a0 a1 a2 a3).2 = true ∧ Gives a0 a1 a2 a3 (Int.tmod a1 34) (fitted a0 a1 a2 a3).1 (fitted a0 a1 a2 a3).2 := by
  unfold fitted
  rw [dif_pos ⟨h0, h1⟩]
  exact Classical.choose_spec (Classical.choose_spec (fit_ex a0 a1 a2 a3 h0))

open Classical in
noncomputable def fit_.f (_k : Nat) (a0 a1 a2 a3 : Int) : Option (Int × Int × Int × Int) := if 0 ≤ a1 ∧ a1 ≤ 255 then some (0, Int.tmod a1 34, (fitted a0 a1 a2 a3).1, (fitted a0 a1 a2 a3).2) else none
theorem fit_.mono : ∀ a0 a1 a2 a3 k, LeO (fit_.f k a0 a1 a2 a3) (fit_.f (k + 1) a0 a1 a2 a3) := fun _ _ _ _ _ => LeO.refl _
theorem fit_.calls (k : Nat) (a0_0 : Int) (a0_1 : Int) (a0_2 : Int) (a0_3 : Int) (r1 : Int) (r2 : Int) (r3 : Int) (r4 : Int) (w : World) (h : fit_.f k a0_0 a0_1 a0_2 a0_3 = some (r1, r2, r3, r4)) :
    Calls Try.prog 47 #[.agg #[.int .i64 a0_0, .int .u8 a0_1, .int .i64 a0_2, .int .i64 a0_3]] w fun e w' => e = .returned (.agg #[.int .i64 r1, .int .u8 r2, .int .i64 r3, .int .i64 r4]) ∧ Below w.heap.size w w' := by
  unfold fit_.f at h
  split at h
  · rename_i hb
    simp only [Option.some.injEq, Prod.mk.injEq] at h
    obtain ⟨rfl, rfl, rfl, rfl⟩ := h
    exact (fitted_spec a0_0 a0_1 a0_2 a0_3 hb.1 hb.2).2 w
  · cases h
end Go.Proofs.Ytblgcodkbapccaa.ApartFits
