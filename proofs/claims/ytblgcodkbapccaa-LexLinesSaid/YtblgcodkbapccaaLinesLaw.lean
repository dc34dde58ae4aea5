/- PROVED: for any text and place, the program's Line and the reference's Line answer the same, and the law LexLines answers true. Conditions: the text takes at most 2^47 - 4096 bytes. -/
import Derived.Test.YtblgcodkbapccaaLinesWalk
namespace Go.Proofs.Ytblgcodkbapccaa.LinesLaw
open Go.RowKit Go.Proofs.Ytblgcodkbapccaa.PLexLines Go.Proofs.Ytblgcodkbapccaa.LinesWalk Go.Proofs.YtblgcodkbapccaaW.PrintWords Go.Proofs.YtblgcodkbapccaaW.PrintLast Go.Proofs.YtblgcodkbapccaaW.PrintMore

theorem ref_loop (s : ByteArray) (n : Nat) (hn : n ≤ s.size) (hs : s.size ≤ 140737488351232) (d : Nat) : ∀ (k i : Nat), i + d = n → d < k →
    provisoref10_Line.l0 k s (n : Int) (st s i).1 (st s i).2 (i : Int) = some ((st s n).1, (n : Int) - (st s n).2 + 1) := by
  induction d with
  | zero =>
    intro k i hi hk
    obtain ⟨k, rfl⟩ : ∃ m, k = m + 1 := ⟨k - 1, by omega⟩
    have hin : i = n := by omega
    subst hin
    obtain ⟨b1, b2, b3, b4⟩ := st_bd s i
    simp only [provisoref10_Line.l0]
    rw [if_neg (by omega), show wrap64 ((i : Int) - (st s i).2) = (i : Int) - (st s i).2 by unfold wrap64; omega, show wrap64 ((i : Int) - (st s i).2 + 1) = (i : Int) - (st s i).2 + 1 by unfold wrap64; omega]
  | succ d ih =>
    intro k i hi hk
    obtain ⟨k, rfl⟩ : ∃ m, k = m + 1 := ⟨k - 1, by omega⟩
    obtain ⟨b1, b2, b3, b4⟩ := st_bd s i
    have h := ih k (i + 1) (by omega) (by omega)
    have hst : st s (i + 1) = if bt s (i : Int) = 10 then ((st s i).1 + 1, (i : Int) + 1) else st s i := rfl
    have e1 : wrap64 ((i : Int) + 1) = ((i + 1 : Nat) : Int) := by unfold wrap64; omega
    have e2 : wrap64 ((st s i).1 + 1) = (st s i).1 + 1 := by unfold wrap64; omega
    simp only [provisoref10_Line.l0]
    rw [if_pos (by omega), if_pos (by omega), if_pos (by omega), e1, e2]
    by_cases h10 : bt s (i : Int) = 10
    · rw [if_pos h10] at hst ⊢
      rw [hst] at h
      exact h
    · rw [if_neg h10] at hst ⊢
      rw [hst] at h
      exact h

theorem ref_is (s : ByteArray) (a : Int) (n : Nat) (hn : n ≤ s.size) (hs : s.size ≤ 140737488351232) (h : (a < 0 ∧ n = 0) ∨ (0 ≤ a ∧ (s.size : Int) < a ∧ n = s.size) ∨ (a = (n : Int))) :
    provisoref10_Line.f (n + 3) s a = some ((st s n).1, (n : Int) - (st s n).2 + 1) := by
  have hl := ref_loop s n hn hs n (n + 1) 0 (by omega) (by omega)
  unfold provisoref10_Line.f
  rcases h with ⟨h0, rfl⟩ | ⟨h0, h1, rfl⟩ | rfl
  · rw [if_pos h0]
    simp only [provisoref10_Line.j0, provisoref10_Line.j1]
    rw [if_neg (by omega)]
    exact hl
  · rw [if_neg (by omega)]
    simp only [provisoref10_Line.j0, provisoref10_Line.j1]
    rw [if_pos (by omega)]
    exact hl
  · rw [if_neg (by omega)]
    simp only [provisoref10_Line.j0, provisoref10_Line.j1]
    rw [if_neg (by omega)]
    exact hl

theorem bt_cut (s : ByteArray) (m i : Nat) (hi : i < m) (hm : m ≤ s.size) : bt (s.extract 0 m) (i : Int) = bt s (i : Int) := by
  have h1 : i < (s.extract 0 m).size := by simp; omega
  rw [bt_get _ i h1, bt_get s i (by omega)]
  congr 2
  simp [ByteArray.getElem_extract]

theorem st_cut (s : ByteArray) (m : Nat) (hm : m ≤ s.size) (i : Nat) (hi : i ≤ m) : st (s.extract 0 m) i = st s i := by
  induction i with
  | zero => rfl
  | succ i ih =>
    unfold st
    rw [bt_cut s m i (by omega) hm, ih (by omega)]

theorem both (s : ByteArray) (a : Int) (hs : s.size ≤ 140737488351232) :
    ∃ (k : Nat) (r1 r2 : Int), provisoref10_Line.f k s a = some (r1, r2) ∧ ∀ w : World, Calls Try.prog 12 #[.string s, .int .i64 a] w fun e w' => e = .returned (.tuple #[.int .i64 r1, .int .i64 r2]) ∧ Below w.heap.size w w' := by
  by_cases h0 : a < 0
  · exact ⟨_, _, _, ref_is s a 0 (by omega) hs (.inl ⟨h0, rfl⟩), fun w => line_low s a h0 hs w⟩
  by_cases h1 : (s.size : Int) < a
  · exact ⟨_, _, _, ref_is s a s.size (Nat.le_refl _) hs (.inr (.inl ⟨by omega, h1, rfl⟩)), fun w => line_all s a h1 hs w⟩
  by_cases h2 : a = (s.size : Int)
  · subst h2
    exact ⟨_, _, _, ref_is s _ s.size (Nat.le_refl _) hs (.inr (.inr rfl)), fun w => line_eq s hs w⟩
  obtain ⟨m, rfl⟩ : ∃ m : Nat, a = (m : Int) := ⟨a.toNat, by omega⟩
  refine ⟨_, _, _, ref_is s _ m (by omega) hs (.inr (.inr rfl)), fun w => ?_⟩
  have h := line_mid s m (by omega) hs w
  rw [st_cut s m (by omega) m (Nat.le_refl _)] at h
  exact h

set_option maxHeartbeats 1000000 in
set_option maxRecDepth 100000 in
theorem law_calls (s : ByteArray) (a : Int) (hs : s.size ≤ 140737488351232) (w : World) :
    Calls Try.prog 3 #[.string s, .int .i64 a] w fun e w' => e = .returned (.bool true) ∧ Below w.heap.size w w' := by
  obtain ⟨k, r1, r2, hR, hC⟩ := both s a hs
  have XR := Aside0.mk hR
  have XC := Aside0.mk hC
  clear hR hC
  go_enter Try.func3, Try.ntmps3
  go_wp2_with fail
  refine (Calls.mono (XC.out _) ?_)
  rintro e1 w1 ⟨rfl, hb⟩
  have B1 := Aside0.mk hb
  clear hb
  go_wp2_with fail
  refine (provisoref10_Line.calls k s a r1 r2 _ XR.out).mono ?_
  rintro e2 w2 ⟨rfl, ⟨m, rfl⟩⟩
  go_wp2_with fail
  go_ret
  exact ⟨rfl, pw_below_drewN B1.out _⟩
end Go.Proofs.Ytblgcodkbapccaa.LinesLaw
