/- PROVED: what lex.Line does, step by step, for any text and place: the line and the place in it as st tells. Conditions: the text takes at most 2^47 - 4096 bytes. -/
import Derived.Test.YtblgcodkbapccaaPLexLinesx1
import Derived.Laws.RangeAny
import Derived.Lib.OthersKept
namespace Go.Proofs.Ytblgcodkbapccaa.LinesWalk
open Go.RowKit Go.Proofs.Ytblgcodkbapccaa.PLexLines Go.Proofs.YtblgcodkbapccaaW.PrintWords Go.Proofs.YtblgcodkbapccaaW.PrintLast Go.Proofs.YtblgcodkbapccaaW.PrintMore
attribute [local go_sem] max2_int min2_int max_two min_two max_three min_three max_four min_four
set_option linter.unusedVariables false
set_option linter.unusedSimpArgs false

/-- Line and line's begin behind the first i bytes. -/
def st (s : ByteArray) : Nat → Int × Int
  | 0 => (1, 0)
  | i + 1 => if bt s (i : Int) = 10 then ((st s i).1 + 1, (i : Int) + 1) else st s i

theorem st_bd (s : ByteArray) (i : Nat) : 0 ≤ (st s i).1 ∧ (st s i).1 ≤ (i : Int) + 1 ∧ 0 ≤ (st s i).2 ∧ (st s i).2 ≤ (i : Int) := by
  induction i with
  | zero => simp [st]
  | succ i ih =>
    unfold st
    split
    · simp only; omega
    · omega

theorem st_skip (s : ByteArray) (i d : Nat) (h : ∀ j, j < d → bt s ((i + j : Nat) : Int) ≠ 10) : st s (i + d) = st s i := by
  induction d with
  | zero => rfl
  | succ d ih =>
    show (if bt s ((i + d : Nat) : Int) = 10 then ((st s (i + d)).1 + 1, ((i + d : Nat) : Int) + 1) else st s (i + d)) = _
    rw [if_neg (h d (by omega))]
    exact ih (fun j hj => h j (by omega))

theorem bt_get (s : ByteArray) (i : Nat) (h : i < s.size) : bt s (i : Int) = ((s[i]'h).toNat : Int) := by
  unfold bt
  simp only [Int.toNat_natCast, h, dif_pos]

/-- What lies between a rune's first byte and the next rune: bytes that are no line's end. -/
theorem decode_inner (s : ByteArray) (pos : Nat) (h : pos < s.size) (ha : 128 ≤ (s[pos]'h).toNat) :
    pos + (Utf8.decode s pos).2 ≤ s.size ∧ ∀ j, 1 ≤ j → j < (Utf8.decode s pos).2 → 128 ≤ (s.get! (pos + j)).toNat := by
  have hn : ¬ (s[pos]'h).toNat < 128 := by omega
  simp only [Utf8.decode, get_at s pos h, hn, if_false]
  repeat' split
  all_goals simp_all [Utf8.runeError]
  all_goals first
    | omega
    | (refine ⟨by omega, fun j h1 h2 => ?_⟩; rcases (by omega : j = 1 ∨ j = 2 ∨ j = 3) with rfl | rfl | rfl <;> omega)
    | (intro j h1 h2; omega)

/-- One step of the range: over a line's end. -/
theorem next_end {w : World} {t : ByteArray} {pos : Nat} (ty : TypeId) (h : pos < t.size) (h10 : bt t (pos : Int) = 10) :
    (Instr.next (.pointer (some ⟨w.heap.size, 0, none⟩)) true ty).run Try.prog (w.iter t pos) = .ok (.tuple #[.bool true, .int .i64 pos, .int .i32 10]) (w.iter t (pos + 1)) ∧ st t (pos + 1) = ((st t pos).1 + 1, (pos : Int) + 1) := by
  rw [bt_get t pos h] at h10
  have hb : (t[pos]'h).toNat = 10 := by omega
  have hd := decode_ascii t pos h (by omega)
  refine ⟨?_, ?_⟩
  · rw [run_next_any w t pos ty h, hd, hb]
    rfl
  · show (if bt t (pos : Int) = 10 then _ else _) = _
    rw [if_pos (by rw [bt_get t pos h]; omega)]

/-- One step of the range: over anything else. -/
theorem next_other {w : World} {t : ByteArray} {pos : Nat} (h : pos < t.size) (h10 : bt t (pos : Int) ≠ 10) :
    ∃ r d : Nat, (∀ ty, (Instr.next (.pointer (some ⟨w.heap.size, 0, none⟩)) true ty).run Try.prog (w.iter t pos) = .ok (.tuple #[.bool true, .int .i64 pos, .int .i32 (r : Int)]) (w.iter t (pos + d))) ∧ r ≠ 10 ∧ 1 ≤ d ∧ pos + d ≤ t.size ∧ st t (pos + d) = st t pos ∧ r ≤ 2147483647 := by
  have hle := decode_le t pos
  by_cases ha : (t[pos]'h).toNat < 128
  · have hd := decode_ascii t pos h ha
    refine ⟨(t[pos]'h).toNat, 1, fun ty => by rw [run_next_any w t pos ty h, hd], ?_, Nat.le_refl _, by omega, ?_, by omega⟩
    · rw [bt_get t pos h] at h10
      omega
    · refine st_skip t pos 1 (fun j hj => ?_)
      rw [show pos + j = pos by omega]
      exact h10
  · obtain ⟨h1, h2⟩ := decode_inner t pos h (by omega)
    obtain ⟨h3, h4⟩ := decode_high t pos h (by omega)
    refine ⟨(Utf8.decode t pos).1, (Utf8.decode t pos).2, fun ty => run_next_any w t pos ty h, by omega, h4, h1, ?_, hle⟩
    refine st_skip t pos _ (fun j hj => ?_)
    rw [bt_get t (pos + j) (by omega)]
    rcases Nat.eq_zero_or_pos j with rfl | hj0
    · have : (t[pos + 0]'(by omega)).toNat = (t[pos]'h).toNat := rfl
      omega
    · have h5 := h2 j hj0 hj
      have h6 := get_at t (pos + j) (by omega)
      rw [Nat.add_zero] at h6
      rw [h6] at h5
      omega

set_option maxHeartbeats 1000000 in
set_option maxRecDepth 100000 in
theorem line_mid (s : ByteArray) (m : Nat) (hm : m < s.size) (hs : s.size ≤ 140737488351232) (w : World) :
    Calls Try.prog 12 #[.string s, .int .i64 (m : Int)] w fun e w' => e = .returned (.tuple #[.int .i64 (st (s.extract 0 m) (m)).1, .int .i64 ((m : Nat) - (st (s.extract 0 m) (m)).2 + 1)]) ∧ Below w.heap.size w w' := by
  obtain ⟨t, ht⟩ : ∃ t : ByteArray, t = s.extract 0 m := ⟨_, rfl⟩
  have hsz : t.size = m := by rw [ht]; simp; omega
  have hle : t.size ≤ 140737488351232 := by omega
  have HT := Aside0.mk ht
  have HZ := Aside0.mk hsz
  clear ht hsz
  go_enter Try.func12, Try.ntmps12
  go_wp2
  rw [← HT.out]
  go_loopw [6, 7] (fun a b wr => ∃ pos : Nat, a = .int .i64 (st t pos).1 ∧ b = .int .i64 (st t pos).2 ∧ pos ≤ t.size ∧ wr = w.iter t pos) (fun _ _ wr => t.size - wr.iterPos w.heap.size)
  case atStart => exact ⟨0, rfl, rfl, Nat.zero_le _, rfl⟩
  case round =>
    obtain ⟨pos, rfl, rfl, hp, rfl⟩ := hrel
    obtain ⟨b1, b2, b3, b4⟩ := st_bd t pos
    by_cases hlt : pos < t.size
    · by_cases h10 : bt t (pos : Int) = 10
      · have hnx := fun ty => (next_end (w := w) ty hlt h10).1
        have H1 := Aside0.mk (next_end (w := w) 0 hlt h10).2
        clear h10
        go_wp2
        go_roundw
        case rel => exact ⟨pos + 1, by rw [H1.out], by rw [H1.out], by omega, rfl⟩
        case measure => simp only [World.iterPos_iter]; omega
      · obtain ⟨r, d, hnx, hr, hd, hle2, hst, hrle⟩ := next_other (w := w) hlt h10
        have H1 := Aside0.mk hst
        have hr10 : ((r : Int) == 10) = false := by rw [beq_eq_false_iff_ne]; omega
        clear h10 hst hr
        go_wp2
        go_roundw
        case rel => exact ⟨pos + d, by rw [H1.out], by rw [H1.out], by omega, rfl⟩
        case measure => simp only [World.iterPos_iter]; omega
    · have hpe : pos = t.size := by omega
      have hnx := fun ty => run_next_end (P := Try.prog) w t pos ty hlt
      have HP := Aside0.mk hpe
      clear hpe
      go_wp2
      go_ret2
      have hpl : pos = m := by rw [HP.out, HZ.out]
      refine ⟨?_, below_alloc (Below.refl _ _) _⟩
      rw [← HT.out]
      subst hpl
      first | rfl | (rw [HZ.out]; rfl)

set_option maxHeartbeats 1000000 in
set_option maxRecDepth 100000 in
theorem line_all (s : ByteArray) (a : Int) (hm : (s.size : Int) < a) (hs : s.size ≤ 140737488351232) (w : World) :
    Calls Try.prog 12 #[.string s, .int .i64 a] w fun e w' => e = .returned (.tuple #[.int .i64 (st (s) (s.size)).1, .int .i64 ((s.size : Nat) - (st (s) (s.size)).2 + 1)]) ∧ Below w.heap.size w w' := by
  obtain ⟨t, ht⟩ : ∃ t : ByteArray, t = s := ⟨_, rfl⟩
  have hsz : t.size = s.size := by rw [ht]
  have hle : t.size ≤ 140737488351232 := by omega
  have HT := Aside0.mk ht
  have HZ := Aside0.mk hsz
  clear ht hsz
  have h0 : ¬ a < 0 := by omega
  go_enter Try.func12, Try.ntmps12
  go_wp2
  rw [← HT.out]
  go_loopw [6, 7] (fun a b wr => ∃ pos : Nat, a = .int .i64 (st t pos).1 ∧ b = .int .i64 (st t pos).2 ∧ pos ≤ t.size ∧ wr = w.iter t pos) (fun _ _ wr => t.size - wr.iterPos w.heap.size)
  case atStart => exact ⟨0, rfl, rfl, Nat.zero_le _, rfl⟩
  case round =>
    obtain ⟨pos, rfl, rfl, hp, rfl⟩ := hrel
    obtain ⟨b1, b2, b3, b4⟩ := st_bd t pos
    by_cases hlt : pos < t.size
    · by_cases h10 : bt t (pos : Int) = 10
      · have hnx := fun ty => (next_end (w := w) ty hlt h10).1
        have H1 := Aside0.mk (next_end (w := w) 0 hlt h10).2
        clear h10
        go_wp2
        go_roundw
        case rel => exact ⟨pos + 1, by rw [H1.out], by rw [H1.out], by omega, rfl⟩
        case measure => simp only [World.iterPos_iter]; omega
      · obtain ⟨r, d, hnx, hr, hd, hle2, hst, hrle⟩ := next_other (w := w) hlt h10
        have H1 := Aside0.mk hst
        have hr10 : ((r : Int) == 10) = false := by rw [beq_eq_false_iff_ne]; omega
        clear h10 hst hr
        go_wp2
        go_roundw
        case rel => exact ⟨pos + d, by rw [H1.out], by rw [H1.out], by omega, rfl⟩
        case measure => simp only [World.iterPos_iter]; omega
    · have hpe : pos = t.size := by omega
      have hnx := fun ty => run_next_end (P := Try.prog) w t pos ty hlt
      have HP := Aside0.mk hpe
      clear hpe
      go_wp2
      go_ret2
      have hpl : pos = s.size := by rw [HP.out, HZ.out]
      refine ⟨?_, below_alloc (Below.refl _ _) _⟩
      rw [← HT.out]
      subst hpl
      first | rfl | (rw [HZ.out]; rfl)

set_option maxHeartbeats 1000000 in
set_option maxRecDepth 100000 in
theorem line_eq (s : ByteArray) (hs : s.size ≤ 140737488351232) (w : World) :
    Calls Try.prog 12 #[.string s, .int .i64 (s.size : Int)] w fun e w' => e = .returned (.tuple #[.int .i64 (st (s) (s.size)).1, .int .i64 ((s.size : Nat) - (st (s) (s.size)).2 + 1)]) ∧ Below w.heap.size w w' := by
  obtain ⟨t, ht⟩ : ∃ t : ByteArray, t = s := ⟨_, rfl⟩
  have hsz : t.size = s.size := by rw [ht]
  have hle : t.size ≤ 140737488351232 := by omega
  have HT := Aside0.mk ht
  have HZ := Aside0.mk hsz
  clear ht hsz
  go_enter Try.func12, Try.ntmps12
  go_wp2
  rw [← HT.out]
  go_loopw [6, 7] (fun a b wr => ∃ pos : Nat, a = .int .i64 (st t pos).1 ∧ b = .int .i64 (st t pos).2 ∧ pos ≤ t.size ∧ wr = w.iter t pos) (fun _ _ wr => t.size - wr.iterPos w.heap.size)
  case atStart => exact ⟨0, rfl, rfl, Nat.zero_le _, rfl⟩
  case round =>
    obtain ⟨pos, rfl, rfl, hp, rfl⟩ := hrel
    obtain ⟨b1, b2, b3, b4⟩ := st_bd t pos
    by_cases hlt : pos < t.size
    · by_cases h10 : bt t (pos : Int) = 10
      · have hnx := fun ty => (next_end (w := w) ty hlt h10).1
        have H1 := Aside0.mk (next_end (w := w) 0 hlt h10).2
        clear h10
        go_wp2
        go_roundw
        case rel => exact ⟨pos + 1, by rw [H1.out], by rw [H1.out], by omega, rfl⟩
        case measure => simp only [World.iterPos_iter]; omega
      · obtain ⟨r, d, hnx, hr, hd, hle2, hst, hrle⟩ := next_other (w := w) hlt h10
        have H1 := Aside0.mk hst
        have hr10 : ((r : Int) == 10) = false := by rw [beq_eq_false_iff_ne]; omega
        clear h10 hst hr
        go_wp2
        go_roundw
        case rel => exact ⟨pos + d, by rw [H1.out], by rw [H1.out], by omega, rfl⟩
        case measure => simp only [World.iterPos_iter]; omega
    · have hpe : pos = t.size := by omega
      have hnx := fun ty => run_next_end (P := Try.prog) w t pos ty hlt
      have HP := Aside0.mk hpe
      clear hpe
      go_wp2
      go_ret2
      have hpl : pos = s.size := by rw [HP.out, HZ.out]
      refine ⟨?_, below_alloc (Below.refl _ _) _⟩
      rw [← HT.out]
      subst hpl
      first | rfl | (rw [HZ.out]; rfl)

set_option maxHeartbeats 1000000 in
set_option maxRecDepth 100000 in
theorem line_low (s : ByteArray) (a : Int) (hm : a < 0) (hs : s.size ≤ 140737488351232) (w : World) :
    Calls Try.prog 12 #[.string s, .int .i64 a] w fun e w' => e = .returned (.tuple #[.int .i64 (st (ByteArray.empty) (0)).1, .int .i64 ((0 : Nat) - (st (ByteArray.empty) (0)).2 + 1)]) ∧ Below w.heap.size w w' := by
  obtain ⟨t, ht⟩ : ∃ t : ByteArray, t = ByteArray.empty := ⟨_, rfl⟩
  have hsz : t.size = 0 := by rw [ht]; rfl
  have hle : t.size ≤ 140737488351232 := by omega
  have HT := Aside0.mk ht
  have HZ := Aside0.mk hsz
  clear ht hsz
  go_enter Try.func12, Try.ntmps12
  go_wp2
  rw [← HT.out]
  go_loopw [6, 7] (fun a b wr => ∃ pos : Nat, a = .int .i64 (st t pos).1 ∧ b = .int .i64 (st t pos).2 ∧ pos ≤ t.size ∧ wr = w.iter t pos) (fun _ _ wr => t.size - wr.iterPos w.heap.size)
  case atStart => exact ⟨0, rfl, rfl, Nat.zero_le _, rfl⟩
  case round =>
    obtain ⟨pos, rfl, rfl, hp, rfl⟩ := hrel
    obtain ⟨b1, b2, b3, b4⟩ := st_bd t pos
    by_cases hlt : pos < t.size
    · by_cases h10 : bt t (pos : Int) = 10
      · have hnx := fun ty => (next_end (w := w) ty hlt h10).1
        have H1 := Aside0.mk (next_end (w := w) 0 hlt h10).2
        clear h10
        go_wp2
        go_roundw
        case rel => exact ⟨pos + 1, by rw [H1.out], by rw [H1.out], by omega, rfl⟩
        case measure => simp only [World.iterPos_iter]; omega
      · obtain ⟨r, d, hnx, hr, hd, hle2, hst, hrle⟩ := next_other (w := w) hlt h10
        have H1 := Aside0.mk hst
        have hr10 : ((r : Int) == 10) = false := by rw [beq_eq_false_iff_ne]; omega
        clear h10 hst hr
        go_wp2
        go_roundw
        case rel => exact ⟨pos + d, by rw [H1.out], by rw [H1.out], by omega, rfl⟩
        case measure => simp only [World.iterPos_iter]; omega
    · have hpe : pos = t.size := by omega
      have hnx := fun ty => run_next_end (P := Try.prog) w t pos ty hlt
      have HP := Aside0.mk hpe
      clear hpe
      go_wp2
      go_ret2
      have hpl : pos = 0 := by rw [HP.out, HZ.out]
      refine ⟨?_, below_alloc (Below.refl _ _) _⟩
      rw [← HT.out]
      subst hpl
      first | rfl | (rw [HZ.out]; rfl)
end Go.Proofs.Ytblgcodkbapccaa.LinesWalk
