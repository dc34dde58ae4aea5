/- PROVED: for any bytes and any place, the program's Decode and the reference's Decode answer the same instruction and error. Conditions: the elements are bytes; at most 2^47 of them. -/
import Derived.Test.YtblgcodkbapccaaDecodesWalk
namespace Go.Proofs.Ytblgcodkbapccaa.PureDecodes
open Go.RowKit Go.Proofs.Ytblgcodkbapccaa.PCodeDecodes Go.Proofs.Ytblgcodkbapccaa.DecodesWalk Go.Proofs.YtblgcodkbapccaaW.PrintWords Go.Proofs.YtblgcodkbapccaaW.PrintLast

/-- How many bytes the operands have. -/
def wide (op : Nat) : Nat × Nat :=
  if op = 1 then (4, 0) else if op = 19 ∨ op = 20 then (2, 0) else if op = 24 ∨ op = 25 then (1, 1)
  else if op = 2 ∨ op = 4 ∨ op = 5 ∨ op = 21 ∨ op = 23 ∨ op = 30 ∨ op = 31 ∨ op = 32 then (1, 0) else (0, 0)
theorem wides : ∀ i : Fin 256, code_widths.f 40 (i.val : Int) = some (((wide i.val).1 : Int), ((wide i.val).2 : Int)) ∧ provisoref04_wide.f 40 (i.val : Int) = some (((wide i.val).1 : Int), ((wide i.val).2 : Int)) := by decide +kernel
theorem sizes_in : ∀ i : Fin 34, code_Size.f 40 (i.val : Int) = some (1 + ((wide i.val).1 : Int) + ((wide i.val).2 : Int)) ∧ provisoref04_Size.f 40 (i.val : Int) = some (1 + ((wide i.val).1 : Int) + ((wide i.val).2 : Int)) := by decide +kernel
theorem sizes_out : ∀ i : Fin 256, 34 ≤ i.val → code_Size.f 40 (i.val : Int) = some 0 ∧ provisoref04_Size.f 40 (i.val : Int) = some 0 := by decide +kernel
theorem wide_le : ∀ i : Fin 256, (wide i.val).1 ≤ 4 ∧ (wide i.val).2 ≤ 4 := by decide +kernel

theorem take_loop (l : List Int) (hb : ∀ i, 0 ≤ rd l i ∧ rd l i ≤ 255) (wd : Nat) (hw : wd ≤ l.length) (hw4 : wd ≤ 4) (d : Nat) : ∀ (k i : Nat), i + d = wd → d < k →
    provisoref04_take.l0 k l (wd : Int) (numOn l i) (i : Int) = some (numOf l wd) := by
  induction d with
  | zero =>
    intro k i hi hk
    obtain ⟨k, rfl⟩ : ∃ m, k = m + 1 := ⟨k - 1, by omega⟩
    have hi' : i = wd := by omega
    subst hi'
    simp only [provisoref04_take.l0]
    rw [if_neg (by omega)]
    unfold numOf
    by_cases h4 : i = 4
    · subst h4
      have hb4 := (numOn_bd l hb).2.2.2.2
      rw [if_pos (by omega), if_pos rfl]
      by_cases hg : numOn l 4 > 2147483647
      · rw [if_pos hg]
        congr 1
        unfold wrap64 wrap32
        omega
      · rw [if_neg hg]
        congr 1
        unfold wrap32
        omega
    · rw [if_neg (by omega), if_neg h4]
  | succ d ih =>
    intro k i hi hk
    obtain ⟨k, rfl⟩ : ∃ m, k = m + 1 := ⟨k - 1, by omega⟩
    have hn := numOn_lt l hb i (by omega)
    have hx := hb (i : Int)
    simp only [provisoref04_take.l0]
    rw [if_pos (by omega), if_pos (by omega), if_pos (by omega)]
    have e : wrap64 ((wrap64 (256 * numOn l i)) + (wrap64 (rd l (i : Int)))) = numOn l (i + 1) := by
      show _ = 256 * numOn l i + rd l (i : Int)
      unfold wrap64
      omega
    rw [e, show wrap64 ((i : Int) + 1) = ((i + 1 : Nat) : Int) by unfold wrap64; omega]
    exact ih k (i + 1) (by omega) (by omega)

theorem take_is (l : List Int) (hb : ∀ i, 0 ≤ rd l i ∧ rd l i ≤ 255) (wd : Nat) (hw : wd ≤ l.length) (hw4 : wd ≤ 4) : provisoref04_take.f 40 l (wd : Int) = some (numOf l wd) := by
  unfold provisoref04_take.f
  exact take_loop l hb wd hw hw4 wd 40 0 (by omega) (by omega)


theorem ref_neg (l : List Int) (at_ : Int) (h0 : at_ < 0) : provisoref04_Decode.f 41 l at_ = some (0, 0, 0, 0, 1) := by
  unfold provisoref04_Decode.f
  rw [if_pos h0]
  simp only [provisoref04_Decode.j0, if_true]
theorem ref_far (l : List Int) (at_ : Int) (h0 : ¬ at_ < 0) (h1 : at_ > (l.length : Int)) : provisoref04_Decode.f 41 l at_ = some (0, 0, 0, 0, 1) := by
  unfold provisoref04_Decode.f
  rw [if_neg h0, decide_eq_true h1]
  simp only [provisoref04_Decode.j0, if_true]
theorem ref_in (l : List Int) (at_ : Int) (h0 : ¬ at_ < 0) (h1 : ¬ at_ > (l.length : Int)) : provisoref04_Decode.f 41 l at_ = provisoref04_Decode.j0 41 l at_ false 0 0 0 0 := by
  unfold provisoref04_Decode.f
  rw [if_neg h0, decide_eq_false h1]
theorem ref_end (l : List Int) : provisoref04_Decode.f 41 l (l.length : Int) = some (0, 0, 0, 0, 2) := by
  rw [ref_in l _ (by omega) (by omega)]
  simp only [provisoref04_Decode.j0]
  rw [if_neg (by decide), if_pos trivial]
/-- What is asked first: the operation's size. -/
theorem ref_at (l : List Int) (i : Nat) (hi : i < l.length) (sz : Int) (hs : provisoref04_Size.f 40 (rd l (i : Int)) = some sz) (hz : sz = 0 ∨ (sz ≠ 0 ∧ (l.length : Int) - i < sz)) (hbig : l.length ≤ 140737488351232) :
    provisoref04_Decode.f 41 l (i : Int) = some (0, 0, 0, 0, if sz = 0 then 40 else 2) := by
  rw [ref_in l _ (by omega) (by omega)]
  simp only [provisoref04_Decode.j0]
  rw [if_neg (by decide), if_neg (by omega), if_pos (by omega), if_pos (by omega), hs]
  simp only [Option.bind_some]
  rcases hz with rfl | ⟨hn, hsh⟩
  · rw [if_pos rfl, if_pos rfl]
  · rw [if_neg hn, if_neg hn, show wrap64 ((l.length : Int) - i) = (l.length : Int) - i by unfold wrap64; omega, if_pos hsh]
theorem ref_full (k : Nat) (hk : 40 ≤ k) (l : List Int) (i : Nat) (hi : i < l.length) (sz : Int) (wa wb : Nat) (hs : provisoref04_Size.f k (rd l (i : Int)) = some sz) (hz : sz ≠ 0) (hsh : ¬ (l.length : Int) - i < sz) (hbig : l.length ≤ 140737488351232)
    (hw : provisoref04_wide.f k (rd l (i : Int)) = some ((wa : Int), (wb : Int))) (hfit : i + 1 + wa + wb ≤ l.length) (l4 : wa ≤ 4) (r4 : wb ≤ 4) (hr : ∀ i, 0 ≤ rd l i ∧ rd l i ≤ 255) :
    provisoref04_Decode.f (k + 1) l (i : Int) = if rd l (i : Int) = 2 ∧ numOf (l.drop (i + 1)) wa > 1 then some (0, 0, 0, 0, 5) else some ((i : Int), rd l (i : Int), numOf (l.drop (i + 1)) wa, numOf (l.drop (i + 1 + wa)) wb, 0) := by
  have e1 : wrap64 ((i : Int) + 1) = ((i + 1 : Nat) : Int) := by unfold wrap64; omega
  have e2 : wrap64 (((i + 1 : Nat) : Int) + (wa : Int)) = ((i + 1 + wa : Nat) : Int) := by unfold wrap64; omega
  have e3 : wrap64 ((l.length : Int) - i) = (l.length : Int) - i := by unfold wrap64; omega
  have t1 := at_rounds (fun k => provisoref04_take.mono _ _ k) hk (take_is (l.drop (i + 1)) (rd_drop_bytes l _ hr) wa (by rw [List.length_drop]; omega) l4)
  have t2 := at_rounds (fun k => provisoref04_take.mono _ _ k) hk (take_is (l.drop (i + 1 + wa)) (rd_drop_bytes l _ hr) wb (by rw [List.length_drop]; omega) r4)
  have hin : provisoref04_Decode.f (k + 1) l (i : Int) = provisoref04_Decode.j0 (k + 1) l (i : Int) false 0 0 0 0 := by
    unfold provisoref04_Decode.f
    rw [if_neg (by omega), decide_eq_false (by omega)]
  rw [hin]
  simp only [provisoref04_Decode.j0]
  rw [if_neg (by decide), if_neg (by omega), if_pos (by omega), if_pos (by omega), hs]
  rw [Option.bind_some]
  try dsimp only
  rw [if_neg hz, e3, if_neg hsh, hw]
  rw [Option.bind_some]
  try dsimp only
  rw [e1, e2, if_pos (by omega), if_pos (by omega), Int.toNat_natCast, t1]
  rw [Option.bind_some]
  try dsimp only
  rw [if_pos (by omega), if_pos (by omega), Int.toNat_natCast, t2]
  rw [Option.bind_some]
  try dsimp only
  by_cases h2 : rd l (i : Int) = 2
  · by_cases h3 : numOf (l.drop (i + 1)) wa > 1
    · rw [if_pos h2, if_pos h3, if_pos ⟨h2, h3⟩]
    · rw [if_pos h2, if_neg h3, if_neg (fun h => h3 h.2)]
  · rw [if_neg h2, if_neg (fun h => h2 h.1)]

def Meets (l : List Int) (at_ r1 r2 r3 r4 r5 : Int) : Prop :=
  ∀ (A0 : Option Addr) (c0 : Nat) (w : World), Kd.C (Kd.int .u8) w A0 l.length l → l.length ≤ c0 →
        Calls Try.prog 40 #[.slice A0 l.length c0, .int .i64 at_] w fun e w' => e = .returned (.tuple #[.agg #[.int .i64 r1, .int .u8 r2, .int .i64 r3, .int .i64 r4], .int .i64 r5]) ∧ Below w.heap.size w w'

theorem meets_full (l : List Int) (i : Nat) (hi : i < l.length) (sz : Int) (wa wb : Nat) (hs : code_Size.f 40 (rd l (i : Int)) = some sz) (hz : 0 < sz) (hsh : ¬ (l.length : Int) - i < sz) (hbig : l.length ≤ 140737488351232)
    (hw : code_widths.f 40 (rd l (i : Int)) = some ((wa : Int), (wb : Int))) (hfit : i + 1 + wa + wb ≤ l.length) (l4 : wa ≤ 4) (r4 : wb ≤ 4) (hr : ∀ i, 0 ≤ rd l i ∧ rd l i ≤ 255) :
    (rd l (i : Int) = 2 ∧ numOf (l.drop (i + 1)) wa > 1 → Meets l i 0 0 0 0 5) ∧ (¬ (rd l (i : Int) = 2 ∧ numOf (l.drop (i + 1)) wa > 1) → Meets l i (i : Int) (rd l (i : Int)) (numOf (l.drop (i + 1)) wa) (numOf (l.drop (i + 1 + wa)) wb) 0) := by
  refine ⟨fun h A0 c0 w hC hc => ?_, fun h A0 c0 w hC hc => ?_⟩
  · refine (dec_full 40 A0 c0 l i wa wb sz w hC hc hi hs hz hsh (by omega) hw hfit l4 r4 hr).mono ?_
    rintro e w' ⟨rfl, hb⟩
    rw [if_pos ⟨by simpa using h.1, by simpa using h.2⟩]
    exact ⟨rfl, hb⟩
  · refine (dec_full 40 A0 c0 l i wa wb sz w hC hc hi hs hz hsh (by omega) hw hfit l4 r4 hr).mono ?_
    rintro e w' ⟨rfl, hb⟩
    rw [if_neg (fun k => h ⟨by simpa using k.1, by simpa using k.2⟩), List.drop_drop]
    exact ⟨rfl, hb⟩

theorem both (l : List Int) (at_ : Int) (hb : ∀ x ∈ l, 0 ≤ x ∧ x ≤ 255) (hbig : l.length ≤ 140737488351232) :
    ∃ r1 r2 r3 r4 r5 : Int, provisoref04_Decode.f 41 l at_ = some (r1, r2, r3, r4, r5) ∧ Meets l at_ r1 r2 r3 r4 r5 := by
  have hr := rd_bytes l hb
  by_cases h0 : at_ < 0
  · exact ⟨0, 0, 0, 0, 1, ref_neg l at_ h0, fun A0 c0 w _ _ => dec_neg A0 c0 l at_ w h0⟩
  by_cases h1 : at_ > (l.length : Int)
  · exact ⟨0, 0, 0, 0, 1, ref_far l at_ h0 h1, fun A0 c0 w _ _ => dec_far A0 c0 l at_ w h0 h1⟩
  by_cases h2 : at_ = (l.length : Int)
  · subst h2
    exact ⟨0, 0, 0, 0, 2, ref_end l, fun A0 c0 w _ _ => dec_end A0 c0 l w⟩
  obtain ⟨i, rfl⟩ : ∃ i : Nat, at_ = (i : Int) := ⟨at_.toNat, by omega⟩
  have hi : i < l.length := by omega
  obtain ⟨op, hop⟩ : ∃ op : Fin 256, rd l (i : Int) = (op.val : Int) := by
    have := hr (i : Int)
    exact ⟨⟨(rd l (i : Int)).toNat, by omega⟩, by simp; omega⟩
  by_cases h34 : 34 ≤ op.val
  · exact ⟨0, 0, 0, 0, 40, ref_at l i hi 0 (by rw [hop]; exact (sizes_out op h34).2) (.inl rfl) hbig, fun A0 c0 w hC _ => dec_op 40 A0 c0 l i w hC hi (by rw [hop]; exact (sizes_out op h34).1)⟩
  have hs1 := (sizes_in ⟨op.val, by omega⟩).1
  have hs2 := (sizes_in ⟨op.val, by omega⟩).2
  have hw1 := (wides op).1
  have hw2 := (wides op).2
  obtain ⟨l4, r4⟩ := wide_le op
  generalize (wide op.val).1 = wa at *
  generalize (wide op.val).2 = wb at *
  rw [← hop] at hw1 hw2
  have hs1' : code_Size.f 40 (rd l (i : Int)) = some (1 + (wa : Int) + (wb : Int)) := by rw [hop]; exact hs1
  have hs2' : provisoref04_Size.f 40 (rd l (i : Int)) = some (1 + (wa : Int) + (wb : Int)) := by rw [hop]; exact hs2
  by_cases hsh : (l.length : Int) - i < 1 + (wa : Int) + (wb : Int)
  · have h := ref_at l i hi _ hs2' (.inr ⟨by omega, hsh⟩) hbig
    rw [if_neg (by omega)] at h
    exact ⟨0, 0, 0, 0, 2, h, fun A0 c0 w hC _ => dec_short 40 A0 c0 l i _ w hC hi hs1' (by omega) hsh (by omega)⟩
  have h := ref_full 40 (Nat.le_refl _) l i hi _ wa wb hs2' (by omega) hsh hbig hw2 (by omega) l4 r4 hr
  have m := meets_full l i hi _ wa wb hs1' (by omega) hsh hbig hw1 (by omega) l4 r4 hr
  by_cases hc : rd l (i : Int) = 2 ∧ numOf (l.drop (i + 1)) wa > 1
  · rw [if_pos hc] at h
    exact ⟨_, _, _, _, _, h, m.1 hc⟩
  · rw [if_neg hc] at h
    exact ⟨_, _, _, _, _, h, m.2 hc⟩
end Go.Proofs.Ytblgcodkbapccaa.PureDecodes
