/- PROVED: for every list of instructions (each operation's number a byte), the program's All and the reference's All tell the same bytes, place and error, and the comparisons of the law answer true. Conditions: fewer than 2^62 instructions. -/
import Derived.Test.YtblgcodkbapccaaPureCodeEncodes
import Derived.Test.YtblgcodkbapccaaAllsWalk
namespace Go.Proofs.Ytblgcodkbapccaa.PureAlls
open Go.Proofs.Ytblgcodkbapccaa.Pure
open Go.RowKit Go.Proofs.Ytblgcodkbapccaa.PCodeAlls Go.Proofs.Ytblgcodkbapccaa.AllsWalk Go.Proofs.YtblgcodkbapccaaW.PrintWords Go.Proofs.YtblgcodkbapccaaW.PrintLast
theorem rput_is (l : List Int) (x w : Int) (hl : l.length < 1000) (hw : (w = 4 ∧ -2147483648 ≤ x ∧ x ≤ 2147483647) ∨ (w = 2 ∧ 0 ≤ x ∧ x ≤ 65535) ∨ (w = 1 ∧ 0 ≤ x ∧ x ≤ 255) ∨ (w = 0 ∧ x = 0)) : provisoref04_put.f 40 l x w = some (l ++ Pure.bytesOf x w) := by
  have l0 : l.length < 140737488355328 := by omega
  have l1 : l.length + 1 < 140737488355328 := by omega
  have l2 : l.length + 2 < 140737488355328 := by omega
  have l3 : l.length + 3 < 140737488355328 := by omega
  have pos : ∀ n : Int, 0 ≤ n → n < 4294967296 → provisoref04_put.j0 40 l n 4 = some (l ++ [n / 16777216 % 256, n / 65536 % 256, n / 256 % 256, n % 256]) := by
    intro n h0 h1
    have a1 := dv h0 h1
    have a2 := dv (n := n / 256) (by omega) (by omega)
    have a3 := dv (n := n / 256 / 256) (by omega) (by omega)
    simp [provisoref04_put.j0, provisoref04_put.l0, provisoref04_put.l1, w3, w2, w1, w0, wm1, a1, a2, a3, md h0, md (n := n / 256) (by omega), md (n := n / 256 / 256) (by omega), md (n := n / 256 / 256 / 256) (by omega), l0, l1, l2, l3, List.append_assoc]
    omega
  rcases hw with ⟨rfl, h0, h1⟩ | ⟨rfl, h0, h1⟩ | ⟨rfl, h0, h1⟩ | ⟨rfl, rfl⟩
  · unfold provisoref04_put.f
    by_cases hx : x < 0
    · have hwr : wrap64 (x + 4294967296) = x + 4294967296 := by unfold wrap64; omega
      rw [if_pos hx, hwr, pos _ (by omega) (by omega)]
      simp only [Pure.bytesOf, if_true, Option.some.injEq, List.append_cancel_left_eq, List.cons.injEq, and_true]
      omega
    · rw [if_neg hx, pos _ (by omega) (by omega)]
      simp only [Pure.bytesOf, if_true]
  · have a1 := dv h0 (by omega)
    have hx : ¬ x < 0 := by omega
    simp [provisoref04_put.f, hx, provisoref04_put.j0, provisoref04_put.l0, provisoref04_put.l1, w1, w0, wm1, a1, md h0, md (n := x / 256) (by omega), l0, l1, List.append_assoc, Pure.bytesOf]
  · have hx : ¬ x < 0 := by omega
    simp [provisoref04_put.f, hx, provisoref04_put.j0, provisoref04_put.l0, provisoref04_put.l1, w0, wm1, md h0, l0, Pure.bytesOf]
  · simp [provisoref04_put.f, provisoref04_put.j0, provisoref04_put.l0, wm1, Pure.bytesOf]

theorem wides_ref : ∀ i : Fin 256, provisoref04_wide.f 40 (i.val : Int) = some (wide (i.val : Int)) := by decide +kernel
theorem sizes_in_ref : ∀ i : Fin 34, provisoref04_Size.f 40 (i.val : Int) = some (1 + (wide (i.val : Int)).1 + (wide (i.val : Int)).2) := by decide +kernel
theorem sizes_out_ref : ∀ i : Fin 256, 34 ≤ i.val → provisoref04_Size.f 40 (i.val : Int) = some 0 := by decide +kernel
theorem rfits_is (x w : Int) : provisoref04_fits.f x w = some (fit x w) := by
  unfold provisoref04_fits.f fit
  by_cases h0 : w = 0
  · simp [h0]
  · by_cases h1 : w = 1
    · subst h1; by_cases a : 0 ≤ x <;> simp [a]
    · by_cases h3 : w = 2
      · subst h3; by_cases a : 0 ≤ x <;> simp [a]
      · by_cases a : -2147483648 ≤ x <;> simp [a, h0, h1, h3]

theorem ref_encode_is (i : Fin 256) (at_ a b : Int) : provisoref04_Encode.f 41 at_ (i.val : Int) a b = some (encoded (i.val : Int) a b) := by
  have up : ∀ x w, provisoref04_Size.f 40 x = some w → provisoref04_Size.f 41 x = some w := fun x w h => at_rounds (fun k => provisoref04_Size.mono _ k) (by omega) h
  have uw : ∀ x w, provisoref04_wide.f 40 x = some w → provisoref04_wide.f 41 x = some w := fun x w h => at_rounds (fun k => provisoref04_wide.mono _ k) (by omega) h
  unfold provisoref04_Encode.f encoded
  by_cases h34 : 34 ≤ i.val
  · rw [up _ _ (sizes_out_ref i h34), if_pos (by omega)]
    simp
  · rw [up _ _ (sizes_in_ref ⟨i.val, by omega⟩), if_neg (by omega)]
    obtain ⟨w1, w2⟩ := wide_in i
    have hne : ¬ (1 + (wide (i.val : Int)).1 + (wide (i.val : Int)).2 = 0) := by omega
    simp only [Option.bind_some]
    rw [if_neg hne, uw _ _ (wides_ref i)]
    simp only [Option.bind_some, rfits_is]
    have e : ∀ c : Bool, provisoref04_Encode.j0 41 (wide (i.val : Int)).1 (wide (i.val : Int)).2 c at_ (i.val : Int) a b = if c = true then some ([], 5) else ((provisoref04_put.f 40 [(i.val : Int)] a (wide (i.val : Int)).1).bind fun t => (provisoref04_put.f 40 t b (wide (i.val : Int)).2).bind fun t => some (t, 0)) := fun c => by simp only [provisoref04_Encode.j0]
    simp only [e]
    by_cases ha : fit a (wide (i.val : Int)).1 = true
    · by_cases hb : fit b (wide (i.val : Int)).2 = true
      · have hl := bytes_len a (wide (i.val : Int)).1
        have hput : ((provisoref04_put.f 40 [(i.val : Int)] a (wide (i.val : Int)).1).bind fun t => (provisoref04_put.f 40 t b (wide (i.val : Int)).2).bind fun t => some (t, (0 : Int))) = some ([(i.val : Int)] ++ Pure.bytesOf a (wide (i.val : Int)).1 ++ Pure.bytesOf b (wide (i.val : Int)).2, 0) := by
          rw [rput_is _ _ _ (by simp) (fit_put ha w1)]
          simp only [Option.bind_some]
          rw [rput_is _ _ _ (by simp; omega) (fit_put hb w2)]
          simp only [Option.bind_some]
        rw [hput]
        clear up uw w1 w2 hne e hput hl
        generalize (i.val : Int) = op at ha hb ⊢
        by_cases h2 : op = 2
        · subst h2
          by_cases hc : a > 1 <;> simp [fits, ha, hb, hc]
        · simp [fits, ha, hb, h2]
      · simp [fits, ha, hb]
    · simp [fits, ha]

theorem equal_loop (l : List Int) (n d : Nat) : ∀ (k i : Nat), l.length = n → i + d = n → d < k → n < 4611686018427387904 → PCodeEncodes.slices_Equal_byte_byte.l0 k l l (n : Int) (i : Int) = some true := by
  induction d with
  | zero =>
    intro k i hn hi hk h
    obtain ⟨k, rfl⟩ : ∃ m, k = m + 1 := ⟨k - 1, by omega⟩
    simp only [PCodeEncodes.slices_Equal_byte_byte.l0]
    rw [if_neg (by omega)]
  | succ d ih =>
    intro k i hn hi hk h
    obtain ⟨k, rfl⟩ : ∃ m, k = m + 1 := ⟨k - 1, by omega⟩
    simp only [PCodeEncodes.slices_Equal_byte_byte.l0]
    rw [if_pos (by omega), if_pos (by omega), if_pos (by omega), if_pos (by omega)]
    simp only [if_true]
    rw [show wrap64 ((i : Int) + 1) = ((i + 1 : Nat) : Int) by unfold wrap64; omega]
    exact ih k (i + 1) hn (by omega) (by omega) h

theorem equal_same (l : List Int) (k : Nat) (hk : l.length < k) (hl : l.length < 4611686018427387904) : PCodeEncodes.slices_Equal_byte_byte.f k l l = some true := by
  unfold PCodeEncodes.slices_Equal_byte_byte.f
  rw [if_pos rfl]
  exact equal_loop l l.length l.length k 0 rfl (by omega) hk hl


/-- What encoding all answers: from the instruction of number i on, behind the bytes out. -/
def alls : List S42 → Nat → List Int → List Int × Int × Int
  | [], _, out => (out, 0, 0)
  | x :: r, i, out => if (encoded x.f1 x.f2 x.f3).2 = 0 then (if out.length + (encoded x.f1 x.f2 x.f3).1.length > 4096 then ([], (i : Int), 4) else alls r (i + 1) (out ++ (encoded x.f1 x.f2 x.f3).1)) else ([], (i : Int), (encoded x.f1 x.f2 x.f3).2)

theorem alls_len : ∀ (l : List S42) (i : Nat) (out : List Int), out.length ≤ 4096 → (alls l i out).1.length ≤ 4096
  | [], _, out, h => h
  | x :: r, i, out, h => by
    unfold alls
    split
    · split
      · simp
      · exact alls_len r (i + 1) _ (by simp; omega)
    · simp

theorem rd_at (l : List S42) (i : Nat) (h : i < l.length) : rd_T42 l (i : Int) = l[i] := by
  unfold rd_T42
  simp [List.getD_eq_getElem?_getD, List.getElem?_eq_getElem h]

theorem encode_up (x : S42) (hx : (Lit.int .u8 x.f1).wf = true) (k : Nat) (hk : 41 ≤ k) : PCodeEncodes.code_Encode.f k x.f0 x.f1 x.f2 x.f3 = some (encoded x.f1 x.f2 x.f3) := by
  obtain ⟨i, hi⟩ := byte_nat hx
  rw [hi]
  exact at_rounds (fun k => PCodeEncodes.code_Encode.mono _ _ _ _ k) hk (code_encode_is i x.f0 x.f2 x.f3)
theorem ref_encode_up (x : S42) (hx : (Lit.int .u8 x.f1).wf = true) (k : Nat) (hk : 41 ≤ k) : provisoref04_Encode.f k x.f0 x.f1 x.f2 x.f3 = some (encoded x.f1 x.f2 x.f3) := by
  obtain ⟨i, hi⟩ := byte_nat hx
  rw [hi]
  exact at_rounds (fun k => provisoref04_Encode.mono _ _ _ _ k) hk (ref_encode_is i x.f0 x.f2 x.f3)

theorem code_alls_is (l : List S42) (hw : ∀ x ∈ l, (Lit.int .u8 x.f1).wf = true) (hl : l.length < 4611686018427387904) (d : Nat) : ∀ (k i : Nat) (out : List Int), i + d = l.length → out.length ≤ 4096 → 2 * d + 50 ≤ k →
    all_.l0 k out l (l.length : Int) (i : Int) = some (alls (l.drop i) i out) := by
  induction d with
  | zero =>
    intro k i out hi ho hk
    obtain ⟨k, rfl⟩ : ∃ m, k = m + 1 := ⟨k - 1, by omega⟩
    simp only [all_.l0]
    rw [if_neg (by omega), List.drop_eq_nil_of_le (by omega)]
    rfl
  | succ d ih =>
    intro k i out hi ho hk
    obtain ⟨k, rfl⟩ : ∃ m, k = m + 2 := ⟨k - 2, by omega⟩
    have hlt : i < l.length := by omega
    have hn := encoded_len (l[i]).f1 (l[i]).f2 (l[i]).f3
    have hwr : wrap64 ((out.length : Int) + ((encoded (l[i]).f1 (l[i]).f2 (l[i]).f3).1.length : Int)) = (out.length : Int) + ((encoded (l[i]).f1 (l[i]).f2 (l[i]).f3).1.length : Int) := by unfold wrap64; omega
    have hwi : wrap64 ((i : Int) + 1) = ((i + 1 : Nat) : Int) := by unfold wrap64; omega
    rw [List.drop_eq_getElem_cons hlt]
    unfold alls
    simp only [all_.l0]
    rw [if_pos (by omega), if_pos (by omega), if_pos (by omega), rd_at l i hlt, encode_up _ (hw _ (List.getElem_mem hlt)) _ (by omega)]
    simp only [Option.bind_some, hwr]
    by_cases he : (encoded (l[i]).f1 (l[i]).f2 (l[i]).f3).2 = 0
    · rw [if_pos he, if_pos he]
      by_cases hg : out.length + (encoded (l[i]).f1 (l[i]).f2 (l[i]).f3).1.length > 4096
      · rw [if_pos hg, decide_eq_true (by omega)]
        simp only [all_.j1]
        simp
      · rw [if_neg hg, decide_eq_false (by omega)]
        simp only [all_.j1, hwi]
        rw [if_neg (by simp), if_pos he, if_pos (by omega)]
        exact ih k (i + 1) _ (by omega) (by simp; omega) (by omega)
    · rw [if_neg he, if_neg he]
      simp only [all_.j1]
      rw [if_neg (by simp), if_neg he]

theorem ref_alls_is (l : List S42) (hw : ∀ x ∈ l, (Lit.int .u8 x.f1).wf = true) (hl : l.length < 4611686018427387904) (d : Nat) : ∀ (k i : Nat) (out : List Int), i + d = l.length → out.length ≤ 4096 → 2 * d + 50 ≤ k →
    provisoref04_All.l0 k l out (i : Int) = some (alls (l.drop i) i out) := by
  induction d with
  | zero =>
    intro k i out hi ho hk
    obtain ⟨k, rfl⟩ : ∃ m, k = m + 1 := ⟨k - 1, by omega⟩
    simp only [provisoref04_All.l0]
    rw [if_neg (by omega), List.drop_eq_nil_of_le (by omega)]
    rfl
  | succ d ih =>
    intro k i out hi ho hk
    obtain ⟨k, rfl⟩ : ∃ m, k = m + 1 := ⟨k - 1, by omega⟩
    have hlt : i < l.length := by omega
    have hn := encoded_len (l[i]).f1 (l[i]).f2 (l[i]).f3
    have hwr : wrap64 ((out.length : Int) + ((encoded (l[i]).f1 (l[i]).f2 (l[i]).f3).1.length : Int)) = (out.length : Int) + ((encoded (l[i]).f1 (l[i]).f2 (l[i]).f3).1.length : Int) := by unfold wrap64; omega
    have hwi : wrap64 ((i : Int) + 1) = ((i + 1 : Nat) : Int) := by unfold wrap64; omega
    rw [List.drop_eq_getElem_cons hlt]
    unfold alls
    simp only [provisoref04_All.l0]
    rw [if_pos (by omega), if_pos (by omega), rd_at l i hlt, ref_encode_up _ (hw _ (List.getElem_mem hlt)) _ (by omega)]
    simp only [Option.bind_some, hwr, hwi]
    by_cases he : (encoded (l[i]).f1 (l[i]).f2 (l[i]).f3).2 = 0
    · rw [if_pos he, if_pos he]
      by_cases hg : out.length + (encoded (l[i]).f1 (l[i]).f2 (l[i]).f3).1.length > 4096
      · rw [if_pos hg, if_pos (by omega)]
      · rw [if_neg hg, if_neg (by omega), if_pos (by omega)]
        exact ih k (i + 1) _ (by omega) (by simp; omega) (by omega)
    · rw [if_neg he, if_neg he]

theorem instr_loop (l : List S42) (n d : Nat) : ∀ (k i : Nat), l.length = n → i + d = n → d < k → n < 4611686018427387904 → api_Instr_46.l0 k l l (n : Int) (i : Int) = some true := by
  induction d with
  | zero =>
    intro k i hn hi hk h
    obtain ⟨k, rfl⟩ : ∃ m, k = m + 1 := ⟨k - 1, by omega⟩
    simp only [api_Instr_46.l0]
    rw [if_neg (by omega)]
  | succ d ih =>
    intro k i hn hi hk h
    obtain ⟨k, rfl⟩ : ∃ m, k = m + 1 := ⟨k - 1, by omega⟩
    simp only [api_Instr_46.l0]
    rw [if_pos (by omega), if_pos (by omega), if_pos (by omega), if_pos (by omega), if_neg (by simp)]
    rw [show wrap64 ((i : Int) + 1) = ((i + 1 : Nat) : Int) by unfold wrap64; omega]
    exact ih k (i + 1) hn (by omega) (by omega) h

theorem instr_same (l : List S42) (k : Nat) (hk : l.length < k) (hl : l.length < 4611686018427387904) : api_Instr_46.f k l l = some true := by
  unfold api_Instr_46.f
  rw [if_pos rfl]
  exact instr_loop l l.length l.length k 0 rfl (by omega) hk hl

/-- The statement behind the row. -/
theorem CodeAlls (l : List S42) (hw : ∀ x ∈ l, (Lit.int .u8 x.f1).wf = true) (hl : l.length < 4611686018427387904) :
    ∃ (k : Nat) (b : List Int) (n e : Int), all_.f k l = some (b, n, e) ∧ provisoref04_All.f k l = some (b, n, e) ∧ PCodeEncodes.slices_Equal_byte_byte.f k b b = some true ∧ api_Instr_46.f k l l = some true := by
  have hb := alls_len l 0 [] (by simp)
  refine ⟨2 * l.length + 5000, (alls l 0 []).1, (alls l 0 []).2.1, (alls l 0 []).2.2, ?_, ?_, equal_same _ _ (by omega) (by omega), instr_same l _ (by omega) hl⟩
  · unfold all_.f
    exact code_alls_is l hw hl l.length (2 * l.length + 5000) 0 [] (by omega) (by simp) (by omega)
  · unfold provisoref04_All.f
    exact ref_alls_is l hw hl l.length (2 * l.length + 5000) 0 [] (by omega) (by simp) (by omega)
end Go.Proofs.Ytblgcodkbapccaa.PureAlls
