/- PROVED: what slices.Clone of bytes, Roomy, the closure inside code.Decode and code.Decode itself do, step by step. Conditions: each slice within its reach; the elements are bytes. Words of the print (YtblgcodkbapccaaW..) are used. -/
import Derived.Test.YtblgcodkbapccaaPCodeDecodesx
import Derived.WalkSpells
namespace Go.Proofs.Ytblgcodkbapccaa.DecodesWalk
open Go.RowKit Go.Proofs.Ytblgcodkbapccaa.PCodeDecodes Go.Proofs.YtblgcodkbapccaaW.PrintWords Go.Proofs.YtblgcodkbapccaaW.PrintLast Go.Proofs.YtblgcodkbapccaaW.PrintMore
attribute [local go_sem] max2_int min2_int max_two min_two max_three min_three max_four min_four
set_option linter.unusedVariables false
set_option linter.unusedSimpArgs false

theorem u8_KM {w : World} {base : Nat} {x : Int} {cs : List Value} (h : (Kd.int .u8).K w x cs) : (Kd.int .u8).M w base (fun _ => False) x cs := h

set_option maxHeartbeats 8000000 in
set_option maxRecDepth 100000 in
theorem clone_calls (A0 : Option Addr) (c0 : Nat) (l0 : List Int) (w : World) (hr0 : Kd.C (Kd.int .u8) w A0 l0.length l0) (hl : l0.length ≤ 140737488355328) :
    Calls Try.prog 74 #[.slice A0 l0.length c0] w fun e w' => ∃ v0_ : Value, e = .returned v0_ ∧ Kd.R (Kd.int .u8) 5 w' w.heap.size (fun _ => True) v0_ l0 ∧ Below w.heap.size w w' := by
  have HB := Aside0.mk (Below.refl w.heap.size w)
  have HR0 := Aside0.mk hr0
  have HL := Aside0.mk hl
  clear hr0 hl
  cases A0 with
  | none =>
    have h0 : l0.length = 0 := by
      rcases Nat.eq_zero_or_pos l0.length with h0 | h0
      · exact h0
      · obtain ⟨ad, h, _⟩ := HR0.out.2.2 h0
        cases h
    have hn : l0 = [] := List.eq_nil_of_length_eq_zero h0
    subst hn
    have he := fun W : World => Lib.run_eql_slice_nil (P := Try.prog) W 43 5 none 0 c0 0 0 Try.underlying43
    simp only [Option.isNone_none] at he
    go_enter Try.func74, Try.ntmps74
    go_wp2
    go_ret
    exact ⟨_, rfl, Kd.R_nil _ _ _ _ _, HB.out⟩
  | some ad =>
    have he := fun W : World => Lib.run_eql_slice_nil (P := Try.prog) W 43 5 (some ad) l0.length c0 0 0 Try.underlying43
    simp only [Option.isNone_some] at he
    go_enter Try.func74, Try.ntmps74
    go_wp2_with (first | ((with_reducible refine gate_dst (N := 5) rfl ?_); refine Kd.R_lit (Kd.int .u8) (w0 := w) w.heap.size 5 ?hg (N := 5) ?hd (xs := ([] : List Int)) (inner := []) (ok := fun _ => True) (okp := fun _ => False) ?hr ?hp (fun _ _ => trivial) trivial HB.out (Nat.le_refl _) (by simp) ?_; (case hd => rfl); (case hg => rfl); (case hr => first | (go_simp; done) | (go_simp; rfl)); (case hp => exact Reps.none _ _); intro v5 w5 ho hb hg_ hnew_; have HO := Aside0.mk ho; have HB2 := Aside0.mk hb; clear ho hb hg_ hnew_; obtain ⟨Ao, co, eo⟩ := Kd.R_slice HO.out; subst eo) | ((with_reducible refine gate_builtin (b := .append) (xs := #[.tmp 5, .tmp 6]) rfl ?_); at_builtin; refine Kd.R_append_rows (Kd.int .u8) (w0 := w) w.heap.size rfl (.tmp 5) (.tmp 6) 43 5 (.int .u8 0) 1 rfl Try.underlying43 info5 rfl (by decide) (by omega) (.slice Ao ([] : List Int).length co) [] l0 _ _ _ (fun _ => True) (fun _ => False) rfl rfl HO.out (Kd.C_below HR0.out HB2.out) (fun _ _ h => u8_KM h) (fun _ h => h.elim) (fun _ _ => trivial) HB2.out (below_size HB2.out) (by have := HL.out; simp; omega) ?_; intro v7 w7 ho hb hg hat; have HO7 := Aside0.mk ho; have HB7 := Aside0.mk hb; clear ho hb hg hat))
    go_ret
    exact ⟨_, rfl, by simpa using HO7.out, HB7.out⟩

set_option maxHeartbeats 8000000 in
set_option maxRecDepth 100000 in
theorem roomy_calls (A0 : Option Addr) (c0 : Nat) (l0 : List Int) (w : World) (hr0 : Kd.C (Kd.int .u8) w A0 l0.length l0) (hl : l0.length ≤ 140737488351232) :
    Calls Try.prog 39 #[.slice A0 l0.length c0] w fun e w' => ∃ (A : Option Addr) (c : Nat), e = .returned (.tuple #[.slice A l0.length c, .slice A (l0 ++ [165, 90, 195, 60]).length c]) ∧ (l0 ++ [165, 90, 195, 60]).length ≤ c ∧ Kd.C (Kd.int .u8) w' A (l0 ++ [165, 90, 195, 60]).length (l0 ++ [165, 90, 195, 60]) ∧ Below w.heap.size w w' := by
  have HB := Aside0.mk (Below.refl w.heap.size w)
  have HR0 := Aside0.mk hr0
  have HL := Aside0.mk hl
  clear hr0 hl
  go_enter Try.func39, Try.ntmps39
  go_wp2_with fail
  refine (clone_calls A0 c0 l0 _ HR0.out (by have := HL.out; omega)).mono ?_
  rintro e1 w1 ⟨v1, rfl, ho, hb⟩
  have HO := Aside0.mk ho
  have HB1 := Aside0.mk hb
  clear ho hb
  obtain ⟨A1, c1, rfl⟩ := Kd.R_slice HO.out
  go_wp2_with (first | ((with_reducible refine gate_dst (N := 7) rfl ?_); refine Kd.R_lit (Kd.int .u8) (w0 := w) w.heap.size 5 ?hg (N := 7) ?hd (xs := ([165, 90, 195, 60] : List Int)) (inner := [.int .u8 165, .int .u8 90, .int .u8 195, .int .u8 60]) (ok := fun _ => True) (okp := fun _ => False) ?hr ?hp (fun _ _ => trivial) trivial HB1.out (below_size HB1.out) (by simp) ?_; (case hd => rfl); (case hg => rfl); (case hr => first | (go_simp; done) | (go_simp; rfl)); (case hp => exact Reps.one (show Kd.M (Kd.int .u8) _ _ _ (165 : Int) [.int .u8 165] from rfl) (Reps.one (show Kd.M (Kd.int .u8) _ _ _ (90 : Int) [.int .u8 90] from rfl) (Reps.one (show Kd.M (Kd.int .u8) _ _ _ (195 : Int) [.int .u8 195] from rfl) (Reps.one (show Kd.M (Kd.int .u8) _ _ _ (60 : Int) [.int .u8 60] from rfl) (Reps.none _ _))))); intro v5 w5 ho hb hg_ hnew_; have HO7 := Aside0.mk ho; have HB2 := Aside0.mk hb; have HO' := Aside0.mk (Kd.R_grown HO.out hg_ (fun _ _ => by simp)); clear ho hb hg_ hnew_; obtain ⟨Ao, co, eo⟩ := Kd.R_slice HO7.out; subst eo) | ((with_reducible refine gate_builtin (b := .append) (xs := #[.tmp 6, .tmp 7]) rfl ?_); at_builtin; refine Kd.R_append_rows (Kd.int .u8) (w0 := w) w.heap.size rfl (.tmp 6) (.tmp 7) 43 5 (.int .u8 0) 1 rfl Try.underlying43 info5 rfl (by decide) (by omega) (.slice A1 l0.length c1) l0 [165, 90, 195, 60] _ _ _ (fun _ => True) (fun _ => False) rfl rfl HO'.out (Kd.R_reads' HO7.out).2.2 (fun _ _ h => u8_KM h) (fun _ h => h.elim) (fun _ _ => trivial) HB2.out (below_size HB2.out) (by have := HL.out; simp; omega) ?_; intro v8 w8 ho hb hg hat; have HO8 := Aside0.mk ho; have HB8 := Aside0.mk hb; clear ho hb hg hat; obtain ⟨A8, c8, eo⟩ := Kd.R_slice HO8.out; subst eo; have hc8 : l0.length ≤ c8 := (by have := (Kd.R_reads' HO8.out).2.1; simp at this; omega)))
  go_ret2
  have hz : (if c8 = 0 then A8 else Option.map (fun x => x.add 0) A8) = A8 := by cases A8 <;> simp [Addr.add]
  exact ⟨A8, c8, by simp [hz], (Kd.R_reads' HO8.out).2.1, (Kd.R_reads' HO8.out).2.2, HB8.out⟩

/-- The number of the first bytes of a row, the great ones first: n bytes of it, behind a number. -/
def numOn (l : List Int) : Nat → Int
  | 0 => 0
  | n + 1 => 256 * numOn l n + rd l (n : Int)
/-- What the closure answers for so many bytes. -/
def numOf (l : List Int) (wd : Nat) : Int := if wd = 4 then wrap32 (numOn l 4) else numOn l wd

theorem numOn_bd (l : List Int) (hb : ∀ i, 0 ≤ rd l i ∧ rd l i ≤ 255) : (0 ≤ numOn l 0 ∧ numOn l 0 < 1) ∧ (0 ≤ numOn l 1 ∧ numOn l 1 < 256) ∧ (0 ≤ numOn l 2 ∧ numOn l 2 < 65536) ∧ (0 ≤ numOn l 3 ∧ numOn l 3 < 16777216) ∧ (0 ≤ numOn l 4 ∧ numOn l 4 < 4294967296) := by
  have h0 := hb ((0 : Nat) : Int)
  have h1 := hb ((1 : Nat) : Int)
  have h2 := hb ((2 : Nat) : Int)
  have h3 := hb ((3 : Nat) : Int)
  simp only [numOn]
  omega
theorem numOn_lt (l : List Int) (hb : ∀ i, 0 ≤ rd l i ∧ rd l i ≤ 255) (k : Nat) (hk : k < 4) : 0 ≤ numOn l k ∧ numOn l k < 16777216 := by
  obtain ⟨a, b, c, d, _⟩ := numOn_bd l hb
  rcases (by omega : k = 0 ∨ k = 1 ∨ k = 2 ∨ k = 3) with rfl | rfl | rfl | rfl <;> omega

theorem ofInt_i64 (a : Nat) (ha : a < 9223372036854775808) : (BitVec.ofInt 64 (a : Int)).toNat = a := by
  rw [BitVec.ofInt_natCast, BitVec.toNat_ofNat]; exact Nat.mod_eq_of_lt (by omega)
theorem i64_or_nat (a b : Nat) (ha : a < 9223372036854775808) (hb : b < 9223372036854775808) : Go.bits .or .i64 (a : Int) (b : Int) = ((a ||| b : Nat) : Int) := by
  have hx : a ||| b < 2 ^ 63 := Nat.or_lt_two_pow (by omega) (by omega)
  show IntKind.i64.wrap ((BitVec.ofInt 64 (a : Int) ||| BitVec.ofInt 64 (b : Int)).toNat : Int) = _
  rw [BitVec.toNat_or, ofInt_i64 a ha, ofInt_i64 b hb, IntKind.wrap_i64]
  omega
theorem wrap_four (l : List Int) : wrap64 (wrap32 (numOn l 4)) = numOf l 4 := by
  unfold numOf
  rw [if_pos rfl]
  unfold wrap64 wrap32
  omega
/-- A byte put behind a number by shift and or. -/
theorem or_byte {n x : Int} (h0 : 0 ≤ n) (h1 : n < 16777216) (h2 : 0 ≤ x) (h3 : x ≤ 255) : Go.bits .or .i64 (n * 256) x = 256 * n + x := by
  obtain ⟨a, rfl⟩ := Int.eq_ofNat_of_zero_le h0
  obtain ⟨b, rfl⟩ := Int.eq_ofNat_of_zero_le h2
  have e : ((a : Int) * 256) = ((a * 256 : Nat) : Int) := by omega
  rw [e, i64_or_nat (a * 256) b (by omega) (by omega)]
  have h := Nat.shiftLeft_add_eq_or_of_lt (i := 8) (b := b) (by omega) a
  rw [Nat.shiftLeft_eq] at h
  rw [show (256 : Nat) = 2 ^ 8 from rfl, ← h]
  omega

set_option maxHeartbeats 8000000 in
set_option maxRecDepth 100000 in
theorem take_calls (g : Nat) (A : Option Addr) (c : Nat) (l : List Int) (wd : Nat) (w : World) (hg : w.heap[g]? = some (.cells #[.slice A l.length c] 43 (0, 0))) (hA : ∀ ad, A = some ad → ad.block < g) (hr : Kd.C (Kd.int .u8) w A l.length l) (hl : l.length ≤ c) (hwd : wd ≤ l.length) (hw4 : wd ≤ 4)
    (hb : ∀ i, 0 ≤ rd l i ∧ rd l i ≤ 255) :
    Calls Try.prog 75 #[.int .i64 (wd : Int), .pointer (some ⟨g, 0, none⟩)] w fun e w' => e = .returned (.int .i64 (numOf l wd)) ∧ ∃ n, w' = (w.drewN n).setCell ⟨g, 0, none⟩ (.slice (if c = wd then A else A.map (·.add wd)) (l.length - wd) (c - wd)) := by
  have hcell := blk_cell hg 0
  have hfr := blk_frozen hg 0
  simp only [List.getElem?_toArray, List.getElem?_cons_zero] at hcell
  go_enter Try.func75, Try.ntmps75
  go_wp2
  go_loop [4, 11] (fun n i => ∃ k : Nat, k ≤ wd ∧ i = .int .i64 k ∧ n = .int .i64 (numOn l k)) (fun _ i => wd - (intOf i).toNat)
  case atStart => exact ⟨0, Nat.zero_le _, rfl, rfl⟩
  case round =>
    obtain ⟨k, hk, rfl, rfl⟩ := hrel
    by_cases hlt : k < wd
    · have hbb := hb (k : Int)
      have hnn := numOn_lt l hb k (by omega)
      obtain ⟨ad, rfl, hx⟩ := Kd.at_int hr (k : Int) (by omega) (by omega)
      rw [Int.toNat_natCast] at hx
      go_wp2
      go_round
      case rel => exact ⟨k + 1, by omega, by go_num, by rw [or_byte hnn.1 hnn.2 hbb.1 hbb.2]; rfl⟩
      case measure => simp [intOf]; omega
    · have hkw : k = wd := by omega
      subst hkw
      clear hlt
      by_cases h4 : k = 4
      · have h4b : ((k : Int) == 4) = true := by rw [h4]; rfl
        go_wp2
        all_goals
          go_ret
          exact ⟨(by show Ending.returned (.int .i64 (wrap64 (wrap32 (numOn l 4)))) = _; rw [wrap_four]), 0, by first | rfl | (simp [*]; done)⟩
      · have h4b : ((k : Int) == 4) = false := by
          rw [beq_eq_false_iff_ne]; omega
        have H4 := Aside0.mk h4
        clear h4
        go_wp2
        all_goals
          go_ret
          exact ⟨(by show Ending.returned (.int .i64 (numOn l k)) = _; unfold numOf; rw [if_neg H4.out]), 0, by first | rfl | (simp [*]; done)⟩

theorem zero_end {W w : World} {O : Obj} {n : Nat} (hO : O = .cells #[.int .i64 0, .int .u8 0, .int .i64 0, .int .i64 0] 42 (0, 0)) (hW : W = ((w.alloc O).alloc O).drewN n) :
    W.heap[w.heap.size]? = some (.cells #[.int .i64 0, .int .u8 0, .int .i64 0, .int .i64 0] 42 (0, 0)) ∧ Below w.heap.size w W := by
  subst hO; subst hW
  exact ⟨blk_drewN (blk_alloc (blk_new w _) _) n, pw_below_drewN (below_alloc (below_alloc (Below.refl _ _) _) _) n⟩

theorem four_end {W w : World} {g : Nat} {a b c d v0 v1 v2 v3 : Value} (hW : W.heap[g]? = some (.cells #[a, b, c, d] 42 (0, 0))) (hB : Below w.heap.size w W) (hg : w.heap.size ≤ g) :
    ((((W.setCell ⟨g, 0, none⟩ v0).setCell ⟨g, 1, none⟩ v1).setCell ⟨g, 2, none⟩ v2).setCell ⟨g, 3, none⟩ v3).heap[g]? = some (.cells #[v0, v1, v2, v3] 42 (0, 0)) ∧
      Below w.heap.size w ((((W.setCell ⟨g, 0, none⟩ v0).setCell ⟨g, 1, none⟩ v1).setCell ⟨g, 2, none⟩ v2).setCell ⟨g, 3, none⟩ v3) :=
  ⟨blk_put (blk_put (blk_put (blk_put hW 0 v0 rfl) 1 v1 rfl) 2 v2 rfl) 3 v3 rfl, below_set (below_set (below_set (below_set hB hg) hg) hg) hg⟩

set_option maxHeartbeats 8000000 in
set_option maxRecDepth 100000 in
theorem dec_neg (A0 : Option Addr) (c0 : Nat) (l : List Int) (at_ : Int) (w : World) (h : at_ < 0) :
    Calls Try.prog 40 #[.slice A0 l.length c0, .int .i64 at_] w fun e w' => e = .returned (.tuple #[.agg #[.int .i64 0, .int .u8 0, .int .i64 0, .int .i64 0], .int .i64 1]) ∧ Below w.heap.size w w' := by
  go_enter Try.func40, Try.ntmps40
  go_wp2
  exact bodyPost_ret (results_ct rfl _ _ w.heap.size 42 #[.int .i64 0, .int .u8 0, .int .i64 0, .int .i64 0] (0, 0) _ rfl (zero_end (n := 0) rfl rfl).1 Try.underlying42 rfl (by kernel_rfl)) rfl ⟨rfl, (zero_end (n := 0) rfl rfl).2⟩

set_option maxHeartbeats 400000 in
set_option maxRecDepth 100000 in
theorem dec_far (A0 : Option Addr) (c0 : Nat) (l : List Int) (at_ : Int) (w : World) (h0 : ¬ at_ < 0) (h : at_ > (l.length : Int)) :
    Calls Try.prog 40 #[.slice A0 l.length c0, .int .i64 at_] w fun e w' => e = .returned (.tuple #[.agg #[.int .i64 0, .int .u8 0, .int .i64 0, .int .i64 0], .int .i64 1]) ∧ Below w.heap.size w w' := by
  go_enter Try.func40, Try.ntmps40
  go_wp2
  exact bodyPost_ret (results_ct rfl _ _ w.heap.size 42 #[.int .i64 0, .int .u8 0, .int .i64 0, .int .i64 0] (0, 0) _ rfl (zero_end (n := 0) rfl rfl).1 Try.underlying42 rfl (by kernel_rfl)) rfl ⟨rfl, (zero_end (n := 0) rfl rfl).2⟩

set_option maxHeartbeats 400000 in
set_option maxRecDepth 100000 in
theorem dec_end (A0 : Option Addr) (c0 : Nat) (l : List Int) (w : World) :
    Calls Try.prog 40 #[.slice A0 l.length c0, .int .i64 (l.length : Int)] w fun e w' => e = .returned (.tuple #[.agg #[.int .i64 0, .int .u8 0, .int .i64 0, .int .i64 0], .int .i64 2]) ∧ Below w.heap.size w w' := by
  have h0 : decide ((l.length : Int) < 0) = false := decide_eq_false (by omega)
  go_enter Try.func40, Try.ntmps40
  go_wp2
  exact bodyPost_ret (results_ct rfl _ _ w.heap.size 42 #[.int .i64 0, .int .u8 0, .int .i64 0, .int .i64 0] (0, 0) _ rfl (zero_end (n := 0) rfl rfl).1 Try.underlying42 rfl (by kernel_rfl)) rfl ⟨rfl, (zero_end (n := 0) rfl rfl).2⟩

set_option maxHeartbeats 400000 in
set_option maxRecDepth 100000 in
theorem dec_op (k : Nat) (A0 : Option Addr) (c0 : Nat) (l : List Int) (i : Nat) (w : World) (hr0 : Kd.C (Kd.int .u8) w A0 l.length l) (hi : i < l.length) (hs : code_Size.f k (rd l i) = some 0) :
    Calls Try.prog 40 #[.slice A0 l.length c0, .int .i64 (i : Int)] w fun e w' => e = .returned (.tuple #[.agg #[.int .i64 0, .int .u8 0, .int .i64 0, .int .i64 0], .int .i64 40]) ∧ Below w.heap.size w w' := by
  obtain ⟨ad, rfl, hx⟩ := Kd.at_int hr0 (i : Int) (by omega) (by omega)
  rw [Int.toNat_natCast] at hx
  have hx2 : ((w.alloc (.cells #[.int .i64 0, .int .u8 0, .int .i64 0, .int .i64 0] 42 (0, 0))).alloc (.cells #[.int .i64 0, .int .u8 0, .int .i64 0, .int .i64 0] 42 (0, 0))).cell? (ad.add i) = some (.int .u8 (rd l (i : Int))) := pw_cell_below (below_alloc (below_alloc (Below.refl _ _) _) _) hx
  have h3 : decide (l.length < i) = false := decide_eq_false (by omega)
  clear hr0 hx
  have h0 : decide ((i : Int) < 0) = false := decide_eq_false (by omega)
  have h1 : ((i : Int) == (l.length : Int)) = false := by rw [beq_eq_false_iff_ne]; omega
  have HS := Aside0.mk hs
  clear hs
  go_enter Try.func40, Try.ntmps40
  go_wp2_with fail
  refine (code_Size.calls k _ 0 _ HS.out).mono ?_
  rintro e1 w1 ⟨rfl, ⟨m, rfl⟩⟩
  go_wp2_with fail
  have hz := zero_end (w := w) (n := m) rfl rfl
  have h4 := four_end (v0 := .int .i64 0) (v1 := .int .u8 0) (v2 := .int .i64 0) (v3 := .int .i64 0) hz.1 hz.2 (Nat.le_refl _)
  exact bodyPost_ret (results_ct rfl _ _ w.heap.size 42 #[.int .i64 0, .int .u8 0, .int .i64 0, .int .i64 0] (0, 0) _ rfl h4.1 Try.underlying42 rfl (by kernel_rfl)) rfl ⟨rfl, h4.2⟩

set_option maxHeartbeats 400000 in
set_option maxRecDepth 100000 in
theorem dec_short (k : Nat) (A0 : Option Addr) (c0 : Nat) (l : List Int) (i : Nat) (sz : Int) (w : World) (hr0 : Kd.C (Kd.int .u8) w A0 l.length l) (hi : i < l.length) (hs : code_Size.f k (rd l i) = some sz) (hz : 0 < sz) (hsh : (l.length : Int) - i < sz) (hbig : l.length ≤ 140737488355328) :
    Calls Try.prog 40 #[.slice A0 l.length c0, .int .i64 (i : Int)] w fun e w' => e = .returned (.tuple #[.agg #[.int .i64 0, .int .u8 0, .int .i64 0, .int .i64 0], .int .i64 2]) ∧ Below w.heap.size w w' := by
  obtain ⟨ad, rfl, hx⟩ := Kd.at_int hr0 (i : Int) (by omega) (by omega)
  rw [Int.toNat_natCast] at hx
  have hx2 : ((w.alloc (.cells #[.int .i64 0, .int .u8 0, .int .i64 0, .int .i64 0] 42 (0, 0))).alloc (.cells #[.int .i64 0, .int .u8 0, .int .i64 0, .int .i64 0] 42 (0, 0))).cell? (ad.add i) = some (.int .u8 (rd l (i : Int))) := pw_cell_below (below_alloc (below_alloc (Below.refl _ _) _) _) hx
  have h3 : decide (l.length < i) = false := decide_eq_false (by omega)
  clear hr0 hx
  have h0 : decide ((i : Int) < 0) = false := decide_eq_false (by omega)
  have h1 : ((i : Int) == (l.length : Int)) = false := by rw [beq_eq_false_iff_ne]; omega
  have h2 : (sz == 0) = false := by rw [beq_eq_false_iff_ne]; omega
  have HS := Aside0.mk hs
  clear hs
  go_enter Try.func40, Try.ntmps40
  go_wp2_with fail
  refine (code_Size.calls k _ sz _ HS.out).mono ?_
  rintro e1 w1 ⟨rfl, ⟨m, rfl⟩⟩
  go_wp2_with fail
  refine (code_Size.calls k _ sz _ HS.out).mono ?_
  rintro e2 w2 ⟨rfl, ⟨m2, rfl⟩⟩
  go_wp2_with fail
  have hz := zero_end (w := w) (n := m + m2) rfl rfl
  have h4 := four_end (v0 := .int .i64 0) (v1 := .int .u8 0) (v2 := .int .i64 0) (v3 := .int .i64 0) hz.1 hz.2 (Nat.le_refl _)
  exact bodyPost_ret (results_ct rfl _ _ w.heap.size 42 #[.int .i64 0, .int .u8 0, .int .i64 0, .int .i64 0] (0, 0) _ rfl h4.1 Try.underlying42 rfl (by kernel_rfl)) rfl ⟨rfl, h4.2⟩


theorem cut_is (A : Option Addr) (c m : Nat) (l : List Int) (hm : m ≤ l.length) (hc : l.length ≤ c) :
    ∃ A1 : Option Addr, (∀ W : World, (Instr.slice 43 (.slice A l.length c) (some (.int .i64 (m : Int))) none none).run Try.prog W = .ok (.slice A1 (l.length - m) (c - m)) W) ∧ A1 = (if c = m then A else A.map (·.add m)) ∧
      (∀ w : World, Kd.C (Kd.int .u8) w A l.length l → Kd.C (Kd.int .u8) w A1 (l.drop m).length (l.drop m)) ∧ (l.drop m).length ≤ c - m ∧ ∀ B : Nat, (∀ ad, A = some ad → ad.block < B) → ∀ ad, A1 = some ad → ad.block < B := by
  obtain ⟨i, hi, hzz⟩ := Option.map_eq_some_iff.1 info5
  simp only [Prod.mk.injEq] at hzz
  refine ⟨if c = m then A else A.map (·.add m), fun W => ?_, rfl, fun w h => ?_, by rw [List.length_drop]; omega, fun B h ad he => ?_⟩
  · have ht := Try.underlying43
    have hel : Try.prog.elem 43 = 5 := by simp [Program.elem, ht]
    have hu : Try.prog.underlying 43 = some (.slice (Try.prog.elem 43)) := by rw [hel]; exact ht
    rw [run_slice_l W 43 A l.length c hu .i64 (m : Int) (Int.natCast_nonneg _) (by omega), hel]
    simp [sizeOf, typeInfo, hi, hzz.2.1, sliced, Result.andThen]
  · have h1 := Kd.C_drop (c := c) h hm hc
    rw [show m * (Kd.int IntKind.u8).sz = m from Nat.mul_one m] at h1
    exact h1
  · split at he
    · exact h ad he
    · cases A with
      | none => cases he
      | some a =>
        simp only [Option.map_some, Option.some.injEq] at he
        rw [← he, add_block]
        exact h a rfl

theorem blk_newAt (W : World) (o : Obj) {g : Nat} (h : W.heap.size = g) : (W.alloc o).heap[g]? = some o := h ▸ blk_new W o
/-- A row is read as before where another block alone has turned. -/
theorem C_other {w w' : World} {g n : Nat} {A : Option Addr} {xs : List Int} (h : Kd.C (Kd.int .u8) w A n xs) (hA : ∀ ad, A = some ad → ad.block < g) (hk : ∀ j, j ≠ g → w'.heap[j]? = w.heap[j]?) : Kd.C (Kd.int .u8) w' A n xs := by
  refine ⟨h.1, h.2.1, fun hn => ?_⟩
  obtain ⟨ad, he, hc⟩ := h.2.2 hn
  refine ⟨ad, he, fun j p hj => ?_⟩
  obtain ⟨c, h1, h2, h3⟩ := hc j p hj
  refine ⟨c, h1, h2, fun i u hu => ?_⟩
  rw [← h3 i u hu]
  refine World.cell?_of_block (hk _ ?_)
  rw [add_block]
  have := hA ad he
  omega
/-- The closure's contract, the row's new address a letter. -/
theorem take_kept (g : Nat) (A : Option Addr) (c : Nat) (l : List Int) (wd : Nat) (w : World) (hg : w.heap[g]? = some (.cells #[.slice A l.length c] 43 (0, 0))) (hA : ∀ ad, A = some ad → ad.block < g) (hr : Kd.C (Kd.int .u8) w A l.length l) (hl : l.length ≤ c) (hwd : wd ≤ l.length) (hw4 : wd ≤ 4)
    (hb : ∀ i, 0 ≤ rd l i ∧ rd l i ≤ 255) :
    Calls Try.prog 75 #[.int .i64 (wd : Int), .pointer (some ⟨g, 0, none⟩)] w fun e w' => e = .returned (.int .i64 (numOf l wd)) ∧ ∃ A1, Kd.C (Kd.int .u8) w' A1 (l.drop wd).length (l.drop wd) ∧ (∀ B : Nat, (∀ ad, A = some ad → ad.block < B) → ∀ ad, A1 = some ad → ad.block < B) ∧ (l.drop wd).length ≤ c - wd ∧
      w'.heap[g]? = some (.cells #[.slice A1 (l.drop wd).length (c - wd)] 43 (0, 0)) ∧ (∀ j, j ≠ g → w'.heap[j]? = w.heap[j]?) ∧ ∀ w0 : World, Below w0.heap.size w0 w → w0.heap.size ≤ g → Below w0.heap.size w0 w' := by
  refine (take_calls g A c l wd w hg hA hr hl hwd hw4 hb).mono ?_
  rintro e w' ⟨he, n, hw⟩
  obtain ⟨A1, _, hA1, hC, hcl, hbl⟩ := cut_is A c wd l hwd hl
  rw [← hA1] at hw
  refine ⟨he, A1, C_other (hC w hr) (hbl g hA) (fun j hj => ?_), hbl, hcl, ?_, ?_, ?_⟩
  · rw [hw]
    exact Below.heap_setCell (w.drewN n) ⟨g, 0, none⟩ _ j hj
  · rw [hw, List.length_drop]
    exact blk_put (blk_drewN hg n) 0 _ rfl
  · intro j hj
    rw [hw]
    exact Below.heap_setCell (w.drewN n) ⟨g, 0, none⟩ _ j hj
  · intro w0 hB hle
    rw [hw]
    exact below_set (pw_below_drewN hB n) hle

theorem rd_drop (l : List Int) (m : Nat) (i : Int) (h0 : 0 ≤ i) : rd (l.drop m) i = rd l ((m : Int) + i) := by
  unfold rd
  rw [List.getD_eq_getElem?_getD, List.getElem?_drop, List.getD_eq_getElem?_getD, show ((m : Int) + i).toNat = m + i.toNat by omega]
theorem rd_drop_bytes (l : List Int) (m : Nat) (hb : ∀ i, 0 ≤ rd l i ∧ rd l i ≤ 255) : ∀ i, 0 ≤ rd (l.drop m) i ∧ rd (l.drop m) i ≤ 255 := by
  intro j
  by_cases hj : 0 ≤ j
  · rw [rd_drop _ _ _ hj]; exact hb _
  · have h := hb (m : Int)
    unfold rd at h ⊢
    rw [List.getD_eq_getElem?_getD, List.getElem?_drop, show m + j.toNat = m by omega]
    rw [List.getD_eq_getElem?_getD, Int.toNat_natCast] at h
    exact h
theorem rd_bytes (l : List Int) (hb : ∀ x ∈ l, 0 ≤ x ∧ x ≤ 255) (i : Int) : 0 ≤ rd l i ∧ rd l i ≤ 255 := by
  unfold rd
  rw [List.getD_eq_getElem?_getD]
  by_cases h : i.toNat < l.length
  · rw [List.getElem?_eq_getElem h]
    exact hb _ (List.getElem_mem h)
  · rw [List.getElem?_eq_none (by omega)]
    simp

set_option maxHeartbeats 1000000 in
set_option maxRecDepth 100000 in
theorem dec_full (k : Nat) (A0 : Option Addr) (c0 : Nat) (l : List Int) (i wa wb : Nat) (sz : Int) (w : World) (hr0 : Kd.C (Kd.int .u8) w A0 l.length l) (hc0 : l.length ≤ c0) (hi : i < l.length) (hs : code_Size.f k (rd l i) = some sz) (hz : 0 < sz) (hsh : ¬ (l.length : Int) - i < sz) (hbig : l.length ≤ 140737488355328)
    (hw : code_widths.f k (rd l i) = some ((wa : Int), (wb : Int))) (hfit : i + 1 + wa + wb ≤ l.length) (hwa : wa ≤ 4) (hwb : wb ≤ 4) (hb : ∀ i, 0 ≤ rd l i ∧ rd l i ≤ 255) :
    Calls Try.prog 40 #[.slice A0 l.length c0, .int .i64 (i : Int)] w fun e w' => e = .returned (if (rd l i == 2) = true ∧ decide (1 < numOf (l.drop (i + 1)) wa) = true then .tuple #[.agg #[.int .i64 0, .int .u8 0, .int .i64 0, .int .i64 0], .int .i64 5] else .tuple #[.agg #[.int .i64 (i : Int), .int .u8 (rd l i), .int .i64 (numOf (l.drop (i + 1)) wa), .int .i64 (numOf ((l.drop (i + 1)).drop wa) wb)], .int .i64 0]) ∧ Below w.heap.size w w' := by
  obtain ⟨ad, rfl, hx⟩ := Kd.at_int hr0 (i : Int) (by omega) (by omega)
  rw [Int.toNat_natCast] at hx
  have hx2 : ((w.alloc (.cells #[.int .i64 0, .int .u8 0, .int .i64 0, .int .i64 0] 42 (0, 0))).alloc (.cells #[.int .i64 0, .int .u8 0, .int .i64 0, .int .i64 0] 42 (0, 0))).cell? (ad.add i) = some (.int .u8 (rd l (i : Int))) := pw_cell_below (below_alloc (below_alloc (Below.refl _ _) _) _) hx
  have h3 : decide (l.length < i) = false := decide_eq_false (by omega)
  have HR := Aside0.mk hr0
  clear hr0
  have h0 : decide ((i : Int) < 0) = false := decide_eq_false (by omega)
  have h1 : ((i : Int) == (l.length : Int)) = false := by rw [beq_eq_false_iff_ne]; omega
  have h2 : (sz == 0) = false := by rw [beq_eq_false_iff_ne]; omega
  have HS := Aside0.mk hs
  have HW := Aside0.mk hw
  have hlt : ad.block < w.heap.size := by have := World.block_lt_of_cell? w _ hx; rwa [add_block] at this
  obtain ⟨A1, hcut, hAe, hC1, hl1, hA1⟩ := cut_is (some ad) c0 (i + 1) l (by omega) hc0
  clear hAe
  have HC1 := Aside0.mk (hC1 w HR.out)
  have HL1 := Aside0.mk hl1
  have HA1 := Aside0.mk (hA1 w.heap.size (fun a h => by cases h; exact hlt))
  rw [show (((i + 1 : Nat)) : Int) = (i : Int) + 1 by omega] at hcut
  clear hs hw hC1 hl1 hA1 hx
  have h4 : decide ((l.length : Int) - i < sz) = false := decide_eq_false hsh
  have HI := Aside0.mk hi
  have HF := Aside0.mk hfit
  replace hi := eq_true hi
  have h5 : decide (wrap64 ((l.length : Int) - i) < sz) = false := by
    rw [show wrap64 ((l.length : Int) - i) = (l.length : Int) - i by unfold wrap64; have := HI.out; omega]; exact h4
  have hwr : wrap64 ((i : Int) + 1) = (i : Int) + 1 := by unfold wrap64; have := HI.out; omega
  have hcut2 := hcut
  rw [← hwr] at hcut2
  clear hfit hsh hz hc0 h3 hwr
  have h3 : decide (l.length < i) = false := decide_eq_false (by have := HI.out; omega)
  go_enter Try.func40, Try.ntmps40
  go_wp2_with fail
  refine (code_Size.calls k _ sz _ HS.out).mono ?_
  rintro e1 w1 ⟨rfl, ⟨m, rfl⟩⟩
  go_wp2_with fail
  refine (code_Size.calls k _ sz _ HS.out).mono ?_
  rintro e2 w2 ⟨rfl, ⟨m2, rfl⟩⟩
  go_wp2_with fail
  refine (code_widths.calls k _ _ _ _ HW.out).mono ?_
  rintro e3 w3 ⟨rfl, hd3⟩
  obtain ⟨m3, hm3⟩ := hd3.out
  have b0 : w3.heap[w.heap.size]? = some (.cells #[.int .i64 0, .int .u8 0, .int .i64 0, .int .i64 0] 42 (0, 0)) := by
    rw [hm3]; exact blk_drewN (blk_alloc (blk_alloc (blk_drewN (blk_alloc (blk_new _ _) _) _) _) _) _
  have b1 : w3.heap[w.heap.size + 1]? = some (.cells #[.int .i64 0, .int .u8 0, .int .i64 0, .int .i64 0] 42 (0, 0)) := by
    rw [hm3]; exact blk_drewN (blk_alloc (blk_alloc (blk_drewN (blk_newAt _ _ (by simp)) _) _) _) _
  have b2 : w3.heap[w.heap.size + 1 + 1]? = some (.cells #[.int .i64 (i : Int), .int .u8 (rd l (i : Int)), .int .i64 0, .int .i64 0] 42 (0, 0)) := by
    rw [hm3]; exact blk_drewN (blk_alloc (blk_newAt _ _ (by simp)) _) _
  have b3 : w3.heap[w.heap.size + 1 + 1 + 1]? = some (.cells #[.slice A1 (l.length - (i + 1)) (c0 - (i + 1))] 43 (0, 0)) := by
    rw [hm3]; exact blk_drewN (blk_newAt _ _ (by simp)) _
  have B3 : Below w.heap.size w w3 := by
    rw [hm3]; exact pw_below_drewN (below_alloc (below_alloc (pw_below_drewN (below_alloc (below_alloc (Below.refl _ _) _) _) _) _) _) _
  have S3 : w3.heap.size = w.heap.size + 1 + 1 + 1 + 1 := by rw [hm3]; simp
  have C3 := Aside0.mk (Kd.C_below HC1.out B3)
  rw [← List.length_drop] at b3
  have X0 := Aside0.mk b0
  have X1 := Aside0.mk b1
  have X2 := Aside0.mk b2
  have X3 := Aside0.mk b3
  have XB := Aside0.mk B3
  have XS := Aside0.mk S3
  clear hm3 hd3 m3 b0 b1 b2 b3 B3 S3 hx2 hcut hcut2 h0 h1 h2 h3 h4 h5
  go_wp2_with fail
  refine (take_kept (w.heap.size + 1 + 1 + 1) A1 (c0 - (i + 1)) (l.drop (i + 1)) wa _ X3.out (fun a ha => by have := HA1.out a ha; omega) C3.out HL1.out (by have := HF.out; rw [List.length_drop]; omega) hwa (rd_drop_bytes l (i + 1) hb)).mono ?_
  rintro e4 w4 ⟨rfl, A2, hC2, hA2, hl2, b3, hk, hB⟩
  have C2 := Aside0.mk hC2
  have Y0 := Aside0.mk ((hk w.heap.size (by omega)).trans X0.out)
  have Y1 := Aside0.mk ((hk (w.heap.size + 1) (by omega)).trans X1.out)
  have Y2 := Aside0.mk ((hk (w.heap.size + 1 + 1) (by omega)).trans X2.out)
  have Y3 := Aside0.mk b3
  have YB := Aside0.mk (hB w XB.out (by omega))
  have YA := Aside0.mk (hA2 w.heap.size HA1.out)
  have YL := Aside0.mk hl2
  clear hC2 hA2 hl2 b3 hk hB
  have c22 := blk_cell Y2.out 2
  have f22 := blk_frozen Y2.out 2
  simp only [List.getElem?_toArray, List.getElem?_cons_zero, List.getElem?_cons_succ] at c22
  go_wp2_with fail
  refine (take_kept (w.heap.size + 1 + 1 + 1) A2 (c0 - (i + 1) - wa) ((l.drop (i + 1)).drop wa) wb _ (blk_far (p := ⟨w.heap.size + 1 + 1, 2, none⟩) Y3.out (by simp) _) (fun a ha => by have := YA.out a ha; omega) (C_other (g := w.heap.size + 1 + 1) C2.out (fun a ha => by have := YA.out a ha; omega) (fun j hj => Below.heap_setCell _ ⟨_, 2, none⟩ _ j hj)) YL.out (by have := HF.out; rw [List.length_drop, List.length_drop]; omega) hwb (rd_drop_bytes _ wa (rd_drop_bytes l (i + 1) hb))).mono ?_
  rintro e5 w5 ⟨rfl, A3, _, _, _, _, hk, hB⟩
  have Z0 := Aside0.mk ((hk w.heap.size (by omega)).trans (blk_far (p := ⟨w.heap.size + 1 + 1, 2, none⟩) Y0.out (by simp; omega) (.int .i64 (numOf (l.drop (i + 1)) wa))))
  have Z1 := Aside0.mk ((hk (w.heap.size + 1) (by omega)).trans (blk_far (p := ⟨w.heap.size + 1 + 1, 2, none⟩) Y1.out (by simp) (.int .i64 (numOf (l.drop (i + 1)) wa))))
  have Z2 := Aside0.mk ((hk (w.heap.size + 1 + 1) (by omega)).trans (blk_put (cs' := #[.int .i64 (i : Int), .int .u8 (rd l (i : Int)), .int .i64 (numOf (l.drop (i + 1)) wa), .int .i64 0]) Y2.out 2 (.int .i64 (numOf (l.drop (i + 1)) wa)) rfl))
  have ZB := Aside0.mk (hB w (below_set (g := w.heap.size + 1 + 1) (j := 2) (v := .int .i64 (numOf (l.drop (i + 1)) wa)) YB.out (by omega)) (by omega))
  clear hk hB c22 f22
  have c50 := blk_cell Z2.out 0
  have c51 := blk_cell Z2.out 1
  have c52 := blk_cell Z2.out 2
  have c53 := blk_cell Z2.out 3
  have f50 := blk_frozen Z2.out 0
  have f51 := blk_frozen Z2.out 1
  have f52 := blk_frozen Z2.out 2
  have f53 := blk_frozen Z2.out 3
  have c10 := blk_cell Z1.out 0
  have c11 := blk_cell Z1.out 1
  have c12 := blk_cell Z1.out 2
  have c13 := blk_cell Z1.out 3
  have c00 := blk_cell Z0.out 0
  have c01 := blk_cell Z0.out 1
  have c02 := blk_cell Z0.out 2
  have c03 := blk_cell Z0.out 3
  have f00 := blk_frozen Z0.out 0
  have f01 := blk_frozen Z0.out 1
  have f02 := blk_frozen Z0.out 2
  have f03 := blk_frozen Z0.out 3
  simp only [List.getElem?_toArray, List.getElem?_cons_zero, List.getElem?_cons_succ] at c10 c11 c12 c13 c50 c51 c52 c53 c00 c01 c02 c03
  have hz := blk_far (p := ⟨w.heap.size + 1 + 1, 3, none⟩) Z0.out (by simp; omega) (.int .i64 (numOf (l.drop (i + 1 + wa)) wb))
  have HZ := Aside0.mk hz
  have HZB := Aside0.mk (below_set (g := w.heap.size + 1 + 1) (j := 3) (v := .int .i64 (numOf (l.drop (i + 1 + wa)) wb)) ZB.out (by omega))
  clear hz
  by_cases h2 : (rd l (i : Int) == 2) = true
  · by_cases h6 : decide (1 < numOf (l.drop (i + 1)) wa) = true
    · go_wp2
      all_goals
       have h4 := four_end (v0 := .int .i64 0) (v1 := .int .u8 0) (v2 := .int .i64 0) (v3 := .int .i64 0) HZ.out HZB.out (Nat.le_refl _)
       exact bodyPost_ret (results_ct rfl _ _ w.heap.size 42 #[.int .i64 0, .int .u8 0, .int .i64 0, .int .i64 0] (0, 0) _ rfl h4.1 Try.underlying42 rfl (by kernel_rfl)) rfl ⟨rfl, h4.2⟩
    · have h6f : decide (1 < numOf (l.drop (i + 1)) wa) = false := by simpa using h6
      clear h6
      go_wp2
      all_goals
       have h4 := four_end (v0 := .int .i64 (i : Int)) (v1 := .int .u8 (rd l (i : Int))) (v2 := .int .i64 (numOf (l.drop (i + 1)) wa)) (v3 := .int .i64 (numOf (l.drop (i + 1 + wa)) wb)) HZ.out HZB.out (Nat.le_refl _)
       exact bodyPost_ret (results_ct rfl _ _ w.heap.size 42 #[.int .i64 (i : Int), .int .u8 (rd l (i : Int)), .int .i64 (numOf (l.drop (i + 1)) wa), .int .i64 (numOf (l.drop (i + 1 + wa)) wb)] (0, 0) _ rfl h4.1 Try.underlying42 rfl (by kernel_rfl)) rfl ⟨rfl, h4.2⟩
  · have h2f : (rd l (i : Int) == 2) = false := by simpa using h2
    clear h2
    go_wp2
    all_goals
     have h4 := four_end (v0 := .int .i64 (i : Int)) (v1 := .int .u8 (rd l (i : Int))) (v2 := .int .i64 (numOf (l.drop (i + 1)) wa)) (v3 := .int .i64 (numOf (l.drop (i + 1 + wa)) wb)) HZ.out HZB.out (Nat.le_refl _)
     exact bodyPost_ret (results_ct rfl _ _ w.heap.size 42 #[.int .i64 (i : Int), .int .u8 (rd l (i : Int)), .int .i64 (numOf (l.drop (i + 1)) wa), .int .i64 (numOf (l.drop (i + 1 + wa)) wb)] (0, 0) _ rfl h4.1 Try.underlying42 rfl (by kernel_rfl)) rfl ⟨rfl, h4.2⟩
end Go.Proofs.Ytblgcodkbapccaa.DecodesWalk
