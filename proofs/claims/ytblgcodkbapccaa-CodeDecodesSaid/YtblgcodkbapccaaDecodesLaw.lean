/- PROVED: the law CodeDecodes, step by step: it answers true for any bytes and any place. Conditions: the elements are bytes; the slice within its reach. -/
import Derived.Test.YtblgcodkbapccaaPureCodeDecodes
namespace Go.Proofs.Ytblgcodkbapccaa.DecodesLaw
open Go.RowKit Go.Proofs.Ytblgcodkbapccaa.PCodeDecodes Go.Proofs.Ytblgcodkbapccaa.DecodesWalk Go.Proofs.Ytblgcodkbapccaa.PureDecodes Go.Proofs.YtblgcodkbapccaaW.PrintWords Go.Proofs.YtblgcodkbapccaaW.PrintLast Go.Proofs.YtblgcodkbapccaaW.PrintMore
set_option linter.unusedVariables false
set_option linter.unusedSimpArgs false

theorem eqA42 (d : Nat) (w : World) (x0 y0 : Int) (x1 y1 : Int) (x2 y2 : Int) (x3 y3 : Int) :
    (Op.equalIn (d + 2) 42 (.agg #[.int .i64 x0, .int .u8 x1, .int .i64 x2, .int .i64 x3]) (.agg #[.int .i64 y0, .int .u8 y1, .int .i64 y2, .int .i64 y3])).run Try.prog w = .ok (x0 == y0 && (x1 == y1 && (x2 == y2 && (x3 == y3)))) w := by
  refine eqA_of Try.underlying42 (by kernel_rfl) ?_
  refine eqf_cons (by rfl) (by go_simp; rfl) (by go_simp; rfl) (by go_simp) ?_
  refine eqf_cons (by rfl) (by go_simp; rfl) (by go_simp; rfl) (by go_simp) ?_
  refine eqf_cons (by rfl) (by go_simp; rfl) (by go_simp; rfl) (by go_simp) ?_
  exact eqf_last (by rfl) (by go_simp; rfl) (by go_simp; rfl) (by go_simp)

theorem equal_loop (l : List Int) (n d : Nat) : ∀ (k i : Nat), l.length = n → i + d = n → d < k → n < 4611686018427387904 → slices_Equal_byte_byte.l0 k l l (n : Int) (i : Int) = some true := by
  induction d with
  | zero =>
    intro k i hn hi hk h
    obtain ⟨k, rfl⟩ : ∃ m, k = m + 1 := ⟨k - 1, by omega⟩
    simp only [slices_Equal_byte_byte.l0]
    rw [if_neg (by omega)]
  | succ d ih =>
    intro k i hn hi hk h
    obtain ⟨k, rfl⟩ : ∃ m, k = m + 1 := ⟨k - 1, by omega⟩
    simp only [slices_Equal_byte_byte.l0]
    rw [if_pos (by omega), if_pos (by omega), if_pos (by omega), if_pos (by omega)]
    simp only [if_true]
    rw [show wrap64 ((i : Int) + 1) = ((i + 1 : Nat) : Int) by unfold wrap64; omega]
    exact ih k (i + 1) hn (by omega) (by omega) h

theorem equal_same (l : List Int) (k : Nat) (hk : l.length < k) (hl : l.length < 4611686018427387904) : slices_Equal_byte_byte.f k l l = some true := by
  unfold slices_Equal_byte_byte.f
  rw [if_pos rfl]
  exact equal_loop l l.length l.length k 0 rfl (by omega) hk hl

theorem rd_behind (l m : List Int) (j : Nat) : rd (l ++ m) ((l.length + j : Nat) : Int) = m.getD j 0 := by
  unfold rd
  rw [Int.toNat_natCast, List.getD_eq_getElem?_getD, List.getElem?_append_right (by omega), Nat.add_sub_cancel_left, List.getD_eq_getElem?_getD]

theorem untouched_is (l : List Int) (k : Nat) (hk : l.length < k) (hl : l.length ≤ 140737488351232) : provisoplain_Untouched.f k (l ++ [165, 90, 195, 60]) l = some true := by
  have hlen : (l ++ [165, 90, 195, 60]).length = l.length + 4 := by simp
  have e1 : wrap64 ((l.length : Int) + 1) = ((l.length + 1 : Nat) : Int) := by unfold wrap64; omega
  have e2 : wrap64 ((l.length : Int) + 2) = ((l.length + 2 : Nat) : Int) := by unfold wrap64; omega
  have e3 : wrap64 ((l.length : Int) + 3) = ((l.length + 3 : Nat) : Int) := by unfold wrap64; omega
  have r0 : rd (l ++ [165, 90, 195, 60]) (l.length : Int) = 165 := rd_behind l [165, 90, 195, 60] 0
  have r1 : rd (l ++ [165, 90, 195, 60]) ((l.length + 1 : Nat) : Int) = 90 := rd_behind l [165, 90, 195, 60] 1
  have r2 : rd (l ++ [165, 90, 195, 60]) ((l.length + 2 : Nat) : Int) = 195 := rd_behind l [165, 90, 195, 60] 2
  have r3 : rd (l ++ [165, 90, 195, 60]) ((l.length + 3 : Nat) : Int) = 60 := rd_behind l [165, 90, 195, 60] 3
  unfold provisoplain_Untouched.f
  rw [hlen, if_pos (by omega), if_pos (by omega), Int.toNat_natCast, List.take_left, equal_same l k hk (by omega), Option.bind_some]
  rw [if_pos rfl, if_pos (by omega), r0, e1, r1, e2, r2, e3, r3]
  rw [if_pos rfl, if_pos (by omega), if_pos (by omega), if_pos rfl, if_pos (by omega), if_pos (by omega), if_pos rfl, if_pos (by omega), if_pos (by omega)]
  rfl

attribute [local go_sem high] eqA42
set_option maxHeartbeats 1000000 in
set_option maxRecDepth 100000 in
theorem law_calls (A0 : Option Addr) (c0 : Nat) (l : List Int) (at_ : Int) (w : World) (hr0 : Kd.C (Kd.int .u8) w A0 l.length l) (hc0 : l.length ≤ c0) (hl : l.length ≤ 140737488351232) (hb : ∀ x ∈ l, 0 ≤ x ∧ x ≤ 255) :
    Calls Try.prog 9 #[.slice A0 l.length c0, .int .i64 at_] w fun e w' => e = .returned (.bool true) ∧ Below w.heap.size w w' := by
  obtain ⟨r1, r2, r3, r4, r5, hR, hM⟩ := both l at_ hb hl
  have hU := untouched_is l (l.length + 1) (by omega) hl
  have HR0 := Aside0.mk hr0
  have HC0 := Aside0.mk hc0
  have HL := Aside0.mk hl
  have XR := Aside0.mk hR
  have XM := Aside0.mk hM
  have XU := Aside0.mk hU
  clear hr0 hc0 hl hb hR hM hU
  go_enter Try.func9, Try.ntmps9
  go_wp2_with fail
  refine (roomy_calls A0 c0 l _ HR0.out HL.out).mono ?_
  rintro e1 w1 ⟨A1, c1, rfl, hc1, hC1, hB1⟩
  have HC1 := Aside0.mk hc1
  have CC1 := Aside0.mk hC1
  have CT := Aside0.mk (Kd.C_take hC1 (m := l.length) (by simp))
  have B1 := Aside0.mk hB1
  have HL1 := Aside0.mk (show l.length ≤ c1 by simp at hc1; omega)
  clear hc1 hC1 hB1
  rw [List.take_left] at CT
  go_wp2_with fail
  refine (XM.out A1 c1 _ CT.out HL1.out).mono ?_
  rintro e2 w2 ⟨rfl, hb2⟩
  have B2 := Aside0.mk (below_step B1.out hb2)
  have CC2 := Aside0.mk (Kd.C_below CC1.out hb2)
  clear hb2
  go_wp2_with fail
  have bl : Below w2.heap.size w2 (w2.alloc (.cells #[.int .i64 r1, .int .u8 r2, .int .i64 r3, .int .i64 r4] 42 (0, 0))) := below_alloc (Below.refl _ _) _
  refine (provisoref04_Decode.calls 41 A0 c0 l at_ r1 r2 r3 r4 r5 _ (Kd.C_below HR0.out (below_step B2.out bl)) HC0.out XR.out).mono ?_
  rintro e3 w3 ⟨rfl, hb3⟩
  have B3 := Aside0.mk (below_step (below_step B2.out bl) hb3)
  have CC3 := Aside0.mk (Kd.C_below (Kd.C_below CC2.out bl) hb3)
  have K3 := Aside0.mk (blk_below (blk_new w2 (.cells #[.int .i64 r1, .int .u8 r2, .int .i64 r3, .int .i64 r4] 42 (0, 0))) hb3)
  clear hb3 bl
  have K4 := blk_alloc K3.out (.cells #[.int .i64 r1, .int .u8 r2, .int .i64 r3, .int .i64 r4] 42 (0, 0))
  have c0 := blk_cell K4 0
  have c1 := blk_cell K4 1
  have c2 := blk_cell K4 2
  have c3 := blk_cell K4 3
  simp only [List.getElem?_toArray, List.getElem?_cons_zero, List.getElem?_cons_succ] at c0 c1 c2 c3
  have B4 := Aside0.mk (below_alloc B3.out (.cells #[.int .i64 r1, .int .u8 r2, .int .i64 r3, .int .i64 r4] 42 (0, 0)))
  have bl4 : Below w3.heap.size w3 (w3.alloc (.cells #[.int .i64 r1, .int .u8 r2, .int .i64 r3, .int .i64 r4] 42 (0, 0))) := below_alloc (Below.refl _ _) _
  have CC4 := Aside0.mk (Kd.C_below CC3.out bl4)
  clear K4 bl4
  have hu := provisoplain_Untouched.calls (l.length + 1) A1 _ (l ++ [165, 90, 195, 60]) A0 _ l true _ CC4.out HC1.out (Kd.C_below HR0.out B4.out) HC0.out XU.out
  rw [show (l ++ ([165, 90, 195, 60] : List Int)).length = l.length + 4 from by simp] at hu
  have HU := Aside0.mk hu
  clear hu
  go_wp2_with fail
  refine (Calls.mono HU.out ?_)
  rintro e5 w5 ⟨rfl, ⟨m5, rfl⟩⟩
  go_wp2_with fail
  go_ret
  exact ⟨rfl, by repeat (first | exact B4.out | refine pw_below_drewN ?_ _)⟩
end Go.Proofs.Ytblgcodkbapccaa.DecodesLaw
