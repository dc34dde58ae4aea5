/- PROVED: what fit (of the statements' own package) does to an instruction, step by step, for each kind of operation. Conditions: none (the operation's number is any whole number). Words of the print (YtblgcodkbapccaaW..) are used. -/
import Derived.Test.YtblgcodkbapccaaPCodeApartx3
namespace Go.Proofs.Ytblgcodkbapccaa.ApartFit
open Go.RowKit Go.Proofs.Ytblgcodkbapccaa.PCodeApart Go.Proofs.YtblgcodkbapccaaW.PrintWords Go.Proofs.YtblgcodkbapccaaW.PrintLast Go.Proofs.YtblgcodkbapccaaW.PrintMore
attribute [local go_sem] max2_int min2_int max_two min_two max_three min_three max_four min_four
set_option linter.unusedVariables false
set_option linter.unusedSimpArgs false

theorem blk_newAt (W : World) (o : Obj) {g : Nat} (h : W.heap.size = g) : (W.alloc o).heap[g]? = some o := h ▸ blk_new W o
/-- What fit answers: the operation, and the two operands. -/
def Gives (a0 a1 a2 a3 m A B : Int) : Prop := ∀ w : World,
    Calls Try.prog 47 #[.agg #[.int .i64 a0, .int .u8 a1, .int .i64 a2, .int .i64 a3]] w fun e w' => e = .returned (.agg #[.int .i64 0, .int .u8 m, .int .i64 A, .int .i64 B]) ∧ Below w.heap.size w w'

set_option maxHeartbeats 400000 in
set_option maxRecDepth 100000 in
theorem fit_1 (a0 a1 a2 a3 x y : Int) (hm : Int.tmod a1 34 = 1) (hx : Go.bits .and .i64 a2 255 = x) (hy : Go.bits .and .i64 a3 255 = y) (x0 : 0 ≤ x) (x1 : x ≤ 255) (y0 : 0 ≤ y) (y1 : y ≤ 255) :
    Gives a0 a1 a2 a3 1 (wrap64 (wrap32 (wrap64 (wrap64 (wrap64 (wrap64 (x * x) * x) * x) - wrap64 (wrap64 (y * y) * y))))) (0) := by
  intro w
  go_enter Try.func47, Try.ntmps47
  go_wp2
  go_quiet (fail)
  go_wp2
  refine bodyPost_ret (results_cell_row rfl _ _ (w.heap.size + 1) 42 #[.int .i64 0, .int .u8 1, .int .i64 (wrap64 (wrap32 (wrap64 (wrap64 (wrap64 (wrap64 (x * x) * x) * x) - wrap64 (wrap64 (y * y) * y))))), .int .i64 (0)] (0, 0) _ rfl ?hb Try.underlying42 rfl (by kernel_rfl)) rfl ⟨rfl, ?hB⟩
  case hb =>
    with_reducible refine blk_put (cs := #[.int .i64 0, .int .u8 1, .int .i64 (wrap64 (wrap32 (wrap64 (wrap64 (wrap64 (wrap64 (x * x) * x) * x) - wrap64 (wrap64 (y * y) * y))))), .int .i64 0]) ?_ 3 _ rfl
    with_reducible refine blk_put (cs := #[.int .i64 0, .int .u8 1, .int .i64 0, .int .i64 0]) ?_ 2 _ rfl
    with_reducible refine blk_put (cs := #[.int .i64 0, .int .u8 0, .int .i64 0, .int .i64 0]) ?_ 1 _ rfl
    with_reducible refine blk_put (cs := #[.int .i64 0, .int .u8 0, .int .i64 0, .int .i64 0]) ?_ 0 _ rfl
    repeat ((with_reducible refine blk_far ?_ ?side _); (case side => simp))
    exact blk_drewN (blk_newAt _ _ (by simp)) _
  case hB => repeat (first | (with_reducible exact Below.refl _ _) | ((with_reducible refine below_set ?_ ?side); (case side => simp)) | (with_reducible refine pw_below_drewN ?_ _) | (with_reducible refine below_alloc ?_ _))

set_option maxHeartbeats 400000 in
set_option maxRecDepth 100000 in
theorem fit_2 (a0 a1 a2 a3 x y : Int) (hm : Int.tmod a1 34 = 2) (hx : Go.bits .and .i64 a2 255 = x) (hy : Go.bits .and .i64 a3 255 = y) (x0 : 0 ≤ x) (x1 : x ≤ 255) (y0 : 0 ≤ y) (y1 : y ≤ 255) :
    Gives a0 a1 a2 a3 2 (Go.bits .and .i64 x 1) (0) := by
  intro w
  go_enter Try.func47, Try.ntmps47
  go_wp2
  go_quiet (fail)
  go_wp2
  refine bodyPost_ret (results_cell_row rfl _ _ (w.heap.size + 1) 42 #[.int .i64 0, .int .u8 2, .int .i64 (Go.bits .and .i64 x 1), .int .i64 (0)] (0, 0) _ rfl ?hb Try.underlying42 rfl (by kernel_rfl)) rfl ⟨rfl, ?hB⟩
  case hb =>
    with_reducible refine blk_put (cs := #[.int .i64 0, .int .u8 2, .int .i64 (Go.bits .and .i64 x 1), .int .i64 0]) ?_ 3 _ rfl
    with_reducible refine blk_put (cs := #[.int .i64 0, .int .u8 2, .int .i64 0, .int .i64 0]) ?_ 2 _ rfl
    with_reducible refine blk_put (cs := #[.int .i64 0, .int .u8 0, .int .i64 0, .int .i64 0]) ?_ 1 _ rfl
    with_reducible refine blk_put (cs := #[.int .i64 0, .int .u8 0, .int .i64 0, .int .i64 0]) ?_ 0 _ rfl
    repeat ((with_reducible refine blk_far ?_ ?side _); (case side => simp))
    exact blk_drewN (blk_newAt _ _ (by simp)) _
  case hB => repeat (first | (with_reducible exact Below.refl _ _) | ((with_reducible refine below_set ?_ ?side); (case side => simp)) | (with_reducible refine pw_below_drewN ?_ _) | (with_reducible refine below_alloc ?_ _))

set_option maxHeartbeats 400000 in
set_option maxRecDepth 100000 in
theorem fit_19 (a0 a1 a2 a3 x y : Int) (hm : Int.tmod a1 34 = 19) (hx : Go.bits .and .i64 a2 255 = x) (hy : Go.bits .and .i64 a3 255 = y) (x0 : 0 ≤ x) (x1 : x ≤ 255) (y0 : 0 ≤ y) (y1 : y ≤ 255) :
    Gives a0 a1 a2 a3 19 (256 * x + y) (0) := by
  intro w
  go_enter Try.func47, Try.ntmps47
  go_wp2
  go_quiet (fail)
  go_wp2
  refine bodyPost_ret (results_cell_row rfl _ _ (w.heap.size + 1) 42 #[.int .i64 0, .int .u8 19, .int .i64 (256 * x + y), .int .i64 (0)] (0, 0) _ rfl ?hb Try.underlying42 rfl (by kernel_rfl)) rfl ⟨rfl, ?hB⟩
  case hb =>
    with_reducible refine blk_put (cs := #[.int .i64 0, .int .u8 19, .int .i64 (256 * x + y), .int .i64 0]) ?_ 3 _ rfl
    with_reducible refine blk_put (cs := #[.int .i64 0, .int .u8 19, .int .i64 0, .int .i64 0]) ?_ 2 _ rfl
    with_reducible refine blk_put (cs := #[.int .i64 0, .int .u8 0, .int .i64 0, .int .i64 0]) ?_ 1 _ rfl
    with_reducible refine blk_put (cs := #[.int .i64 0, .int .u8 0, .int .i64 0, .int .i64 0]) ?_ 0 _ rfl
    repeat ((with_reducible refine blk_far ?_ ?side _); (case side => simp))
    exact blk_drewN (blk_newAt _ _ (by simp)) _
  case hB => repeat (first | (with_reducible exact Below.refl _ _) | ((with_reducible refine below_set ?_ ?side); (case side => simp)) | (with_reducible refine pw_below_drewN ?_ _) | (with_reducible refine below_alloc ?_ _))

set_option maxHeartbeats 400000 in
set_option maxRecDepth 100000 in
theorem fit_20 (a0 a1 a2 a3 x y : Int) (hm : Int.tmod a1 34 = 20) (hx : Go.bits .and .i64 a2 255 = x) (hy : Go.bits .and .i64 a3 255 = y) (x0 : 0 ≤ x) (x1 : x ≤ 255) (y0 : 0 ≤ y) (y1 : y ≤ 255) :
    Gives a0 a1 a2 a3 20 (256 * x + y) (0) := by
  intro w
  go_enter Try.func47, Try.ntmps47
  go_wp2
  go_quiet (fail)
  go_wp2
  refine bodyPost_ret (results_cell_row rfl _ _ (w.heap.size + 1) 42 #[.int .i64 0, .int .u8 20, .int .i64 (256 * x + y), .int .i64 (0)] (0, 0) _ rfl ?hb Try.underlying42 rfl (by kernel_rfl)) rfl ⟨rfl, ?hB⟩
  case hb =>
    with_reducible refine blk_put (cs := #[.int .i64 0, .int .u8 20, .int .i64 (256 * x + y), .int .i64 0]) ?_ 3 _ rfl
    with_reducible refine blk_put (cs := #[.int .i64 0, .int .u8 20, .int .i64 0, .int .i64 0]) ?_ 2 _ rfl
    with_reducible refine blk_put (cs := #[.int .i64 0, .int .u8 0, .int .i64 0, .int .i64 0]) ?_ 1 _ rfl
    with_reducible refine blk_put (cs := #[.int .i64 0, .int .u8 0, .int .i64 0, .int .i64 0]) ?_ 0 _ rfl
    repeat ((with_reducible refine blk_far ?_ ?side _); (case side => simp))
    exact blk_drewN (blk_newAt _ _ (by simp)) _
  case hB => repeat (first | (with_reducible exact Below.refl _ _) | ((with_reducible refine below_set ?_ ?side); (case side => simp)) | (with_reducible refine pw_below_drewN ?_ _) | (with_reducible refine below_alloc ?_ _))

set_option maxHeartbeats 400000 in
set_option maxRecDepth 100000 in
theorem fit_24 (a0 a1 a2 a3 x y : Int) (hm : Int.tmod a1 34 = 24) (hx : Go.bits .and .i64 a2 255 = x) (hy : Go.bits .and .i64 a3 255 = y) (x0 : 0 ≤ x) (x1 : x ≤ 255) (y0 : 0 ≤ y) (y1 : y ≤ 255) :
    Gives a0 a1 a2 a3 24 (x) (y) := by
  intro w
  go_enter Try.func47, Try.ntmps47
  go_wp2
  go_quiet (fail)
  go_upto_region 15 with (fail)
  obtain ⟨W, hW⟩ : ∃ W : World, W = ((((w.alloc (.cells #[.int .i64 0, .int .u8 24, .int .i64 a2, .int .i64 a3] 42 (0, 0))).alloc (.cells #[.int .i64 0, .int .u8 0, .int .i64 0, .int .i64 0] 42 (0, 0))).drewN nq).setCell ⟨w.heap.size, 2, none⟩ (.int .i64 0)).setCell ⟨w.heap.size, 3, none⟩ (.int .i64 0) := ⟨_, rfl⟩
  have b1 : W.heap[w.heap.size]? = some (.cells #[.int .i64 0, .int .u8 24, .int .i64 0, .int .i64 0] 42 (0, 0)) := by
    rw [hW]
    exact blk_put (cs := #[.int .i64 0, .int .u8 24, .int .i64 0, .int .i64 a3]) (blk_put (blk_drewN (blk_alloc (blk_new _ _) _) _) 2 _ rfl) 3 _ rfl
  have b2 : W.heap[w.heap.size + 1]? = some (.cells #[.int .i64 0, .int .u8 0, .int .i64 0, .int .i64 0] 42 (0, 0)) := by
    rw [hW]
    refine blk_far (blk_far (blk_drewN (blk_newAt _ _ ?_) _) ?_ _) ?_ _ <;> simp
  have B : Below w.heap.size w W := by
    rw [hW]
    exact below_set (below_set (pw_below_drewN (below_alloc (below_alloc (Below.refl _ _) _) _) _) (Nat.le_refl _)) (Nat.le_refl _)
  rw [← hW]
  have X1 := Aside0.mk b1
  have X2 := Aside0.mk b2
  have XB := Aside0.mk B
  clear hW b1 b2 B hx hy hm
  have c10 := blk_cell X1.out 0
  have c11 := blk_cell X1.out 1
  have c12 := blk_cell X1.out 2
  have c13 := blk_cell X1.out 3
  have f12 := blk_frozen X1.out 2
  have f13 := blk_frozen X1.out 3
  have c20 := blk_cell X2.out 0
  have c21 := blk_cell X2.out 1
  have c22 := blk_cell X2.out 2
  have c23 := blk_cell X2.out 3
  have f20 := blk_frozen X2.out 0
  have f21 := blk_frozen X2.out 1
  have f22 := blk_frozen X2.out 2
  have f23 := blk_frozen X2.out 3
  simp only [List.getElem?_toArray, List.getElem?_cons_zero, List.getElem?_cons_succ] at c10 c11 c12 c13 c20 c21 c22 c23
  go_wp2
  refine bodyPost_ret (results_cell_row rfl _ _ (w.heap.size + 1) 42 #[.int .i64 0, .int .u8 24, .int .i64 (x), .int .i64 (y)] (0, 0) _ rfl ?hb Try.underlying42 rfl (by kernel_rfl)) rfl ⟨rfl, ?hB⟩
  case hb =>
    with_reducible refine blk_put (cs := #[.int .i64 0, .int .u8 24, .int .i64 (x), .int .i64 0]) ?_ 3 _ rfl
    with_reducible refine blk_put (cs := #[.int .i64 0, .int .u8 24, .int .i64 0, .int .i64 0]) ?_ 2 _ rfl
    with_reducible refine blk_put (cs := #[.int .i64 0, .int .u8 0, .int .i64 0, .int .i64 0]) ?_ 1 _ rfl
    with_reducible refine blk_put (cs := #[.int .i64 0, .int .u8 0, .int .i64 0, .int .i64 0]) ?_ 0 _ rfl
    repeat ((with_reducible refine blk_far ?_ ?side _); (case side => simp))
    exact X2.out
  case hB => repeat (first | (with_reducible exact XB.out) | ((with_reducible refine below_set ?_ ?side); (case side => simp)) | (with_reducible refine pw_below_drewN ?_ _) | (with_reducible refine below_alloc ?_ _))

set_option maxHeartbeats 400000 in
set_option maxRecDepth 100000 in
theorem fit_25 (a0 a1 a2 a3 x y : Int) (hm : Int.tmod a1 34 = 25) (hx : Go.bits .and .i64 a2 255 = x) (hy : Go.bits .and .i64 a3 255 = y) (x0 : 0 ≤ x) (x1 : x ≤ 255) (y0 : 0 ≤ y) (y1 : y ≤ 255) :
    Gives a0 a1 a2 a3 25 (x) (y) := by
  intro w
  go_enter Try.func47, Try.ntmps47
  go_wp2
  go_quiet (fail)
  go_upto_region 15 with (fail)
  obtain ⟨W, hW⟩ : ∃ W : World, W = ((((w.alloc (.cells #[.int .i64 0, .int .u8 25, .int .i64 a2, .int .i64 a3] 42 (0, 0))).alloc (.cells #[.int .i64 0, .int .u8 0, .int .i64 0, .int .i64 0] 42 (0, 0))).drewN nq).setCell ⟨w.heap.size, 2, none⟩ (.int .i64 0)).setCell ⟨w.heap.size, 3, none⟩ (.int .i64 0) := ⟨_, rfl⟩
  have b1 : W.heap[w.heap.size]? = some (.cells #[.int .i64 0, .int .u8 25, .int .i64 0, .int .i64 0] 42 (0, 0)) := by
    rw [hW]
    exact blk_put (cs := #[.int .i64 0, .int .u8 25, .int .i64 0, .int .i64 a3]) (blk_put (blk_drewN (blk_alloc (blk_new _ _) _) _) 2 _ rfl) 3 _ rfl
  have b2 : W.heap[w.heap.size + 1]? = some (.cells #[.int .i64 0, .int .u8 0, .int .i64 0, .int .i64 0] 42 (0, 0)) := by
    rw [hW]
    refine blk_far (blk_far (blk_drewN (blk_newAt _ _ ?_) _) ?_ _) ?_ _ <;> simp
  have B : Below w.heap.size w W := by
    rw [hW]
    exact below_set (below_set (pw_below_drewN (below_alloc (below_alloc (Below.refl _ _) _) _) _) (Nat.le_refl _)) (Nat.le_refl _)
  rw [← hW]
  have X1 := Aside0.mk b1
  have X2 := Aside0.mk b2
  have XB := Aside0.mk B
  clear hW b1 b2 B hx hy hm
  have c10 := blk_cell X1.out 0
  have c11 := blk_cell X1.out 1
  have c12 := blk_cell X1.out 2
  have c13 := blk_cell X1.out 3
  have f12 := blk_frozen X1.out 2
  have f13 := blk_frozen X1.out 3
  have c20 := blk_cell X2.out 0
  have c21 := blk_cell X2.out 1
  have c22 := blk_cell X2.out 2
  have c23 := blk_cell X2.out 3
  have f20 := blk_frozen X2.out 0
  have f21 := blk_frozen X2.out 1
  have f22 := blk_frozen X2.out 2
  have f23 := blk_frozen X2.out 3
  simp only [List.getElem?_toArray, List.getElem?_cons_zero, List.getElem?_cons_succ] at c10 c11 c12 c13 c20 c21 c22 c23
  go_wp2
  refine bodyPost_ret (results_cell_row rfl _ _ (w.heap.size + 1) 42 #[.int .i64 0, .int .u8 25, .int .i64 (x), .int .i64 (y)] (0, 0) _ rfl ?hb Try.underlying42 rfl (by kernel_rfl)) rfl ⟨rfl, ?hB⟩
  case hb =>
    with_reducible refine blk_put (cs := #[.int .i64 0, .int .u8 25, .int .i64 (x), .int .i64 0]) ?_ 3 _ rfl
    with_reducible refine blk_put (cs := #[.int .i64 0, .int .u8 25, .int .i64 0, .int .i64 0]) ?_ 2 _ rfl
    with_reducible refine blk_put (cs := #[.int .i64 0, .int .u8 0, .int .i64 0, .int .i64 0]) ?_ 1 _ rfl
    with_reducible refine blk_put (cs := #[.int .i64 0, .int .u8 0, .int .i64 0, .int .i64 0]) ?_ 0 _ rfl
    repeat ((with_reducible refine blk_far ?_ ?side _); (case side => simp))
    exact X2.out
  case hB => repeat (first | (with_reducible exact XB.out) | ((with_reducible refine below_set ?_ ?side); (case side => simp)) | (with_reducible refine pw_below_drewN ?_ _) | (with_reducible refine below_alloc ?_ _))

set_option maxHeartbeats 400000 in
set_option maxRecDepth 100000 in
theorem fit_4 (a0 a1 a2 a3 x y : Int) (hm : Int.tmod a1 34 = 4) (hx : Go.bits .and .i64 a2 255 = x) (hy : Go.bits .and .i64 a3 255 = y) (x0 : 0 ≤ x) (x1 : x ≤ 255) (y0 : 0 ≤ y) (y1 : y ≤ 255) :
    Gives a0 a1 a2 a3 4 (x) (0) := by
  intro w
  go_enter Try.func47, Try.ntmps47
  go_wp2
  go_quiet (fail)
  go_wp2
  refine bodyPost_ret (results_cell_row rfl _ _ (w.heap.size + 1) 42 #[.int .i64 0, .int .u8 4, .int .i64 (x), .int .i64 (0)] (0, 0) _ rfl ?hb Try.underlying42 rfl (by kernel_rfl)) rfl ⟨rfl, ?hB⟩
  case hb =>
    with_reducible refine blk_put (cs := #[.int .i64 0, .int .u8 4, .int .i64 (x), .int .i64 0]) ?_ 3 _ rfl
    with_reducible refine blk_put (cs := #[.int .i64 0, .int .u8 4, .int .i64 0, .int .i64 0]) ?_ 2 _ rfl
    with_reducible refine blk_put (cs := #[.int .i64 0, .int .u8 0, .int .i64 0, .int .i64 0]) ?_ 1 _ rfl
    with_reducible refine blk_put (cs := #[.int .i64 0, .int .u8 0, .int .i64 0, .int .i64 0]) ?_ 0 _ rfl
    repeat ((with_reducible refine blk_far ?_ ?side _); (case side => simp))
    exact blk_drewN (blk_newAt _ _ (by simp)) _
  case hB => repeat (first | (with_reducible exact Below.refl _ _) | ((with_reducible refine below_set ?_ ?side); (case side => simp)) | (with_reducible refine pw_below_drewN ?_ _) | (with_reducible refine below_alloc ?_ _))

set_option maxHeartbeats 400000 in
set_option maxRecDepth 100000 in
theorem fit_5 (a0 a1 a2 a3 x y : Int) (hm : Int.tmod a1 34 = 5) (hx : Go.bits .and .i64 a2 255 = x) (hy : Go.bits .and .i64 a3 255 = y) (x0 : 0 ≤ x) (x1 : x ≤ 255) (y0 : 0 ≤ y) (y1 : y ≤ 255) :
    Gives a0 a1 a2 a3 5 (x) (0) := by
  intro w
  go_enter Try.func47, Try.ntmps47
  go_wp2
  go_quiet (fail)
  go_wp2
  refine bodyPost_ret (results_cell_row rfl _ _ (w.heap.size + 1) 42 #[.int .i64 0, .int .u8 5, .int .i64 (x), .int .i64 (0)] (0, 0) _ rfl ?hb Try.underlying42 rfl (by kernel_rfl)) rfl ⟨rfl, ?hB⟩
  case hb =>
    with_reducible refine blk_put (cs := #[.int .i64 0, .int .u8 5, .int .i64 (x), .int .i64 0]) ?_ 3 _ rfl
    with_reducible refine blk_put (cs := #[.int .i64 0, .int .u8 5, .int .i64 0, .int .i64 0]) ?_ 2 _ rfl
    with_reducible refine blk_put (cs := #[.int .i64 0, .int .u8 0, .int .i64 0, .int .i64 0]) ?_ 1 _ rfl
    with_reducible refine blk_put (cs := #[.int .i64 0, .int .u8 0, .int .i64 0, .int .i64 0]) ?_ 0 _ rfl
    repeat ((with_reducible refine blk_far ?_ ?side _); (case side => simp))
    exact blk_drewN (blk_newAt _ _ (by simp)) _
  case hB => repeat (first | (with_reducible exact Below.refl _ _) | ((with_reducible refine below_set ?_ ?side); (case side => simp)) | (with_reducible refine pw_below_drewN ?_ _) | (with_reducible refine below_alloc ?_ _))

set_option maxHeartbeats 400000 in
set_option maxRecDepth 100000 in
theorem fit_21 (a0 a1 a2 a3 x y : Int) (hm : Int.tmod a1 34 = 21) (hx : Go.bits .and .i64 a2 255 = x) (hy : Go.bits .and .i64 a3 255 = y) (x0 : 0 ≤ x) (x1 : x ≤ 255) (y0 : 0 ≤ y) (y1 : y ≤ 255) :
    Gives a0 a1 a2 a3 21 (x) (0) := by
  intro w
  go_enter Try.func47, Try.ntmps47
  go_wp2
  go_quiet (fail)
  go_wp2
  refine bodyPost_ret (results_cell_row rfl _ _ (w.heap.size + 1) 42 #[.int .i64 0, .int .u8 21, .int .i64 (x), .int .i64 (0)] (0, 0) _ rfl ?hb Try.underlying42 rfl (by kernel_rfl)) rfl ⟨rfl, ?hB⟩
  case hb =>
    with_reducible refine blk_put (cs := #[.int .i64 0, .int .u8 21, .int .i64 (x), .int .i64 0]) ?_ 3 _ rfl
    with_reducible refine blk_put (cs := #[.int .i64 0, .int .u8 21, .int .i64 0, .int .i64 0]) ?_ 2 _ rfl
    with_reducible refine blk_put (cs := #[.int .i64 0, .int .u8 0, .int .i64 0, .int .i64 0]) ?_ 1 _ rfl
    with_reducible refine blk_put (cs := #[.int .i64 0, .int .u8 0, .int .i64 0, .int .i64 0]) ?_ 0 _ rfl
    repeat ((with_reducible refine blk_far ?_ ?side _); (case side => simp))
    exact blk_drewN (blk_newAt _ _ (by simp)) _
  case hB => repeat (first | (with_reducible exact Below.refl _ _) | ((with_reducible refine below_set ?_ ?side); (case side => simp)) | (with_reducible refine pw_below_drewN ?_ _) | (with_reducible refine below_alloc ?_ _))

set_option maxHeartbeats 400000 in
set_option maxRecDepth 100000 in
theorem fit_23 (a0 a1 a2 a3 x y : Int) (hm : Int.tmod a1 34 = 23) (hx : Go.bits .and .i64 a2 255 = x) (hy : Go.bits .and .i64 a3 255 = y) (x0 : 0 ≤ x) (x1 : x ≤ 255) (y0 : 0 ≤ y) (y1 : y ≤ 255) :
    Gives a0 a1 a2 a3 23 (x) (0) := by
  intro w
  go_enter Try.func47, Try.ntmps47
  go_wp2
  go_quiet (fail)
  go_wp2
  refine bodyPost_ret (results_cell_row rfl _ _ (w.heap.size + 1) 42 #[.int .i64 0, .int .u8 23, .int .i64 (x), .int .i64 (0)] (0, 0) _ rfl ?hb Try.underlying42 rfl (by kernel_rfl)) rfl ⟨rfl, ?hB⟩
  case hb =>
    with_reducible refine blk_put (cs := #[.int .i64 0, .int .u8 23, .int .i64 (x), .int .i64 0]) ?_ 3 _ rfl
    with_reducible refine blk_put (cs := #[.int .i64 0, .int .u8 23, .int .i64 0, .int .i64 0]) ?_ 2 _ rfl
    with_reducible refine blk_put (cs := #[.int .i64 0, .int .u8 0, .int .i64 0, .int .i64 0]) ?_ 1 _ rfl
    with_reducible refine blk_put (cs := #[.int .i64 0, .int .u8 0, .int .i64 0, .int .i64 0]) ?_ 0 _ rfl
    repeat ((with_reducible refine blk_far ?_ ?side _); (case side => simp))
    exact blk_drewN (blk_newAt _ _ (by simp)) _
  case hB => repeat (first | (with_reducible exact Below.refl _ _) | ((with_reducible refine below_set ?_ ?side); (case side => simp)) | (with_reducible refine pw_below_drewN ?_ _) | (with_reducible refine below_alloc ?_ _))

set_option maxHeartbeats 400000 in
set_option maxRecDepth 100000 in
theorem fit_30 (a0 a1 a2 a3 x y : Int) (hm : Int.tmod a1 34 = 30) (hx : Go.bits .and .i64 a2 255 = x) (hy : Go.bits .and .i64 a3 255 = y) (x0 : 0 ≤ x) (x1 : x ≤ 255) (y0 : 0 ≤ y) (y1 : y ≤ 255) :
    Gives a0 a1 a2 a3 30 (x) (0) := by
  intro w
  go_enter Try.func47, Try.ntmps47
  go_wp2
  go_quiet (fail)
  go_wp2
  refine bodyPost_ret (results_cell_row rfl _ _ (w.heap.size + 1) 42 #[.int .i64 0, .int .u8 30, .int .i64 (x), .int .i64 (0)] (0, 0) _ rfl ?hb Try.underlying42 rfl (by kernel_rfl)) rfl ⟨rfl, ?hB⟩
  case hb =>
    with_reducible refine blk_put (cs := #[.int .i64 0, .int .u8 30, .int .i64 (x), .int .i64 0]) ?_ 3 _ rfl
    with_reducible refine blk_put (cs := #[.int .i64 0, .int .u8 30, .int .i64 0, .int .i64 0]) ?_ 2 _ rfl
    with_reducible refine blk_put (cs := #[.int .i64 0, .int .u8 0, .int .i64 0, .int .i64 0]) ?_ 1 _ rfl
    with_reducible refine blk_put (cs := #[.int .i64 0, .int .u8 0, .int .i64 0, .int .i64 0]) ?_ 0 _ rfl
    repeat ((with_reducible refine blk_far ?_ ?side _); (case side => simp))
    exact blk_drewN (blk_newAt _ _ (by simp)) _
  case hB => repeat (first | (with_reducible exact Below.refl _ _) | ((with_reducible refine below_set ?_ ?side); (case side => simp)) | (with_reducible refine pw_below_drewN ?_ _) | (with_reducible refine below_alloc ?_ _))

set_option maxHeartbeats 400000 in
set_option maxRecDepth 100000 in
theorem fit_31 (a0 a1 a2 a3 x y : Int) (hm : Int.tmod a1 34 = 31) (hx : Go.bits .and .i64 a2 255 = x) (hy : Go.bits .and .i64 a3 255 = y) (x0 : 0 ≤ x) (x1 : x ≤ 255) (y0 : 0 ≤ y) (y1 : y ≤ 255) :
    Gives a0 a1 a2 a3 31 (x) (0) := by
  intro w
  go_enter Try.func47, Try.ntmps47
  go_wp2
  go_quiet (fail)
  go_wp2
  refine bodyPost_ret (results_cell_row rfl _ _ (w.heap.size + 1) 42 #[.int .i64 0, .int .u8 31, .int .i64 (x), .int .i64 (0)] (0, 0) _ rfl ?hb Try.underlying42 rfl (by kernel_rfl)) rfl ⟨rfl, ?hB⟩
  case hb =>
    with_reducible refine blk_put (cs := #[.int .i64 0, .int .u8 31, .int .i64 (x), .int .i64 0]) ?_ 3 _ rfl
    with_reducible refine blk_put (cs := #[.int .i64 0, .int .u8 31, .int .i64 0, .int .i64 0]) ?_ 2 _ rfl
    with_reducible refine blk_put (cs := #[.int .i64 0, .int .u8 0, .int .i64 0, .int .i64 0]) ?_ 1 _ rfl
    with_reducible refine blk_put (cs := #[.int .i64 0, .int .u8 0, .int .i64 0, .int .i64 0]) ?_ 0 _ rfl
    repeat ((with_reducible refine blk_far ?_ ?side _); (case side => simp))
    exact blk_drewN (blk_newAt _ _ (by simp)) _
  case hB => repeat (first | (with_reducible exact Below.refl _ _) | ((with_reducible refine below_set ?_ ?side); (case side => simp)) | (with_reducible refine pw_below_drewN ?_ _) | (with_reducible refine below_alloc ?_ _))

set_option maxHeartbeats 400000 in
set_option maxRecDepth 100000 in
theorem fit_32 (a0 a1 a2 a3 x y : Int) (hm : Int.tmod a1 34 = 32) (hx : Go.bits .and .i64 a2 255 = x) (hy : Go.bits .and .i64 a3 255 = y) (x0 : 0 ≤ x) (x1 : x ≤ 255) (y0 : 0 ≤ y) (y1 : y ≤ 255) :
    Gives a0 a1 a2 a3 32 (x) (0) := by
  intro w
  go_enter Try.func47, Try.ntmps47
  go_wp2
  go_quiet (fail)
  go_wp2
  refine bodyPost_ret (results_cell_row rfl _ _ (w.heap.size + 1) 42 #[.int .i64 0, .int .u8 32, .int .i64 (x), .int .i64 (0)] (0, 0) _ rfl ?hb Try.underlying42 rfl (by kernel_rfl)) rfl ⟨rfl, ?hB⟩
  case hb =>
    with_reducible refine blk_put (cs := #[.int .i64 0, .int .u8 32, .int .i64 (x), .int .i64 0]) ?_ 3 _ rfl
    with_reducible refine blk_put (cs := #[.int .i64 0, .int .u8 32, .int .i64 0, .int .i64 0]) ?_ 2 _ rfl
    with_reducible refine blk_put (cs := #[.int .i64 0, .int .u8 0, .int .i64 0, .int .i64 0]) ?_ 1 _ rfl
    with_reducible refine blk_put (cs := #[.int .i64 0, .int .u8 0, .int .i64 0, .int .i64 0]) ?_ 0 _ rfl
    repeat ((with_reducible refine blk_far ?_ ?side _); (case side => simp))
    exact blk_drewN (blk_newAt _ _ (by simp)) _
  case hB => repeat (first | (with_reducible exact Below.refl _ _) | ((with_reducible refine below_set ?_ ?side); (case side => simp)) | (with_reducible refine pw_below_drewN ?_ _) | (with_reducible refine below_alloc ?_ _))

set_option maxHeartbeats 400000 in
set_option maxRecDepth 100000 in
theorem fit_other (a0 a1 a2 a3 x y m : Int) (hm : Int.tmod a1 34 = m) (h1 : (m == 1) = false) (h2 : (m == 2) = false) (h19 : (m == 19) = false) (h20 : (m == 20) = false) (h24 : (m == 24) = false) (h25 : (m == 25) = false) (h4 : (m == 4) = false) (h5 : (m == 5) = false) (h21 : (m == 21) = false) (h23 : (m == 23) = false) (h30 : (m == 30) = false) (h31 : (m == 31) = false) (h32 : (m == 32) = false) (hx : Go.bits .and .i64 a2 255 = x) (hy : Go.bits .and .i64 a3 255 = y) (x0 : 0 ≤ x) (x1 : x ≤ 255) (y0 : 0 ≤ y) (y1 : y ≤ 255) :
    Gives a0 a1 a2 a3 m (0) (0) := by
  intro w
  go_enter Try.func47, Try.ntmps47
  go_wp2
  go_quiet (fail)
  go_wp2
  refine bodyPost_ret (results_cell_row rfl _ _ (w.heap.size + 1) 42 #[.int .i64 0, .int .u8 m, .int .i64 (0), .int .i64 (0)] (0, 0) _ rfl ?hb Try.underlying42 rfl (by kernel_rfl)) rfl ⟨rfl, ?hB⟩
  case hb =>
    with_reducible refine blk_put (cs := #[.int .i64 0, .int .u8 m, .int .i64 (0), .int .i64 0]) ?_ 3 _ rfl
    with_reducible refine blk_put (cs := #[.int .i64 0, .int .u8 m, .int .i64 0, .int .i64 0]) ?_ 2 _ rfl
    with_reducible refine blk_put (cs := #[.int .i64 0, .int .u8 0, .int .i64 0, .int .i64 0]) ?_ 1 _ rfl
    with_reducible refine blk_put (cs := #[.int .i64 0, .int .u8 0, .int .i64 0, .int .i64 0]) ?_ 0 _ rfl
    repeat ((with_reducible refine blk_far ?_ ?side _); (case side => simp))
    exact blk_drewN (blk_newAt _ _ (by simp)) _
  case hB => repeat (first | (with_reducible exact Below.refl _ _) | ((with_reducible refine below_set ?_ ?side); (case side => simp)) | (with_reducible refine pw_below_drewN ?_ _) | (with_reducible refine below_alloc ?_ _))
end Go.Proofs.Ytblgcodkbapccaa.ApartFit
