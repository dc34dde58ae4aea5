/- PROVED: what the closures of parse.Same, sameStmts, sameExprs, sameParams and the reference's sameExpr answer. Conditions: the callees answer; the sizes bound the depth. -/
import Derived.Test.YtblgcodkbapccaaSamesBase
namespace Go.Proofs.Ytblgcodkbapccaa.SamesWalk
open Go.RowKit Go.Proofs.Ytblgcodkbapccaa.PParseSames Go.Proofs.YtblgcodkbapccaaW.PrintWords Go.Proofs.YtblgcodkbapccaaW.PrintLast Go.Proofs.YtblgcodkbapccaaW.PrintMore
attribute [local go_sem] max2_int min2_int max_two min_two max_three min_three max_four min_four
set_option linter.unusedVariables false
set_option linter.unusedSimpArgs false


set_option maxHeartbeats 8000000 in
set_option maxRecDepth 100000 in
theorem clo79_calls (x y : S80) (cs ds : List Value) (w : World) (hK : k80.K w x cs) (hK' : k80.K w y ds) :
    Calls Try.prog 79 #[.agg cs.toArray, .agg ds.toArray] w fun e w' => e = .returned (.bool (sameP x y)) ∧ Below w.heap.size w w' := by
  obtain rfl := k80_open hK
  obtain rfl := k80_open hK'
  by_cases b0 : (x.f1.toList == y.f1.toList) = true
  · skip
    by_cases b1 : (x.f2.toList == y.f2.toList) = true
    · skip
      rw [show sameP x y = true by simp [sameP, b0, b1]]
      go_enter Try.func79, Try.ntmps79
      go_upto_region 1 with (first | ((with_reducible refine gate_dst (N := 2) rfl ?_); refine box_event ?hg (N := 2) ?hd (cs := #[.int .i64 x.f0, .string x.f1, .string x.f2, .int .u8 x.f3]) (t := 80) ?hr ?_; (case hd => rfl); (case hg => rfl); (case hr => first | (go_simp; done) | (go_simp; rfl)); intro gb hgb w1 hbox hb; have BK1 := Aside0.mk hbox; have HS1 := Aside0.mk hb; have HGB := Aside0.mk (show w.heap.size ≤ gb by rw [hgb]; exact Nat.le_refl _); clear hb hbox hgb) | ((with_reducible refine gate_dst (N := 3) rfl ?_); refine box_event ?hg (N := 3) ?hd (cs := #[.int .i64 y.f0, .string y.f1, .string y.f2, .int .u8 y.f3]) (t := 80) ?hr ?_; (case hd => rfl); (case hg => rfl); (case hr => first | (go_simp; done) | (go_simp; rfl)); intro gc hgc w2 hbox hb; have BC2 := Aside0.mk hbox; have BK2 := Aside0.mk (blk_below BK1.out hb); have HS2 := Aside0.mk (below_step HS1.out hb); clear hb hbox hgc))
      (try simp only [Act.put, List.setIfInBounds_toArray, List.set_cons_zero, List.set_cons_succ])
      have hx2_1 : w2.cell? ⟨gb, 1, none⟩ = some (.string x.f1) := (blk_cell BK2.out 1).trans rfl
      have hy2_1 : w2.cell? ⟨gc, 1, none⟩ = some (.string y.f1) := (blk_cell BC2.out 1).trans rfl
      have hx2_2 : w2.cell? ⟨gb, 2, none⟩ = some (.string x.f2) := (blk_cell BK2.out 2).trans rfl
      have hy2_2 : w2.cell? ⟨gc, 2, none⟩ = some (.string y.f2) := (blk_cell BC2.out 2).trans rfl
      go_wp2_with (fail)
      go_ret
      exact ⟨rfl, HS2.out⟩
    · replace b1 : (x.f2.toList == y.f2.toList) = false := by simpa using b1
      rw [show sameP x y = false by simp [sameP, b0, b1]]
      go_enter Try.func79, Try.ntmps79
      go_upto_region 1 with (first | ((with_reducible refine gate_dst (N := 2) rfl ?_); refine box_event ?hg (N := 2) ?hd (cs := #[.int .i64 x.f0, .string x.f1, .string x.f2, .int .u8 x.f3]) (t := 80) ?hr ?_; (case hd => rfl); (case hg => rfl); (case hr => first | (go_simp; done) | (go_simp; rfl)); intro gb hgb w1 hbox hb; have BK1 := Aside0.mk hbox; have HS1 := Aside0.mk hb; have HGB := Aside0.mk (show w.heap.size ≤ gb by rw [hgb]; exact Nat.le_refl _); clear hb hbox hgb) | ((with_reducible refine gate_dst (N := 3) rfl ?_); refine box_event ?hg (N := 3) ?hd (cs := #[.int .i64 y.f0, .string y.f1, .string y.f2, .int .u8 y.f3]) (t := 80) ?hr ?_; (case hd => rfl); (case hg => rfl); (case hr => first | (go_simp; done) | (go_simp; rfl)); intro gc hgc w2 hbox hb; have BC2 := Aside0.mk hbox; have BK2 := Aside0.mk (blk_below BK1.out hb); have HS2 := Aside0.mk (below_step HS1.out hb); clear hb hbox hgc))
      (try simp only [Act.put, List.setIfInBounds_toArray, List.set_cons_zero, List.set_cons_succ])
      have hx2_1 : w2.cell? ⟨gb, 1, none⟩ = some (.string x.f1) := (blk_cell BK2.out 1).trans rfl
      have hy2_1 : w2.cell? ⟨gc, 1, none⟩ = some (.string y.f1) := (blk_cell BC2.out 1).trans rfl
      have hx2_2 : w2.cell? ⟨gb, 2, none⟩ = some (.string x.f2) := (blk_cell BK2.out 2).trans rfl
      have hy2_2 : w2.cell? ⟨gc, 2, none⟩ = some (.string y.f2) := (blk_cell BC2.out 2).trans rfl
      go_wp2_with (fail)
      go_ret
      exact ⟨rfl, HS2.out⟩
  · replace b0 : (x.f1.toList == y.f1.toList) = false := by simpa using b0
    rw [show sameP x y = false by simp [sameP, b0]]
    go_enter Try.func79, Try.ntmps79
    go_upto_region 1 with (first | ((with_reducible refine gate_dst (N := 2) rfl ?_); refine box_event ?hg (N := 2) ?hd (cs := #[.int .i64 x.f0, .string x.f1, .string x.f2, .int .u8 x.f3]) (t := 80) ?hr ?_; (case hd => rfl); (case hg => rfl); (case hr => first | (go_simp; done) | (go_simp; rfl)); intro gb hgb w1 hbox hb; have BK1 := Aside0.mk hbox; have HS1 := Aside0.mk hb; have HGB := Aside0.mk (show w.heap.size ≤ gb by rw [hgb]; exact Nat.le_refl _); clear hb hbox hgb) | ((with_reducible refine gate_dst (N := 3) rfl ?_); refine box_event ?hg (N := 3) ?hd (cs := #[.int .i64 y.f0, .string y.f1, .string y.f2, .int .u8 y.f3]) (t := 80) ?hr ?_; (case hd => rfl); (case hg => rfl); (case hr => first | (go_simp; done) | (go_simp; rfl)); intro gc hgc w2 hbox hb; have BC2 := Aside0.mk hbox; have BK2 := Aside0.mk (blk_below BK1.out hb); have HS2 := Aside0.mk (below_step HS1.out hb); clear hb hbox hgc))
    (try simp only [Act.put, List.setIfInBounds_toArray, List.set_cons_zero, List.set_cons_succ])
    have hx2_1 : w2.cell? ⟨gb, 1, none⟩ = some (.string x.f1) := (blk_cell BK2.out 1).trans rfl
    have hy2_1 : w2.cell? ⟨gc, 1, none⟩ = some (.string y.f1) := (blk_cell BC2.out 1).trans rfl
    have hx2_2 : w2.cell? ⟨gb, 2, none⟩ = some (.string x.f2) := (blk_cell BK2.out 2).trans rfl
    have hy2_2 : w2.cell? ⟨gc, 2, none⟩ = some (.string y.f2) := (blk_cell BC2.out 2).trans rfl
    go_wp2_with (fail)
    go_ret
    exact ⟨rfl, HS2.out⟩

set_option maxHeartbeats 8000000 in
set_option maxRecDepth 100000 in
theorem clo88_calls (n : Nat) (h : SameL111 82 n) (x y : S111) (cs ds : List Value) (w : World) (hK : k111.K w x cs) (hK' : k111.K w y ds) (hx : SizeOf.sizeOf x ≤ n + 1) :
    Calls Try.prog 88 #[.agg cs.toArray, .agg ds.toArray] w fun e w' => e = .returned (.bool (sameE (n + 1) x y)) ∧ Below w.heap.size w w' := by
  obtain ⟨A4, c4, rfl, l4, g4⟩ := k111_open hK
  obtain ⟨B4, d4, rfl, m4, j4⟩ := k111_open hK'
  clear hK hK'
  by_cases b0 : (x.f0 == y.f0) = true
  · skip
    by_cases b1 : (x.f2.toList == y.f2.toList) = true
    · skip
      by_cases b2 : (x.f3 == y.f3) = true
      · skip
        by_cases b3 : (eqf (sameE n) x.f4 y.f4) = true
        · skip
          rw [show sameE (n + 1) x y = true by simp [sameE, b0, b1, b2, b3]]
          go_enter Try.func88, Try.ntmps88
          go_upto_region 1 with (first | ((with_reducible refine gate_dst (N := 2) rfl ?_); refine box_event ?hg (N := 2) ?hd (cs := #[.int .i64 x.f0, .int .i64 x.f1, .string x.f2, .int .i64 x.f3, .slice A4 x.f4.length c4, .int .u8 x.f5, .int .i64 x.f6, .int .i64 x.f7]) (t := 111) ?hr ?_; (case hd => rfl); (case hg => rfl); (case hr => first | (go_simp; done) | (go_simp; rfl)); intro gb hgb w1 hbox hb; have BK1 := Aside0.mk hbox; have HS1 := Aside0.mk hb; have HGB := Aside0.mk (show w.heap.size ≤ gb by rw [hgb]; exact Nat.le_refl _); clear hb hbox hgb) | ((with_reducible refine gate_dst (N := 3) rfl ?_); refine box_event ?hg (N := 3) ?hd (cs := #[.int .i64 y.f0, .int .i64 y.f1, .string y.f2, .int .i64 y.f3, .slice B4 y.f4.length d4, .int .u8 y.f5, .int .i64 y.f6, .int .i64 y.f7]) (t := 111) ?hr ?_; (case hd => rfl); (case hg => rfl); (case hr => first | (go_simp; done) | (go_simp; rfl)); intro gc hgc w2 hbox hb; have BC2 := Aside0.mk hbox; have BK2 := Aside0.mk (blk_below BK1.out hb); have HS2 := Aside0.mk (below_step HS1.out hb); clear hb hbox hgc))
          (try simp only [Act.put, List.setIfInBounds_toArray, List.set_cons_zero, List.set_cons_succ])
          have hx2_0 : w2.cell? ⟨gb, 0, none⟩ = some (.int .i64 x.f0) := (blk_cell BK2.out 0).trans rfl
          have hy2_0 : w2.cell? ⟨gc, 0, none⟩ = some (.int .i64 y.f0) := (blk_cell BC2.out 0).trans rfl
          have hx2_2 : w2.cell? ⟨gb, 2, none⟩ = some (.string x.f2) := (blk_cell BK2.out 2).trans rfl
          have hy2_2 : w2.cell? ⟨gc, 2, none⟩ = some (.string y.f2) := (blk_cell BC2.out 2).trans rfl
          have hx2_3 : w2.cell? ⟨gb, 3, none⟩ = some (.int .i64 x.f3) := (blk_cell BK2.out 3).trans rfl
          have hy2_3 : w2.cell? ⟨gc, 3, none⟩ = some (.int .i64 y.f3) := (blk_cell BC2.out 3).trans rfl
          have hx2_4 : w2.cell? ⟨gb, 4, none⟩ = some (.slice A4 x.f4.length c4) := (blk_cell BK2.out 4).trans rfl
          have hy2_4 : w2.cell? ⟨gc, 4, none⟩ = some (.slice B4 y.f4.length d4) := (blk_cell BC2.out 4).trans rfl
          go_wp2_with (first | (go_at_call 82; refine Calls.mono (h A4 c4 x.f4 B4 d4 y.f4 _ (Kd.C_below g4 HS2.out) (Kd.C_below j4 HS2.out) (fun z hz => kid111 hx z hz)) ?_; rintro e3 w3 ⟨rfl, hb⟩; have HS3 := Aside0.mk (below_step HS2.out hb); have BK3 := Aside0.mk (blk_below BK2.out hb); have BC3 := Aside0.mk (blk_below BC2.out hb); clear hb; rw [b3]; have hx3_0 : w3.cell? ⟨gb, 0, none⟩ = some (.int .i64 x.f0) := (blk_cell BK3.out 0).trans rfl; have hy3_0 : w3.cell? ⟨gc, 0, none⟩ = some (.int .i64 y.f0) := (blk_cell BC3.out 0).trans rfl; have hx3_2 : w3.cell? ⟨gb, 2, none⟩ = some (.string x.f2) := (blk_cell BK3.out 2).trans rfl; have hy3_2 : w3.cell? ⟨gc, 2, none⟩ = some (.string y.f2) := (blk_cell BC3.out 2).trans rfl; have hx3_3 : w3.cell? ⟨gb, 3, none⟩ = some (.int .i64 x.f3) := (blk_cell BK3.out 3).trans rfl; have hy3_3 : w3.cell? ⟨gc, 3, none⟩ = some (.int .i64 y.f3) := (blk_cell BC3.out 3).trans rfl; have hx3_4 : w3.cell? ⟨gb, 4, none⟩ = some (.slice A4 x.f4.length c4) := (blk_cell BK3.out 4).trans rfl; have hy3_4 : w3.cell? ⟨gc, 4, none⟩ = some (.slice B4 y.f4.length d4) := (blk_cell BC3.out 4).trans rfl))
          go_ret
          exact ⟨rfl, HS3.out⟩
        · replace b3 : (eqf (sameE n) x.f4 y.f4) = false := by simpa using b3
          rw [show sameE (n + 1) x y = false by simp [sameE, b0, b1, b2, b3]]
          go_enter Try.func88, Try.ntmps88
          go_upto_region 1 with (first | ((with_reducible refine gate_dst (N := 2) rfl ?_); refine box_event ?hg (N := 2) ?hd (cs := #[.int .i64 x.f0, .int .i64 x.f1, .string x.f2, .int .i64 x.f3, .slice A4 x.f4.length c4, .int .u8 x.f5, .int .i64 x.f6, .int .i64 x.f7]) (t := 111) ?hr ?_; (case hd => rfl); (case hg => rfl); (case hr => first | (go_simp; done) | (go_simp; rfl)); intro gb hgb w1 hbox hb; have BK1 := Aside0.mk hbox; have HS1 := Aside0.mk hb; have HGB := Aside0.mk (show w.heap.size ≤ gb by rw [hgb]; exact Nat.le_refl _); clear hb hbox hgb) | ((with_reducible refine gate_dst (N := 3) rfl ?_); refine box_event ?hg (N := 3) ?hd (cs := #[.int .i64 y.f0, .int .i64 y.f1, .string y.f2, .int .i64 y.f3, .slice B4 y.f4.length d4, .int .u8 y.f5, .int .i64 y.f6, .int .i64 y.f7]) (t := 111) ?hr ?_; (case hd => rfl); (case hg => rfl); (case hr => first | (go_simp; done) | (go_simp; rfl)); intro gc hgc w2 hbox hb; have BC2 := Aside0.mk hbox; have BK2 := Aside0.mk (blk_below BK1.out hb); have HS2 := Aside0.mk (below_step HS1.out hb); clear hb hbox hgc))
          (try simp only [Act.put, List.setIfInBounds_toArray, List.set_cons_zero, List.set_cons_succ])
          have hx2_0 : w2.cell? ⟨gb, 0, none⟩ = some (.int .i64 x.f0) := (blk_cell BK2.out 0).trans rfl
          have hy2_0 : w2.cell? ⟨gc, 0, none⟩ = some (.int .i64 y.f0) := (blk_cell BC2.out 0).trans rfl
          have hx2_2 : w2.cell? ⟨gb, 2, none⟩ = some (.string x.f2) := (blk_cell BK2.out 2).trans rfl
          have hy2_2 : w2.cell? ⟨gc, 2, none⟩ = some (.string y.f2) := (blk_cell BC2.out 2).trans rfl
          have hx2_3 : w2.cell? ⟨gb, 3, none⟩ = some (.int .i64 x.f3) := (blk_cell BK2.out 3).trans rfl
          have hy2_3 : w2.cell? ⟨gc, 3, none⟩ = some (.int .i64 y.f3) := (blk_cell BC2.out 3).trans rfl
          have hx2_4 : w2.cell? ⟨gb, 4, none⟩ = some (.slice A4 x.f4.length c4) := (blk_cell BK2.out 4).trans rfl
          have hy2_4 : w2.cell? ⟨gc, 4, none⟩ = some (.slice B4 y.f4.length d4) := (blk_cell BC2.out 4).trans rfl
          go_wp2_with (first | (go_at_call 82; refine Calls.mono (h A4 c4 x.f4 B4 d4 y.f4 _ (Kd.C_below g4 HS2.out) (Kd.C_below j4 HS2.out) (fun z hz => kid111 hx z hz)) ?_; rintro e3 w3 ⟨rfl, hb⟩; have HS3 := Aside0.mk (below_step HS2.out hb); have BK3 := Aside0.mk (blk_below BK2.out hb); have BC3 := Aside0.mk (blk_below BC2.out hb); clear hb; rw [b3]; have hx3_0 : w3.cell? ⟨gb, 0, none⟩ = some (.int .i64 x.f0) := (blk_cell BK3.out 0).trans rfl; have hy3_0 : w3.cell? ⟨gc, 0, none⟩ = some (.int .i64 y.f0) := (blk_cell BC3.out 0).trans rfl; have hx3_2 : w3.cell? ⟨gb, 2, none⟩ = some (.string x.f2) := (blk_cell BK3.out 2).trans rfl; have hy3_2 : w3.cell? ⟨gc, 2, none⟩ = some (.string y.f2) := (blk_cell BC3.out 2).trans rfl; have hx3_3 : w3.cell? ⟨gb, 3, none⟩ = some (.int .i64 x.f3) := (blk_cell BK3.out 3).trans rfl; have hy3_3 : w3.cell? ⟨gc, 3, none⟩ = some (.int .i64 y.f3) := (blk_cell BC3.out 3).trans rfl; have hx3_4 : w3.cell? ⟨gb, 4, none⟩ = some (.slice A4 x.f4.length c4) := (blk_cell BK3.out 4).trans rfl; have hy3_4 : w3.cell? ⟨gc, 4, none⟩ = some (.slice B4 y.f4.length d4) := (blk_cell BC3.out 4).trans rfl))
          go_ret
          exact ⟨rfl, HS3.out⟩
      · replace b2 : (x.f3 == y.f3) = false := by simpa using b2
        rw [show sameE (n + 1) x y = false by simp [sameE, b0, b1, b2]]
        go_enter Try.func88, Try.ntmps88
        go_upto_region 1 with (first | ((with_reducible refine gate_dst (N := 2) rfl ?_); refine box_event ?hg (N := 2) ?hd (cs := #[.int .i64 x.f0, .int .i64 x.f1, .string x.f2, .int .i64 x.f3, .slice A4 x.f4.length c4, .int .u8 x.f5, .int .i64 x.f6, .int .i64 x.f7]) (t := 111) ?hr ?_; (case hd => rfl); (case hg => rfl); (case hr => first | (go_simp; done) | (go_simp; rfl)); intro gb hgb w1 hbox hb; have BK1 := Aside0.mk hbox; have HS1 := Aside0.mk hb; have HGB := Aside0.mk (show w.heap.size ≤ gb by rw [hgb]; exact Nat.le_refl _); clear hb hbox hgb) | ((with_reducible refine gate_dst (N := 3) rfl ?_); refine box_event ?hg (N := 3) ?hd (cs := #[.int .i64 y.f0, .int .i64 y.f1, .string y.f2, .int .i64 y.f3, .slice B4 y.f4.length d4, .int .u8 y.f5, .int .i64 y.f6, .int .i64 y.f7]) (t := 111) ?hr ?_; (case hd => rfl); (case hg => rfl); (case hr => first | (go_simp; done) | (go_simp; rfl)); intro gc hgc w2 hbox hb; have BC2 := Aside0.mk hbox; have BK2 := Aside0.mk (blk_below BK1.out hb); have HS2 := Aside0.mk (below_step HS1.out hb); clear hb hbox hgc))
        (try simp only [Act.put, List.setIfInBounds_toArray, List.set_cons_zero, List.set_cons_succ])
        have hx2_0 : w2.cell? ⟨gb, 0, none⟩ = some (.int .i64 x.f0) := (blk_cell BK2.out 0).trans rfl
        have hy2_0 : w2.cell? ⟨gc, 0, none⟩ = some (.int .i64 y.f0) := (blk_cell BC2.out 0).trans rfl
        have hx2_2 : w2.cell? ⟨gb, 2, none⟩ = some (.string x.f2) := (blk_cell BK2.out 2).trans rfl
        have hy2_2 : w2.cell? ⟨gc, 2, none⟩ = some (.string y.f2) := (blk_cell BC2.out 2).trans rfl
        have hx2_3 : w2.cell? ⟨gb, 3, none⟩ = some (.int .i64 x.f3) := (blk_cell BK2.out 3).trans rfl
        have hy2_3 : w2.cell? ⟨gc, 3, none⟩ = some (.int .i64 y.f3) := (blk_cell BC2.out 3).trans rfl
        have hx2_4 : w2.cell? ⟨gb, 4, none⟩ = some (.slice A4 x.f4.length c4) := (blk_cell BK2.out 4).trans rfl
        have hy2_4 : w2.cell? ⟨gc, 4, none⟩ = some (.slice B4 y.f4.length d4) := (blk_cell BC2.out 4).trans rfl
        go_wp2_with (fail)
        go_ret
        exact ⟨rfl, HS2.out⟩
    · replace b1 : (x.f2.toList == y.f2.toList) = false := by simpa using b1
      rw [show sameE (n + 1) x y = false by simp [sameE, b0, b1]]
      go_enter Try.func88, Try.ntmps88
      go_upto_region 1 with (first | ((with_reducible refine gate_dst (N := 2) rfl ?_); refine box_event ?hg (N := 2) ?hd (cs := #[.int .i64 x.f0, .int .i64 x.f1, .string x.f2, .int .i64 x.f3, .slice A4 x.f4.length c4, .int .u8 x.f5, .int .i64 x.f6, .int .i64 x.f7]) (t := 111) ?hr ?_; (case hd => rfl); (case hg => rfl); (case hr => first | (go_simp; done) | (go_simp; rfl)); intro gb hgb w1 hbox hb; have BK1 := Aside0.mk hbox; have HS1 := Aside0.mk hb; have HGB := Aside0.mk (show w.heap.size ≤ gb by rw [hgb]; exact Nat.le_refl _); clear hb hbox hgb) | ((with_reducible refine gate_dst (N := 3) rfl ?_); refine box_event ?hg (N := 3) ?hd (cs := #[.int .i64 y.f0, .int .i64 y.f1, .string y.f2, .int .i64 y.f3, .slice B4 y.f4.length d4, .int .u8 y.f5, .int .i64 y.f6, .int .i64 y.f7]) (t := 111) ?hr ?_; (case hd => rfl); (case hg => rfl); (case hr => first | (go_simp; done) | (go_simp; rfl)); intro gc hgc w2 hbox hb; have BC2 := Aside0.mk hbox; have BK2 := Aside0.mk (blk_below BK1.out hb); have HS2 := Aside0.mk (below_step HS1.out hb); clear hb hbox hgc))
      (try simp only [Act.put, List.setIfInBounds_toArray, List.set_cons_zero, List.set_cons_succ])
      have hx2_0 : w2.cell? ⟨gb, 0, none⟩ = some (.int .i64 x.f0) := (blk_cell BK2.out 0).trans rfl
      have hy2_0 : w2.cell? ⟨gc, 0, none⟩ = some (.int .i64 y.f0) := (blk_cell BC2.out 0).trans rfl
      have hx2_2 : w2.cell? ⟨gb, 2, none⟩ = some (.string x.f2) := (blk_cell BK2.out 2).trans rfl
      have hy2_2 : w2.cell? ⟨gc, 2, none⟩ = some (.string y.f2) := (blk_cell BC2.out 2).trans rfl
      have hx2_3 : w2.cell? ⟨gb, 3, none⟩ = some (.int .i64 x.f3) := (blk_cell BK2.out 3).trans rfl
      have hy2_3 : w2.cell? ⟨gc, 3, none⟩ = some (.int .i64 y.f3) := (blk_cell BC2.out 3).trans rfl
      have hx2_4 : w2.cell? ⟨gb, 4, none⟩ = some (.slice A4 x.f4.length c4) := (blk_cell BK2.out 4).trans rfl
      have hy2_4 : w2.cell? ⟨gc, 4, none⟩ = some (.slice B4 y.f4.length d4) := (blk_cell BC2.out 4).trans rfl
      go_wp2_with (fail)
      go_ret
      exact ⟨rfl, HS2.out⟩
  · replace b0 : (x.f0 == y.f0) = false := by simpa using b0
    rw [show sameE (n + 1) x y = false by simp [sameE, b0]]
    go_enter Try.func88, Try.ntmps88
    go_upto_region 1 with (first | ((with_reducible refine gate_dst (N := 2) rfl ?_); refine box_event ?hg (N := 2) ?hd (cs := #[.int .i64 x.f0, .int .i64 x.f1, .string x.f2, .int .i64 x.f3, .slice A4 x.f4.length c4, .int .u8 x.f5, .int .i64 x.f6, .int .i64 x.f7]) (t := 111) ?hr ?_; (case hd => rfl); (case hg => rfl); (case hr => first | (go_simp; done) | (go_simp; rfl)); intro gb hgb w1 hbox hb; have BK1 := Aside0.mk hbox; have HS1 := Aside0.mk hb; have HGB := Aside0.mk (show w.heap.size ≤ gb by rw [hgb]; exact Nat.le_refl _); clear hb hbox hgb) | ((with_reducible refine gate_dst (N := 3) rfl ?_); refine box_event ?hg (N := 3) ?hd (cs := #[.int .i64 y.f0, .int .i64 y.f1, .string y.f2, .int .i64 y.f3, .slice B4 y.f4.length d4, .int .u8 y.f5, .int .i64 y.f6, .int .i64 y.f7]) (t := 111) ?hr ?_; (case hd => rfl); (case hg => rfl); (case hr => first | (go_simp; done) | (go_simp; rfl)); intro gc hgc w2 hbox hb; have BC2 := Aside0.mk hbox; have BK2 := Aside0.mk (blk_below BK1.out hb); have HS2 := Aside0.mk (below_step HS1.out hb); clear hb hbox hgc))
    (try simp only [Act.put, List.setIfInBounds_toArray, List.set_cons_zero, List.set_cons_succ])
    have hx2_0 : w2.cell? ⟨gb, 0, none⟩ = some (.int .i64 x.f0) := (blk_cell BK2.out 0).trans rfl
    have hy2_0 : w2.cell? ⟨gc, 0, none⟩ = some (.int .i64 y.f0) := (blk_cell BC2.out 0).trans rfl
    have hx2_2 : w2.cell? ⟨gb, 2, none⟩ = some (.string x.f2) := (blk_cell BK2.out 2).trans rfl
    have hy2_2 : w2.cell? ⟨gc, 2, none⟩ = some (.string y.f2) := (blk_cell BC2.out 2).trans rfl
    have hx2_3 : w2.cell? ⟨gb, 3, none⟩ = some (.int .i64 x.f3) := (blk_cell BK2.out 3).trans rfl
    have hy2_3 : w2.cell? ⟨gc, 3, none⟩ = some (.int .i64 y.f3) := (blk_cell BC2.out 3).trans rfl
    have hx2_4 : w2.cell? ⟨gb, 4, none⟩ = some (.slice A4 x.f4.length c4) := (blk_cell BK2.out 4).trans rfl
    have hy2_4 : w2.cell? ⟨gc, 4, none⟩ = some (.slice B4 y.f4.length d4) := (blk_cell BC2.out 4).trans rfl
    go_wp2_with (fail)
    go_ret
    exact ⟨rfl, HS2.out⟩

set_option maxHeartbeats 8000000 in
set_option maxRecDepth 100000 in
theorem clo89_calls (n : Nat) (h : SameL111 83 n) (x y : S111) (cs ds : List Value) (w : World) (hK : k111.K w x cs) (hK' : k111.K w y ds) (hx : SizeOf.sizeOf x ≤ n + 1) :
    Calls Try.prog 89 #[.agg cs.toArray, .agg ds.toArray] w fun e w' => e = .returned (.bool (sameE (n + 1) x y)) ∧ Below w.heap.size w w' := by
  obtain ⟨A4, c4, rfl, l4, g4⟩ := k111_open hK
  obtain ⟨B4, d4, rfl, m4, j4⟩ := k111_open hK'
  clear hK hK'
  by_cases b0 : (x.f0 == y.f0) = true
  · skip
    by_cases b1 : (x.f2.toList == y.f2.toList) = true
    · skip
      by_cases b2 : (x.f3 == y.f3) = true
      · skip
        by_cases b3 : (eqf (sameE n) x.f4 y.f4) = true
        · skip
          rw [show sameE (n + 1) x y = true by simp [sameE, b0, b1, b2, b3]]
          go_enter Try.func89, Try.ntmps89
          go_upto_region 1 with (first | ((with_reducible refine gate_dst (N := 2) rfl ?_); refine box_event ?hg (N := 2) ?hd (cs := #[.int .i64 x.f0, .int .i64 x.f1, .string x.f2, .int .i64 x.f3, .slice A4 x.f4.length c4, .int .u8 x.f5, .int .i64 x.f6, .int .i64 x.f7]) (t := 111) ?hr ?_; (case hd => rfl); (case hg => rfl); (case hr => first | (go_simp; done) | (go_simp; rfl)); intro gb hgb w1 hbox hb; have BK1 := Aside0.mk hbox; have HS1 := Aside0.mk hb; have HGB := Aside0.mk (show w.heap.size ≤ gb by rw [hgb]; exact Nat.le_refl _); clear hb hbox hgb) | ((with_reducible refine gate_dst (N := 3) rfl ?_); refine box_event ?hg (N := 3) ?hd (cs := #[.int .i64 y.f0, .int .i64 y.f1, .string y.f2, .int .i64 y.f3, .slice B4 y.f4.length d4, .int .u8 y.f5, .int .i64 y.f6, .int .i64 y.f7]) (t := 111) ?hr ?_; (case hd => rfl); (case hg => rfl); (case hr => first | (go_simp; done) | (go_simp; rfl)); intro gc hgc w2 hbox hb; have BC2 := Aside0.mk hbox; have BK2 := Aside0.mk (blk_below BK1.out hb); have HS2 := Aside0.mk (below_step HS1.out hb); clear hb hbox hgc))
          (try simp only [Act.put, List.setIfInBounds_toArray, List.set_cons_zero, List.set_cons_succ])
          have hx2_0 : w2.cell? ⟨gb, 0, none⟩ = some (.int .i64 x.f0) := (blk_cell BK2.out 0).trans rfl
          have hy2_0 : w2.cell? ⟨gc, 0, none⟩ = some (.int .i64 y.f0) := (blk_cell BC2.out 0).trans rfl
          have hx2_2 : w2.cell? ⟨gb, 2, none⟩ = some (.string x.f2) := (blk_cell BK2.out 2).trans rfl
          have hy2_2 : w2.cell? ⟨gc, 2, none⟩ = some (.string y.f2) := (blk_cell BC2.out 2).trans rfl
          have hx2_3 : w2.cell? ⟨gb, 3, none⟩ = some (.int .i64 x.f3) := (blk_cell BK2.out 3).trans rfl
          have hy2_3 : w2.cell? ⟨gc, 3, none⟩ = some (.int .i64 y.f3) := (blk_cell BC2.out 3).trans rfl
          have hx2_4 : w2.cell? ⟨gb, 4, none⟩ = some (.slice A4 x.f4.length c4) := (blk_cell BK2.out 4).trans rfl
          have hy2_4 : w2.cell? ⟨gc, 4, none⟩ = some (.slice B4 y.f4.length d4) := (blk_cell BC2.out 4).trans rfl
          go_wp2_with (first | (go_at_call 83; refine Calls.mono (h A4 c4 x.f4 B4 d4 y.f4 _ (Kd.C_below g4 HS2.out) (Kd.C_below j4 HS2.out) (fun z hz => kid111 hx z hz)) ?_; rintro e3 w3 ⟨rfl, hb⟩; have HS3 := Aside0.mk (below_step HS2.out hb); have BK3 := Aside0.mk (blk_below BK2.out hb); have BC3 := Aside0.mk (blk_below BC2.out hb); clear hb; rw [b3]; have hx3_0 : w3.cell? ⟨gb, 0, none⟩ = some (.int .i64 x.f0) := (blk_cell BK3.out 0).trans rfl; have hy3_0 : w3.cell? ⟨gc, 0, none⟩ = some (.int .i64 y.f0) := (blk_cell BC3.out 0).trans rfl; have hx3_2 : w3.cell? ⟨gb, 2, none⟩ = some (.string x.f2) := (blk_cell BK3.out 2).trans rfl; have hy3_2 : w3.cell? ⟨gc, 2, none⟩ = some (.string y.f2) := (blk_cell BC3.out 2).trans rfl; have hx3_3 : w3.cell? ⟨gb, 3, none⟩ = some (.int .i64 x.f3) := (blk_cell BK3.out 3).trans rfl; have hy3_3 : w3.cell? ⟨gc, 3, none⟩ = some (.int .i64 y.f3) := (blk_cell BC3.out 3).trans rfl; have hx3_4 : w3.cell? ⟨gb, 4, none⟩ = some (.slice A4 x.f4.length c4) := (blk_cell BK3.out 4).trans rfl; have hy3_4 : w3.cell? ⟨gc, 4, none⟩ = some (.slice B4 y.f4.length d4) := (blk_cell BC3.out 4).trans rfl))
          go_ret
          exact ⟨rfl, HS3.out⟩
        · replace b3 : (eqf (sameE n) x.f4 y.f4) = false := by simpa using b3
          rw [show sameE (n + 1) x y = false by simp [sameE, b0, b1, b2, b3]]
          go_enter Try.func89, Try.ntmps89
          go_upto_region 1 with (first | ((with_reducible refine gate_dst (N := 2) rfl ?_); refine box_event ?hg (N := 2) ?hd (cs := #[.int .i64 x.f0, .int .i64 x.f1, .string x.f2, .int .i64 x.f3, .slice A4 x.f4.length c4, .int .u8 x.f5, .int .i64 x.f6, .int .i64 x.f7]) (t := 111) ?hr ?_; (case hd => rfl); (case hg => rfl); (case hr => first | (go_simp; done) | (go_simp; rfl)); intro gb hgb w1 hbox hb; have BK1 := Aside0.mk hbox; have HS1 := Aside0.mk hb; have HGB := Aside0.mk (show w.heap.size ≤ gb by rw [hgb]; exact Nat.le_refl _); clear hb hbox hgb) | ((with_reducible refine gate_dst (N := 3) rfl ?_); refine box_event ?hg (N := 3) ?hd (cs := #[.int .i64 y.f0, .int .i64 y.f1, .string y.f2, .int .i64 y.f3, .slice B4 y.f4.length d4, .int .u8 y.f5, .int .i64 y.f6, .int .i64 y.f7]) (t := 111) ?hr ?_; (case hd => rfl); (case hg => rfl); (case hr => first | (go_simp; done) | (go_simp; rfl)); intro gc hgc w2 hbox hb; have BC2 := Aside0.mk hbox; have BK2 := Aside0.mk (blk_below BK1.out hb); have HS2 := Aside0.mk (below_step HS1.out hb); clear hb hbox hgc))
          (try simp only [Act.put, List.setIfInBounds_toArray, List.set_cons_zero, List.set_cons_succ])
          have hx2_0 : w2.cell? ⟨gb, 0, none⟩ = some (.int .i64 x.f0) := (blk_cell BK2.out 0).trans rfl
          have hy2_0 : w2.cell? ⟨gc, 0, none⟩ = some (.int .i64 y.f0) := (blk_cell BC2.out 0).trans rfl
          have hx2_2 : w2.cell? ⟨gb, 2, none⟩ = some (.string x.f2) := (blk_cell BK2.out 2).trans rfl
          have hy2_2 : w2.cell? ⟨gc, 2, none⟩ = some (.string y.f2) := (blk_cell BC2.out 2).trans rfl
          have hx2_3 : w2.cell? ⟨gb, 3, none⟩ = some (.int .i64 x.f3) := (blk_cell BK2.out 3).trans rfl
          have hy2_3 : w2.cell? ⟨gc, 3, none⟩ = some (.int .i64 y.f3) := (blk_cell BC2.out 3).trans rfl
          have hx2_4 : w2.cell? ⟨gb, 4, none⟩ = some (.slice A4 x.f4.length c4) := (blk_cell BK2.out 4).trans rfl
          have hy2_4 : w2.cell? ⟨gc, 4, none⟩ = some (.slice B4 y.f4.length d4) := (blk_cell BC2.out 4).trans rfl
          go_wp2_with (first | (go_at_call 83; refine Calls.mono (h A4 c4 x.f4 B4 d4 y.f4 _ (Kd.C_below g4 HS2.out) (Kd.C_below j4 HS2.out) (fun z hz => kid111 hx z hz)) ?_; rintro e3 w3 ⟨rfl, hb⟩; have HS3 := Aside0.mk (below_step HS2.out hb); have BK3 := Aside0.mk (blk_below BK2.out hb); have BC3 := Aside0.mk (blk_below BC2.out hb); clear hb; rw [b3]; have hx3_0 : w3.cell? ⟨gb, 0, none⟩ = some (.int .i64 x.f0) := (blk_cell BK3.out 0).trans rfl; have hy3_0 : w3.cell? ⟨gc, 0, none⟩ = some (.int .i64 y.f0) := (blk_cell BC3.out 0).trans rfl; have hx3_2 : w3.cell? ⟨gb, 2, none⟩ = some (.string x.f2) := (blk_cell BK3.out 2).trans rfl; have hy3_2 : w3.cell? ⟨gc, 2, none⟩ = some (.string y.f2) := (blk_cell BC3.out 2).trans rfl; have hx3_3 : w3.cell? ⟨gb, 3, none⟩ = some (.int .i64 x.f3) := (blk_cell BK3.out 3).trans rfl; have hy3_3 : w3.cell? ⟨gc, 3, none⟩ = some (.int .i64 y.f3) := (blk_cell BC3.out 3).trans rfl; have hx3_4 : w3.cell? ⟨gb, 4, none⟩ = some (.slice A4 x.f4.length c4) := (blk_cell BK3.out 4).trans rfl; have hy3_4 : w3.cell? ⟨gc, 4, none⟩ = some (.slice B4 y.f4.length d4) := (blk_cell BC3.out 4).trans rfl))
          go_ret
          exact ⟨rfl, HS3.out⟩
      · replace b2 : (x.f3 == y.f3) = false := by simpa using b2
        rw [show sameE (n + 1) x y = false by simp [sameE, b0, b1, b2]]
        go_enter Try.func89, Try.ntmps89
        go_upto_region 1 with (first | ((with_reducible refine gate_dst (N := 2) rfl ?_); refine box_event ?hg (N := 2) ?hd (cs := #[.int .i64 x.f0, .int .i64 x.f1, .string x.f2, .int .i64 x.f3, .slice A4 x.f4.length c4, .int .u8 x.f5, .int .i64 x.f6, .int .i64 x.f7]) (t := 111) ?hr ?_; (case hd => rfl); (case hg => rfl); (case hr => first | (go_simp; done) | (go_simp; rfl)); intro gb hgb w1 hbox hb; have BK1 := Aside0.mk hbox; have HS1 := Aside0.mk hb; have HGB := Aside0.mk (show w.heap.size ≤ gb by rw [hgb]; exact Nat.le_refl _); clear hb hbox hgb) | ((with_reducible refine gate_dst (N := 3) rfl ?_); refine box_event ?hg (N := 3) ?hd (cs := #[.int .i64 y.f0, .int .i64 y.f1, .string y.f2, .int .i64 y.f3, .slice B4 y.f4.length d4, .int .u8 y.f5, .int .i64 y.f6, .int .i64 y.f7]) (t := 111) ?hr ?_; (case hd => rfl); (case hg => rfl); (case hr => first | (go_simp; done) | (go_simp; rfl)); intro gc hgc w2 hbox hb; have BC2 := Aside0.mk hbox; have BK2 := Aside0.mk (blk_below BK1.out hb); have HS2 := Aside0.mk (below_step HS1.out hb); clear hb hbox hgc))
        (try simp only [Act.put, List.setIfInBounds_toArray, List.set_cons_zero, List.set_cons_succ])
        have hx2_0 : w2.cell? ⟨gb, 0, none⟩ = some (.int .i64 x.f0) := (blk_cell BK2.out 0).trans rfl
        have hy2_0 : w2.cell? ⟨gc, 0, none⟩ = some (.int .i64 y.f0) := (blk_cell BC2.out 0).trans rfl
        have hx2_2 : w2.cell? ⟨gb, 2, none⟩ = some (.string x.f2) := (blk_cell BK2.out 2).trans rfl
        have hy2_2 : w2.cell? ⟨gc, 2, none⟩ = some (.string y.f2) := (blk_cell BC2.out 2).trans rfl
        have hx2_3 : w2.cell? ⟨gb, 3, none⟩ = some (.int .i64 x.f3) := (blk_cell BK2.out 3).trans rfl
        have hy2_3 : w2.cell? ⟨gc, 3, none⟩ = some (.int .i64 y.f3) := (blk_cell BC2.out 3).trans rfl
        have hx2_4 : w2.cell? ⟨gb, 4, none⟩ = some (.slice A4 x.f4.length c4) := (blk_cell BK2.out 4).trans rfl
        have hy2_4 : w2.cell? ⟨gc, 4, none⟩ = some (.slice B4 y.f4.length d4) := (blk_cell BC2.out 4).trans rfl
        go_wp2_with (fail)
        go_ret
        exact ⟨rfl, HS2.out⟩
    · replace b1 : (x.f2.toList == y.f2.toList) = false := by simpa using b1
      rw [show sameE (n + 1) x y = false by simp [sameE, b0, b1]]
      go_enter Try.func89, Try.ntmps89
      go_upto_region 1 with (first | ((with_reducible refine gate_dst (N := 2) rfl ?_); refine box_event ?hg (N := 2) ?hd (cs := #[.int .i64 x.f0, .int .i64 x.f1, .string x.f2, .int .i64 x.f3, .slice A4 x.f4.length c4, .int .u8 x.f5, .int .i64 x.f6, .int .i64 x.f7]) (t := 111) ?hr ?_; (case hd => rfl); (case hg => rfl); (case hr => first | (go_simp; done) | (go_simp; rfl)); intro gb hgb w1 hbox hb; have BK1 := Aside0.mk hbox; have HS1 := Aside0.mk hb; have HGB := Aside0.mk (show w.heap.size ≤ gb by rw [hgb]; exact Nat.le_refl _); clear hb hbox hgb) | ((with_reducible refine gate_dst (N := 3) rfl ?_); refine box_event ?hg (N := 3) ?hd (cs := #[.int .i64 y.f0, .int .i64 y.f1, .string y.f2, .int .i64 y.f3, .slice B4 y.f4.length d4, .int .u8 y.f5, .int .i64 y.f6, .int .i64 y.f7]) (t := 111) ?hr ?_; (case hd => rfl); (case hg => rfl); (case hr => first | (go_simp; done) | (go_simp; rfl)); intro gc hgc w2 hbox hb; have BC2 := Aside0.mk hbox; have BK2 := Aside0.mk (blk_below BK1.out hb); have HS2 := Aside0.mk (below_step HS1.out hb); clear hb hbox hgc))
      (try simp only [Act.put, List.setIfInBounds_toArray, List.set_cons_zero, List.set_cons_succ])
      have hx2_0 : w2.cell? ⟨gb, 0, none⟩ = some (.int .i64 x.f0) := (blk_cell BK2.out 0).trans rfl
      have hy2_0 : w2.cell? ⟨gc, 0, none⟩ = some (.int .i64 y.f0) := (blk_cell BC2.out 0).trans rfl
      have hx2_2 : w2.cell? ⟨gb, 2, none⟩ = some (.string x.f2) := (blk_cell BK2.out 2).trans rfl
      have hy2_2 : w2.cell? ⟨gc, 2, none⟩ = some (.string y.f2) := (blk_cell BC2.out 2).trans rfl
      have hx2_3 : w2.cell? ⟨gb, 3, none⟩ = some (.int .i64 x.f3) := (blk_cell BK2.out 3).trans rfl
      have hy2_3 : w2.cell? ⟨gc, 3, none⟩ = some (.int .i64 y.f3) := (blk_cell BC2.out 3).trans rfl
      have hx2_4 : w2.cell? ⟨gb, 4, none⟩ = some (.slice A4 x.f4.length c4) := (blk_cell BK2.out 4).trans rfl
      have hy2_4 : w2.cell? ⟨gc, 4, none⟩ = some (.slice B4 y.f4.length d4) := (blk_cell BC2.out 4).trans rfl
      go_wp2_with (fail)
      go_ret
      exact ⟨rfl, HS2.out⟩
  · replace b0 : (x.f0 == y.f0) = false := by simpa using b0
    rw [show sameE (n + 1) x y = false by simp [sameE, b0]]
    go_enter Try.func89, Try.ntmps89
    go_upto_region 1 with (first | ((with_reducible refine gate_dst (N := 2) rfl ?_); refine box_event ?hg (N := 2) ?hd (cs := #[.int .i64 x.f0, .int .i64 x.f1, .string x.f2, .int .i64 x.f3, .slice A4 x.f4.length c4, .int .u8 x.f5, .int .i64 x.f6, .int .i64 x.f7]) (t := 111) ?hr ?_; (case hd => rfl); (case hg => rfl); (case hr => first | (go_simp; done) | (go_simp; rfl)); intro gb hgb w1 hbox hb; have BK1 := Aside0.mk hbox; have HS1 := Aside0.mk hb; have HGB := Aside0.mk (show w.heap.size ≤ gb by rw [hgb]; exact Nat.le_refl _); clear hb hbox hgb) | ((with_reducible refine gate_dst (N := 3) rfl ?_); refine box_event ?hg (N := 3) ?hd (cs := #[.int .i64 y.f0, .int .i64 y.f1, .string y.f2, .int .i64 y.f3, .slice B4 y.f4.length d4, .int .u8 y.f5, .int .i64 y.f6, .int .i64 y.f7]) (t := 111) ?hr ?_; (case hd => rfl); (case hg => rfl); (case hr => first | (go_simp; done) | (go_simp; rfl)); intro gc hgc w2 hbox hb; have BC2 := Aside0.mk hbox; have BK2 := Aside0.mk (blk_below BK1.out hb); have HS2 := Aside0.mk (below_step HS1.out hb); clear hb hbox hgc))
    (try simp only [Act.put, List.setIfInBounds_toArray, List.set_cons_zero, List.set_cons_succ])
    have hx2_0 : w2.cell? ⟨gb, 0, none⟩ = some (.int .i64 x.f0) := (blk_cell BK2.out 0).trans rfl
    have hy2_0 : w2.cell? ⟨gc, 0, none⟩ = some (.int .i64 y.f0) := (blk_cell BC2.out 0).trans rfl
    have hx2_2 : w2.cell? ⟨gb, 2, none⟩ = some (.string x.f2) := (blk_cell BK2.out 2).trans rfl
    have hy2_2 : w2.cell? ⟨gc, 2, none⟩ = some (.string y.f2) := (blk_cell BC2.out 2).trans rfl
    have hx2_3 : w2.cell? ⟨gb, 3, none⟩ = some (.int .i64 x.f3) := (blk_cell BK2.out 3).trans rfl
    have hy2_3 : w2.cell? ⟨gc, 3, none⟩ = some (.int .i64 y.f3) := (blk_cell BC2.out 3).trans rfl
    have hx2_4 : w2.cell? ⟨gb, 4, none⟩ = some (.slice A4 x.f4.length c4) := (blk_cell BK2.out 4).trans rfl
    have hy2_4 : w2.cell? ⟨gc, 4, none⟩ = some (.slice B4 y.f4.length d4) := (blk_cell BC2.out 4).trans rfl
    go_wp2_with (fail)
    go_ret
    exact ⟨rfl, HS2.out⟩

set_option maxHeartbeats 8000000 in
set_option maxRecDepth 100000 in
theorem clo81_calls (m n : Nat) (h0 : SameL111 82 m) (h : SameL109 60 m n) (hmn : n + 1 ≤ m) (x y : S109) (cs ds : List Value) (w : World) (hK : k109.K w x cs) (hK' : k109.K w y ds) (hx : SizeOf.sizeOf x ≤ n + 1) :
    Calls Try.prog 81 #[.agg cs.toArray, .agg ds.toArray] w fun e w' => e = .returned (.bool (sameS m (n + 1) x y)) ∧ Below w.heap.size w w' := by
  obtain ⟨A5, c5, A6, c6, A7, c7, rfl, l5, g5, l6, g6, l7, g7⟩ := k109_open hK
  obtain ⟨B5, d5, B6, d6, B7, d7, rfl, m5, j5, m6, j6, m7, j7⟩ := k109_open hK'
  clear hK hK'
  by_cases b0 : (x.f0 == y.f0) = true
  · skip
    by_cases b1 : (x.f2.toList == y.f2.toList) = true
    · skip
      by_cases b2 : (x.f3.toList == y.f3.toList) = true
      · skip
        by_cases b3 : (x.f4 == y.f4) = true
        · skip
          by_cases b4 : (eqf (sameE m) x.f5 y.f5) = true
          · skip
            by_cases b5 : (eqf (sameS m n) x.f6 y.f6) = true
            · skip
              by_cases b6 : (eqf (sameS m n) x.f7 y.f7) = true
              · skip
                rw [show sameS m (n + 1) x y = true by simp [sameS, b0, b1, b2, b3, b4, b5, b6]]
                go_enter Try.func81, Try.ntmps81
                go_upto_region 1 with (first | ((with_reducible refine gate_dst (N := 2) rfl ?_); refine box_event ?hg (N := 2) ?hd (cs := #[.int .i64 x.f0, .int .i64 x.f1, .string x.f2, .string x.f3, .int .i64 x.f4, .slice A5 x.f5.length c5, .slice A6 x.f6.length c6, .slice A7 x.f7.length c7, .int .u8 x.f8, .int .i64 x.f9]) (t := 109) ?hr ?_; (case hd => rfl); (case hg => rfl); (case hr => first | (go_simp; done) | (go_simp; rfl)); intro gb hgb w1 hbox hb; have BK1 := Aside0.mk hbox; have HS1 := Aside0.mk hb; have HGB := Aside0.mk (show w.heap.size ≤ gb by rw [hgb]; exact Nat.le_refl _); clear hb hbox hgb) | ((with_reducible refine gate_dst (N := 3) rfl ?_); refine box_event ?hg (N := 3) ?hd (cs := #[.int .i64 y.f0, .int .i64 y.f1, .string y.f2, .string y.f3, .int .i64 y.f4, .slice B5 y.f5.length d5, .slice B6 y.f6.length d6, .slice B7 y.f7.length d7, .int .u8 y.f8, .int .i64 y.f9]) (t := 109) ?hr ?_; (case hd => rfl); (case hg => rfl); (case hr => first | (go_simp; done) | (go_simp; rfl)); intro gc hgc w2 hbox hb; have BC2 := Aside0.mk hbox; have BK2 := Aside0.mk (blk_below BK1.out hb); have HS2 := Aside0.mk (below_step HS1.out hb); clear hb hbox hgc))
                (try simp only [Act.put, List.setIfInBounds_toArray, List.set_cons_zero, List.set_cons_succ])
                have hx2_0 : w2.cell? ⟨gb, 0, none⟩ = some (.int .i64 x.f0) := (blk_cell BK2.out 0).trans rfl
                have hy2_0 : w2.cell? ⟨gc, 0, none⟩ = some (.int .i64 y.f0) := (blk_cell BC2.out 0).trans rfl
                have hx2_2 : w2.cell? ⟨gb, 2, none⟩ = some (.string x.f2) := (blk_cell BK2.out 2).trans rfl
                have hy2_2 : w2.cell? ⟨gc, 2, none⟩ = some (.string y.f2) := (blk_cell BC2.out 2).trans rfl
                have hx2_3 : w2.cell? ⟨gb, 3, none⟩ = some (.string x.f3) := (blk_cell BK2.out 3).trans rfl
                have hy2_3 : w2.cell? ⟨gc, 3, none⟩ = some (.string y.f3) := (blk_cell BC2.out 3).trans rfl
                have hx2_4 : w2.cell? ⟨gb, 4, none⟩ = some (.int .i64 x.f4) := (blk_cell BK2.out 4).trans rfl
                have hy2_4 : w2.cell? ⟨gc, 4, none⟩ = some (.int .i64 y.f4) := (blk_cell BC2.out 4).trans rfl
                have hx2_5 : w2.cell? ⟨gb, 5, none⟩ = some (.slice A5 x.f5.length c5) := (blk_cell BK2.out 5).trans rfl
                have hy2_5 : w2.cell? ⟨gc, 5, none⟩ = some (.slice B5 y.f5.length d5) := (blk_cell BC2.out 5).trans rfl
                have hx2_6 : w2.cell? ⟨gb, 6, none⟩ = some (.slice A6 x.f6.length c6) := (blk_cell BK2.out 6).trans rfl
                have hy2_6 : w2.cell? ⟨gc, 6, none⟩ = some (.slice B6 y.f6.length d6) := (blk_cell BC2.out 6).trans rfl
                have hx2_7 : w2.cell? ⟨gb, 7, none⟩ = some (.slice A7 x.f7.length c7) := (blk_cell BK2.out 7).trans rfl
                have hy2_7 : w2.cell? ⟨gc, 7, none⟩ = some (.slice B7 y.f7.length d7) := (blk_cell BC2.out 7).trans rfl
                go_wp2_with (first | (go_at_call 82; refine Calls.mono (h0 A5 c5 x.f5 B5 d5 y.f5 _ (Kd.C_below g5 HS2.out) (Kd.C_below j5 HS2.out) (fun z hz => Nat.le_trans (kid109e hx z hz) (by omega))) ?_; rintro e3 w3 ⟨rfl, hb⟩; have HS3 := Aside0.mk (below_step HS2.out hb); have BK3 := Aside0.mk (blk_below BK2.out hb); have BC3 := Aside0.mk (blk_below BC2.out hb); clear hb; rw [b4]; have hx3_0 : w3.cell? ⟨gb, 0, none⟩ = some (.int .i64 x.f0) := (blk_cell BK3.out 0).trans rfl; have hy3_0 : w3.cell? ⟨gc, 0, none⟩ = some (.int .i64 y.f0) := (blk_cell BC3.out 0).trans rfl; have hx3_2 : w3.cell? ⟨gb, 2, none⟩ = some (.string x.f2) := (blk_cell BK3.out 2).trans rfl; have hy3_2 : w3.cell? ⟨gc, 2, none⟩ = some (.string y.f2) := (blk_cell BC3.out 2).trans rfl; have hx3_3 : w3.cell? ⟨gb, 3, none⟩ = some (.string x.f3) := (blk_cell BK3.out 3).trans rfl; have hy3_3 : w3.cell? ⟨gc, 3, none⟩ = some (.string y.f3) := (blk_cell BC3.out 3).trans rfl; have hx3_4 : w3.cell? ⟨gb, 4, none⟩ = some (.int .i64 x.f4) := (blk_cell BK3.out 4).trans rfl; have hy3_4 : w3.cell? ⟨gc, 4, none⟩ = some (.int .i64 y.f4) := (blk_cell BC3.out 4).trans rfl; have hx3_5 : w3.cell? ⟨gb, 5, none⟩ = some (.slice A5 x.f5.length c5) := (blk_cell BK3.out 5).trans rfl; have hy3_5 : w3.cell? ⟨gc, 5, none⟩ = some (.slice B5 y.f5.length d5) := (blk_cell BC3.out 5).trans rfl; have hx3_6 : w3.cell? ⟨gb, 6, none⟩ = some (.slice A6 x.f6.length c6) := (blk_cell BK3.out 6).trans rfl; have hy3_6 : w3.cell? ⟨gc, 6, none⟩ = some (.slice B6 y.f6.length d6) := (blk_cell BC3.out 6).trans rfl; have hx3_7 : w3.cell? ⟨gb, 7, none⟩ = some (.slice A7 x.f7.length c7) := (blk_cell BK3.out 7).trans rfl; have hy3_7 : w3.cell? ⟨gc, 7, none⟩ = some (.slice B7 y.f7.length d7) := (blk_cell BC3.out 7).trans rfl) | (go_at_call 60; refine Calls.mono (h A6 c6 x.f6 B6 d6 y.f6 _ (Kd.C_below g6 HS3.out) (Kd.C_below j6 HS3.out) (fun z hz => kid109a hx z hz)) ?_; rintro e4 w4 ⟨rfl, hb⟩; have HS4 := Aside0.mk (below_step HS3.out hb); have BK4 := Aside0.mk (blk_below BK3.out hb); have BC4 := Aside0.mk (blk_below BC3.out hb); clear hb; rw [b5]; have hx4_0 : w4.cell? ⟨gb, 0, none⟩ = some (.int .i64 x.f0) := (blk_cell BK4.out 0).trans rfl; have hy4_0 : w4.cell? ⟨gc, 0, none⟩ = some (.int .i64 y.f0) := (blk_cell BC4.out 0).trans rfl; have hx4_2 : w4.cell? ⟨gb, 2, none⟩ = some (.string x.f2) := (blk_cell BK4.out 2).trans rfl; have hy4_2 : w4.cell? ⟨gc, 2, none⟩ = some (.string y.f2) := (blk_cell BC4.out 2).trans rfl; have hx4_3 : w4.cell? ⟨gb, 3, none⟩ = some (.string x.f3) := (blk_cell BK4.out 3).trans rfl; have hy4_3 : w4.cell? ⟨gc, 3, none⟩ = some (.string y.f3) := (blk_cell BC4.out 3).trans rfl; have hx4_4 : w4.cell? ⟨gb, 4, none⟩ = some (.int .i64 x.f4) := (blk_cell BK4.out 4).trans rfl; have hy4_4 : w4.cell? ⟨gc, 4, none⟩ = some (.int .i64 y.f4) := (blk_cell BC4.out 4).trans rfl; have hx4_5 : w4.cell? ⟨gb, 5, none⟩ = some (.slice A5 x.f5.length c5) := (blk_cell BK4.out 5).trans rfl; have hy4_5 : w4.cell? ⟨gc, 5, none⟩ = some (.slice B5 y.f5.length d5) := (blk_cell BC4.out 5).trans rfl; have hx4_6 : w4.cell? ⟨gb, 6, none⟩ = some (.slice A6 x.f6.length c6) := (blk_cell BK4.out 6).trans rfl; have hy4_6 : w4.cell? ⟨gc, 6, none⟩ = some (.slice B6 y.f6.length d6) := (blk_cell BC4.out 6).trans rfl; have hx4_7 : w4.cell? ⟨gb, 7, none⟩ = some (.slice A7 x.f7.length c7) := (blk_cell BK4.out 7).trans rfl; have hy4_7 : w4.cell? ⟨gc, 7, none⟩ = some (.slice B7 y.f7.length d7) := (blk_cell BC4.out 7).trans rfl) | (go_at_call 60; refine Calls.mono (h A7 c7 x.f7 B7 d7 y.f7 _ (Kd.C_below g7 HS4.out) (Kd.C_below j7 HS4.out) (fun z hz => kid109b hx z hz)) ?_; rintro e5 w5 ⟨rfl, hb⟩; have HS5 := Aside0.mk (below_step HS4.out hb); have BK5 := Aside0.mk (blk_below BK4.out hb); have BC5 := Aside0.mk (blk_below BC4.out hb); clear hb; rw [b6]; have hx5_0 : w5.cell? ⟨gb, 0, none⟩ = some (.int .i64 x.f0) := (blk_cell BK5.out 0).trans rfl; have hy5_0 : w5.cell? ⟨gc, 0, none⟩ = some (.int .i64 y.f0) := (blk_cell BC5.out 0).trans rfl; have hx5_2 : w5.cell? ⟨gb, 2, none⟩ = some (.string x.f2) := (blk_cell BK5.out 2).trans rfl; have hy5_2 : w5.cell? ⟨gc, 2, none⟩ = some (.string y.f2) := (blk_cell BC5.out 2).trans rfl; have hx5_3 : w5.cell? ⟨gb, 3, none⟩ = some (.string x.f3) := (blk_cell BK5.out 3).trans rfl; have hy5_3 : w5.cell? ⟨gc, 3, none⟩ = some (.string y.f3) := (blk_cell BC5.out 3).trans rfl; have hx5_4 : w5.cell? ⟨gb, 4, none⟩ = some (.int .i64 x.f4) := (blk_cell BK5.out 4).trans rfl; have hy5_4 : w5.cell? ⟨gc, 4, none⟩ = some (.int .i64 y.f4) := (blk_cell BC5.out 4).trans rfl; have hx5_5 : w5.cell? ⟨gb, 5, none⟩ = some (.slice A5 x.f5.length c5) := (blk_cell BK5.out 5).trans rfl; have hy5_5 : w5.cell? ⟨gc, 5, none⟩ = some (.slice B5 y.f5.length d5) := (blk_cell BC5.out 5).trans rfl; have hx5_6 : w5.cell? ⟨gb, 6, none⟩ = some (.slice A6 x.f6.length c6) := (blk_cell BK5.out 6).trans rfl; have hy5_6 : w5.cell? ⟨gc, 6, none⟩ = some (.slice B6 y.f6.length d6) := (blk_cell BC5.out 6).trans rfl; have hx5_7 : w5.cell? ⟨gb, 7, none⟩ = some (.slice A7 x.f7.length c7) := (blk_cell BK5.out 7).trans rfl; have hy5_7 : w5.cell? ⟨gc, 7, none⟩ = some (.slice B7 y.f7.length d7) := (blk_cell BC5.out 7).trans rfl))
                go_ret
                exact ⟨rfl, HS5.out⟩
              · replace b6 : (eqf (sameS m n) x.f7 y.f7) = false := by simpa using b6
                rw [show sameS m (n + 1) x y = false by simp [sameS, b0, b1, b2, b3, b4, b5, b6]]
                go_enter Try.func81, Try.ntmps81
                go_upto_region 1 with (first | ((with_reducible refine gate_dst (N := 2) rfl ?_); refine box_event ?hg (N := 2) ?hd (cs := #[.int .i64 x.f0, .int .i64 x.f1, .string x.f2, .string x.f3, .int .i64 x.f4, .slice A5 x.f5.length c5, .slice A6 x.f6.length c6, .slice A7 x.f7.length c7, .int .u8 x.f8, .int .i64 x.f9]) (t := 109) ?hr ?_; (case hd => rfl); (case hg => rfl); (case hr => first | (go_simp; done) | (go_simp; rfl)); intro gb hgb w1 hbox hb; have BK1 := Aside0.mk hbox; have HS1 := Aside0.mk hb; have HGB := Aside0.mk (show w.heap.size ≤ gb by rw [hgb]; exact Nat.le_refl _); clear hb hbox hgb) | ((with_reducible refine gate_dst (N := 3) rfl ?_); refine box_event ?hg (N := 3) ?hd (cs := #[.int .i64 y.f0, .int .i64 y.f1, .string y.f2, .string y.f3, .int .i64 y.f4, .slice B5 y.f5.length d5, .slice B6 y.f6.length d6, .slice B7 y.f7.length d7, .int .u8 y.f8, .int .i64 y.f9]) (t := 109) ?hr ?_; (case hd => rfl); (case hg => rfl); (case hr => first | (go_simp; done) | (go_simp; rfl)); intro gc hgc w2 hbox hb; have BC2 := Aside0.mk hbox; have BK2 := Aside0.mk (blk_below BK1.out hb); have HS2 := Aside0.mk (below_step HS1.out hb); clear hb hbox hgc))
                (try simp only [Act.put, List.setIfInBounds_toArray, List.set_cons_zero, List.set_cons_succ])
                have hx2_0 : w2.cell? ⟨gb, 0, none⟩ = some (.int .i64 x.f0) := (blk_cell BK2.out 0).trans rfl
                have hy2_0 : w2.cell? ⟨gc, 0, none⟩ = some (.int .i64 y.f0) := (blk_cell BC2.out 0).trans rfl
                have hx2_2 : w2.cell? ⟨gb, 2, none⟩ = some (.string x.f2) := (blk_cell BK2.out 2).trans rfl
                have hy2_2 : w2.cell? ⟨gc, 2, none⟩ = some (.string y.f2) := (blk_cell BC2.out 2).trans rfl
                have hx2_3 : w2.cell? ⟨gb, 3, none⟩ = some (.string x.f3) := (blk_cell BK2.out 3).trans rfl
                have hy2_3 : w2.cell? ⟨gc, 3, none⟩ = some (.string y.f3) := (blk_cell BC2.out 3).trans rfl
                have hx2_4 : w2.cell? ⟨gb, 4, none⟩ = some (.int .i64 x.f4) := (blk_cell BK2.out 4).trans rfl
                have hy2_4 : w2.cell? ⟨gc, 4, none⟩ = some (.int .i64 y.f4) := (blk_cell BC2.out 4).trans rfl
                have hx2_5 : w2.cell? ⟨gb, 5, none⟩ = some (.slice A5 x.f5.length c5) := (blk_cell BK2.out 5).trans rfl
                have hy2_5 : w2.cell? ⟨gc, 5, none⟩ = some (.slice B5 y.f5.length d5) := (blk_cell BC2.out 5).trans rfl
                have hx2_6 : w2.cell? ⟨gb, 6, none⟩ = some (.slice A6 x.f6.length c6) := (blk_cell BK2.out 6).trans rfl
                have hy2_6 : w2.cell? ⟨gc, 6, none⟩ = some (.slice B6 y.f6.length d6) := (blk_cell BC2.out 6).trans rfl
                have hx2_7 : w2.cell? ⟨gb, 7, none⟩ = some (.slice A7 x.f7.length c7) := (blk_cell BK2.out 7).trans rfl
                have hy2_7 : w2.cell? ⟨gc, 7, none⟩ = some (.slice B7 y.f7.length d7) := (blk_cell BC2.out 7).trans rfl
                go_wp2_with (first | (go_at_call 82; refine Calls.mono (h0 A5 c5 x.f5 B5 d5 y.f5 _ (Kd.C_below g5 HS2.out) (Kd.C_below j5 HS2.out) (fun z hz => Nat.le_trans (kid109e hx z hz) (by omega))) ?_; rintro e3 w3 ⟨rfl, hb⟩; have HS3 := Aside0.mk (below_step HS2.out hb); have BK3 := Aside0.mk (blk_below BK2.out hb); have BC3 := Aside0.mk (blk_below BC2.out hb); clear hb; rw [b4]; have hx3_0 : w3.cell? ⟨gb, 0, none⟩ = some (.int .i64 x.f0) := (blk_cell BK3.out 0).trans rfl; have hy3_0 : w3.cell? ⟨gc, 0, none⟩ = some (.int .i64 y.f0) := (blk_cell BC3.out 0).trans rfl; have hx3_2 : w3.cell? ⟨gb, 2, none⟩ = some (.string x.f2) := (blk_cell BK3.out 2).trans rfl; have hy3_2 : w3.cell? ⟨gc, 2, none⟩ = some (.string y.f2) := (blk_cell BC3.out 2).trans rfl; have hx3_3 : w3.cell? ⟨gb, 3, none⟩ = some (.string x.f3) := (blk_cell BK3.out 3).trans rfl; have hy3_3 : w3.cell? ⟨gc, 3, none⟩ = some (.string y.f3) := (blk_cell BC3.out 3).trans rfl; have hx3_4 : w3.cell? ⟨gb, 4, none⟩ = some (.int .i64 x.f4) := (blk_cell BK3.out 4).trans rfl; have hy3_4 : w3.cell? ⟨gc, 4, none⟩ = some (.int .i64 y.f4) := (blk_cell BC3.out 4).trans rfl; have hx3_5 : w3.cell? ⟨gb, 5, none⟩ = some (.slice A5 x.f5.length c5) := (blk_cell BK3.out 5).trans rfl; have hy3_5 : w3.cell? ⟨gc, 5, none⟩ = some (.slice B5 y.f5.length d5) := (blk_cell BC3.out 5).trans rfl; have hx3_6 : w3.cell? ⟨gb, 6, none⟩ = some (.slice A6 x.f6.length c6) := (blk_cell BK3.out 6).trans rfl; have hy3_6 : w3.cell? ⟨gc, 6, none⟩ = some (.slice B6 y.f6.length d6) := (blk_cell BC3.out 6).trans rfl; have hx3_7 : w3.cell? ⟨gb, 7, none⟩ = some (.slice A7 x.f7.length c7) := (blk_cell BK3.out 7).trans rfl; have hy3_7 : w3.cell? ⟨gc, 7, none⟩ = some (.slice B7 y.f7.length d7) := (blk_cell BC3.out 7).trans rfl) | (go_at_call 60; refine Calls.mono (h A6 c6 x.f6 B6 d6 y.f6 _ (Kd.C_below g6 HS3.out) (Kd.C_below j6 HS3.out) (fun z hz => kid109a hx z hz)) ?_; rintro e4 w4 ⟨rfl, hb⟩; have HS4 := Aside0.mk (below_step HS3.out hb); have BK4 := Aside0.mk (blk_below BK3.out hb); have BC4 := Aside0.mk (blk_below BC3.out hb); clear hb; rw [b5]; have hx4_0 : w4.cell? ⟨gb, 0, none⟩ = some (.int .i64 x.f0) := (blk_cell BK4.out 0).trans rfl; have hy4_0 : w4.cell? ⟨gc, 0, none⟩ = some (.int .i64 y.f0) := (blk_cell BC4.out 0).trans rfl; have hx4_2 : w4.cell? ⟨gb, 2, none⟩ = some (.string x.f2) := (blk_cell BK4.out 2).trans rfl; have hy4_2 : w4.cell? ⟨gc, 2, none⟩ = some (.string y.f2) := (blk_cell BC4.out 2).trans rfl; have hx4_3 : w4.cell? ⟨gb, 3, none⟩ = some (.string x.f3) := (blk_cell BK4.out 3).trans rfl; have hy4_3 : w4.cell? ⟨gc, 3, none⟩ = some (.string y.f3) := (blk_cell BC4.out 3).trans rfl; have hx4_4 : w4.cell? ⟨gb, 4, none⟩ = some (.int .i64 x.f4) := (blk_cell BK4.out 4).trans rfl; have hy4_4 : w4.cell? ⟨gc, 4, none⟩ = some (.int .i64 y.f4) := (blk_cell BC4.out 4).trans rfl; have hx4_5 : w4.cell? ⟨gb, 5, none⟩ = some (.slice A5 x.f5.length c5) := (blk_cell BK4.out 5).trans rfl; have hy4_5 : w4.cell? ⟨gc, 5, none⟩ = some (.slice B5 y.f5.length d5) := (blk_cell BC4.out 5).trans rfl; have hx4_6 : w4.cell? ⟨gb, 6, none⟩ = some (.slice A6 x.f6.length c6) := (blk_cell BK4.out 6).trans rfl; have hy4_6 : w4.cell? ⟨gc, 6, none⟩ = some (.slice B6 y.f6.length d6) := (blk_cell BC4.out 6).trans rfl; have hx4_7 : w4.cell? ⟨gb, 7, none⟩ = some (.slice A7 x.f7.length c7) := (blk_cell BK4.out 7).trans rfl; have hy4_7 : w4.cell? ⟨gc, 7, none⟩ = some (.slice B7 y.f7.length d7) := (blk_cell BC4.out 7).trans rfl) | (go_at_call 60; refine Calls.mono (h A7 c7 x.f7 B7 d7 y.f7 _ (Kd.C_below g7 HS4.out) (Kd.C_below j7 HS4.out) (fun z hz => kid109b hx z hz)) ?_; rintro e5 w5 ⟨rfl, hb⟩; have HS5 := Aside0.mk (below_step HS4.out hb); have BK5 := Aside0.mk (blk_below BK4.out hb); have BC5 := Aside0.mk (blk_below BC4.out hb); clear hb; rw [b6]; have hx5_0 : w5.cell? ⟨gb, 0, none⟩ = some (.int .i64 x.f0) := (blk_cell BK5.out 0).trans rfl; have hy5_0 : w5.cell? ⟨gc, 0, none⟩ = some (.int .i64 y.f0) := (blk_cell BC5.out 0).trans rfl; have hx5_2 : w5.cell? ⟨gb, 2, none⟩ = some (.string x.f2) := (blk_cell BK5.out 2).trans rfl; have hy5_2 : w5.cell? ⟨gc, 2, none⟩ = some (.string y.f2) := (blk_cell BC5.out 2).trans rfl; have hx5_3 : w5.cell? ⟨gb, 3, none⟩ = some (.string x.f3) := (blk_cell BK5.out 3).trans rfl; have hy5_3 : w5.cell? ⟨gc, 3, none⟩ = some (.string y.f3) := (blk_cell BC5.out 3).trans rfl; have hx5_4 : w5.cell? ⟨gb, 4, none⟩ = some (.int .i64 x.f4) := (blk_cell BK5.out 4).trans rfl; have hy5_4 : w5.cell? ⟨gc, 4, none⟩ = some (.int .i64 y.f4) := (blk_cell BC5.out 4).trans rfl; have hx5_5 : w5.cell? ⟨gb, 5, none⟩ = some (.slice A5 x.f5.length c5) := (blk_cell BK5.out 5).trans rfl; have hy5_5 : w5.cell? ⟨gc, 5, none⟩ = some (.slice B5 y.f5.length d5) := (blk_cell BC5.out 5).trans rfl; have hx5_6 : w5.cell? ⟨gb, 6, none⟩ = some (.slice A6 x.f6.length c6) := (blk_cell BK5.out 6).trans rfl; have hy5_6 : w5.cell? ⟨gc, 6, none⟩ = some (.slice B6 y.f6.length d6) := (blk_cell BC5.out 6).trans rfl; have hx5_7 : w5.cell? ⟨gb, 7, none⟩ = some (.slice A7 x.f7.length c7) := (blk_cell BK5.out 7).trans rfl; have hy5_7 : w5.cell? ⟨gc, 7, none⟩ = some (.slice B7 y.f7.length d7) := (blk_cell BC5.out 7).trans rfl))
                go_ret
                exact ⟨rfl, HS5.out⟩
            · replace b5 : (eqf (sameS m n) x.f6 y.f6) = false := by simpa using b5
              rw [show sameS m (n + 1) x y = false by simp [sameS, b0, b1, b2, b3, b4, b5]]
              go_enter Try.func81, Try.ntmps81
              go_upto_region 1 with (first | ((with_reducible refine gate_dst (N := 2) rfl ?_); refine box_event ?hg (N := 2) ?hd (cs := #[.int .i64 x.f0, .int .i64 x.f1, .string x.f2, .string x.f3, .int .i64 x.f4, .slice A5 x.f5.length c5, .slice A6 x.f6.length c6, .slice A7 x.f7.length c7, .int .u8 x.f8, .int .i64 x.f9]) (t := 109) ?hr ?_; (case hd => rfl); (case hg => rfl); (case hr => first | (go_simp; done) | (go_simp; rfl)); intro gb hgb w1 hbox hb; have BK1 := Aside0.mk hbox; have HS1 := Aside0.mk hb; have HGB := Aside0.mk (show w.heap.size ≤ gb by rw [hgb]; exact Nat.le_refl _); clear hb hbox hgb) | ((with_reducible refine gate_dst (N := 3) rfl ?_); refine box_event ?hg (N := 3) ?hd (cs := #[.int .i64 y.f0, .int .i64 y.f1, .string y.f2, .string y.f3, .int .i64 y.f4, .slice B5 y.f5.length d5, .slice B6 y.f6.length d6, .slice B7 y.f7.length d7, .int .u8 y.f8, .int .i64 y.f9]) (t := 109) ?hr ?_; (case hd => rfl); (case hg => rfl); (case hr => first | (go_simp; done) | (go_simp; rfl)); intro gc hgc w2 hbox hb; have BC2 := Aside0.mk hbox; have BK2 := Aside0.mk (blk_below BK1.out hb); have HS2 := Aside0.mk (below_step HS1.out hb); clear hb hbox hgc))
              (try simp only [Act.put, List.setIfInBounds_toArray, List.set_cons_zero, List.set_cons_succ])
              have hx2_0 : w2.cell? ⟨gb, 0, none⟩ = some (.int .i64 x.f0) := (blk_cell BK2.out 0).trans rfl
              have hy2_0 : w2.cell? ⟨gc, 0, none⟩ = some (.int .i64 y.f0) := (blk_cell BC2.out 0).trans rfl
              have hx2_2 : w2.cell? ⟨gb, 2, none⟩ = some (.string x.f2) := (blk_cell BK2.out 2).trans rfl
              have hy2_2 : w2.cell? ⟨gc, 2, none⟩ = some (.string y.f2) := (blk_cell BC2.out 2).trans rfl
              have hx2_3 : w2.cell? ⟨gb, 3, none⟩ = some (.string x.f3) := (blk_cell BK2.out 3).trans rfl
              have hy2_3 : w2.cell? ⟨gc, 3, none⟩ = some (.string y.f3) := (blk_cell BC2.out 3).trans rfl
              have hx2_4 : w2.cell? ⟨gb, 4, none⟩ = some (.int .i64 x.f4) := (blk_cell BK2.out 4).trans rfl
              have hy2_4 : w2.cell? ⟨gc, 4, none⟩ = some (.int .i64 y.f4) := (blk_cell BC2.out 4).trans rfl
              have hx2_5 : w2.cell? ⟨gb, 5, none⟩ = some (.slice A5 x.f5.length c5) := (blk_cell BK2.out 5).trans rfl
              have hy2_5 : w2.cell? ⟨gc, 5, none⟩ = some (.slice B5 y.f5.length d5) := (blk_cell BC2.out 5).trans rfl
              have hx2_6 : w2.cell? ⟨gb, 6, none⟩ = some (.slice A6 x.f6.length c6) := (blk_cell BK2.out 6).trans rfl
              have hy2_6 : w2.cell? ⟨gc, 6, none⟩ = some (.slice B6 y.f6.length d6) := (blk_cell BC2.out 6).trans rfl
              have hx2_7 : w2.cell? ⟨gb, 7, none⟩ = some (.slice A7 x.f7.length c7) := (blk_cell BK2.out 7).trans rfl
              have hy2_7 : w2.cell? ⟨gc, 7, none⟩ = some (.slice B7 y.f7.length d7) := (blk_cell BC2.out 7).trans rfl
              go_wp2_with (first | (go_at_call 82; refine Calls.mono (h0 A5 c5 x.f5 B5 d5 y.f5 _ (Kd.C_below g5 HS2.out) (Kd.C_below j5 HS2.out) (fun z hz => Nat.le_trans (kid109e hx z hz) (by omega))) ?_; rintro e3 w3 ⟨rfl, hb⟩; have HS3 := Aside0.mk (below_step HS2.out hb); have BK3 := Aside0.mk (blk_below BK2.out hb); have BC3 := Aside0.mk (blk_below BC2.out hb); clear hb; rw [b4]; have hx3_0 : w3.cell? ⟨gb, 0, none⟩ = some (.int .i64 x.f0) := (blk_cell BK3.out 0).trans rfl; have hy3_0 : w3.cell? ⟨gc, 0, none⟩ = some (.int .i64 y.f0) := (blk_cell BC3.out 0).trans rfl; have hx3_2 : w3.cell? ⟨gb, 2, none⟩ = some (.string x.f2) := (blk_cell BK3.out 2).trans rfl; have hy3_2 : w3.cell? ⟨gc, 2, none⟩ = some (.string y.f2) := (blk_cell BC3.out 2).trans rfl; have hx3_3 : w3.cell? ⟨gb, 3, none⟩ = some (.string x.f3) := (blk_cell BK3.out 3).trans rfl; have hy3_3 : w3.cell? ⟨gc, 3, none⟩ = some (.string y.f3) := (blk_cell BC3.out 3).trans rfl; have hx3_4 : w3.cell? ⟨gb, 4, none⟩ = some (.int .i64 x.f4) := (blk_cell BK3.out 4).trans rfl; have hy3_4 : w3.cell? ⟨gc, 4, none⟩ = some (.int .i64 y.f4) := (blk_cell BC3.out 4).trans rfl; have hx3_5 : w3.cell? ⟨gb, 5, none⟩ = some (.slice A5 x.f5.length c5) := (blk_cell BK3.out 5).trans rfl; have hy3_5 : w3.cell? ⟨gc, 5, none⟩ = some (.slice B5 y.f5.length d5) := (blk_cell BC3.out 5).trans rfl; have hx3_6 : w3.cell? ⟨gb, 6, none⟩ = some (.slice A6 x.f6.length c6) := (blk_cell BK3.out 6).trans rfl; have hy3_6 : w3.cell? ⟨gc, 6, none⟩ = some (.slice B6 y.f6.length d6) := (blk_cell BC3.out 6).trans rfl; have hx3_7 : w3.cell? ⟨gb, 7, none⟩ = some (.slice A7 x.f7.length c7) := (blk_cell BK3.out 7).trans rfl; have hy3_7 : w3.cell? ⟨gc, 7, none⟩ = some (.slice B7 y.f7.length d7) := (blk_cell BC3.out 7).trans rfl) | (go_at_call 60; refine Calls.mono (h A6 c6 x.f6 B6 d6 y.f6 _ (Kd.C_below g6 HS3.out) (Kd.C_below j6 HS3.out) (fun z hz => kid109a hx z hz)) ?_; rintro e4 w4 ⟨rfl, hb⟩; have HS4 := Aside0.mk (below_step HS3.out hb); have BK4 := Aside0.mk (blk_below BK3.out hb); have BC4 := Aside0.mk (blk_below BC3.out hb); clear hb; rw [b5]; have hx4_0 : w4.cell? ⟨gb, 0, none⟩ = some (.int .i64 x.f0) := (blk_cell BK4.out 0).trans rfl; have hy4_0 : w4.cell? ⟨gc, 0, none⟩ = some (.int .i64 y.f0) := (blk_cell BC4.out 0).trans rfl; have hx4_2 : w4.cell? ⟨gb, 2, none⟩ = some (.string x.f2) := (blk_cell BK4.out 2).trans rfl; have hy4_2 : w4.cell? ⟨gc, 2, none⟩ = some (.string y.f2) := (blk_cell BC4.out 2).trans rfl; have hx4_3 : w4.cell? ⟨gb, 3, none⟩ = some (.string x.f3) := (blk_cell BK4.out 3).trans rfl; have hy4_3 : w4.cell? ⟨gc, 3, none⟩ = some (.string y.f3) := (blk_cell BC4.out 3).trans rfl; have hx4_4 : w4.cell? ⟨gb, 4, none⟩ = some (.int .i64 x.f4) := (blk_cell BK4.out 4).trans rfl; have hy4_4 : w4.cell? ⟨gc, 4, none⟩ = some (.int .i64 y.f4) := (blk_cell BC4.out 4).trans rfl; have hx4_5 : w4.cell? ⟨gb, 5, none⟩ = some (.slice A5 x.f5.length c5) := (blk_cell BK4.out 5).trans rfl; have hy4_5 : w4.cell? ⟨gc, 5, none⟩ = some (.slice B5 y.f5.length d5) := (blk_cell BC4.out 5).trans rfl; have hx4_6 : w4.cell? ⟨gb, 6, none⟩ = some (.slice A6 x.f6.length c6) := (blk_cell BK4.out 6).trans rfl; have hy4_6 : w4.cell? ⟨gc, 6, none⟩ = some (.slice B6 y.f6.length d6) := (blk_cell BC4.out 6).trans rfl; have hx4_7 : w4.cell? ⟨gb, 7, none⟩ = some (.slice A7 x.f7.length c7) := (blk_cell BK4.out 7).trans rfl; have hy4_7 : w4.cell? ⟨gc, 7, none⟩ = some (.slice B7 y.f7.length d7) := (blk_cell BC4.out 7).trans rfl))
              go_ret
              exact ⟨rfl, HS4.out⟩
          · replace b4 : (eqf (sameE m) x.f5 y.f5) = false := by simpa using b4
            rw [show sameS m (n + 1) x y = false by simp [sameS, b0, b1, b2, b3, b4]]
            go_enter Try.func81, Try.ntmps81
            go_upto_region 1 with (first | ((with_reducible refine gate_dst (N := 2) rfl ?_); refine box_event ?hg (N := 2) ?hd (cs := #[.int .i64 x.f0, .int .i64 x.f1, .string x.f2, .string x.f3, .int .i64 x.f4, .slice A5 x.f5.length c5, .slice A6 x.f6.length c6, .slice A7 x.f7.length c7, .int .u8 x.f8, .int .i64 x.f9]) (t := 109) ?hr ?_; (case hd => rfl); (case hg => rfl); (case hr => first | (go_simp; done) | (go_simp; rfl)); intro gb hgb w1 hbox hb; have BK1 := Aside0.mk hbox; have HS1 := Aside0.mk hb; have HGB := Aside0.mk (show w.heap.size ≤ gb by rw [hgb]; exact Nat.le_refl _); clear hb hbox hgb) | ((with_reducible refine gate_dst (N := 3) rfl ?_); refine box_event ?hg (N := 3) ?hd (cs := #[.int .i64 y.f0, .int .i64 y.f1, .string y.f2, .string y.f3, .int .i64 y.f4, .slice B5 y.f5.length d5, .slice B6 y.f6.length d6, .slice B7 y.f7.length d7, .int .u8 y.f8, .int .i64 y.f9]) (t := 109) ?hr ?_; (case hd => rfl); (case hg => rfl); (case hr => first | (go_simp; done) | (go_simp; rfl)); intro gc hgc w2 hbox hb; have BC2 := Aside0.mk hbox; have BK2 := Aside0.mk (blk_below BK1.out hb); have HS2 := Aside0.mk (below_step HS1.out hb); clear hb hbox hgc))
            (try simp only [Act.put, List.setIfInBounds_toArray, List.set_cons_zero, List.set_cons_succ])
            have hx2_0 : w2.cell? ⟨gb, 0, none⟩ = some (.int .i64 x.f0) := (blk_cell BK2.out 0).trans rfl
            have hy2_0 : w2.cell? ⟨gc, 0, none⟩ = some (.int .i64 y.f0) := (blk_cell BC2.out 0).trans rfl
            have hx2_2 : w2.cell? ⟨gb, 2, none⟩ = some (.string x.f2) := (blk_cell BK2.out 2).trans rfl
            have hy2_2 : w2.cell? ⟨gc, 2, none⟩ = some (.string y.f2) := (blk_cell BC2.out 2).trans rfl
            have hx2_3 : w2.cell? ⟨gb, 3, none⟩ = some (.string x.f3) := (blk_cell BK2.out 3).trans rfl
            have hy2_3 : w2.cell? ⟨gc, 3, none⟩ = some (.string y.f3) := (blk_cell BC2.out 3).trans rfl
            have hx2_4 : w2.cell? ⟨gb, 4, none⟩ = some (.int .i64 x.f4) := (blk_cell BK2.out 4).trans rfl
            have hy2_4 : w2.cell? ⟨gc, 4, none⟩ = some (.int .i64 y.f4) := (blk_cell BC2.out 4).trans rfl
            have hx2_5 : w2.cell? ⟨gb, 5, none⟩ = some (.slice A5 x.f5.length c5) := (blk_cell BK2.out 5).trans rfl
            have hy2_5 : w2.cell? ⟨gc, 5, none⟩ = some (.slice B5 y.f5.length d5) := (blk_cell BC2.out 5).trans rfl
            have hx2_6 : w2.cell? ⟨gb, 6, none⟩ = some (.slice A6 x.f6.length c6) := (blk_cell BK2.out 6).trans rfl
            have hy2_6 : w2.cell? ⟨gc, 6, none⟩ = some (.slice B6 y.f6.length d6) := (blk_cell BC2.out 6).trans rfl
            have hx2_7 : w2.cell? ⟨gb, 7, none⟩ = some (.slice A7 x.f7.length c7) := (blk_cell BK2.out 7).trans rfl
            have hy2_7 : w2.cell? ⟨gc, 7, none⟩ = some (.slice B7 y.f7.length d7) := (blk_cell BC2.out 7).trans rfl
            go_wp2_with (first | (go_at_call 82; refine Calls.mono (h0 A5 c5 x.f5 B5 d5 y.f5 _ (Kd.C_below g5 HS2.out) (Kd.C_below j5 HS2.out) (fun z hz => Nat.le_trans (kid109e hx z hz) (by omega))) ?_; rintro e3 w3 ⟨rfl, hb⟩; have HS3 := Aside0.mk (below_step HS2.out hb); have BK3 := Aside0.mk (blk_below BK2.out hb); have BC3 := Aside0.mk (blk_below BC2.out hb); clear hb; rw [b4]; have hx3_0 : w3.cell? ⟨gb, 0, none⟩ = some (.int .i64 x.f0) := (blk_cell BK3.out 0).trans rfl; have hy3_0 : w3.cell? ⟨gc, 0, none⟩ = some (.int .i64 y.f0) := (blk_cell BC3.out 0).trans rfl; have hx3_2 : w3.cell? ⟨gb, 2, none⟩ = some (.string x.f2) := (blk_cell BK3.out 2).trans rfl; have hy3_2 : w3.cell? ⟨gc, 2, none⟩ = some (.string y.f2) := (blk_cell BC3.out 2).trans rfl; have hx3_3 : w3.cell? ⟨gb, 3, none⟩ = some (.string x.f3) := (blk_cell BK3.out 3).trans rfl; have hy3_3 : w3.cell? ⟨gc, 3, none⟩ = some (.string y.f3) := (blk_cell BC3.out 3).trans rfl; have hx3_4 : w3.cell? ⟨gb, 4, none⟩ = some (.int .i64 x.f4) := (blk_cell BK3.out 4).trans rfl; have hy3_4 : w3.cell? ⟨gc, 4, none⟩ = some (.int .i64 y.f4) := (blk_cell BC3.out 4).trans rfl; have hx3_5 : w3.cell? ⟨gb, 5, none⟩ = some (.slice A5 x.f5.length c5) := (blk_cell BK3.out 5).trans rfl; have hy3_5 : w3.cell? ⟨gc, 5, none⟩ = some (.slice B5 y.f5.length d5) := (blk_cell BC3.out 5).trans rfl; have hx3_6 : w3.cell? ⟨gb, 6, none⟩ = some (.slice A6 x.f6.length c6) := (blk_cell BK3.out 6).trans rfl; have hy3_6 : w3.cell? ⟨gc, 6, none⟩ = some (.slice B6 y.f6.length d6) := (blk_cell BC3.out 6).trans rfl; have hx3_7 : w3.cell? ⟨gb, 7, none⟩ = some (.slice A7 x.f7.length c7) := (blk_cell BK3.out 7).trans rfl; have hy3_7 : w3.cell? ⟨gc, 7, none⟩ = some (.slice B7 y.f7.length d7) := (blk_cell BC3.out 7).trans rfl))
            go_ret
            exact ⟨rfl, HS3.out⟩
        · replace b3 : (x.f4 == y.f4) = false := by simpa using b3
          rw [show sameS m (n + 1) x y = false by simp [sameS, b0, b1, b2, b3]]
          go_enter Try.func81, Try.ntmps81
          go_upto_region 1 with (first | ((with_reducible refine gate_dst (N := 2) rfl ?_); refine box_event ?hg (N := 2) ?hd (cs := #[.int .i64 x.f0, .int .i64 x.f1, .string x.f2, .string x.f3, .int .i64 x.f4, .slice A5 x.f5.length c5, .slice A6 x.f6.length c6, .slice A7 x.f7.length c7, .int .u8 x.f8, .int .i64 x.f9]) (t := 109) ?hr ?_; (case hd => rfl); (case hg => rfl); (case hr => first | (go_simp; done) | (go_simp; rfl)); intro gb hgb w1 hbox hb; have BK1 := Aside0.mk hbox; have HS1 := Aside0.mk hb; have HGB := Aside0.mk (show w.heap.size ≤ gb by rw [hgb]; exact Nat.le_refl _); clear hb hbox hgb) | ((with_reducible refine gate_dst (N := 3) rfl ?_); refine box_event ?hg (N := 3) ?hd (cs := #[.int .i64 y.f0, .int .i64 y.f1, .string y.f2, .string y.f3, .int .i64 y.f4, .slice B5 y.f5.length d5, .slice B6 y.f6.length d6, .slice B7 y.f7.length d7, .int .u8 y.f8, .int .i64 y.f9]) (t := 109) ?hr ?_; (case hd => rfl); (case hg => rfl); (case hr => first | (go_simp; done) | (go_simp; rfl)); intro gc hgc w2 hbox hb; have BC2 := Aside0.mk hbox; have BK2 := Aside0.mk (blk_below BK1.out hb); have HS2 := Aside0.mk (below_step HS1.out hb); clear hb hbox hgc))
          (try simp only [Act.put, List.setIfInBounds_toArray, List.set_cons_zero, List.set_cons_succ])
          have hx2_0 : w2.cell? ⟨gb, 0, none⟩ = some (.int .i64 x.f0) := (blk_cell BK2.out 0).trans rfl
          have hy2_0 : w2.cell? ⟨gc, 0, none⟩ = some (.int .i64 y.f0) := (blk_cell BC2.out 0).trans rfl
          have hx2_2 : w2.cell? ⟨gb, 2, none⟩ = some (.string x.f2) := (blk_cell BK2.out 2).trans rfl
          have hy2_2 : w2.cell? ⟨gc, 2, none⟩ = some (.string y.f2) := (blk_cell BC2.out 2).trans rfl
          have hx2_3 : w2.cell? ⟨gb, 3, none⟩ = some (.string x.f3) := (blk_cell BK2.out 3).trans rfl
          have hy2_3 : w2.cell? ⟨gc, 3, none⟩ = some (.string y.f3) := (blk_cell BC2.out 3).trans rfl
          have hx2_4 : w2.cell? ⟨gb, 4, none⟩ = some (.int .i64 x.f4) := (blk_cell BK2.out 4).trans rfl
          have hy2_4 : w2.cell? ⟨gc, 4, none⟩ = some (.int .i64 y.f4) := (blk_cell BC2.out 4).trans rfl
          have hx2_5 : w2.cell? ⟨gb, 5, none⟩ = some (.slice A5 x.f5.length c5) := (blk_cell BK2.out 5).trans rfl
          have hy2_5 : w2.cell? ⟨gc, 5, none⟩ = some (.slice B5 y.f5.length d5) := (blk_cell BC2.out 5).trans rfl
          have hx2_6 : w2.cell? ⟨gb, 6, none⟩ = some (.slice A6 x.f6.length c6) := (blk_cell BK2.out 6).trans rfl
          have hy2_6 : w2.cell? ⟨gc, 6, none⟩ = some (.slice B6 y.f6.length d6) := (blk_cell BC2.out 6).trans rfl
          have hx2_7 : w2.cell? ⟨gb, 7, none⟩ = some (.slice A7 x.f7.length c7) := (blk_cell BK2.out 7).trans rfl
          have hy2_7 : w2.cell? ⟨gc, 7, none⟩ = some (.slice B7 y.f7.length d7) := (blk_cell BC2.out 7).trans rfl
          go_wp2_with (fail)
          go_ret
          exact ⟨rfl, HS2.out⟩
      · replace b2 : (x.f3.toList == y.f3.toList) = false := by simpa using b2
        rw [show sameS m (n + 1) x y = false by simp [sameS, b0, b1, b2]]
        go_enter Try.func81, Try.ntmps81
        go_upto_region 1 with (first | ((with_reducible refine gate_dst (N := 2) rfl ?_); refine box_event ?hg (N := 2) ?hd (cs := #[.int .i64 x.f0, .int .i64 x.f1, .string x.f2, .string x.f3, .int .i64 x.f4, .slice A5 x.f5.length c5, .slice A6 x.f6.length c6, .slice A7 x.f7.length c7, .int .u8 x.f8, .int .i64 x.f9]) (t := 109) ?hr ?_; (case hd => rfl); (case hg => rfl); (case hr => first | (go_simp; done) | (go_simp; rfl)); intro gb hgb w1 hbox hb; have BK1 := Aside0.mk hbox; have HS1 := Aside0.mk hb; have HGB := Aside0.mk (show w.heap.size ≤ gb by rw [hgb]; exact Nat.le_refl _); clear hb hbox hgb) | ((with_reducible refine gate_dst (N := 3) rfl ?_); refine box_event ?hg (N := 3) ?hd (cs := #[.int .i64 y.f0, .int .i64 y.f1, .string y.f2, .string y.f3, .int .i64 y.f4, .slice B5 y.f5.length d5, .slice B6 y.f6.length d6, .slice B7 y.f7.length d7, .int .u8 y.f8, .int .i64 y.f9]) (t := 109) ?hr ?_; (case hd => rfl); (case hg => rfl); (case hr => first | (go_simp; done) | (go_simp; rfl)); intro gc hgc w2 hbox hb; have BC2 := Aside0.mk hbox; have BK2 := Aside0.mk (blk_below BK1.out hb); have HS2 := Aside0.mk (below_step HS1.out hb); clear hb hbox hgc))
        (try simp only [Act.put, List.setIfInBounds_toArray, List.set_cons_zero, List.set_cons_succ])
        have hx2_0 : w2.cell? ⟨gb, 0, none⟩ = some (.int .i64 x.f0) := (blk_cell BK2.out 0).trans rfl
        have hy2_0 : w2.cell? ⟨gc, 0, none⟩ = some (.int .i64 y.f0) := (blk_cell BC2.out 0).trans rfl
        have hx2_2 : w2.cell? ⟨gb, 2, none⟩ = some (.string x.f2) := (blk_cell BK2.out 2).trans rfl
        have hy2_2 : w2.cell? ⟨gc, 2, none⟩ = some (.string y.f2) := (blk_cell BC2.out 2).trans rfl
        have hx2_3 : w2.cell? ⟨gb, 3, none⟩ = some (.string x.f3) := (blk_cell BK2.out 3).trans rfl
        have hy2_3 : w2.cell? ⟨gc, 3, none⟩ = some (.string y.f3) := (blk_cell BC2.out 3).trans rfl
        have hx2_4 : w2.cell? ⟨gb, 4, none⟩ = some (.int .i64 x.f4) := (blk_cell BK2.out 4).trans rfl
        have hy2_4 : w2.cell? ⟨gc, 4, none⟩ = some (.int .i64 y.f4) := (blk_cell BC2.out 4).trans rfl
        have hx2_5 : w2.cell? ⟨gb, 5, none⟩ = some (.slice A5 x.f5.length c5) := (blk_cell BK2.out 5).trans rfl
        have hy2_5 : w2.cell? ⟨gc, 5, none⟩ = some (.slice B5 y.f5.length d5) := (blk_cell BC2.out 5).trans rfl
        have hx2_6 : w2.cell? ⟨gb, 6, none⟩ = some (.slice A6 x.f6.length c6) := (blk_cell BK2.out 6).trans rfl
        have hy2_6 : w2.cell? ⟨gc, 6, none⟩ = some (.slice B6 y.f6.length d6) := (blk_cell BC2.out 6).trans rfl
        have hx2_7 : w2.cell? ⟨gb, 7, none⟩ = some (.slice A7 x.f7.length c7) := (blk_cell BK2.out 7).trans rfl
        have hy2_7 : w2.cell? ⟨gc, 7, none⟩ = some (.slice B7 y.f7.length d7) := (blk_cell BC2.out 7).trans rfl
        go_wp2_with (fail)
        go_ret
        exact ⟨rfl, HS2.out⟩
    · replace b1 : (x.f2.toList == y.f2.toList) = false := by simpa using b1
      rw [show sameS m (n + 1) x y = false by simp [sameS, b0, b1]]
      go_enter Try.func81, Try.ntmps81
      go_upto_region 1 with (first | ((with_reducible refine gate_dst (N := 2) rfl ?_); refine box_event ?hg (N := 2) ?hd (cs := #[.int .i64 x.f0, .int .i64 x.f1, .string x.f2, .string x.f3, .int .i64 x.f4, .slice A5 x.f5.length c5, .slice A6 x.f6.length c6, .slice A7 x.f7.length c7, .int .u8 x.f8, .int .i64 x.f9]) (t := 109) ?hr ?_; (case hd => rfl); (case hg => rfl); (case hr => first | (go_simp; done) | (go_simp; rfl)); intro gb hgb w1 hbox hb; have BK1 := Aside0.mk hbox; have HS1 := Aside0.mk hb; have HGB := Aside0.mk (show w.heap.size ≤ gb by rw [hgb]; exact Nat.le_refl _); clear hb hbox hgb) | ((with_reducible refine gate_dst (N := 3) rfl ?_); refine box_event ?hg (N := 3) ?hd (cs := #[.int .i64 y.f0, .int .i64 y.f1, .string y.f2, .string y.f3, .int .i64 y.f4, .slice B5 y.f5.length d5, .slice B6 y.f6.length d6, .slice B7 y.f7.length d7, .int .u8 y.f8, .int .i64 y.f9]) (t := 109) ?hr ?_; (case hd => rfl); (case hg => rfl); (case hr => first | (go_simp; done) | (go_simp; rfl)); intro gc hgc w2 hbox hb; have BC2 := Aside0.mk hbox; have BK2 := Aside0.mk (blk_below BK1.out hb); have HS2 := Aside0.mk (below_step HS1.out hb); clear hb hbox hgc))
      (try simp only [Act.put, List.setIfInBounds_toArray, List.set_cons_zero, List.set_cons_succ])
      have hx2_0 : w2.cell? ⟨gb, 0, none⟩ = some (.int .i64 x.f0) := (blk_cell BK2.out 0).trans rfl
      have hy2_0 : w2.cell? ⟨gc, 0, none⟩ = some (.int .i64 y.f0) := (blk_cell BC2.out 0).trans rfl
      have hx2_2 : w2.cell? ⟨gb, 2, none⟩ = some (.string x.f2) := (blk_cell BK2.out 2).trans rfl
      have hy2_2 : w2.cell? ⟨gc, 2, none⟩ = some (.string y.f2) := (blk_cell BC2.out 2).trans rfl
      have hx2_3 : w2.cell? ⟨gb, 3, none⟩ = some (.string x.f3) := (blk_cell BK2.out 3).trans rfl
      have hy2_3 : w2.cell? ⟨gc, 3, none⟩ = some (.string y.f3) := (blk_cell BC2.out 3).trans rfl
      have hx2_4 : w2.cell? ⟨gb, 4, none⟩ = some (.int .i64 x.f4) := (blk_cell BK2.out 4).trans rfl
      have hy2_4 : w2.cell? ⟨gc, 4, none⟩ = some (.int .i64 y.f4) := (blk_cell BC2.out 4).trans rfl
      have hx2_5 : w2.cell? ⟨gb, 5, none⟩ = some (.slice A5 x.f5.length c5) := (blk_cell BK2.out 5).trans rfl
      have hy2_5 : w2.cell? ⟨gc, 5, none⟩ = some (.slice B5 y.f5.length d5) := (blk_cell BC2.out 5).trans rfl
      have hx2_6 : w2.cell? ⟨gb, 6, none⟩ = some (.slice A6 x.f6.length c6) := (blk_cell BK2.out 6).trans rfl
      have hy2_6 : w2.cell? ⟨gc, 6, none⟩ = some (.slice B6 y.f6.length d6) := (blk_cell BC2.out 6).trans rfl
      have hx2_7 : w2.cell? ⟨gb, 7, none⟩ = some (.slice A7 x.f7.length c7) := (blk_cell BK2.out 7).trans rfl
      have hy2_7 : w2.cell? ⟨gc, 7, none⟩ = some (.slice B7 y.f7.length d7) := (blk_cell BC2.out 7).trans rfl
      go_wp2_with (fail)
      go_ret
      exact ⟨rfl, HS2.out⟩
  · replace b0 : (x.f0 == y.f0) = false := by simpa using b0
    rw [show sameS m (n + 1) x y = false by simp [sameS, b0]]
    go_enter Try.func81, Try.ntmps81
    go_upto_region 1 with (first | ((with_reducible refine gate_dst (N := 2) rfl ?_); refine box_event ?hg (N := 2) ?hd (cs := #[.int .i64 x.f0, .int .i64 x.f1, .string x.f2, .string x.f3, .int .i64 x.f4, .slice A5 x.f5.length c5, .slice A6 x.f6.length c6, .slice A7 x.f7.length c7, .int .u8 x.f8, .int .i64 x.f9]) (t := 109) ?hr ?_; (case hd => rfl); (case hg => rfl); (case hr => first | (go_simp; done) | (go_simp; rfl)); intro gb hgb w1 hbox hb; have BK1 := Aside0.mk hbox; have HS1 := Aside0.mk hb; have HGB := Aside0.mk (show w.heap.size ≤ gb by rw [hgb]; exact Nat.le_refl _); clear hb hbox hgb) | ((with_reducible refine gate_dst (N := 3) rfl ?_); refine box_event ?hg (N := 3) ?hd (cs := #[.int .i64 y.f0, .int .i64 y.f1, .string y.f2, .string y.f3, .int .i64 y.f4, .slice B5 y.f5.length d5, .slice B6 y.f6.length d6, .slice B7 y.f7.length d7, .int .u8 y.f8, .int .i64 y.f9]) (t := 109) ?hr ?_; (case hd => rfl); (case hg => rfl); (case hr => first | (go_simp; done) | (go_simp; rfl)); intro gc hgc w2 hbox hb; have BC2 := Aside0.mk hbox; have BK2 := Aside0.mk (blk_below BK1.out hb); have HS2 := Aside0.mk (below_step HS1.out hb); clear hb hbox hgc))
    (try simp only [Act.put, List.setIfInBounds_toArray, List.set_cons_zero, List.set_cons_succ])
    have hx2_0 : w2.cell? ⟨gb, 0, none⟩ = some (.int .i64 x.f0) := (blk_cell BK2.out 0).trans rfl
    have hy2_0 : w2.cell? ⟨gc, 0, none⟩ = some (.int .i64 y.f0) := (blk_cell BC2.out 0).trans rfl
    have hx2_2 : w2.cell? ⟨gb, 2, none⟩ = some (.string x.f2) := (blk_cell BK2.out 2).trans rfl
    have hy2_2 : w2.cell? ⟨gc, 2, none⟩ = some (.string y.f2) := (blk_cell BC2.out 2).trans rfl
    have hx2_3 : w2.cell? ⟨gb, 3, none⟩ = some (.string x.f3) := (blk_cell BK2.out 3).trans rfl
    have hy2_3 : w2.cell? ⟨gc, 3, none⟩ = some (.string y.f3) := (blk_cell BC2.out 3).trans rfl
    have hx2_4 : w2.cell? ⟨gb, 4, none⟩ = some (.int .i64 x.f4) := (blk_cell BK2.out 4).trans rfl
    have hy2_4 : w2.cell? ⟨gc, 4, none⟩ = some (.int .i64 y.f4) := (blk_cell BC2.out 4).trans rfl
    have hx2_5 : w2.cell? ⟨gb, 5, none⟩ = some (.slice A5 x.f5.length c5) := (blk_cell BK2.out 5).trans rfl
    have hy2_5 : w2.cell? ⟨gc, 5, none⟩ = some (.slice B5 y.f5.length d5) := (blk_cell BC2.out 5).trans rfl
    have hx2_6 : w2.cell? ⟨gb, 6, none⟩ = some (.slice A6 x.f6.length c6) := (blk_cell BK2.out 6).trans rfl
    have hy2_6 : w2.cell? ⟨gc, 6, none⟩ = some (.slice B6 y.f6.length d6) := (blk_cell BC2.out 6).trans rfl
    have hx2_7 : w2.cell? ⟨gb, 7, none⟩ = some (.slice A7 x.f7.length c7) := (blk_cell BK2.out 7).trans rfl
    have hy2_7 : w2.cell? ⟨gc, 7, none⟩ = some (.slice B7 y.f7.length d7) := (blk_cell BC2.out 7).trans rfl
    go_wp2_with (fail)
    go_ret
    exact ⟨rfl, HS2.out⟩

set_option maxHeartbeats 8000000 in
set_option maxRecDepth 100000 in
theorem clo56_calls (h : SameL80 57) (x y : S76) (cs ds : List Value) (w : World) (hK : k76.K w x cs) (hK' : k76.K w y ds) :
    Calls Try.prog 56 #[.agg cs.toArray, .agg ds.toArray] w fun e w' => e = .returned (.bool (sameR x y)) ∧ Below w.heap.size w w' := by
  obtain ⟨A3, c3, rfl, l3, g3⟩ := k76_open hK
  obtain ⟨B3, d3, rfl, m3, j3⟩ := k76_open hK'
  clear hK hK'
  by_cases b0 : (x.f1.toList == y.f1.toList) = true
  · skip
    by_cases b1 : (x.f2.toList == y.f2.toList) = true
    · skip
      by_cases b2 : (eqf sameP x.f3 y.f3) = true
      · skip
        rw [show sameR x y = true by simp [sameR, b0, b1, b2]]
        go_enter Try.func56, Try.ntmps56
        go_upto_region 1 with (first | ((with_reducible refine gate_dst (N := 2) rfl ?_); refine box_event ?hg (N := 2) ?hd (cs := #[.int .i64 x.f0, .string x.f1, .string x.f2, .slice A3 x.f3.length c3]) (t := 76) ?hr ?_; (case hd => rfl); (case hg => rfl); (case hr => first | (go_simp; done) | (go_simp; rfl)); intro gb hgb w1 hbox hb; have BK1 := Aside0.mk hbox; have HS1 := Aside0.mk hb; have HGB := Aside0.mk (show w.heap.size ≤ gb by rw [hgb]; exact Nat.le_refl _); clear hb hbox hgb) | ((with_reducible refine gate_dst (N := 3) rfl ?_); refine box_event ?hg (N := 3) ?hd (cs := #[.int .i64 y.f0, .string y.f1, .string y.f2, .slice B3 y.f3.length d3]) (t := 76) ?hr ?_; (case hd => rfl); (case hg => rfl); (case hr => first | (go_simp; done) | (go_simp; rfl)); intro gc hgc w2 hbox hb; have BC2 := Aside0.mk hbox; have BK2 := Aside0.mk (blk_below BK1.out hb); have HS2 := Aside0.mk (below_step HS1.out hb); clear hb hbox hgc))
        (try simp only [Act.put, List.setIfInBounds_toArray, List.set_cons_zero, List.set_cons_succ])
        have hx2_1 : w2.cell? ⟨gb, 1, none⟩ = some (.string x.f1) := (blk_cell BK2.out 1).trans rfl
        have hy2_1 : w2.cell? ⟨gc, 1, none⟩ = some (.string y.f1) := (blk_cell BC2.out 1).trans rfl
        have hx2_2 : w2.cell? ⟨gb, 2, none⟩ = some (.string x.f2) := (blk_cell BK2.out 2).trans rfl
        have hy2_2 : w2.cell? ⟨gc, 2, none⟩ = some (.string y.f2) := (blk_cell BC2.out 2).trans rfl
        have hx2_3 : w2.cell? ⟨gb, 3, none⟩ = some (.slice A3 x.f3.length c3) := (blk_cell BK2.out 3).trans rfl
        have hy2_3 : w2.cell? ⟨gc, 3, none⟩ = some (.slice B3 y.f3.length d3) := (blk_cell BC2.out 3).trans rfl
        go_wp2_with (first | (go_at_call 57; refine Calls.mono (h A3 c3 x.f3 B3 d3 y.f3 _ (Kd.C_below g3 HS2.out) (Kd.C_below j3 HS2.out)) ?_; rintro e3 w3 ⟨rfl, hb⟩; have HS3 := Aside0.mk (below_step HS2.out hb); have BK3 := Aside0.mk (blk_below BK2.out hb); have BC3 := Aside0.mk (blk_below BC2.out hb); clear hb; rw [b2]; have hx3_1 : w3.cell? ⟨gb, 1, none⟩ = some (.string x.f1) := (blk_cell BK3.out 1).trans rfl; have hy3_1 : w3.cell? ⟨gc, 1, none⟩ = some (.string y.f1) := (blk_cell BC3.out 1).trans rfl; have hx3_2 : w3.cell? ⟨gb, 2, none⟩ = some (.string x.f2) := (blk_cell BK3.out 2).trans rfl; have hy3_2 : w3.cell? ⟨gc, 2, none⟩ = some (.string y.f2) := (blk_cell BC3.out 2).trans rfl; have hx3_3 : w3.cell? ⟨gb, 3, none⟩ = some (.slice A3 x.f3.length c3) := (blk_cell BK3.out 3).trans rfl; have hy3_3 : w3.cell? ⟨gc, 3, none⟩ = some (.slice B3 y.f3.length d3) := (blk_cell BC3.out 3).trans rfl))
        go_ret
        exact ⟨rfl, HS3.out⟩
      · replace b2 : (eqf sameP x.f3 y.f3) = false := by simpa using b2
        rw [show sameR x y = false by simp [sameR, b0, b1, b2]]
        go_enter Try.func56, Try.ntmps56
        go_upto_region 1 with (first | ((with_reducible refine gate_dst (N := 2) rfl ?_); refine box_event ?hg (N := 2) ?hd (cs := #[.int .i64 x.f0, .string x.f1, .string x.f2, .slice A3 x.f3.length c3]) (t := 76) ?hr ?_; (case hd => rfl); (case hg => rfl); (case hr => first | (go_simp; done) | (go_simp; rfl)); intro gb hgb w1 hbox hb; have BK1 := Aside0.mk hbox; have HS1 := Aside0.mk hb; have HGB := Aside0.mk (show w.heap.size ≤ gb by rw [hgb]; exact Nat.le_refl _); clear hb hbox hgb) | ((with_reducible refine gate_dst (N := 3) rfl ?_); refine box_event ?hg (N := 3) ?hd (cs := #[.int .i64 y.f0, .string y.f1, .string y.f2, .slice B3 y.f3.length d3]) (t := 76) ?hr ?_; (case hd => rfl); (case hg => rfl); (case hr => first | (go_simp; done) | (go_simp; rfl)); intro gc hgc w2 hbox hb; have BC2 := Aside0.mk hbox; have BK2 := Aside0.mk (blk_below BK1.out hb); have HS2 := Aside0.mk (below_step HS1.out hb); clear hb hbox hgc))
        (try simp only [Act.put, List.setIfInBounds_toArray, List.set_cons_zero, List.set_cons_succ])
        have hx2_1 : w2.cell? ⟨gb, 1, none⟩ = some (.string x.f1) := (blk_cell BK2.out 1).trans rfl
        have hy2_1 : w2.cell? ⟨gc, 1, none⟩ = some (.string y.f1) := (blk_cell BC2.out 1).trans rfl
        have hx2_2 : w2.cell? ⟨gb, 2, none⟩ = some (.string x.f2) := (blk_cell BK2.out 2).trans rfl
        have hy2_2 : w2.cell? ⟨gc, 2, none⟩ = some (.string y.f2) := (blk_cell BC2.out 2).trans rfl
        have hx2_3 : w2.cell? ⟨gb, 3, none⟩ = some (.slice A3 x.f3.length c3) := (blk_cell BK2.out 3).trans rfl
        have hy2_3 : w2.cell? ⟨gc, 3, none⟩ = some (.slice B3 y.f3.length d3) := (blk_cell BC2.out 3).trans rfl
        go_wp2_with (first | (go_at_call 57; refine Calls.mono (h A3 c3 x.f3 B3 d3 y.f3 _ (Kd.C_below g3 HS2.out) (Kd.C_below j3 HS2.out)) ?_; rintro e3 w3 ⟨rfl, hb⟩; have HS3 := Aside0.mk (below_step HS2.out hb); have BK3 := Aside0.mk (blk_below BK2.out hb); have BC3 := Aside0.mk (blk_below BC2.out hb); clear hb; rw [b2]; have hx3_1 : w3.cell? ⟨gb, 1, none⟩ = some (.string x.f1) := (blk_cell BK3.out 1).trans rfl; have hy3_1 : w3.cell? ⟨gc, 1, none⟩ = some (.string y.f1) := (blk_cell BC3.out 1).trans rfl; have hx3_2 : w3.cell? ⟨gb, 2, none⟩ = some (.string x.f2) := (blk_cell BK3.out 2).trans rfl; have hy3_2 : w3.cell? ⟨gc, 2, none⟩ = some (.string y.f2) := (blk_cell BC3.out 2).trans rfl; have hx3_3 : w3.cell? ⟨gb, 3, none⟩ = some (.slice A3 x.f3.length c3) := (blk_cell BK3.out 3).trans rfl; have hy3_3 : w3.cell? ⟨gc, 3, none⟩ = some (.slice B3 y.f3.length d3) := (blk_cell BC3.out 3).trans rfl))
        go_ret
        exact ⟨rfl, HS3.out⟩
    · replace b1 : (x.f2.toList == y.f2.toList) = false := by simpa using b1
      rw [show sameR x y = false by simp [sameR, b0, b1]]
      go_enter Try.func56, Try.ntmps56
      go_upto_region 1 with (first | ((with_reducible refine gate_dst (N := 2) rfl ?_); refine box_event ?hg (N := 2) ?hd (cs := #[.int .i64 x.f0, .string x.f1, .string x.f2, .slice A3 x.f3.length c3]) (t := 76) ?hr ?_; (case hd => rfl); (case hg => rfl); (case hr => first | (go_simp; done) | (go_simp; rfl)); intro gb hgb w1 hbox hb; have BK1 := Aside0.mk hbox; have HS1 := Aside0.mk hb; have HGB := Aside0.mk (show w.heap.size ≤ gb by rw [hgb]; exact Nat.le_refl _); clear hb hbox hgb) | ((with_reducible refine gate_dst (N := 3) rfl ?_); refine box_event ?hg (N := 3) ?hd (cs := #[.int .i64 y.f0, .string y.f1, .string y.f2, .slice B3 y.f3.length d3]) (t := 76) ?hr ?_; (case hd => rfl); (case hg => rfl); (case hr => first | (go_simp; done) | (go_simp; rfl)); intro gc hgc w2 hbox hb; have BC2 := Aside0.mk hbox; have BK2 := Aside0.mk (blk_below BK1.out hb); have HS2 := Aside0.mk (below_step HS1.out hb); clear hb hbox hgc))
      (try simp only [Act.put, List.setIfInBounds_toArray, List.set_cons_zero, List.set_cons_succ])
      have hx2_1 : w2.cell? ⟨gb, 1, none⟩ = some (.string x.f1) := (blk_cell BK2.out 1).trans rfl
      have hy2_1 : w2.cell? ⟨gc, 1, none⟩ = some (.string y.f1) := (blk_cell BC2.out 1).trans rfl
      have hx2_2 : w2.cell? ⟨gb, 2, none⟩ = some (.string x.f2) := (blk_cell BK2.out 2).trans rfl
      have hy2_2 : w2.cell? ⟨gc, 2, none⟩ = some (.string y.f2) := (blk_cell BC2.out 2).trans rfl
      have hx2_3 : w2.cell? ⟨gb, 3, none⟩ = some (.slice A3 x.f3.length c3) := (blk_cell BK2.out 3).trans rfl
      have hy2_3 : w2.cell? ⟨gc, 3, none⟩ = some (.slice B3 y.f3.length d3) := (blk_cell BC2.out 3).trans rfl
      go_wp2_with (fail)
      go_ret
      exact ⟨rfl, HS2.out⟩
  · replace b0 : (x.f1.toList == y.f1.toList) = false := by simpa using b0
    rw [show sameR x y = false by simp [sameR, b0]]
    go_enter Try.func56, Try.ntmps56
    go_upto_region 1 with (first | ((with_reducible refine gate_dst (N := 2) rfl ?_); refine box_event ?hg (N := 2) ?hd (cs := #[.int .i64 x.f0, .string x.f1, .string x.f2, .slice A3 x.f3.length c3]) (t := 76) ?hr ?_; (case hd => rfl); (case hg => rfl); (case hr => first | (go_simp; done) | (go_simp; rfl)); intro gb hgb w1 hbox hb; have BK1 := Aside0.mk hbox; have HS1 := Aside0.mk hb; have HGB := Aside0.mk (show w.heap.size ≤ gb by rw [hgb]; exact Nat.le_refl _); clear hb hbox hgb) | ((with_reducible refine gate_dst (N := 3) rfl ?_); refine box_event ?hg (N := 3) ?hd (cs := #[.int .i64 y.f0, .string y.f1, .string y.f2, .slice B3 y.f3.length d3]) (t := 76) ?hr ?_; (case hd => rfl); (case hg => rfl); (case hr => first | (go_simp; done) | (go_simp; rfl)); intro gc hgc w2 hbox hb; have BC2 := Aside0.mk hbox; have BK2 := Aside0.mk (blk_below BK1.out hb); have HS2 := Aside0.mk (below_step HS1.out hb); clear hb hbox hgc))
    (try simp only [Act.put, List.setIfInBounds_toArray, List.set_cons_zero, List.set_cons_succ])
    have hx2_1 : w2.cell? ⟨gb, 1, none⟩ = some (.string x.f1) := (blk_cell BK2.out 1).trans rfl
    have hy2_1 : w2.cell? ⟨gc, 1, none⟩ = some (.string y.f1) := (blk_cell BC2.out 1).trans rfl
    have hx2_2 : w2.cell? ⟨gb, 2, none⟩ = some (.string x.f2) := (blk_cell BK2.out 2).trans rfl
    have hy2_2 : w2.cell? ⟨gc, 2, none⟩ = some (.string y.f2) := (blk_cell BC2.out 2).trans rfl
    have hx2_3 : w2.cell? ⟨gb, 3, none⟩ = some (.slice A3 x.f3.length c3) := (blk_cell BK2.out 3).trans rfl
    have hy2_3 : w2.cell? ⟨gc, 3, none⟩ = some (.slice B3 y.f3.length d3) := (blk_cell BC2.out 3).trans rfl
    go_wp2_with (fail)
    go_ret
    exact ⟨rfl, HS2.out⟩

set_option maxHeartbeats 8000000 in
set_option maxRecDepth 100000 in
theorem clo59_calls (m n : Nat) (h0 : SameL80 57) (h : SameL109 60 m n) (x y : S83) (cs ds : List Value) (w : World) (hK : k83.K w x cs) (hK' : k83.K w y ds) (hx : ∀ z ∈ x.f4, SizeOf.sizeOf z ≤ n) :
    Calls Try.prog 59 #[.agg cs.toArray, .agg ds.toArray] w fun e w' => e = .returned (.bool (sameF m n x y)) ∧ Below w.heap.size w w' := by
  obtain ⟨A3, c3, A4, c4, rfl, l3, g3, l4, g4⟩ := k83_open hK
  obtain ⟨B3, d3, B4, d4, rfl, m3, j3, m4, j4⟩ := k83_open hK'
  clear hK hK'
  by_cases b0 : (x.f1.toList == y.f1.toList) = true
  · skip
    by_cases b1 : (x.f2.toList == y.f2.toList) = true
    · skip
      by_cases b2 : (eqf sameP x.f3 y.f3) = true
      · skip
        by_cases b3 : (eqf (sameS m n) x.f4 y.f4) = true
        · skip
          rw [show sameF m n x y = true by simp [sameF, b0, b1, b2, b3]]
          go_enter Try.func59, Try.ntmps59
          go_upto_region 1 with (first | ((with_reducible refine gate_dst (N := 2) rfl ?_); refine box_event ?hg (N := 2) ?hd (cs := #[.int .i64 x.f0, .string x.f1, .string x.f2, .slice A3 x.f3.length c3, .slice A4 x.f4.length c4, .int .u8 x.f5, .int .i64 x.f6]) (t := 83) ?hr ?_; (case hd => rfl); (case hg => rfl); (case hr => first | (go_simp; done) | (go_simp; rfl)); intro gb hgb w1 hbox hb; have BK1 := Aside0.mk hbox; have HS1 := Aside0.mk hb; have HGB := Aside0.mk (show w.heap.size ≤ gb by rw [hgb]; exact Nat.le_refl _); clear hb hbox hgb) | ((with_reducible refine gate_dst (N := 3) rfl ?_); refine box_event ?hg (N := 3) ?hd (cs := #[.int .i64 y.f0, .string y.f1, .string y.f2, .slice B3 y.f3.length d3, .slice B4 y.f4.length d4, .int .u8 y.f5, .int .i64 y.f6]) (t := 83) ?hr ?_; (case hd => rfl); (case hg => rfl); (case hr => first | (go_simp; done) | (go_simp; rfl)); intro gc hgc w2 hbox hb; have BC2 := Aside0.mk hbox; have BK2 := Aside0.mk (blk_below BK1.out hb); have HS2 := Aside0.mk (below_step HS1.out hb); clear hb hbox hgc))
          (try simp only [Act.put, List.setIfInBounds_toArray, List.set_cons_zero, List.set_cons_succ])
          have hx2_1 : w2.cell? ⟨gb, 1, none⟩ = some (.string x.f1) := (blk_cell BK2.out 1).trans rfl
          have hy2_1 : w2.cell? ⟨gc, 1, none⟩ = some (.string y.f1) := (blk_cell BC2.out 1).trans rfl
          have hx2_2 : w2.cell? ⟨gb, 2, none⟩ = some (.string x.f2) := (blk_cell BK2.out 2).trans rfl
          have hy2_2 : w2.cell? ⟨gc, 2, none⟩ = some (.string y.f2) := (blk_cell BC2.out 2).trans rfl
          have hx2_3 : w2.cell? ⟨gb, 3, none⟩ = some (.slice A3 x.f3.length c3) := (blk_cell BK2.out 3).trans rfl
          have hy2_3 : w2.cell? ⟨gc, 3, none⟩ = some (.slice B3 y.f3.length d3) := (blk_cell BC2.out 3).trans rfl
          have hx2_4 : w2.cell? ⟨gb, 4, none⟩ = some (.slice A4 x.f4.length c4) := (blk_cell BK2.out 4).trans rfl
          have hy2_4 : w2.cell? ⟨gc, 4, none⟩ = some (.slice B4 y.f4.length d4) := (blk_cell BC2.out 4).trans rfl
          go_wp2_with (first | (go_at_call 57; refine Calls.mono (h0 A3 c3 x.f3 B3 d3 y.f3 _ (Kd.C_below g3 HS2.out) (Kd.C_below j3 HS2.out)) ?_; rintro e3 w3 ⟨rfl, hb⟩; have HS3 := Aside0.mk (below_step HS2.out hb); have BK3 := Aside0.mk (blk_below BK2.out hb); have BC3 := Aside0.mk (blk_below BC2.out hb); clear hb; rw [b2]; have hx3_1 : w3.cell? ⟨gb, 1, none⟩ = some (.string x.f1) := (blk_cell BK3.out 1).trans rfl; have hy3_1 : w3.cell? ⟨gc, 1, none⟩ = some (.string y.f1) := (blk_cell BC3.out 1).trans rfl; have hx3_2 : w3.cell? ⟨gb, 2, none⟩ = some (.string x.f2) := (blk_cell BK3.out 2).trans rfl; have hy3_2 : w3.cell? ⟨gc, 2, none⟩ = some (.string y.f2) := (blk_cell BC3.out 2).trans rfl; have hx3_3 : w3.cell? ⟨gb, 3, none⟩ = some (.slice A3 x.f3.length c3) := (blk_cell BK3.out 3).trans rfl; have hy3_3 : w3.cell? ⟨gc, 3, none⟩ = some (.slice B3 y.f3.length d3) := (blk_cell BC3.out 3).trans rfl; have hx3_4 : w3.cell? ⟨gb, 4, none⟩ = some (.slice A4 x.f4.length c4) := (blk_cell BK3.out 4).trans rfl; have hy3_4 : w3.cell? ⟨gc, 4, none⟩ = some (.slice B4 y.f4.length d4) := (blk_cell BC3.out 4).trans rfl) | (go_at_call 60; refine Calls.mono (h A4 c4 x.f4 B4 d4 y.f4 _ (Kd.C_below g4 HS3.out) (Kd.C_below j4 HS3.out) hx) ?_; rintro e4 w4 ⟨rfl, hb⟩; have HS4 := Aside0.mk (below_step HS3.out hb); have BK4 := Aside0.mk (blk_below BK3.out hb); have BC4 := Aside0.mk (blk_below BC3.out hb); clear hb; rw [b3]; have hx4_1 : w4.cell? ⟨gb, 1, none⟩ = some (.string x.f1) := (blk_cell BK4.out 1).trans rfl; have hy4_1 : w4.cell? ⟨gc, 1, none⟩ = some (.string y.f1) := (blk_cell BC4.out 1).trans rfl; have hx4_2 : w4.cell? ⟨gb, 2, none⟩ = some (.string x.f2) := (blk_cell BK4.out 2).trans rfl; have hy4_2 : w4.cell? ⟨gc, 2, none⟩ = some (.string y.f2) := (blk_cell BC4.out 2).trans rfl; have hx4_3 : w4.cell? ⟨gb, 3, none⟩ = some (.slice A3 x.f3.length c3) := (blk_cell BK4.out 3).trans rfl; have hy4_3 : w4.cell? ⟨gc, 3, none⟩ = some (.slice B3 y.f3.length d3) := (blk_cell BC4.out 3).trans rfl; have hx4_4 : w4.cell? ⟨gb, 4, none⟩ = some (.slice A4 x.f4.length c4) := (blk_cell BK4.out 4).trans rfl; have hy4_4 : w4.cell? ⟨gc, 4, none⟩ = some (.slice B4 y.f4.length d4) := (blk_cell BC4.out 4).trans rfl))
          go_ret
          exact ⟨rfl, HS4.out⟩
        · replace b3 : (eqf (sameS m n) x.f4 y.f4) = false := by simpa using b3
          rw [show sameF m n x y = false by simp [sameF, b0, b1, b2, b3]]
          go_enter Try.func59, Try.ntmps59
          go_upto_region 1 with (first | ((with_reducible refine gate_dst (N := 2) rfl ?_); refine box_event ?hg (N := 2) ?hd (cs := #[.int .i64 x.f0, .string x.f1, .string x.f2, .slice A3 x.f3.length c3, .slice A4 x.f4.length c4, .int .u8 x.f5, .int .i64 x.f6]) (t := 83) ?hr ?_; (case hd => rfl); (case hg => rfl); (case hr => first | (go_simp; done) | (go_simp; rfl)); intro gb hgb w1 hbox hb; have BK1 := Aside0.mk hbox; have HS1 := Aside0.mk hb; have HGB := Aside0.mk (show w.heap.size ≤ gb by rw [hgb]; exact Nat.le_refl _); clear hb hbox hgb) | ((with_reducible refine gate_dst (N := 3) rfl ?_); refine box_event ?hg (N := 3) ?hd (cs := #[.int .i64 y.f0, .string y.f1, .string y.f2, .slice B3 y.f3.length d3, .slice B4 y.f4.length d4, .int .u8 y.f5, .int .i64 y.f6]) (t := 83) ?hr ?_; (case hd => rfl); (case hg => rfl); (case hr => first | (go_simp; done) | (go_simp; rfl)); intro gc hgc w2 hbox hb; have BC2 := Aside0.mk hbox; have BK2 := Aside0.mk (blk_below BK1.out hb); have HS2 := Aside0.mk (below_step HS1.out hb); clear hb hbox hgc))
          (try simp only [Act.put, List.setIfInBounds_toArray, List.set_cons_zero, List.set_cons_succ])
          have hx2_1 : w2.cell? ⟨gb, 1, none⟩ = some (.string x.f1) := (blk_cell BK2.out 1).trans rfl
          have hy2_1 : w2.cell? ⟨gc, 1, none⟩ = some (.string y.f1) := (blk_cell BC2.out 1).trans rfl
          have hx2_2 : w2.cell? ⟨gb, 2, none⟩ = some (.string x.f2) := (blk_cell BK2.out 2).trans rfl
          have hy2_2 : w2.cell? ⟨gc, 2, none⟩ = some (.string y.f2) := (blk_cell BC2.out 2).trans rfl
          have hx2_3 : w2.cell? ⟨gb, 3, none⟩ = some (.slice A3 x.f3.length c3) := (blk_cell BK2.out 3).trans rfl
          have hy2_3 : w2.cell? ⟨gc, 3, none⟩ = some (.slice B3 y.f3.length d3) := (blk_cell BC2.out 3).trans rfl
          have hx2_4 : w2.cell? ⟨gb, 4, none⟩ = some (.slice A4 x.f4.length c4) := (blk_cell BK2.out 4).trans rfl
          have hy2_4 : w2.cell? ⟨gc, 4, none⟩ = some (.slice B4 y.f4.length d4) := (blk_cell BC2.out 4).trans rfl
          go_wp2_with (first | (go_at_call 57; refine Calls.mono (h0 A3 c3 x.f3 B3 d3 y.f3 _ (Kd.C_below g3 HS2.out) (Kd.C_below j3 HS2.out)) ?_; rintro e3 w3 ⟨rfl, hb⟩; have HS3 := Aside0.mk (below_step HS2.out hb); have BK3 := Aside0.mk (blk_below BK2.out hb); have BC3 := Aside0.mk (blk_below BC2.out hb); clear hb; rw [b2]; have hx3_1 : w3.cell? ⟨gb, 1, none⟩ = some (.string x.f1) := (blk_cell BK3.out 1).trans rfl; have hy3_1 : w3.cell? ⟨gc, 1, none⟩ = some (.string y.f1) := (blk_cell BC3.out 1).trans rfl; have hx3_2 : w3.cell? ⟨gb, 2, none⟩ = some (.string x.f2) := (blk_cell BK3.out 2).trans rfl; have hy3_2 : w3.cell? ⟨gc, 2, none⟩ = some (.string y.f2) := (blk_cell BC3.out 2).trans rfl; have hx3_3 : w3.cell? ⟨gb, 3, none⟩ = some (.slice A3 x.f3.length c3) := (blk_cell BK3.out 3).trans rfl; have hy3_3 : w3.cell? ⟨gc, 3, none⟩ = some (.slice B3 y.f3.length d3) := (blk_cell BC3.out 3).trans rfl; have hx3_4 : w3.cell? ⟨gb, 4, none⟩ = some (.slice A4 x.f4.length c4) := (blk_cell BK3.out 4).trans rfl; have hy3_4 : w3.cell? ⟨gc, 4, none⟩ = some (.slice B4 y.f4.length d4) := (blk_cell BC3.out 4).trans rfl) | (go_at_call 60; refine Calls.mono (h A4 c4 x.f4 B4 d4 y.f4 _ (Kd.C_below g4 HS3.out) (Kd.C_below j4 HS3.out) hx) ?_; rintro e4 w4 ⟨rfl, hb⟩; have HS4 := Aside0.mk (below_step HS3.out hb); have BK4 := Aside0.mk (blk_below BK3.out hb); have BC4 := Aside0.mk (blk_below BC3.out hb); clear hb; rw [b3]; have hx4_1 : w4.cell? ⟨gb, 1, none⟩ = some (.string x.f1) := (blk_cell BK4.out 1).trans rfl; have hy4_1 : w4.cell? ⟨gc, 1, none⟩ = some (.string y.f1) := (blk_cell BC4.out 1).trans rfl; have hx4_2 : w4.cell? ⟨gb, 2, none⟩ = some (.string x.f2) := (blk_cell BK4.out 2).trans rfl; have hy4_2 : w4.cell? ⟨gc, 2, none⟩ = some (.string y.f2) := (blk_cell BC4.out 2).trans rfl; have hx4_3 : w4.cell? ⟨gb, 3, none⟩ = some (.slice A3 x.f3.length c3) := (blk_cell BK4.out 3).trans rfl; have hy4_3 : w4.cell? ⟨gc, 3, none⟩ = some (.slice B3 y.f3.length d3) := (blk_cell BC4.out 3).trans rfl; have hx4_4 : w4.cell? ⟨gb, 4, none⟩ = some (.slice A4 x.f4.length c4) := (blk_cell BK4.out 4).trans rfl; have hy4_4 : w4.cell? ⟨gc, 4, none⟩ = some (.slice B4 y.f4.length d4) := (blk_cell BC4.out 4).trans rfl))
          go_ret
          exact ⟨rfl, HS4.out⟩
      · replace b2 : (eqf sameP x.f3 y.f3) = false := by simpa using b2
        rw [show sameF m n x y = false by simp [sameF, b0, b1, b2]]
        go_enter Try.func59, Try.ntmps59
        go_upto_region 1 with (first | ((with_reducible refine gate_dst (N := 2) rfl ?_); refine box_event ?hg (N := 2) ?hd (cs := #[.int .i64 x.f0, .string x.f1, .string x.f2, .slice A3 x.f3.length c3, .slice A4 x.f4.length c4, .int .u8 x.f5, .int .i64 x.f6]) (t := 83) ?hr ?_; (case hd => rfl); (case hg => rfl); (case hr => first | (go_simp; done) | (go_simp; rfl)); intro gb hgb w1 hbox hb; have BK1 := Aside0.mk hbox; have HS1 := Aside0.mk hb; have HGB := Aside0.mk (show w.heap.size ≤ gb by rw [hgb]; exact Nat.le_refl _); clear hb hbox hgb) | ((with_reducible refine gate_dst (N := 3) rfl ?_); refine box_event ?hg (N := 3) ?hd (cs := #[.int .i64 y.f0, .string y.f1, .string y.f2, .slice B3 y.f3.length d3, .slice B4 y.f4.length d4, .int .u8 y.f5, .int .i64 y.f6]) (t := 83) ?hr ?_; (case hd => rfl); (case hg => rfl); (case hr => first | (go_simp; done) | (go_simp; rfl)); intro gc hgc w2 hbox hb; have BC2 := Aside0.mk hbox; have BK2 := Aside0.mk (blk_below BK1.out hb); have HS2 := Aside0.mk (below_step HS1.out hb); clear hb hbox hgc))
        (try simp only [Act.put, List.setIfInBounds_toArray, List.set_cons_zero, List.set_cons_succ])
        have hx2_1 : w2.cell? ⟨gb, 1, none⟩ = some (.string x.f1) := (blk_cell BK2.out 1).trans rfl
        have hy2_1 : w2.cell? ⟨gc, 1, none⟩ = some (.string y.f1) := (blk_cell BC2.out 1).trans rfl
        have hx2_2 : w2.cell? ⟨gb, 2, none⟩ = some (.string x.f2) := (blk_cell BK2.out 2).trans rfl
        have hy2_2 : w2.cell? ⟨gc, 2, none⟩ = some (.string y.f2) := (blk_cell BC2.out 2).trans rfl
        have hx2_3 : w2.cell? ⟨gb, 3, none⟩ = some (.slice A3 x.f3.length c3) := (blk_cell BK2.out 3).trans rfl
        have hy2_3 : w2.cell? ⟨gc, 3, none⟩ = some (.slice B3 y.f3.length d3) := (blk_cell BC2.out 3).trans rfl
        have hx2_4 : w2.cell? ⟨gb, 4, none⟩ = some (.slice A4 x.f4.length c4) := (blk_cell BK2.out 4).trans rfl
        have hy2_4 : w2.cell? ⟨gc, 4, none⟩ = some (.slice B4 y.f4.length d4) := (blk_cell BC2.out 4).trans rfl
        go_wp2_with (first | (go_at_call 57; refine Calls.mono (h0 A3 c3 x.f3 B3 d3 y.f3 _ (Kd.C_below g3 HS2.out) (Kd.C_below j3 HS2.out)) ?_; rintro e3 w3 ⟨rfl, hb⟩; have HS3 := Aside0.mk (below_step HS2.out hb); have BK3 := Aside0.mk (blk_below BK2.out hb); have BC3 := Aside0.mk (blk_below BC2.out hb); clear hb; rw [b2]; have hx3_1 : w3.cell? ⟨gb, 1, none⟩ = some (.string x.f1) := (blk_cell BK3.out 1).trans rfl; have hy3_1 : w3.cell? ⟨gc, 1, none⟩ = some (.string y.f1) := (blk_cell BC3.out 1).trans rfl; have hx3_2 : w3.cell? ⟨gb, 2, none⟩ = some (.string x.f2) := (blk_cell BK3.out 2).trans rfl; have hy3_2 : w3.cell? ⟨gc, 2, none⟩ = some (.string y.f2) := (blk_cell BC3.out 2).trans rfl; have hx3_3 : w3.cell? ⟨gb, 3, none⟩ = some (.slice A3 x.f3.length c3) := (blk_cell BK3.out 3).trans rfl; have hy3_3 : w3.cell? ⟨gc, 3, none⟩ = some (.slice B3 y.f3.length d3) := (blk_cell BC3.out 3).trans rfl; have hx3_4 : w3.cell? ⟨gb, 4, none⟩ = some (.slice A4 x.f4.length c4) := (blk_cell BK3.out 4).trans rfl; have hy3_4 : w3.cell? ⟨gc, 4, none⟩ = some (.slice B4 y.f4.length d4) := (blk_cell BC3.out 4).trans rfl))
        go_ret
        exact ⟨rfl, HS3.out⟩
    · replace b1 : (x.f2.toList == y.f2.toList) = false := by simpa using b1
      rw [show sameF m n x y = false by simp [sameF, b0, b1]]
      go_enter Try.func59, Try.ntmps59
      go_upto_region 1 with (first | ((with_reducible refine gate_dst (N := 2) rfl ?_); refine box_event ?hg (N := 2) ?hd (cs := #[.int .i64 x.f0, .string x.f1, .string x.f2, .slice A3 x.f3.length c3, .slice A4 x.f4.length c4, .int .u8 x.f5, .int .i64 x.f6]) (t := 83) ?hr ?_; (case hd => rfl); (case hg => rfl); (case hr => first | (go_simp; done) | (go_simp; rfl)); intro gb hgb w1 hbox hb; have BK1 := Aside0.mk hbox; have HS1 := Aside0.mk hb; have HGB := Aside0.mk (show w.heap.size ≤ gb by rw [hgb]; exact Nat.le_refl _); clear hb hbox hgb) | ((with_reducible refine gate_dst (N := 3) rfl ?_); refine box_event ?hg (N := 3) ?hd (cs := #[.int .i64 y.f0, .string y.f1, .string y.f2, .slice B3 y.f3.length d3, .slice B4 y.f4.length d4, .int .u8 y.f5, .int .i64 y.f6]) (t := 83) ?hr ?_; (case hd => rfl); (case hg => rfl); (case hr => first | (go_simp; done) | (go_simp; rfl)); intro gc hgc w2 hbox hb; have BC2 := Aside0.mk hbox; have BK2 := Aside0.mk (blk_below BK1.out hb); have HS2 := Aside0.mk (below_step HS1.out hb); clear hb hbox hgc))
      (try simp only [Act.put, List.setIfInBounds_toArray, List.set_cons_zero, List.set_cons_succ])
      have hx2_1 : w2.cell? ⟨gb, 1, none⟩ = some (.string x.f1) := (blk_cell BK2.out 1).trans rfl
      have hy2_1 : w2.cell? ⟨gc, 1, none⟩ = some (.string y.f1) := (blk_cell BC2.out 1).trans rfl
      have hx2_2 : w2.cell? ⟨gb, 2, none⟩ = some (.string x.f2) := (blk_cell BK2.out 2).trans rfl
      have hy2_2 : w2.cell? ⟨gc, 2, none⟩ = some (.string y.f2) := (blk_cell BC2.out 2).trans rfl
      have hx2_3 : w2.cell? ⟨gb, 3, none⟩ = some (.slice A3 x.f3.length c3) := (blk_cell BK2.out 3).trans rfl
      have hy2_3 : w2.cell? ⟨gc, 3, none⟩ = some (.slice B3 y.f3.length d3) := (blk_cell BC2.out 3).trans rfl
      have hx2_4 : w2.cell? ⟨gb, 4, none⟩ = some (.slice A4 x.f4.length c4) := (blk_cell BK2.out 4).trans rfl
      have hy2_4 : w2.cell? ⟨gc, 4, none⟩ = some (.slice B4 y.f4.length d4) := (blk_cell BC2.out 4).trans rfl
      go_wp2_with (fail)
      go_ret
      exact ⟨rfl, HS2.out⟩
  · replace b0 : (x.f1.toList == y.f1.toList) = false := by simpa using b0
    rw [show sameF m n x y = false by simp [sameF, b0]]
    go_enter Try.func59, Try.ntmps59
    go_upto_region 1 with (first | ((with_reducible refine gate_dst (N := 2) rfl ?_); refine box_event ?hg (N := 2) ?hd (cs := #[.int .i64 x.f0, .string x.f1, .string x.f2, .slice A3 x.f3.length c3, .slice A4 x.f4.length c4, .int .u8 x.f5, .int .i64 x.f6]) (t := 83) ?hr ?_; (case hd => rfl); (case hg => rfl); (case hr => first | (go_simp; done) | (go_simp; rfl)); intro gb hgb w1 hbox hb; have BK1 := Aside0.mk hbox; have HS1 := Aside0.mk hb; have HGB := Aside0.mk (show w.heap.size ≤ gb by rw [hgb]; exact Nat.le_refl _); clear hb hbox hgb) | ((with_reducible refine gate_dst (N := 3) rfl ?_); refine box_event ?hg (N := 3) ?hd (cs := #[.int .i64 y.f0, .string y.f1, .string y.f2, .slice B3 y.f3.length d3, .slice B4 y.f4.length d4, .int .u8 y.f5, .int .i64 y.f6]) (t := 83) ?hr ?_; (case hd => rfl); (case hg => rfl); (case hr => first | (go_simp; done) | (go_simp; rfl)); intro gc hgc w2 hbox hb; have BC2 := Aside0.mk hbox; have BK2 := Aside0.mk (blk_below BK1.out hb); have HS2 := Aside0.mk (below_step HS1.out hb); clear hb hbox hgc))
    (try simp only [Act.put, List.setIfInBounds_toArray, List.set_cons_zero, List.set_cons_succ])
    have hx2_1 : w2.cell? ⟨gb, 1, none⟩ = some (.string x.f1) := (blk_cell BK2.out 1).trans rfl
    have hy2_1 : w2.cell? ⟨gc, 1, none⟩ = some (.string y.f1) := (blk_cell BC2.out 1).trans rfl
    have hx2_2 : w2.cell? ⟨gb, 2, none⟩ = some (.string x.f2) := (blk_cell BK2.out 2).trans rfl
    have hy2_2 : w2.cell? ⟨gc, 2, none⟩ = some (.string y.f2) := (blk_cell BC2.out 2).trans rfl
    have hx2_3 : w2.cell? ⟨gb, 3, none⟩ = some (.slice A3 x.f3.length c3) := (blk_cell BK2.out 3).trans rfl
    have hy2_3 : w2.cell? ⟨gc, 3, none⟩ = some (.slice B3 y.f3.length d3) := (blk_cell BC2.out 3).trans rfl
    have hx2_4 : w2.cell? ⟨gb, 4, none⟩ = some (.slice A4 x.f4.length c4) := (blk_cell BK2.out 4).trans rfl
    have hy2_4 : w2.cell? ⟨gc, 4, none⟩ = some (.slice B4 y.f4.length d4) := (blk_cell BC2.out 4).trans rfl
    go_wp2_with (fail)
    go_ret
    exact ⟨rfl, HS2.out⟩
end Go.Proofs.Ytblgcodkbapccaa.SamesWalk
