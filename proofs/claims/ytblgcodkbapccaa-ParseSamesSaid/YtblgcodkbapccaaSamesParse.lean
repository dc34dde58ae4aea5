/- PROVED: what parse.Same, sameStmts, sameExprs, sameParams answer. Conditions: the sizes bound the depth. -/
import Derived.Test.YtblgcodkbapccaaSamesEqf
import Derived.Test.YtblgcodkbapccaaSamesClo
namespace Go.Proofs.Ytblgcodkbapccaa.SamesWalk
open Go.RowKit Go.Proofs.Ytblgcodkbapccaa.PParseSames Go.Proofs.YtblgcodkbapccaaW.PrintWords Go.Proofs.YtblgcodkbapccaaW.PrintLast Go.Proofs.YtblgcodkbapccaaW.PrintMore
attribute [local go_sem] max2_int min2_int max_two min_two max_three min_three max_four min_four
set_option linter.unusedVariables false
set_option linter.unusedSimpArgs false

set_option maxHeartbeats 8000000 in
set_option maxRecDepth 100000 in
theorem same57 : SameL80 57 := by
  intro A c es A' c' fs W h h'
  have hcon := eqf78_calls sameP A c es A' c' fs W h h' (fun x _ y cs ds W K K' => clo79_calls x y cs ds W K K')
  have HC := Aside0.mk hcon
  clear hcon h h'
  go_enter Try.func57, Try.ntmps57
  go_wp2_with (go_at_call 78; refine Calls.mono HC.out ?_; rintro e w' ⟨rfl, hb⟩)
  go_ret
  exact ⟨rfl, hb⟩
set_option maxHeartbeats 8000000 in
set_option maxRecDepth 100000 in
theorem wrap82 (n : Nat) (hcl : ∀ (x y : S111) (cs ds : List Value) (W : World), SizeOf.sizeOf x ≤ n → k111.K W x cs → k111.K W y ds → Calls Try.prog 88 #[.agg cs.toArray, .agg ds.toArray] W fun e W' => e = .returned (.bool (sameE n x y)) ∧ Below W.heap.size W W') : SameL111 82 n := by
  intro A c es A' c' fs W h h' hs
  have hcon := eqf87_calls (sameE n) A c es A' c' fs W h h' (fun x hx y cs ds W K K' => hcl x y cs ds W (hs x hx) K K')
  have HC := Aside0.mk hcon
  clear hcon h h' hs hcl
  go_enter Try.func82, Try.ntmps82
  go_wp2_with (go_at_call 87; refine Calls.mono HC.out ?_; rintro e w' ⟨rfl, hb⟩)
  go_ret
  exact ⟨rfl, hb⟩
theorem same82 : ∀ n, SameL111 82 n
  | 0 => wrap82 0 (fun x _ _ _ _ hx _ _ => absurd hx (pos111 x))
  | n + 1 => wrap82 (n + 1) (fun x y cs ds W hx K K' => clo88_calls n (same82 n) x y cs ds W K K' hx)
set_option maxHeartbeats 8000000 in
set_option maxRecDepth 100000 in
theorem wrap60 (m n : Nat) (hcl : ∀ (x y : S109) (cs ds : List Value) (W : World), SizeOf.sizeOf x ≤ n → k109.K W x cs → k109.K W y ds → Calls Try.prog 81 #[.agg cs.toArray, .agg ds.toArray] W fun e W' => e = .returned (.bool (sameS m n x y)) ∧ Below W.heap.size W W') : SameL109 60 m n := by
  intro A c es A' c' fs W h h' hs
  have hcon := eqf80_calls (sameS m n) A c es A' c' fs W h h' (fun x hx y cs ds W K K' => hcl x y cs ds W (hs x hx) K K')
  have HC := Aside0.mk hcon
  clear hcon h h' hs hcl
  go_enter Try.func60, Try.ntmps60
  go_wp2_with (go_at_call 80; refine Calls.mono HC.out ?_; rintro e w' ⟨rfl, hb⟩)
  go_ret
  exact ⟨rfl, hb⟩
theorem same60 (m : Nat) : ∀ n, n ≤ m → SameL109 60 m n
  | 0, _ => wrap60 m 0 (fun x _ _ _ _ hx _ _ => absurd hx (pos109 x))
  | n + 1, h => wrap60 m (n + 1) (fun x y cs ds W hx K K' => clo81_calls m n (same82 m) (same60 m n (by omega)) h x y cs ds W K K' hx)
set_option maxHeartbeats 8000000 in
set_option maxRecDepth 100000 in
theorem same29 (N : Nat) (A0 : Option Addr) (c0 : Nat) (rs : List S76) (A1 : Option Addr) (c1 : Nat) (fs : List S83) (B0 : Option Addr) (d0 : Nat) (rs' : List S76) (B1 : Option Addr) (d1 : Nat) (fs' : List S83) (w : World)
    (hr : Kd.C k76 w A0 rs.length rs) (hf : Kd.C k83 w A1 fs.length fs) (hr' : Kd.C k76 w B0 rs'.length rs') (hf' : Kd.C k83 w B1 fs'.length fs') (hN : ∀ x ∈ fs, ∀ z ∈ x.f4, SizeOf.sizeOf z ≤ N) :
    Calls Try.prog 29 #[.agg #[.slice A0 rs.length c0, .slice A1 fs.length c1], .agg #[.slice B0 rs'.length d0, .slice B1 fs'.length d1]] w fun e w' => e = .returned (.bool (eqf sameR rs rs' && eqf (sameF N N) fs fs')) ∧ Below w.heap.size w w' := by
  have H55 := Aside0.mk (show ∀ W, Below w.heap.size w W → _ from fun W hb => eqf55_calls sameR A0 c0 rs B0 d0 rs' W (Kd.C_below hr hb) (Kd.C_below hr' hb) (fun x _ y cs ds W K K' => clo56_calls same57 x y cs ds W K K'))
  have H58 := Aside0.mk (show ∀ W, Below w.heap.size w W → _ from fun W hb => eqf58_calls (sameF N N) A1 c1 fs B1 d1 fs' W (Kd.C_below hf hb) (Kd.C_below hf' hb) (fun x hx y cs ds W K K' => clo59_calls N N same57 (same60 N N (Nat.le_refl _)) x y cs ds W K K' (hN x hx)))
  clear hr hf hr' hf' hN
  obtain ⟨b, hb⟩ : ∃ b, eqf sameR rs rs' = b := ⟨_, rfl⟩
  rw [hb] at H55 ⊢
  clear hb
  cases b with
  | false =>
    rw [Bool.false_and]
    go_enter Try.func29, Try.ntmps29
    go_upto_region 1 with (first | ((with_reducible refine gate_dst (N := 2) rfl ?_); refine box_event ?hg (N := 2) ?hd (cs := #[.slice A0 rs.length c0, .slice A1 fs.length c1]) (t := 38) ?hr ?_; (case hd => rfl); (case hg => rfl); (case hr => first | (go_simp; done) | (go_simp; rfl)); intro gb hgb w1 hbox hb; have BK1 := Aside0.mk hbox; have HS1 := Aside0.mk hb; clear hb hbox hgb) | ((with_reducible refine gate_dst (N := 3) rfl ?_); refine box_event ?hg (N := 3) ?hd (cs := #[.slice B0 rs'.length d0, .slice B1 fs'.length d1]) (t := 38) ?hr ?_; (case hd => rfl); (case hg => rfl); (case hr => first | (go_simp; done) | (go_simp; rfl)); intro gc hgc w2 hbox hb; have BC2 := Aside0.mk hbox; have BK2 := Aside0.mk (blk_below BK1.out hb); have HS2 := Aside0.mk (below_step HS1.out hb); clear hb hbox hgc))
    (try simp only [Act.put, List.setIfInBounds_toArray, List.set_cons_zero, List.set_cons_succ])
    have hx0 : w2.cell? ⟨gb, 0, none⟩ = some (.slice A0 rs.length c0) := (blk_cell BK2.out 0).trans rfl
    have hy0 : w2.cell? ⟨gc, 0, none⟩ = some (.slice B0 rs'.length d0) := (blk_cell BC2.out 0).trans rfl
    go_wp2_with (go_at_call 55; refine Calls.mono (H55.out _ HS2.out) ?_; rintro e3 w3 ⟨rfl, hb⟩; have HS3 := Aside0.mk (below_step HS2.out hb); clear hb)
    go_ret
    exact ⟨rfl, HS3.out⟩
  | true =>
    rw [Bool.true_and]
    go_enter Try.func29, Try.ntmps29
    go_upto_region 1 with (first | ((with_reducible refine gate_dst (N := 2) rfl ?_); refine box_event ?hg (N := 2) ?hd (cs := #[.slice A0 rs.length c0, .slice A1 fs.length c1]) (t := 38) ?hr ?_; (case hd => rfl); (case hg => rfl); (case hr => first | (go_simp; done) | (go_simp; rfl)); intro gb hgb w1 hbox hb; have BK1 := Aside0.mk hbox; have HS1 := Aside0.mk hb; clear hb hbox hgb) | ((with_reducible refine gate_dst (N := 3) rfl ?_); refine box_event ?hg (N := 3) ?hd (cs := #[.slice B0 rs'.length d0, .slice B1 fs'.length d1]) (t := 38) ?hr ?_; (case hd => rfl); (case hg => rfl); (case hr => first | (go_simp; done) | (go_simp; rfl)); intro gc hgc w2 hbox hb; have BC2 := Aside0.mk hbox; have BK2 := Aside0.mk (blk_below BK1.out hb); have HS2 := Aside0.mk (below_step HS1.out hb); clear hb hbox hgc))
    (try simp only [Act.put, List.setIfInBounds_toArray, List.set_cons_zero, List.set_cons_succ])
    have hx0 : w2.cell? ⟨gb, 0, none⟩ = some (.slice A0 rs.length c0) := (blk_cell BK2.out 0).trans rfl
    have hy0 : w2.cell? ⟨gc, 0, none⟩ = some (.slice B0 rs'.length d0) := (blk_cell BC2.out 0).trans rfl
    go_wp2_with (first | (go_at_call 55; refine Calls.mono (H55.out _ HS2.out) ?_; rintro e3 w3 ⟨rfl, hb⟩; have HS3 := Aside0.mk (below_step HS2.out hb); have BK3 := Aside0.mk (blk_below BK2.out hb); have BC3 := Aside0.mk (blk_below BC2.out hb); clear hb; have hx1 : w3.cell? ⟨gb, 1, none⟩ = some (.slice A1 fs.length c1) := (blk_cell BK3.out 1).trans rfl; have hy1 : w3.cell? ⟨gc, 1, none⟩ = some (.slice B1 fs'.length d1) := (blk_cell BC3.out 1).trans rfl) | (go_at_call 58; refine Calls.mono (H58.out _ HS3.out) ?_; rintro e4 w4 ⟨rfl, hb⟩; have HS4 := Aside0.mk (below_step HS3.out hb); clear hb))
    go_ret
    exact ⟨rfl, HS4.out⟩
end Go.Proofs.Ytblgcodkbapccaa.SamesWalk
