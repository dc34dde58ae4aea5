/- PROVED: provisoplain.SameExpr and SameStmts tell that the same data in two places is the same. Conditions: none beyond the rows' own. -/
import Derived.Test.YtblgcodkbapccaaSamesParams
namespace Go.Proofs.Ytblgcodkbapccaa.SamesWalk
open Go.RowKit Go.Proofs.Ytblgcodkbapccaa.PParseSames Go.Proofs.YtblgcodkbapccaaW.PrintWords Go.Proofs.YtblgcodkbapccaaW.PrintLast Go.Proofs.YtblgcodkbapccaaW.PrintMore
attribute [local go_sem] max2_int min2_int max_two min_two max_three min_three max_four min_four
set_option linter.unusedVariables false
set_option linter.unusedSimpArgs false

def EqL111 (n : Nat) : Prop := ∀ (x : S111) (cs ds : List Value) (W : World), k111.K W x cs → k111.K W x ds → SizeOf.sizeOf x ≤ n →
  Calls Try.prog 84 #[.agg cs.toArray, .agg ds.toArray] W fun e W' => e = .returned (.bool true) ∧ Below W.heap.size W W'
def EqL109 (n : Nat) : Prop := ∀ (A : Option Addr) (c : Nat) (A' : Option Addr) (c' : Nat) (es : List S109) (W : World), Kd.C k109 W A es.length es → Kd.C k109 W A' es.length es → (∀ x ∈ es, SizeOf.sizeOf x ≤ n) →
  Calls Try.prog 64 #[.slice A es.length c, .slice A' es.length c'] W fun e W' => e = .returned (.bool true) ∧ Below W.heap.size W W'

set_option maxHeartbeats 8000000 in
set_option maxRecDepth 100000 in
theorem wrap84 (n : Nat) (ih : EqL111 n) : EqL111 (n + 1) := by
  intro x cs ds w hK hK' hs
  have HSZ := Aside0.mk (fun z hz => kid111 hs z hz)
  have HIH := Aside0.mk ih
  have HONE := Aside0.mk (And.intro (k111.K_len hK) (k111.K_len hK'))
  obtain ⟨A4, c4, hcs, l4, g4⟩ := k111_open hK
  obtain ⟨B4, d4, hds, m4, j4⟩ := k111_open hK'
  subst hcs hds
  clear hK hK' hs ih l4 m4
  have HC := Aside0.mk g4
  have HD := Aside0.mk j4
  have hlen : x.f4.length ≤ 9223372036854775807 := g4.2.1
  clear g4 j4
  go_enter Try.func84, Try.ntmps84
  go_upto_region 1 with (first | ((with_reducible refine gate_dst (N := 2) rfl ?_); refine box_event ?hg (N := 2) ?hd (cs := #[.int .i64 x.f0, .int .i64 x.f1, .string x.f2, .int .i64 x.f3, .slice A4 x.f4.length c4, .int .u8 x.f5, .int .i64 x.f6, .int .i64 x.f7]) (t := 111) ?hr ?_; (case hd => rfl); (case hg => rfl); (case hr => first | (go_simp; done) | (go_simp; rfl)); intro gp hgp w1 hbox hb; have BP1 := Aside0.mk hbox; have HS1 := Aside0.mk hb; clear hb hbox hgp) | ((with_reducible refine gate_dst (N := 3) rfl ?_); refine box_event ?hg (N := 3) ?hd (cs := #[.int .i64 x.f0, .int .i64 x.f1, .string x.f2, .int .i64 x.f3, .slice B4 x.f4.length d4, .int .u8 x.f5, .int .i64 x.f6, .int .i64 x.f7]) (t := 111) ?hr ?_; (case hd => rfl); (case hg => rfl); (case hr => first | (go_simp; done) | (go_simp; rfl)); intro gq hgq w2 hbox hb; have BQ2 := Aside0.mk hbox; have BP2 := Aside0.mk (blk_below BP1.out hb); have HB2 := Aside0.mk (below_step HS1.out hb); clear hb hbox hgq))
  (try simp only [Act.put, List.setIfInBounds_toArray, List.set_cons_zero, List.set_cons_succ])
  have hx_0 : w2.cell? ⟨gp, 0, none⟩ = some (.int .i64 x.f0) := (blk_cell BP2.out 0).trans rfl
  have hy_0 : w2.cell? ⟨gq, 0, none⟩ = some (.int .i64 x.f0) := (blk_cell BQ2.out 0).trans rfl
  have hx_1 : w2.cell? ⟨gp, 1, none⟩ = some (.int .i64 x.f1) := (blk_cell BP2.out 1).trans rfl
  have hy_1 : w2.cell? ⟨gq, 1, none⟩ = some (.int .i64 x.f1) := (blk_cell BQ2.out 1).trans rfl
  have hx_2 : w2.cell? ⟨gp, 2, none⟩ = some (.string x.f2) := (blk_cell BP2.out 2).trans rfl
  have hy_2 : w2.cell? ⟨gq, 2, none⟩ = some (.string x.f2) := (blk_cell BQ2.out 2).trans rfl
  have hx_3 : w2.cell? ⟨gp, 3, none⟩ = some (.int .i64 x.f3) := (blk_cell BP2.out 3).trans rfl
  have hy_3 : w2.cell? ⟨gq, 3, none⟩ = some (.int .i64 x.f3) := (blk_cell BQ2.out 3).trans rfl
  have hx_4 : w2.cell? ⟨gp, 4, none⟩ = some (.slice A4 x.f4.length c4) := (blk_cell BP2.out 4).trans rfl
  have hy_4 : w2.cell? ⟨gq, 4, none⟩ = some (.slice B4 x.f4.length d4) := (blk_cell BQ2.out 4).trans rfl
  have hx_5 : w2.cell? ⟨gp, 5, none⟩ = some (.int .u8 x.f5) := (blk_cell BP2.out 5).trans rfl
  have hy_5 : w2.cell? ⟨gq, 5, none⟩ = some (.int .u8 x.f5) := (blk_cell BQ2.out 5).trans rfl
  have hx_6 : w2.cell? ⟨gp, 6, none⟩ = some (.int .i64 x.f6) := (blk_cell BP2.out 6).trans rfl
  have hy_6 : w2.cell? ⟨gq, 6, none⟩ = some (.int .i64 x.f6) := (blk_cell BQ2.out 6).trans rfl
  have hx_7 : w2.cell? ⟨gp, 7, none⟩ = some (.int .i64 x.f7) := (blk_cell BP2.out 7).trans rfl
  have hy_7 : w2.cell? ⟨gq, 7, none⟩ = some (.int .i64 x.f7) := (blk_cell BQ2.out 7).trans rfl
  have n0 : (x.f0 != x.f0) = false := by simp
  have e0 : (x.f0 == x.f0) = true := by simp
  have n1 : (x.f1 != x.f1) = false := by simp
  have e1 : (x.f1 == x.f1) = true := by simp
  have n2 : (x.f2.toList != x.f2.toList) = false := by simp
  have e2 : (x.f2.toList == x.f2.toList) = true := by simp
  have n3 : (x.f3 != x.f3) = false := by simp
  have e3 : (x.f3 == x.f3) = true := by simp
  have n4 : ((x.f4.length : Int) != (x.f4.length : Int)) = false := by simp
  have e4 : ((x.f4.length : Int) == (x.f4.length : Int)) = true := by simp
  have n5 : (x.f5 != x.f5) = false := by simp
  have e5 : (x.f5 == x.f5) = true := by simp
  have n6 : (x.f6 != x.f6) = false := by simp
  have e6 : (x.f6 == x.f6) = true := by simp
  have n7 : (x.f7 != x.f7) = false := by simp
  have e7 : (x.f7 == x.f7) = true := by simp
  go_wp2
  clear hx_0 hy_0 n0 e0 hx_1 hy_1 n1 e1 hx_2 hy_2 n2 e2 hx_3 hy_3 n3 e3 hx_4 hy_4 n4 e4 hx_5 hy_5 n5 e5 hx_6 hy_6 n6 e6 hx_7 hy_7 n7 e7
  go_loopw [65] (fun i wr => ∃ k : Nat, k ≤ x.f4.length ∧ i = .int .i64 k ∧ Aside0 (wr.heap[gp]? = some (.cells #[.int .i64 x.f0, .int .i64 x.f1, .string x.f2, .int .i64 x.f3, .slice A4 x.f4.length c4, .int .u8 x.f5, .int .i64 x.f6, .int .i64 x.f7] 111 (0, 0))) ∧ Aside0 (wr.heap[gq]? = some (.cells #[.int .i64 x.f0, .int .i64 x.f1, .string x.f2, .int .i64 x.f3, .slice B4 x.f4.length d4, .int .u8 x.f5, .int .i64 x.f6, .int .i64 x.f7] 111 (0, 0))) ∧ Aside0 (Below w.heap.size w wr)) (fun i _ => x.f4.length - (intOf i).toNat)
  case atStart => exact ⟨0, Nat.zero_le _, rfl, BP2, BQ2, HB2⟩
  case round =>
    clear BP2 BQ2 HB2 BP1 HS1
    obtain ⟨k, hk, rfl, BP, BQ, HB⟩ := hrel
    have hp4 : wr.cell? ⟨gp, 4, none⟩ = some (.slice A4 x.f4.length c4) := (blk_cell BP.out 4).trans rfl
    have hq4 : wr.cell? ⟨gq, 4, none⟩ = some (.slice B4 x.f4.length d4) := (blk_cell BQ.out 4).trans rfl
    by_cases hlt : k < x.f4.length
    · obtain ⟨ad, cs, e, hK, hx⟩ := elem_at (Kd.C_below HC.out HB.out) k hlt
      obtain ⟨ad', ds, e', hK', hx'⟩ := elem_at (Kd.C_below HD.out HB.out) k hlt
      subst e e'
      have HP := Aside0.mk hp4
      have HQ := Aside0.mk hq4
      have HN := Aside0.mk (show cs.length = 8 ∧ ds.length = 8 from ⟨k111.K_len hK, k111.K_len hK'⟩)
      have HX := Aside0.mk (show ∀ j v, cs[j]? = some v → wr.cell? ((ad.add (k * 8)).add j) = some v from hx)
      have HX' := Aside0.mk (show ∀ j v, ds[j]? = some v → wr.cell? ((ad'.add (k * 8)).add j) = some v from hx')
      have HKK := Aside0.mk (And.intro hK hK')
      have HCALL := Aside0.mk (fun (W : World) (h : k111.K W x.f4[k] cs) (h2 : k111.K W x.f4[k] ds) => HIH.out x.f4[k] cs ds W h h2 (HSZ.out _ (List.getElem_mem hlt)))
      clear hx hx' hK hK'
      go_wp2_with fail
      refine start_ (n := 12) (S := fun w' => Below wr.heap.size wr w') (ds := []) #[false, false, false, false, false, false, false, false, false, false, false, false] (by kernel_rfl) rfl rfl (below_drew1 (Below.refl wr.heap.size wr)) (fun hHeld => ?_)
      generalize wr.drew = w15 at hHeld ⊢
      refine pure_ (i := 0) (N := some 68) (v := ?_) (a' := ?_) #[true, false, false, false, false, false, false, false, false, false, false, false] rfl rfl (by kernel_rfl) (fun _ _ _ h => h) (Or.inl ⟨by rfl, ?_⟩) ?_ ?_
      rotate_left
      · intro w'
        go_simp
        with_reducible rfl
      rotate_left
      · simp only [Act.put, List.setIfInBounds_toArray, List.set_cons_zero, List.set_cons_succ, i64_w, i32_w]
        rfl
      refine take_ (i := 1) (N := some 69) (v := ?_) (a' := ?_) #[true, true, false, false, false, false, false, false, false, false, false, false] rfl rfl (by kernel_rfl) (fun _ _ _ h => h) (Or.inl ⟨by rfl, ?_⟩) hHeld ?_ ?_
      rotate_left
      · intro w' hS
        have hrd := pw_cell_below hS HP.out
        go_simp
        with_reducible rfl
      rotate_left
      · simp only [Act.put, List.setIfInBounds_toArray, List.set_cons_zero, List.set_cons_succ, i64_w, i32_w]
        rfl
      refine pure_ (i := 2) (N := some 70) (v := ?_) (a' := ?_) #[true, true, true, false, false, false, false, false, false, false, false, false] rfl rfl (by kernel_rfl) (fun _ _ _ h => h) (Or.inl ⟨by rfl, ?_⟩) ?_ ?_
      rotate_left
      · intro w'
        go_simp
        with_reducible rfl
      rotate_left
      · simp only [Act.put, List.setIfInBounds_toArray, List.set_cons_zero, List.set_cons_succ, i64_w, i32_w]
        rfl
      refine pure_ (i := 3) (N := some 71) (v := ?_) (a' := ?_) #[true, true, true, true, false, false, false, false, false, false, false, false] rfl rfl (by kernel_rfl) (fun _ _ _ h => h) (Or.inl ⟨by rfl, ?_⟩) ?_ ?_
      rotate_left
      · intro w'
        go_simp
        with_reducible rfl
      rotate_left
      · simp only [Act.put, List.setIfInBounds_toArray, List.set_cons_zero, List.set_cons_succ, i64_w, i32_w]
        rfl
      refine take_ (i := 4) (N := some 72) (v := .agg cs.toArray) (a' := ?_) #[true, true, true, true, true, false, false, false, false, false, false, false] rfl rfl (by kernel_rfl) (fun _ _ _ h => h) (Or.inl ⟨by rfl, fun w' hS => exec_load (P := Try.prog) (ty := 111) (x := .tmp 71) rfl (show (Instr.loadAt 111 (.pointer (some (ad.add (k * 8))))).run Try.prog w' = _ from load_run (row_below hS HX.out) Try.underlying111 rfl size111 HN.out.1)⟩) hHeld ?_ ?_
      rotate_left
      · simp only [Act.put, List.setIfInBounds_toArray, List.set_cons_zero, List.set_cons_succ, i64_w, i32_w]
        rfl
      refine pure_ (i := 5) (N := some 73) (v := ?_) (a' := ?_) #[true, true, true, true, true, true, false, false, false, false, false, false] rfl rfl (by kernel_rfl) (fun _ _ _ h => h) (Or.inl ⟨by rfl, ?_⟩) ?_ ?_
      rotate_left
      · intro w'
        go_simp
        with_reducible rfl
      rotate_left
      · simp only [Act.put, List.setIfInBounds_toArray, List.set_cons_zero, List.set_cons_succ, i64_w, i32_w]
        rfl
      refine take_ (i := 6) (N := some 74) (v := ?_) (a' := ?_) #[true, true, true, true, true, true, true, false, false, false, false, false] rfl rfl (by kernel_rfl) (fun _ _ _ h => h) (Or.inl ⟨by rfl, ?_⟩) hHeld ?_ ?_
      rotate_left
      · intro w' hS
        have hrd := pw_cell_below hS HQ.out
        go_simp
        with_reducible rfl
      rotate_left
      · simp only [Act.put, List.setIfInBounds_toArray, List.set_cons_zero, List.set_cons_succ, i64_w, i32_w]
        rfl
      refine pure_ (i := 7) (N := some 75) (v := ?_) (a' := ?_) #[true, true, true, true, true, true, true, true, false, false, false, false] rfl rfl (by kernel_rfl) (fun _ _ _ h => h) (Or.inl ⟨by rfl, ?_⟩) ?_ ?_
      rotate_left
      · intro w'
        go_simp
        with_reducible rfl
      rotate_left
      · simp only [Act.put, List.setIfInBounds_toArray, List.set_cons_zero, List.set_cons_succ, i64_w, i32_w]
        rfl
      refine pure_ (i := 8) (N := some 76) (v := ?_) (a' := ?_) #[true, true, true, true, true, true, true, true, true, false, false, false] rfl rfl (by kernel_rfl) (fun _ _ _ h => h) (Or.inl ⟨by rfl, ?_⟩) ?_ ?_
      rotate_left
      · intro w'
        go_simp
        with_reducible rfl
      rotate_left
      · simp only [Act.put, List.setIfInBounds_toArray, List.set_cons_zero, List.set_cons_succ, i64_w, i32_w]
        rfl
      refine take_ (i := 9) (N := some 77) (v := .agg ds.toArray) (a' := ?_) #[true, true, true, true, true, true, true, true, true, true, false, false] rfl rfl (by kernel_rfl) (fun _ _ _ h => h) (Or.inl ⟨by rfl, fun w' hS => exec_load (P := Try.prog) (ty := 111) (x := .tmp 76) rfl (show (Instr.loadAt 111 (.pointer (some (ad'.add (k * 8))))).run Try.prog w' = _ from load_run (row_below hS HX'.out) Try.underlying111 rfl size111 HN.out.2)⟩) hHeld ?_ ?_
      rotate_left
      · simp only [Act.put, List.setIfInBounds_toArray, List.set_cons_zero, List.set_cons_succ, i64_w, i32_w]
        rfl
      refine one_ (i := 10) (N := some 78) #[true, true, true, true, true, true, true, true, true, true, true, false] rfl rfl (by kernel_rfl) (by decide) (fun K hK => ?_)
      refine goes_ Try.func84 (by kernel_rfl) rfl #[.agg cs.toArray, .agg ds.toArray] (by rfl) rfl rfl (by (try simp only [List.map_toArray, List.map_cons, List.map_nil]); first | done | rfl) ?_
      refine Calls.mono (HCALL.out _ (k111.K_below hHeld HKK.out.1) (k111.K_below hHeld HKK.out.2)) ?_
      rintro e w18 ⟨rfl, hb⟩
      refine ⟨_, rfl, ?_⟩
      have HS8 := Aside0.mk (below_step hHeld hb)
      refine hK.out _ _ HS8.out (fun hHeld => ?_)
      clear hK K hb
      refine norm_ (a' := ?_) ?_ ?_
      rotate_left
      · show Act.put _ (some 78) _ = _
        simp only [Act.put, List.setIfInBounds_toArray, List.set_cons_zero, List.set_cons_succ, i64_w, i32_w]
        rfl
      refine pure_ (i := 11) (N := some 79) (v := ?_) (a' := ?_) #[true, true, true, true, true, true, true, true, true, true, true, true] rfl rfl (by kernel_rfl) (fun _ _ _ h => h) (Or.inl ⟨by rfl, ?_⟩) ?_ ?_
      rotate_left
      · intro w'
        go_simp
        with_reducible rfl
      rotate_left
      · simp only [Act.put, List.setIfInBounds_toArray, List.set_cons_zero, List.set_cons_succ, i64_w, i32_w]
        rfl
      refine done_ (by kernel_rfl) ?_
      have HBW := Aside0.mk (below_step HB.out HS8.out)
      have BPW := Aside0.mk (blk_below BP.out HS8.out)
      have BQW := Aside0.mk (blk_below BQ.out HS8.out)
      clear hp4 hq4 hHeld HCALL
      go_wp2
      go_roundw
      case rel => exact ⟨k + 1, by omega, by go_num, BPW, BQW, HBW⟩
      case measure => simp [intOf]; omega
    · go_wp2
      go_ret
      exact ⟨rfl, HB.out⟩
theorem eq84 : ∀ n, EqL111 n
  | 0 => fun x _ _ _ _ _ hx => absurd hx (pos111 x)
  | n + 1 => wrap84 n (eq84 n)

set_option maxHeartbeats 8000000 in
set_option maxRecDepth 100000 in
theorem wrap64S (n : Nat) (ih : ∀ q, n = q + 1 → EqL109 q) : EqL109 n := by
  intro A0 c0 A1 c1 l0 w hr0 hr1 hs
  have HB := Aside0.mk (Below.refl w.heap.size w)
  have HC := Aside0.mk hr0
  have HD := Aside0.mk hr1
  have HS0 := Aside0.mk hs
  have HIH := Aside0.mk ih
  have hlen : l0.length ≤ 9223372036854775807 := hr0.2.1
  clear hr0 hr1 hs ih
  go_enter Try.func64, Try.ntmps64
  go_wp2
  go_loopw [16] (fun i wr => ∃ k : Nat, k ≤ l0.length ∧ i = .int .i64 k ∧ Aside0 (Below w.heap.size w wr)) (fun i _ => l0.length - (intOf i).toNat)
  case atStart => exact ⟨0, Nat.zero_le _, rfl, HB⟩
  case round =>
    clear HB
    obtain ⟨k, hk, rfl, HB⟩ := hrel
    by_cases hlt : k < l0.length
    · obtain ⟨ad, cs, e, hK, hx⟩ := elem_at (Kd.C_below HC.out HB.out) k hlt
      subst e
      obtain ⟨ad', ds, e, hK', hx'⟩ := elem_at (Kd.C_below HD.out HB.out) k hlt
      subst e
      have HN := Aside0.mk (show cs.length = 10 ∧ ds.length = 10 from ⟨k109.K_len hK, k109.K_len hK'⟩)
      have HO := Aside0.mk (And.intro (k109.K_one hK) (k109.K_one hK'))
      have HX := Aside0.mk (show ∀ j v, cs[j]? = some v → wr.cell? ((ad.add (k * 10)).add j) = some v from hx)
      have HX' := Aside0.mk (show ∀ j v, ds[j]? = some v → wr.cell? ((ad'.add (k * 10)).add j) = some v from hx')
      have hsz := HS0.out l0[k] (List.getElem_mem hlt)
      obtain ⟨x, hxe⟩ : ∃ x, l0[k] = x := ⟨_, rfl⟩
      rw [hxe] at hK hK' hsz
      obtain ⟨q, hq⟩ : ∃ q, n = q + 1 := ⟨n - 1, by have := pos109 x; omega⟩
      have HSZ := Aside0.mk (show SizeOf.sizeOf x ≤ q + 1 by omega)
      have HIQ := Aside0.mk (HIH.out q hq)
      obtain ⟨A5, c5, A6, c6, A7, c7, hcs, l5, g5, l6, g6, l7, g7⟩ := k109_open hK
      obtain ⟨B5, d5, B6, d6, B7, d7, hds, m5, j5, m6, j6, m7, j7⟩ := k109_open hK'
      have HCS := Aside0.mk (And.intro hcs hds)
      have hlen5 : x.f5.length ≤ 9223372036854775807 := g5.2.1
      clear hx hx' hxe hcs hds hsz hq hK hK'
      have G5 := Aside0.mk g5
      have J5 := Aside0.mk j5
      have G6 := Aside0.mk g6
      have J6 := Aside0.mk j6
      have G7 := Aside0.mk g7
      have J7 := Aside0.mk j7
      clear g5 j5 l5 m5 g6 j6 l6 m6 g7 j7 l7 m7
      go_wp2_with fail
      refine start_ (n := 12) (S := fun w' => Below wr.heap.size wr w') (ds := []) #[false, false, false, false, false, false, false, false, false, false, false, false] (by kernel_rfl) rfl rfl (below_drew1 (Below.refl wr.heap.size wr)) (fun hHeld => ?_)
      generalize wr.drew = w5 at hHeld ⊢
      refine pure_ (i := 0) (N := some 19) (v := ?_) (a' := ?_) #[true, false, false, false, false, false, false, false, false, false, false, false] rfl rfl (by kernel_rfl) (fun _ _ _ h => h) (Or.inl ⟨by rfl, ?_⟩) ?_ ?_
      rotate_left
      · intro w'
        go_simp
        with_reducible rfl
      rotate_left
      · simp only [Act.put, List.setIfInBounds_toArray, List.set_cons_zero, List.set_cons_succ, i64_w, i32_w]
        rfl
      refine pure_ (i := 1) (N := some 20) (v := ?_) (a' := ?_) #[true, true, false, false, false, false, false, false, false, false, false, false] rfl rfl (by kernel_rfl) (fun _ _ _ h => h) (Or.inl ⟨by rfl, ?_⟩) ?_ ?_
      rotate_left
      · intro w'
        go_simp
        with_reducible rfl
      rotate_left
      · simp only [Act.put, List.setIfInBounds_toArray, List.set_cons_zero, List.set_cons_succ, i64_w, i32_w]
        rfl
      refine pure_ (i := 2) (N := some 21) (v := ?_) (a' := ?_) #[true, true, true, false, false, false, false, false, false, false, false, false] rfl rfl (by kernel_rfl) (fun _ _ _ h => h) (Or.inl ⟨by rfl, ?_⟩) ?_ ?_
      rotate_left
      · intro w'
        go_simp
        with_reducible rfl
      rotate_left
      · simp only [Act.put, List.setIfInBounds_toArray, List.set_cons_zero, List.set_cons_succ, i64_w, i32_w]
        rfl
      refine take_ (i := 3) (N := some 22) (v := .agg cs.toArray) (a' := ?_) #[true, true, true, true, false, false, false, false, false, false, false, false] rfl rfl (by kernel_rfl) (fun _ _ _ h => h) (Or.inl ⟨by rfl, fun w' hS => exec_load (P := Try.prog) (ty := 109) (x := .tmp 21) rfl (show (Instr.loadAt 109 (.pointer (some (ad.add (k * 10))))).run Try.prog w' = _ from load_run (row_below hS HX.out) Try.underlying109 rfl size109 HN.out.1)⟩) hHeld ?_ ?_
      rotate_left
      · simp only [Act.put, List.setIfInBounds_toArray, List.set_cons_zero, List.set_cons_succ, i64_w, i32_w]
        rfl
      refine pure_ (i := 4) (N := some 23) (v := ?_) (a' := ?_) #[true, true, true, true, true, false, false, false, false, false, false, false] rfl rfl (by kernel_rfl) (fun _ _ _ h => h) (Or.inl ⟨by rfl, ?_⟩) ?_ ?_
      rotate_left
      · intro w'
        go_simp
        with_reducible rfl
      rotate_left
      · simp only [Act.put, List.setIfInBounds_toArray, List.set_cons_zero, List.set_cons_succ, i64_w, i32_w]
        rfl
      refine pure_ (i := 5) (N := some 24) (v := ?_) (a' := ?_) #[true, true, true, true, true, true, false, false, false, false, false, false] rfl rfl (by kernel_rfl) (fun _ _ _ h => h) (Or.inl ⟨by rfl, ?_⟩) ?_ ?_
      rotate_left
      · intro w'
        go_simp
        with_reducible rfl
      rotate_left
      · simp only [Act.put, List.setIfInBounds_toArray, List.set_cons_zero, List.set_cons_succ, i64_w, i32_w]
        rfl
      refine pure_ (i := 6) (N := some 25) (v := ?_) (a' := ?_) #[true, true, true, true, true, true, true, false, false, false, false, false] rfl rfl (by kernel_rfl) (fun _ _ _ h => h) (Or.inl ⟨by rfl, ?_⟩) ?_ ?_
      rotate_left
      · intro w'
        go_simp
        with_reducible rfl
      rotate_left
      · simp only [Act.put, List.setIfInBounds_toArray, List.set_cons_zero, List.set_cons_succ, i64_w, i32_w]
        rfl
      refine take_ (i := 7) (N := some 26) (v := .agg ds.toArray) (a' := ?_) #[true, true, true, true, true, true, true, true, false, false, false, false] rfl rfl (by kernel_rfl) (fun _ _ _ h => h) (Or.inl ⟨by rfl, fun w' hS => exec_load (P := Try.prog) (ty := 109) (x := .tmp 25) rfl (show (Instr.loadAt 109 (.pointer (some (ad'.add (k * 10))))).run Try.prog w' = _ from load_run (row_below hS HX'.out) Try.underlying109 rfl size109 HN.out.2)⟩) hHeld ?_ ?_
      rotate_left
      · simp only [Act.put, List.setIfInBounds_toArray, List.set_cons_zero, List.set_cons_succ, i64_w, i32_w]
        rfl
      refine join_ 0 #[true, true, true, true, true, true, true, true, true, true, true, true] (fun s : Nat × Nat => [(6, .pointer (some ⟨s.1, 0, none⟩)), (7, .pointer (some ⟨s.2, 0, none⟩))]) (fun s w' => w'.heap[s.1]? = some (.cells cs.toArray 109 (0, 0)) ∧ w'.heap[s.2]? = some (.cells ds.toArray 109 (0, 0)) ∧ Below wr.heap.size wr w') ?_ (fun hcont0 => ?_)
      rotate_left
      · have hcont := fun gb gc w' F => hcont0 (gb, gc) w' F
        simp only [putAll, Act.put, List.setIfInBounds_toArray, List.set_cons_zero, List.set_cons_succ] at hcont
        clear hcont0
        have hz := zv109
        refine two_ (i := 8) (j := 9) (Ni := some 6) (Nj := some 7) #[true, true, true, true, true, true, true, true, true, false, false, false] #[true, true, true, true, true, true, true, true, false, true, false, false] rfl rfl rfl rfl (by kernel_rfl) (by decide) (by decide) (fun K hK => ?_) (fun K hK => ?_)
        · refine box_step (by rfl) (N := 6) rfl (cs := z_109.toArray) (t := 109) ?hr ?_
          case hr => first | (go_simp; done) | (go_simp; rfl)
          intro gb hg1 w6 hbox hb
          have hge1 : wr.heap.size ≤ gb := by rw [hg1]; exact below_size hHeld
          have hS6 := below_step hHeld hb
          refine hK.out _ _ hS6 (fun hHeld6 => ?_)
          clear hK K hHeld6
          refine norm_ (a' := ?_) ?_ ?_
          rotate_left
          · show Act.put _ (some 6) _ = _
            simp only [Act.put, List.setIfInBounds_toArray, List.set_cons_zero, List.set_cons_succ, i64_w, i32_w]
            rfl
          refine one_ (i := 9) (N := some 7) #[true, true, true, true, true, true, true, true, true, true, false, false] rfl rfl (by kernel_rfl) (by decide) (fun K hK => ?_)
          refine box_step (by rfl) (N := 7) rfl (cs := z_109.toArray) (t := 109) ?hr ?_
          case hr => first | (go_simp; done) | (go_simp; rfl)
          intro gc hg2 w7 hbox2 hb2
          have hge2 : wr.heap.size ≤ gc := by rw [hg2]; exact below_size hS6
          have hne : gb ≠ gc := by rw [hg2]; exact Nat.ne_of_lt (blk_lt hbox)
          have hbox1 := blk_below hbox hb2
          have hS7 := below_step hS6 hb2
          refine hK.out _ _ hS7 (fun hHeld7 => ?_)
          clear hK K hHeld7
          refine norm_ (a' := ?_) ?_ ?_
          rotate_left
          · show Act.put _ (some 7) _ = _
            simp only [Act.put, List.setIfInBounds_toArray, List.set_cons_zero, List.set_cons_succ, i64_w, i32_w]
            rfl
          refine one_ (i := 10) (N := none) #[true, true, true, true, true, true, true, true, true, true, true, false] rfl rfl (by kernel_rfl) (by decide) (fun K hK => ?_)
          refine store_step (w0 := wr) (base := wr.heap.size) (g := gb) (c' := cs) (by rfl) rfl rfl rfl rfl hbox1 size109 HN.out.1 rfl HO.out.1 hS7 hge1 ?_
          intro w8 hbc8 hS8 hoth8
          refine hK.out _ _ hS8 (fun hHeld8 => ?_)
          clear hK K hHeld8
          have hboxc := (hoth8 gc hne.symm).trans hbox2
          refine one_ (i := 11) (N := none) #[true, true, true, true, true, true, true, true, true, true, true, true] rfl rfl (by kernel_rfl) (by decide) (fun K hK => ?_)
          refine store_step (w0 := wr) (base := wr.heap.size) (g := gc) (c' := ds) (by rfl) rfl rfl rfl rfl hboxc size109 HN.out.2 rfl HO.out.2 hS8 hge2 ?_
          intro w9 hbc9 hS9 hoth9
          exact hK.out _ _ hS9 (fun _ => hcont gb gc w9 ⟨(hoth9 gb hne).trans hbc8, hbc9, hS9⟩)
        · refine box_step (by rfl) (N := 7) rfl (cs := z_109.toArray) (t := 109) ?hr ?_
          case hr => first | (go_simp; done) | (go_simp; rfl)
          intro gc hg1 w6 hbox hb
          have hge1 : wr.heap.size ≤ gc := by rw [hg1]; exact below_size hHeld
          have hS6 := below_step hHeld hb
          refine hK.out _ _ hS6 (fun hHeld6 => ?_)
          clear hK K hHeld6
          refine norm_ (a' := ?_) ?_ ?_
          rotate_left
          · show Act.put _ (some 7) _ = _
            simp only [Act.put, List.setIfInBounds_toArray, List.set_cons_zero, List.set_cons_succ, i64_w, i32_w]
            rfl
          refine one_ (i := 8) (N := some 6) #[true, true, true, true, true, true, true, true, true, true, false, false] rfl rfl (by kernel_rfl) (by decide) (fun K hK => ?_)
          refine box_step (by rfl) (N := 6) rfl (cs := z_109.toArray) (t := 109) ?hr ?_
          case hr => first | (go_simp; done) | (go_simp; rfl)
          intro gb hg2 w7 hbox2 hb2
          have hge2 : wr.heap.size ≤ gb := by rw [hg2]; exact below_size hS6
          have hne : gc ≠ gb := by rw [hg2]; exact Nat.ne_of_lt (blk_lt hbox)
          have hbox1 := blk_below hbox hb2
          have hS7 := below_step hS6 hb2
          refine hK.out _ _ hS7 (fun hHeld7 => ?_)
          clear hK K hHeld7
          refine norm_ (a' := ?_) ?_ ?_
          rotate_left
          · show Act.put _ (some 6) _ = _
            simp only [Act.put, List.setIfInBounds_toArray, List.set_cons_zero, List.set_cons_succ, i64_w, i32_w]
            rfl
          refine one_ (i := 10) (N := none) #[true, true, true, true, true, true, true, true, true, true, true, false] rfl rfl (by kernel_rfl) (by decide) (fun K hK => ?_)
          refine store_step (w0 := wr) (base := wr.heap.size) (g := gb) (c' := cs) (by rfl) rfl rfl rfl rfl hbox2 size109 HN.out.1 rfl HO.out.1 hS7 hge2 ?_
          intro w8 hbc8 hS8 hoth8
          refine hK.out _ _ hS8 (fun hHeld8 => ?_)
          clear hK K hHeld8
          have hboxc := (hoth8 gc hne).trans hbox1
          refine one_ (i := 11) (N := none) #[true, true, true, true, true, true, true, true, true, true, true, true] rfl rfl (by kernel_rfl) (by decide) (fun K hK => ?_)
          refine store_step (w0 := wr) (base := wr.heap.size) (g := gc) (c' := ds) (by rfl) rfl rfl rfl rfl hboxc size109 HN.out.2 rfl HO.out.2 hS8 hge1 ?_
          intro w9 hbc9 hS9 hoth9
          exact hK.out _ _ hS9 (fun _ => hcont gb gc w9 ⟨(hoth9 gb hne.symm).trans hbc8, hbc9, hS9⟩)
      rintro ⟨gb, gc⟩ w6 ⟨BKa, BCa, HSa⟩
      have BK := Aside0.mk BKa
      have BC := Aside0.mk BCa
      have HS := Aside0.mk HSa
      clear BKa BCa HSa hHeld
      refine norm_ (a' := ?_) ?_ ?_
      rotate_left
      · simp only [putAll, Act.put, List.setIfInBounds_toArray, List.set_cons_zero, List.set_cons_succ]
        rfl
      refine done_ (by kernel_rfl) ?_
      clear HX HX' HN HO
      have hxs_0 : w6.cell? ⟨gb, 0, none⟩ = some (.int .i64 x.f0) := (by rw [blk_cell BK.out 0, HCS.out.1]; rfl)
      have hys_0 : w6.cell? ⟨gc, 0, none⟩ = some (.int .i64 x.f0) := (by rw [blk_cell BC.out 0, HCS.out.2]; rfl)
      have hxs_1 : w6.cell? ⟨gb, 1, none⟩ = some (.int .i64 x.f1) := (by rw [blk_cell BK.out 1, HCS.out.1]; rfl)
      have hys_1 : w6.cell? ⟨gc, 1, none⟩ = some (.int .i64 x.f1) := (by rw [blk_cell BC.out 1, HCS.out.2]; rfl)
      have hxs_2 : w6.cell? ⟨gb, 2, none⟩ = some (.string x.f2) := (by rw [blk_cell BK.out 2, HCS.out.1]; rfl)
      have hys_2 : w6.cell? ⟨gc, 2, none⟩ = some (.string x.f2) := (by rw [blk_cell BC.out 2, HCS.out.2]; rfl)
      have hxs_3 : w6.cell? ⟨gb, 3, none⟩ = some (.string x.f3) := (by rw [blk_cell BK.out 3, HCS.out.1]; rfl)
      have hys_3 : w6.cell? ⟨gc, 3, none⟩ = some (.string x.f3) := (by rw [blk_cell BC.out 3, HCS.out.2]; rfl)
      have hxs_4 : w6.cell? ⟨gb, 4, none⟩ = some (.int .i64 x.f4) := (by rw [blk_cell BK.out 4, HCS.out.1]; rfl)
      have hys_4 : w6.cell? ⟨gc, 4, none⟩ = some (.int .i64 x.f4) := (by rw [blk_cell BC.out 4, HCS.out.2]; rfl)
      have hxs_5 : w6.cell? ⟨gb, 5, none⟩ = some (.slice A5 x.f5.length c5) := (by rw [blk_cell BK.out 5, HCS.out.1]; rfl)
      have hys_5 : w6.cell? ⟨gc, 5, none⟩ = some (.slice B5 x.f5.length d5) := (by rw [blk_cell BC.out 5, HCS.out.2]; rfl)
      have hxs_6 : w6.cell? ⟨gb, 6, none⟩ = some (.slice A6 x.f6.length c6) := (by rw [blk_cell BK.out 6, HCS.out.1]; rfl)
      have hys_6 : w6.cell? ⟨gc, 6, none⟩ = some (.slice B6 x.f6.length d6) := (by rw [blk_cell BC.out 6, HCS.out.2]; rfl)
      have hxs_7 : w6.cell? ⟨gb, 7, none⟩ = some (.slice A7 x.f7.length c7) := (by rw [blk_cell BK.out 7, HCS.out.1]; rfl)
      have hys_7 : w6.cell? ⟨gc, 7, none⟩ = some (.slice B7 x.f7.length d7) := (by rw [blk_cell BC.out 7, HCS.out.2]; rfl)
      have hxs_8 : w6.cell? ⟨gb, 8, none⟩ = some (.int .u8 x.f8) := (by rw [blk_cell BK.out 8, HCS.out.1]; rfl)
      have hys_8 : w6.cell? ⟨gc, 8, none⟩ = some (.int .u8 x.f8) := (by rw [blk_cell BC.out 8, HCS.out.2]; rfl)
      have hxs_9 : w6.cell? ⟨gb, 9, none⟩ = some (.int .i64 x.f9) := (by rw [blk_cell BK.out 9, HCS.out.1]; rfl)
      have hys_9 : w6.cell? ⟨gc, 9, none⟩ = some (.int .i64 x.f9) := (by rw [blk_cell BC.out 9, HCS.out.2]; rfl)
      have n0 : (x.f0 != x.f0) = false := by simp
      have e0 : (x.f0 == x.f0) = true := by simp
      have n1 : (x.f1 != x.f1) = false := by simp
      have e1 : (x.f1 == x.f1) = true := by simp
      have n2 : (x.f2.toList != x.f2.toList) = false := by simp
      have e2 : (x.f2.toList == x.f2.toList) = true := by simp
      have n3 : (x.f3.toList != x.f3.toList) = false := by simp
      have e3 : (x.f3.toList == x.f3.toList) = true := by simp
      have n4 : (x.f4 != x.f4) = false := by simp
      have e4 : (x.f4 == x.f4) = true := by simp
      have n5 : ((x.f5.length : Int) != (x.f5.length : Int)) = false := by simp
      have e5 : ((x.f5.length : Int) == (x.f5.length : Int)) = true := by simp
      have n6 : ((x.f6.length : Int) != (x.f6.length : Int)) = false := by simp
      have e6 : ((x.f6.length : Int) == (x.f6.length : Int)) = true := by simp
      have n7 : ((x.f7.length : Int) != (x.f7.length : Int)) = false := by simp
      have e7 : ((x.f7.length : Int) == (x.f7.length : Int)) = true := by simp
      have n8 : (x.f8 != x.f8) = false := by simp
      have e8 : (x.f8 == x.f8) = true := by simp
      have n9 : (x.f9 != x.f9) = false := by simp
      have e9 : (x.f9 == x.f9) = true := by simp
      go_wp2
      clear hxs_0 hys_0 n0 e0 hxs_1 hys_1 n1 e1 hxs_2 hys_2 n2 e2 hxs_3 hys_3 n3 e3 hxs_4 hys_4 n4 e4 hxs_5 hys_5 n5 e5 hxs_6 hys_6 n6 e6 hxs_7 hys_7 n7 e7 hxs_8 hys_8 n8 e8 hxs_9 hys_9 n9 e9
      obtain ⟨wq, hwq⟩ : ∃ wq, wr = wq := ⟨_, rfl⟩
      rw [hwq] at HS HB G5 G6 G7 J5 J6 J7
      clear hwq
      go_loopw [86] (fun i wr => ∃ k : Nat, k ≤ x.f5.length ∧ i = .int .i64 k ∧ Aside0 (wr.heap[gb]? = some (.cells cs.toArray 109 (0, 0))) ∧ Aside0 (wr.heap[gc]? = some (.cells ds.toArray 109 (0, 0))) ∧ Aside0 (Below wq.heap.size wq wr)) (fun i _ => x.f5.length - (intOf i).toNat)
      case atStart => exact ⟨0, Nat.zero_le _, rfl, BK, BC, HS⟩
      case round =>
        clear BK BC HS
        obtain ⟨i, hi, rfl, BK, BC, HS⟩ := hrel
        have hp5 : wr.cell? ⟨gb, 5, none⟩ = some (.slice A5 x.f5.length c5) := (by rw [blk_cell BK.out 5, HCS.out.1]; rfl)
        have hq5 : wr.cell? ⟨gc, 5, none⟩ = some (.slice B5 x.f5.length d5) := (by rw [blk_cell BC.out 5, HCS.out.2]; rfl)
        by_cases hlti : i < x.f5.length
        · obtain ⟨ae, ces, e, hK, hx⟩ := elem_at (Kd.C_below G5.out HS.out) i hlti
          obtain ⟨ae', des, e', hK', hx'⟩ := elem_at (Kd.C_below J5.out HS.out) i hlti
          subst e e'
          have HP := Aside0.mk hp5
          have HQ := Aside0.mk hq5
          have HN := Aside0.mk (show ces.length = 8 ∧ des.length = 8 from ⟨k111.K_len hK, k111.K_len hK'⟩)
          have HX := Aside0.mk (show ∀ j v, ces[j]? = some v → wr.cell? ((ae.add (i * 8)).add j) = some v from hx)
          have HX' := Aside0.mk (show ∀ j v, des[j]? = some v → wr.cell? ((ae'.add (i * 8)).add j) = some v from hx')
          have HKK := Aside0.mk (And.intro hK hK')
          have HCALL := Aside0.mk (fun (W : World) (h : k111.K W x.f5[i] ces) (h2 : k111.K W x.f5[i] des) => eq84 (q + 1) x.f5[i] ces des W h h2 (Nat.le_trans (kid109e HSZ.out _ (List.getElem_mem hlti)) (Nat.le_succ q)))
          clear hx hx' hK hK'
          go_wp2_with fail
          refine start_ (n := 12) (S := fun w' => Below wr.heap.size wr w') (ds := []) #[false, false, false, false, false, false, false, false, false, false, false, false] (by kernel_rfl) rfl rfl (below_drew1 (Below.refl wr.heap.size wr)) (fun hHeld => ?_)
          generalize wr.drew = w15 at hHeld ⊢
          refine pure_ (i := 0) (N := some 89) (v := ?_) (a' := ?_) #[true, false, false, false, false, false, false, false, false, false, false, false] rfl rfl (by kernel_rfl) (fun _ _ _ h => h) (Or.inl ⟨by rfl, ?_⟩) ?_ ?_
          rotate_left
          · intro w'
            go_simp
            with_reducible rfl
          rotate_left
          · simp only [Act.put, List.setIfInBounds_toArray, List.set_cons_zero, List.set_cons_succ, i64_w, i32_w]
            rfl
          refine take_ (i := 1) (N := some 90) (v := ?_) (a' := ?_) #[true, true, false, false, false, false, false, false, false, false, false, false] rfl rfl (by kernel_rfl) (fun _ _ _ h => h) (Or.inl ⟨by rfl, ?_⟩) hHeld ?_ ?_
          rotate_left
          · intro w' hS
            have hrd := pw_cell_below hS HP.out
            go_simp
            with_reducible rfl
          rotate_left
          · simp only [Act.put, List.setIfInBounds_toArray, List.set_cons_zero, List.set_cons_succ, i64_w, i32_w]
            rfl
          refine pure_ (i := 2) (N := some 91) (v := ?_) (a' := ?_) #[true, true, true, false, false, false, false, false, false, false, false, false] rfl rfl (by kernel_rfl) (fun _ _ _ h => h) (Or.inl ⟨by rfl, ?_⟩) ?_ ?_
          rotate_left
          · intro w'
            go_simp
            with_reducible rfl
          rotate_left
          · simp only [Act.put, List.setIfInBounds_toArray, List.set_cons_zero, List.set_cons_succ, i64_w, i32_w]
            rfl
          refine pure_ (i := 3) (N := some 92) (v := ?_) (a' := ?_) #[true, true, true, true, false, false, false, false, false, false, false, false] rfl rfl (by kernel_rfl) (fun _ _ _ h => h) (Or.inl ⟨by rfl, ?_⟩) ?_ ?_
          rotate_left
          · intro w'
            go_simp
            with_reducible rfl
          rotate_left
          · simp only [Act.put, List.setIfInBounds_toArray, List.set_cons_zero, List.set_cons_succ, i64_w, i32_w]
            rfl
          refine take_ (i := 4) (N := some 93) (v := .agg ces.toArray) (a' := ?_) #[true, true, true, true, true, false, false, false, false, false, false, false] rfl rfl (by kernel_rfl) (fun _ _ _ h => h) (Or.inl ⟨by rfl, fun w' hS => exec_load (P := Try.prog) (ty := 111) (x := .tmp 92) rfl (show (Instr.loadAt 111 (.pointer (some (ae.add (i * 8))))).run Try.prog w' = _ from load_run (row_below hS HX.out) Try.underlying111 rfl size111 HN.out.1)⟩) hHeld ?_ ?_
          rotate_left
          · simp only [Act.put, List.setIfInBounds_toArray, List.set_cons_zero, List.set_cons_succ, i64_w, i32_w]
            rfl
          refine pure_ (i := 5) (N := some 94) (v := ?_) (a' := ?_) #[true, true, true, true, true, true, false, false, false, false, false, false] rfl rfl (by kernel_rfl) (fun _ _ _ h => h) (Or.inl ⟨by rfl, ?_⟩) ?_ ?_
          rotate_left
          · intro w'
            go_simp
            with_reducible rfl
          rotate_left
          · simp only [Act.put, List.setIfInBounds_toArray, List.set_cons_zero, List.set_cons_succ, i64_w, i32_w]
            rfl
          refine take_ (i := 6) (N := some 95) (v := ?_) (a' := ?_) #[true, true, true, true, true, true, true, false, false, false, false, false] rfl rfl (by kernel_rfl) (fun _ _ _ h => h) (Or.inl ⟨by rfl, ?_⟩) hHeld ?_ ?_
          rotate_left
          · intro w' hS
            have hrd := pw_cell_below hS HQ.out
            go_simp
            with_reducible rfl
          rotate_left
          · simp only [Act.put, List.setIfInBounds_toArray, List.set_cons_zero, List.set_cons_succ, i64_w, i32_w]
            rfl
          refine pure_ (i := 7) (N := some 96) (v := ?_) (a' := ?_) #[true, true, true, true, true, true, true, true, false, false, false, false] rfl rfl (by kernel_rfl) (fun _ _ _ h => h) (Or.inl ⟨by rfl, ?_⟩) ?_ ?_
          rotate_left
          · intro w'
            go_simp
            with_reducible rfl
          rotate_left
          · simp only [Act.put, List.setIfInBounds_toArray, List.set_cons_zero, List.set_cons_succ, i64_w, i32_w]
            rfl
          refine pure_ (i := 8) (N := some 97) (v := ?_) (a' := ?_) #[true, true, true, true, true, true, true, true, true, false, false, false] rfl rfl (by kernel_rfl) (fun _ _ _ h => h) (Or.inl ⟨by rfl, ?_⟩) ?_ ?_
          rotate_left
          · intro w'
            go_simp
            with_reducible rfl
          rotate_left
          · simp only [Act.put, List.setIfInBounds_toArray, List.set_cons_zero, List.set_cons_succ, i64_w, i32_w]
            rfl
          refine take_ (i := 9) (N := some 98) (v := .agg des.toArray) (a' := ?_) #[true, true, true, true, true, true, true, true, true, true, false, false] rfl rfl (by kernel_rfl) (fun _ _ _ h => h) (Or.inl ⟨by rfl, fun w' hS => exec_load (P := Try.prog) (ty := 111) (x := .tmp 97) rfl (show (Instr.loadAt 111 (.pointer (some (ae'.add (i * 8))))).run Try.prog w' = _ from load_run (row_below hS HX'.out) Try.underlying111 rfl size111 HN.out.2)⟩) hHeld ?_ ?_
          rotate_left
          · simp only [Act.put, List.setIfInBounds_toArray, List.set_cons_zero, List.set_cons_succ, i64_w, i32_w]
            rfl
          refine one_ (i := 10) (N := some 99) #[true, true, true, true, true, true, true, true, true, true, true, false] rfl rfl (by kernel_rfl) (by decide) (fun K hK => ?_)
          refine goes_ Try.func84 (by kernel_rfl) rfl #[.agg ces.toArray, .agg des.toArray] (by rfl) rfl rfl (by (try simp only [List.map_toArray, List.map_cons, List.map_nil]); first | done | rfl) ?_
          refine Calls.mono (HCALL.out _ (k111.K_below hHeld HKK.out.1) (k111.K_below hHeld HKK.out.2)) ?_
          rintro e w18 ⟨rfl, hb⟩
          refine ⟨_, rfl, ?_⟩
          have HS8 := Aside0.mk (below_step hHeld hb)
          refine hK.out _ _ HS8.out (fun hHeld => ?_)
          clear hK K hb
          refine norm_ (a' := ?_) ?_ ?_
          rotate_left
          · show Act.put _ (some 99) _ = _
            simp only [Act.put, List.setIfInBounds_toArray, List.set_cons_zero, List.set_cons_succ, i64_w, i32_w]
            rfl
          refine pure_ (i := 11) (N := some 100) (v := ?_) (a' := ?_) #[true, true, true, true, true, true, true, true, true, true, true, true] rfl rfl (by kernel_rfl) (fun _ _ _ h => h) (Or.inl ⟨by rfl, ?_⟩) ?_ ?_
          rotate_left
          · intro w'
            go_simp
            with_reducible rfl
          rotate_left
          · simp only [Act.put, List.setIfInBounds_toArray, List.set_cons_zero, List.set_cons_succ, i64_w, i32_w]
            rfl
          refine done_ (by kernel_rfl) ?_
          have HBW := Aside0.mk (below_step HS.out HS8.out)
          have BPW := Aside0.mk (blk_below BK.out HS8.out)
          have BQW := Aside0.mk (blk_below BC.out HS8.out)
          clear hp5 hq5 hHeld HCALL
          go_wp2
          go_roundw
          case rel => exact ⟨i + 1, by omega, by go_num, BPW, BQW, HBW⟩
          case measure => simp [intOf]; omega
        · have hie : i = x.f5.length := by omega
          clear hlti
          have hxt_6 : wr.cell? ⟨gb, 6, none⟩ = some (.slice A6 x.f6.length c6) := (by rw [blk_cell BK.out 6, HCS.out.1]; rfl)
          have hyt_6 : wr.cell? ⟨gc, 6, none⟩ = some (.slice B6 x.f6.length d6) := (by rw [blk_cell BC.out 6, HCS.out.2]; rfl)
          have hxt_7 : wr.cell? ⟨gb, 7, none⟩ = some (.slice A7 x.f7.length c7) := (by rw [blk_cell BK.out 7, HCS.out.1]; rfl)
          have hyt_7 : wr.cell? ⟨gc, 7, none⟩ = some (.slice B7 x.f7.length d7) := (by rw [blk_cell BC.out 7, HCS.out.2]; rfl)
          go_wp2_with (first | (go_at_call_of 64 (Value.slice A6 x.f6.length c6); refine Calls.mono (HIQ.out A6 c6 B6 d6 x.f6 _ (Kd.C_below G6.out HS.out) (Kd.C_below J6.out HS.out) (fun z hz => kid109a HSZ.out z hz)) ?_; rintro e20 w20 ⟨rfl, hb⟩; have HS20 := Aside0.mk (below_step HS.out hb); have BK20 := Aside0.mk (blk_below BK.out hb); have BC20 := Aside0.mk (blk_below BC.out hb); clear hb; have hxu_7 : w20.cell? ⟨gb, 7, none⟩ = some (.slice A7 x.f7.length c7) := (by rw [blk_cell BK20.out 7, HCS.out.1]; rfl); have hyu_7 : w20.cell? ⟨gc, 7, none⟩ = some (.slice B7 x.f7.length d7) := (by rw [blk_cell BC20.out 7, HCS.out.2]; rfl)) | (go_at_call_of 64 (Value.slice A7 x.f7.length c7); refine Calls.mono (HIQ.out A7 c7 B7 d7 x.f7 _ (Kd.C_below G7.out HS20.out) (Kd.C_below J7.out HS20.out) (fun z hz => kid109b HSZ.out z hz)) ?_; rintro e21 w21 ⟨rfl, hb⟩; have HS21 := Aside0.mk (below_step HS20.out hb); have BK21 := Aside0.mk (blk_below BK20.out hb); have BC21 := Aside0.mk (blk_below BC20.out hb); clear hb))
          have HBW := Aside0.mk (below_step HB.out HS21.out)
          go_roundw
          case rel => exact ⟨k + 1, by omega, by go_num, HBW⟩
          case measure => simp [intOf]; omega
    · go_wp2
      go_ret
      exact ⟨rfl, HB.out⟩
theorem eq64 : ∀ n, EqL109 n
  | 0 => wrap64S 0 (fun q hq => by omega)
  | n + 1 => wrap64S (n + 1) (fun q hq => by
    obtain rfl : n = q := by omega
    exact eq64 n)

end Go.Proofs.Ytblgcodkbapccaa.SamesWalk
