/- PROVED: what provisoref06.Same tells of two certificates that are the same. Conditions: 24 slots each. -/
import Derived.Test.YtblgcodkbapccaaCertCheck
namespace Go.Proofs.Ytblgcodkbapccaa.CertWalk
open Go.RowKit Go.Proofs.Ytblgcodkbapccaa.PCertChecks Go.Proofs.YtblgcodkbapccaaW.PrintWords Go.Proofs.YtblgcodkbapccaaW.PrintLast Go.Proofs.YtblgcodkbapccaaW.PrintMore
attribute [local go_sem] max2_int min2_int max_two min_two max_three min_three max_four min_four
set_option linter.unusedVariables false
set_option linter.unusedSimpArgs false
attribute [local go_sem high] eqFrame eqEnt

theorem quiet_load {P : Program} {ops : Array Oper} {C : World → Prop} {Q : Act → Prop} {rest : List Oper} {o : Oper} {a : Act} (hw : Region.wanted o (yielded ops a.tmps) = true) (ty : TypeId) (x : Operand) (v : Value) (ho : o.op = .load ty x) (hx : ∀ w, C w → (Instr.loadAt ty (a.eval x)).run P w = .ok v w) (h : wpQuiet P ops C Q rest (a.put o.dst v)) : wpQuiet P ops C Q (o :: rest) a :=
  wpQuiet_step fun K hK => by
   rw [if_pos hw]
   exact ⟨v, fun w hw => by
    have hr : (execOp a.eval o).run P w = .ok (.value v) w := by
      unfold execOp
      simp only [ho, Sem.run_bind, hx w hw, Result.andThen_ok, Sem.run_pure]
    unfold Oper.quietAt
    rw [hr]
    exact ⟨rfl, rfl⟩, hK _ h⟩
theorem load_run {W : World} {ty : TypeId} {ad : Addr} {cs : List Value} {d : TypeDesc} (hc : ∀ j v, cs[j]? = some v → W.cell? (ad.add j) = some v)
    (hu : Try.prog.underlying ty = some d) (hd : d.isRow = true) (hi : (Try.prog.info? ty).map (·.size) = some cs.length) : (Instr.loadAt ty (.pointer (some ad))).run Try.prog W = .ok (.agg cs.toArray) W := by
  have hl : (loadCells ad cs.length).run Try.prog W = .ok cs.toArray W := run_loadCells_list (P := Try.prog) W ad cs hc
  cases hq : Try.prog.info? ty with
  | none => simp [hq] at hi
  | some i =>
    have hs : i.size = cs.length := by simpa [hq] using hi
    have hagg : (isAgg ty).run Try.prog W = .ok true W := by
      unfold isAgg
      rw [Sem.run_bind, run_underlying hu W]
      cases d <;> simp_all
    simp [Instr.loadAt, Instr.sureAddr, loadVar, Sem.run_bind, hagg, sizeOf, typeInfo, hq, hs, hl]
set_option maxHeartbeats 8000000 in
set_option maxRecDepth 100000 in
theorem same_calls (L : Int) (A0 : Option Addr) (c0 : Nat) (A1 : Option Addr) (c1 : Nat) (l0 : List Ent) (w : World) (hr0 : Kd.C kE w A0 l0.length l0) (hr1 : Kd.C kE w A1 l0.length l0) :
    Calls Try.prog 38 #[.agg #[.int .i64 L, .slice A0 l0.length c0], .agg #[.int .i64 L, .slice A1 l0.length c1]] w fun e w' => e = .returned (.bool true) ∧ Below w.heap.size w w' := by
  have HB := Aside0.mk (Below.refl w.heap.size w)
  have HC := Aside0.mk hr0
  have HD := Aside0.mk hr1
  have hlen : l0.length ≤ 9223372036854775807 := hr0.2.1
  clear hr0 hr1
  go_enter Try.func38, Try.ntmps38
  go_upto_region 1 with (first | ((with_reducible refine gate_dst (N := 2) rfl ?_); refine box_event ?hg (N := 2) ?hd (cs := #[.int .i64 L, .slice A0 l0.length c0]) (t := 51) ?hr ?_; (case hd => rfl); (case hg => rfl); (case hr => first | (go_simp; done) | (go_simp; rfl)); intro gb hg w1 hbox hb; have BK1 := Aside0.mk hbox; have HB1 := Aside0.mk (below_step HB.out hb); clear hb hbox hg) | ((with_reducible refine gate_dst (N := 3) rfl ?_); refine box_event ?hg (N := 3) ?hd (cs := #[.int .i64 L, .slice A1 l0.length c1]) (t := 51) ?hr ?_; (case hd => rfl); (case hg => rfl); (case hr => first | (go_simp; done) | (go_simp; rfl)); intro gc hgc w2 hboxc hb; have BC := Aside0.mk hboxc; have BK := Aside0.mk (blk_below BK1.out hb); have HB2 := Aside0.mk (below_step HB1.out hb); clear hb hboxc hgc))
  have hb0 : w2.cell? ⟨gb, 0, none⟩ = some (.int .i64 L) := (blk_cell BK.out 0).trans rfl
  have hb1 : w2.cell? ⟨gb, 1, none⟩ = some (.slice A0 l0.length c0) := (blk_cell BK.out 1).trans rfl
  have hc0 : w2.cell? ⟨gc, 0, none⟩ = some (.int .i64 L) := (blk_cell BC.out 0).trans rfl
  have hc1 : w2.cell? ⟨gc, 1, none⟩ = some (.slice A1 l0.length c1) := (blk_cell BC.out 1).trans rfl
  go_wp2
  go_loopw [5] (fun i wr => ∃ k : Nat, k ≤ l0.length ∧ i = .int .i64 k ∧ Drawn0 w2 wr) (fun i _ => l0.length - (intOf i).toNat)
  case atStart => exact ⟨0, Nat.zero_le _, rfl, Drawn0.refl _⟩
  case round =>
    obtain ⟨k, hk, rfl, m, rfl⟩ := hrel
    by_cases hlt : k < l0.length
    · obtain ⟨ad, e, h24, hx⟩ := ent_at (Kd.C_below HC.out HB2.out) k hlt
      subst e
      obtain ⟨ad', e, _, hx'⟩ := ent_at (Kd.C_below HD.out HB2.out) k hlt
      subst e
      obtain ⟨x, hxk⟩ : ∃ x, l0[k] = x := ⟨_, rfl⟩
      rw [hxk] at h24 hx hx'
      have HX := Aside0.mk hx
      have HX' := Aside0.mk hx'
      clear hx hx' hxk
      clear hb0 hb1 hc0 hc1
      obtain ⟨W, hW⟩ : ∃ W, w2.drewN m = W := ⟨_, rfl⟩
      have HDR := Aside0.mk (show Drawn0 w2 W from ⟨m, hW.symm⟩)
      have HBW := Aside0.mk (show Below w.heap.size w W by rw [← hW]; exact pw_below_drewN HB2.out _)
      have hb1 : W.cell? ⟨gb, 1, none⟩ = some (.slice (some ad) l0.length c0) := by rw [← hW]; exact (blk_cell (blk_drewN BK.out _) 1).trans rfl
      have hc1 : W.cell? ⟨gc, 1, none⟩ = some (.slice (some ad') l0.length c1) := by rw [← hW]; exact (blk_cell (blk_drewN BC.out _) 1).trans rfl
      have hl1 : ∀ n, (Instr.loadAt 99 (.pointer (some (ad.add (k * 28))))).run Try.prog (W.drewN n) = .ok (.agg x.cells.toArray) (W.drewN n) := fun n => load_run (by rw [← hW]; simpa using HX.out) Try.underlying99 rfl (by rw [cells_len x h24]; exact size99)
      have hl2 : ∀ n, (Instr.loadAt 99 (.pointer (some (ad'.add (k * 28))))).run Try.prog (W.drewN n) = .ok (.agg x.cells.toArray) (W.drewN n) := fun n => load_run (by rw [← hW]; simpa using HX'.out) Try.underlying99 rfl (by rw [cells_len x h24]; exact size99)
      rw [hW]
      clear hW
      go_wp2_with fail
      refine wp_region_quiet_lit (by kernel_rfl) (by kernel_rfl) ?_
      quiet_step (fail)
      quiet_step (fail)
      quiet_step (fail)
      quiet_step (fail)
      refine quiet_load rfl 99 (.tmp 30) (.agg x.cells.toArray) rfl (fun w hw => by obtain ⟨n, rfl⟩ := hw; exact hl1 n) ?_
      (try simp only [Act.put, List.setIfInBounds_toArray, List.set_cons_zero, List.set_cons_succ])
      quiet_step (fail)
      quiet_step (fail)
      quiet_step (fail)
      quiet_step (fail)
      refine quiet_load rfl 99 (.tmp 35) (.agg x.cells.toArray) rfl (fun w hw => by obtain ⟨n, rfl⟩ := hw; exact hl2 n) ?_
      (try simp only [Act.put, List.setIfInBounds_toArray, List.set_cons_zero, List.set_cons_succ])
      clear hl1 hl2
      quiet_step (fail)
      refine wpQuiet_nil ?_
      intro _ hw'
      obtain ⟨nq, hw''⟩ := hw'
      subst hw''
      obtain ⟨m1, rfl⟩ := HDR.out
      go_wp2
      go_roundw
      case rel => exact ⟨k + 1, by omega, by go_num, by repeat (first | exact Drawn0.refl _ | apply Drawn0.step)⟩
      case measure => simp [intOf]; omega
    · go_wp2
      go_ret
      exact ⟨rfl, by repeat (first | exact HB2.out | refine pw_below_drewN ?_ _)⟩
end Go.Proofs.Ytblgcodkbapccaa.CertWalk
