/- PROVED: what provisoref06.Check tells of a certificate: the same as cert.Check. Conditions: the slice within its reach; 24 slots each; heights are numbers of 64 bits. -/
import Derived.Test.YtblgcodkbapccaaCertSame
namespace Go.Proofs.Ytblgcodkbapccaa.CertWalk
open Go.RowKit Go.Proofs.Ytblgcodkbapccaa.PCertChecks Go.Proofs.YtblgcodkbapccaaW.PrintWords Go.Proofs.YtblgcodkbapccaaW.PrintLast Go.Proofs.YtblgcodkbapccaaW.PrintMore
attribute [local go_sem] max2_int min2_int max_two min_two max_three min_three max_four min_four
set_option linter.unusedVariables false
set_option linter.unusedSimpArgs false
attribute [local go_sem high] eqFrame eqEnt

theorem exec_load {P : Program} {o : Oper} {a : Act} {W : World} {ty : TypeId} {x : Operand} {v : Value} (ho : o.op = .load ty x) (h : (Instr.loadAt ty (a.eval x)).run P W = .ok v W) : (execOp a.eval o).run P W = .ok (.value v) W := by
  unfold execOp
  simp only [ho, Sem.run_bind, h, Result.andThen_ok, Sem.run_pure]
theorem after_f (last ad : Int) : provisoref06_after.f 1 ad last = some (risesErr last ad) := by
  unfold provisoref06_after.f risesErr
  by_cases h : ad < 0
  · rw [if_pos h, if_pos (.inl h)]; rfl
  · rw [if_neg h]
    by_cases h2 : ad ≥ 4096
    · rw [if_pos (.inr h2)]
      have : ad > 4095 := by omega
      simp [provisoref06_after.j0, this]
    · rw [if_neg (by omega)]
      have : ¬ ad > 4095 := by omega
      simp only [provisoref06_after.j0, decide_eq_true_eq, if_neg this]
      split
      · rfl
      · split <;> rfl
theorem body_same (L : Int) (x : Ent) (hs : x.sl.length = 24) (h0 : 0 ≤ L) : bodyErr L x = (if x.dead = true then (if (x.loc == 0 && (x.hgt == 0 && (x.sl == z24))) = true then 0 else 65) else frameErr x.loc x.hgt x.sl L) := by
  unfold bodyErr frameErr
  split
  · rfl
  · split
    · rfl
    · split
      · rfl
      · rename_i h1 h2 h3
        have h3' := Bool.eq_false_iff.mpr h3
        have e : x.sl.any (fun t => !isCode t) = (x.sl.take (L + x.hgt).toNat).any (fun t => !isCode t) := by
          conv => lhs; rw [← List.take_append_drop (L + x.hgt).toNat x.sl]
          rw [List.any_append]
          have : (x.sl.drop (L + x.hgt).toNat).any (fun t => !isCode t) = false := by
            rw [List.any_eq_false] at h3' ⊢
            intro y hy
            have := h3' y hy
            simp only [bne_iff_ne, ne_eq, Decidable.not_not] at this
            subst this
            decide
          rw [this, Bool.or_false]
        rw [e]
theorem ent_same (L last : Int) (x : Ent) (hs : x.sl.length = 24) (h0 : 0 ≤ L) : entErr L last x = (if risesErr last x.ad ≠ 0 then risesErr last x.ad else bodyErr L x) := by
  rw [body_same L x hs h0]; rfl

set_option maxHeartbeats 8000000 in
set_option maxRecDepth 100000 in
theorem refCheck_calls (L : Int) (A0 : Option Addr) (c0 : Nat) (l0 : List Ent) (w : World) (hr0 : Kd.C kE w A0 l0.length l0) (hl : l0.length * 56 ≤ 140737488355328) (hw : ∀ x ∈ l0, -9223372036854775808 ≤ x.hgt ∧ x.hgt ≤ 9223372036854775807) :
    Calls Try.prog 37 #[.agg #[.int .i64 L, .slice A0 l0.length c0]] w fun e w' => e = .returned (.tuple #[.int .i64 (check L l0).1, .int .i64 (check L l0).2]) ∧ Below w.heap.size w w' := by
  have HB := Aside0.mk (Below.refl w.heap.size w)
  have HC := Aside0.mk hr0
  have HL := Aside0.mk hl
  have HW := Aside0.mk hw
  clear hr0 hl hw
  obtain ⟨rn, re, hr⟩ : ∃ rn re, check L l0 = (rn, re) := ⟨_, _, rfl⟩
  rw [hr]
  have HR := Aside0.mk hr
  clear hr
  have hz := zero99
  have hz97 := zero97
  have hzl := z24_len
  go_enter Try.func37, Try.ntmps37
  go_upto_region 1 with (first | ((with_reducible refine gate_dst (N := 1) rfl ?_); refine box_event ?hg (N := 1) ?hd (cs := #[.int .i64 L, .slice A0 l0.length c0]) (t := 51) ?hr ?_; (case hd => rfl); (case hg => rfl); (case hr => first | (go_simp; done) | (go_simp; rfl)); intro gb hg w1 hbox hb; have BK := Aside0.mk hbox; have HB1 := Aside0.mk (below_step HB.out hb); have HG := Aside0.mk (show w.heap.size ≤ gb by rw [hg]; exact Nat.le_refl _); have hc0 : w1.cell? ⟨gb, 0, none⟩ = some (.int .i64 L) := (blk_cell BK.out 0).trans rfl; have hc1 : w1.cell? ⟨gb, 1, none⟩ = some (.slice A0 l0.length c0) := (blk_cell BK.out 1).trans rfl; clear hb hbox hg))
  by_cases c1 : L < 0
  · have HE := Aside0.mk (show (0, 5) = (rn, re) by rw [← HR.out, check, if_pos (.inl c1)])
    injection HE.out with h1 h2
    subst h1 h2
    go_wp2
    go_ret2
    exact ⟨rfl, HB1.out⟩
  · by_cases c2 : L > 16
    · have HE := Aside0.mk (show (0, 5) = (rn, re) by rw [← HR.out, check, if_pos (.inr c2)])
      injection HE.out with h1 h2
      subst h1 h2
      go_wp2
      go_ret2
      exact ⟨rfl, HB1.out⟩
    · by_cases c3 : (l0.length : Int) > 4096
      · have HE := Aside0.mk (show (4096, 4) = (rn, re) by rw [← HR.out, check, if_neg (by omega), if_pos c3])
        injection HE.out with h1 h2
        subst h1 h2
        go_wp2
        go_ret2
        exact ⟨rfl, HB1.out⟩
      · have HE := Aside0.mk (show checkFrom L (-1) 0 l0 = (rn, re) by rw [← HR.out, check, if_neg (by omega), if_neg c3])
        go_wp2
        go_loopw [4, 5] (fun la i wr => ∃ (k : Nat) (last : Int), k ≤ l0.length ∧ la = .int .i64 last ∧ i = .int .i64 k ∧ Aside0 (checkFrom L last k (l0.drop k) = (rn, re)) ∧ Aside0 (wr.heap[gb]? = some (.cells #[.int .i64 L, .slice A0 l0.length c0] 51 (0, 0))) ∧ Aside0 (Below w.heap.size w wr)) (fun _ i _ => l0.length - (intOf i).toNat)
        case atStart => exact ⟨0, -1, Nat.zero_le _, rfl, rfl, HE, BK, HB1⟩
        case round =>
          obtain ⟨k, last, hk, rfl, rfl, HF, BKr, HBr⟩ := hrel
          clear hc0 hc1
          have hc0 : wr.cell? ⟨gb, 0, none⟩ = some (.int .i64 L) := (blk_cell BKr.out 0).trans rfl
          have hc1 : wr.cell? ⟨gb, 1, none⟩ = some (.slice A0 l0.length c0) := (blk_cell BKr.out 1).trans rfl
          by_cases hlt : k < l0.length
          · obtain ⟨ad, e, h24, hx⟩ := ent_at (Kd.C_below HC.out HBr.out) k hlt
            subst e
            have HF2 := Aside0.mk ((checkFrom_at L last k l0 k hlt).symm.trans HF.out)
            have hwx := HW.out _ (List.getElem_mem hlt)
            obtain ⟨x, hxk⟩ : ∃ x, l0[k] = x := ⟨_, rfl⟩
            rw [hxk] at h24 hx hwx HF2
            have HX := Aside0.mk hx
            have HXK := Aside0.mk hxk
            clear hx hxk HF
            rw [ent_same L last x h24 c1] at HF2
            have hx0 : wr.cell? (ad.add (k * 28)) = some (.int .i64 x.ad) := HX.out 0 _ rfl
            go_wp2_with fail
            refine (provisoref06_after.calls 1 x.ad last _ _ (after_f _ _)).mono ?_
            rintro e7 w7 ⟨rfl, m7, rfl⟩
            obtain ⟨W7, hW7⟩ : ∃ W7, wr.drewN m7 = W7 := ⟨_, rfl⟩
            rw [hW7]
            clear hc0 hc1 hx0
            have BK7 := Aside0.mk (show W7.heap[gb]? = some (.cells #[.int .i64 L, .slice (some ad) l0.length c0] 51 (0, 0)) by rw [← hW7]; exact blk_drewN BKr.out _)
            have HB7 := Aside0.mk (show Below w.heap.size w W7 by rw [← hW7]; exact pw_below_drewN HBr.out _)
            have HX7 := Aside0.mk (show ∀ j v, x.cells[j]? = some v → W7.cell? ((ad.add (k * 28)).add j) = some v by rw [← hW7]; simpa using HX.out)
            clear hW7
            have hc0 : W7.cell? ⟨gb, 0, none⟩ = some (.int .i64 L) := (blk_cell BK7.out 0).trans rfl
            have hc1 : W7.cell? ⟨gb, 1, none⟩ = some (.slice (some ad) l0.length c0) := (blk_cell BK7.out 1).trans rfl
            obtain ⟨er, her⟩ : ∃ er, risesErr last x.ad = er := ⟨_, rfl⟩
            rw [her] at HF2 ⊢
            by_cases c4 : er = 0
            · subst c4
              have HF4 := Aside0.mk (show (if bodyErr L x ≠ 0 then ((k : Int), bodyErr L x) else checkFrom L x.ad (k + 1) (l0.drop (k + 1))) = (rn, re) from by have h := HF2.out; simpa using h)
              clear HF2 her
              go_wp2_with fail
              refine start_ (n := 9) (S := fun w' => w'.cell? ⟨gb, 0, none⟩ = some (.int .i64 L) ∧ w'.cell? ⟨gb, 1, none⟩ = some (.slice (some ad) l0.length c0) ∧ ∀ j v, x.cells[j]? = some v → w'.cell? ((ad.add (k * 28)).add j) = some v) (ds := []) #[false, false, false, false, false, false, false, false, false] (by kernel_rfl) rfl rfl ⟨by simpa using hc0, by simpa using hc1, by simpa using HX7.out⟩ (fun hHeld => ?_)
              have BKw := Aside0.mk (show W7.drew.heap[gb]? = some (.cells #[.int .i64 L, .slice (some ad) l0.length c0] 51 (0, 0)) from BK7.out)
              have HBw := Aside0.mk (show Below w.heap.size w W7.drew from below_drew1 HB7.out)
              clear hc0 hc1 HX7 BK7 HB7
              generalize W7.drew = w12 at BKw HBw hHeld ⊢
              refine take_ (i := 0) (N := some 36) (v := ?_) (a' := ?_) #[true, false, false, false, false, false, false, false, false] rfl rfl (by kernel_rfl) (fun _ _ _ h => h) (Or.inl ⟨by rfl, ?_⟩) hHeld ?_ ?_
              rotate_left
              · rintro w' ⟨s0, s1, s2⟩
                go_simp
                with_reducible rfl
              rotate_left
              · simp only [Act.put, List.setIfInBounds_toArray, List.set_cons_zero, List.set_cons_succ, i64_w, i32_w]
                rfl
              refine take_ (i := 1) (N := some 37) (v := ?_) (a' := ?_) #[true, true, false, false, false, false, false, false, false] rfl rfl (by kernel_rfl) (fun _ _ _ h => h) (Or.inl ⟨by rfl, ?_⟩) hHeld ?_ ?_
              rotate_left
              · rintro w' ⟨s0, s1, s2⟩
                go_simp
                with_reducible rfl
              rotate_left
              · simp only [Act.put, List.setIfInBounds_toArray, List.set_cons_zero, List.set_cons_succ, i64_w, i32_w]
                rfl
              refine take_ (i := 2) (N := some 38) (v := ?_) (a' := ?_) #[true, true, true, false, false, false, false, false, false] rfl rfl (by kernel_rfl) (fun _ _ _ h => h) (Or.inl ⟨by rfl, ?_⟩) hHeld ?_ ?_
              rotate_left
              · rintro w' ⟨s0, s1, s2⟩
                go_simp
                with_reducible rfl
              rotate_left
              · simp only [Act.put, List.setIfInBounds_toArray, List.set_cons_zero, List.set_cons_succ, i64_w, i32_w]
                rfl
              refine take_ (i := 3) (N := some 39) (v := ?_) (a' := ?_) #[true, true, true, true, false, false, false, false, false] rfl rfl (by kernel_rfl) (fun _ _ _ h => h) (Or.inl ⟨by rfl, ?_⟩) hHeld ?_ ?_
              rotate_left
              · rintro w' ⟨s0, s1, s2⟩
                go_simp
                with_reducible rfl
              rotate_left
              · simp only [Act.put, List.setIfInBounds_toArray, List.set_cons_zero, List.set_cons_succ, i64_w, i32_w]
                rfl
              refine take_ (i := 4) (N := some 40) (v := ?_) (a' := ?_) #[true, true, true, true, true, false, false, false, false] rfl rfl (by kernel_rfl) (fun _ _ _ h => h) (Or.inl ⟨by rfl, ?_⟩) hHeld ?_ ?_
              rotate_left
              · rintro w' ⟨s0, s1, s2⟩
                go_simp
                with_reducible rfl
              rotate_left
              · simp only [Act.put, List.setIfInBounds_toArray, List.set_cons_zero, List.set_cons_succ, i64_w, i32_w]
                rfl
              refine take_ (i := 5) (N := some 41) (v := ?_) (a' := ?_) #[true, true, true, true, true, true, false, false, false] rfl rfl (by kernel_rfl) (fun _ _ _ h => h) (Or.inl ⟨by rfl, ?_⟩) hHeld ?_ ?_
              rotate_left
              · rintro w' ⟨s0, s1, s2⟩
                go_simp
                with_reducible rfl
              rotate_left
              · simp only [Act.put, List.setIfInBounds_toArray, List.set_cons_zero, List.set_cons_succ, i64_w, i32_w]
                rfl
              refine take_ (i := 6) (N := some 42) (v := .agg x.cells.toArray) (a' := ?_) #[true, true, true, true, true, true, true, false, false] rfl rfl (by kernel_rfl) (fun _ _ _ h => h) (Or.inl ⟨by rfl, fun w' hS => exec_load (P := Try.prog) (ty := 99) (x := .tmp 41) rfl (show (Instr.loadAt 99 (.pointer (some (ad.add (k * 28))))).run Try.prog w' = _ from load_run hS.2.2 Try.underlying99 rfl (by rw [cells_len x h24]; exact size99))⟩) hHeld ?_ ?_
              rotate_left
              · simp only [Act.put, List.setIfInBounds_toArray, List.set_cons_zero, List.set_cons_succ, i64_w, i32_w]
                rfl
              refine one_ (i := 7) (N := some 43) #[true, true, true, true, true, true, true, true, false] rfl rfl (by kernel_rfl) (by decide) (fun K hK => ?_)
              refine goes_ Try.func73 (by kernel_rfl) rfl #[.int .i64 L, .agg x.cells.toArray] (by rfl) rfl rfl (by (try simp only [List.map_toArray, List.map_cons, List.map_nil]); first | done | rfl) ?_
              refine (body_calls L x _ h24 c1 c2 hwx).mono ?_
              rintro e w13 ⟨rfl, hb⟩
              refine ⟨_, rfl, ?_⟩
              have BK13 := Aside0.mk (blk_below BKw.out hb)
              have HB13 := Aside0.mk (below_step HBw.out hb)
              clear hb hHeld
              obtain ⟨ad2, e2, _, hx2⟩ := ent_at (Kd.C_below HC.out HB13.out) k hlt
              cases e2
              rw [HXK.out] at hx2
              refine hK.out _ _ ⟨(blk_cell BK13.out 0).trans rfl, (blk_cell BK13.out 1).trans rfl, hx2⟩ (fun hHeld => ?_)
              clear hK K
              refine norm_ (a' := ?_) ?_ ?_
              rotate_left
              · show Act.put _ (some 43) _ = _
                simp only [Act.put, List.setIfInBounds_toArray, List.set_cons_zero, List.set_cons_succ, i64_w, i32_w]
                rfl
              refine take_ (i := 8) (N := some 6) (v := ?_) (a' := ?_) #[true, true, true, true, true, true, true, true, true] rfl rfl (by kernel_rfl) (fun _ _ _ h => h) (Or.inl ⟨by rfl, ?_⟩) hHeld ?_ ?_
              rotate_left
              · rintro w' ⟨s0, s1, s2⟩
                go_simp
                with_reducible rfl
              rotate_left
              · simp only [Act.put, List.setIfInBounds_toArray, List.set_cons_zero, List.set_cons_succ, i64_w, i32_w]
                rfl
              refine done_ (by kernel_rfl) ?_
              have hc1 : w13.cell? ⟨gb, 1, none⟩ = some (.slice (some ad) l0.length c0) := hHeld.2.1
              have hx0 : w13.cell? (ad.add (k * 28)) = some (.int .i64 x.ad) := hx2 0 _ rfl
              clear hx2 hHeld
              obtain ⟨ef, hef⟩ : ∃ ef, bodyErr L x = ef := ⟨_, rfl⟩
              rw [hef] at HF4 ⊢
              clear hef
              by_cases c5 : ef = 0
              · subst c5
                have HF3 := Aside0.mk (show checkFrom L x.ad ((k + 1 : Nat) : Int) (l0.drop (k + 1)) = (rn, re) by have h := HF4.out; rw [if_neg (by decide)] at h; exact h)
                go_wp2
                go_roundw
                case rel => exact ⟨k + 1, x.ad, by omega, rfl, by go_num, HF3, BK13, HB13⟩
                case measure => simp [intOf]; omega
              · have HF3 := Aside0.mk (show ((k : Int), ef) = (rn, re) by have h := HF4.out; rw [if_pos c5] at h; exact h)
                injection HF3.out with h1 h2
                subst h1 h2
                have c5b : (ef != 0) = true := by simpa using c5
                clear c5
                go_wp2
                go_ret2
                exact ⟨rfl, HB13.out⟩
            · have HF3 := Aside0.mk (show ((k : Int), er) = (rn, re) by have h := HF2.out; rw [if_pos (c := er ≠ 0) c4, if_pos c4] at h; exact h)
              injection HF3.out with h1 h2
              subst h1 h2
              have c4b : (er != 0) = true := by simpa using c4
              have c4c : (er == 0) = false := by simpa using c4
              clear c4 her
              go_wp2
              go_ret2
              exact ⟨rfl, HB7.out⟩
          · obtain rfl : k = l0.length := by omega
            have HF2 := Aside0.mk (show (0, 0) = (rn, re) by rw [← HF.out, List.drop_length]; rfl)
            injection HF2.out with h1 h2
            subst h1 h2
            clear hlt
            go_wp2
            go_ret2
            exact ⟨rfl, HBr.out⟩
end Go.Proofs.Ytblgcodkbapccaa.CertWalk
