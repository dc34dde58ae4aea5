/- PROVED: what provisoref11.sameParams answers; slices.Equal at Param tells that equal lists are equal. Conditions: none beyond the rows' own. -/
import Derived.Test.YtblgcodkbapccaaSamesBase
import Derived.Test.YtblgcodkbapccaaPParseSamesx1
namespace Go.Proofs.Ytblgcodkbapccaa.SamesWalk
open Go.RowKit Go.Proofs.Ytblgcodkbapccaa.PParseSames Go.Proofs.YtblgcodkbapccaaW.PrintWords Go.Proofs.YtblgcodkbapccaaW.PrintLast Go.Proofs.YtblgcodkbapccaaW.PrintMore
attribute [local go_sem] max2_int min2_int max_two min_two max_three min_three max_four min_four
attribute [local go_sem high] eqA80
set_option linter.unusedVariables false
set_option linter.unusedSimpArgs false
theorem param_at {w : World} {A : Option Addr} {n : Nat} {l : List S80} (h : Kd.C k80 w A n l) (k : Nat) (hk : k < l.length) : ∃ ad, A = some ad ∧ w.cell? ⟨(ad.add (k * 4)).block, (ad.add (k * 4)).off + 1, none⟩ = some (.string l[k].f1) ∧ w.cell? ⟨(ad.add (k * 4)).block, (ad.add (k * 4)).off + 2, none⟩ = some (.string l[k].f2) := by
  obtain ⟨ad, e, hc⟩ := h.2.2 (by rw [← h.1]; omega)
  obtain ⟨c, hl, hR, hcell⟩ := hc k _ (List.getElem?_eq_getElem hk)
  have hcs := k80_open hR
  subst hcs
  have h4 : ∀ j u, [Value.int .i64 l[k].f0, .string l[k].f1, .string l[k].f2, .int .u8 l[k].f3][j]? = some u → w.cell? (ad.add (k * 4 + j)) = some u := hcell
  exact ⟨ad, e, by rw [← add_field _ _ 1 (by omega)]; exact h4 1 _ rfl, by rw [← add_field _ _ 2 (by omega)]; exact h4 2 _ rfl⟩
set_option maxHeartbeats 8000000 in
set_option maxRecDepth 100000 in
theorem same61 : SameL80 61 := by
  intro A0 c0 l0 A1 c1 l1 w hr0 hr1
  have HC := Aside0.mk hr0
  have HD := Aside0.mk hr1
  have hlen : l0.length ≤ 9223372036854775807 := hr0.2.1
  clear hr0 hr1
  obtain ⟨r, hr⟩ : ∃ r, eqf sameP l0 l1 = r := ⟨_, rfl⟩
  rw [hr]
  have HR := Aside0.mk hr
  clear hr
  by_cases c1 : (l0.length : Int) = (l1.length : Int)
  · have hl : l0.length = l1.length := by omega
    have HL := Aside0.mk hl
    have c1b : ((l0.length : Int) != (l1.length : Int)) = false := bne_eq_false_iff_eq.mpr c1
    have c1c : ((l0.length : Int) == (l1.length : Int)) = true := beq_iff_eq.mpr c1
    clear c1 hl
    have HE := Aside0.mk (show eqf sameP (l0.drop 0) (l1.drop 0) = r from HR.out)
    clear HR
    go_enter Try.func61, Try.ntmps61
    go_wp2
    repeat (go_quiet (fail); try go_wp2)
    go_loopw [13] (fun i wr => ∃ k : Nat, k ≤ l0.length ∧ i = .int .i64 k ∧ Aside0 (eqf sameP (l0.drop k) (l1.drop k) = r) ∧ Drawn0 w wr) (fun i _ => l0.length - (intOf i).toNat)
    case atStart => exact ⟨0, Nat.zero_le _, rfl, HE, by repeat (first | exact Drawn0.refl _ | apply Drawn0.step)⟩
    case round =>
      clear HE
      obtain ⟨k, hk, rfl, HE, ⟨m1, rfl⟩⟩ := hrel
      by_cases hlt : k < l0.length
      · have hlt1 : k < l1.length := by have := HL.out; omega
        obtain ⟨ad, e, hx1, hx2⟩ := param_at HC.out k hlt
        subst e
        obtain ⟨ad', e, hy1, hy2⟩ := param_at HD.out k hlt1
        subst e
        have HE2 := Aside0.mk ((eqf_at sameP l0 l1 k hlt hlt1).symm.trans HE.out)
        obtain ⟨x, hxe⟩ : ∃ x, l0[k] = x := ⟨_, rfl⟩
        obtain ⟨y, hye⟩ : ∃ y, l1[k] = y := ⟨_, rfl⟩
        rw [hxe] at hx1 hx2 HE2
        rw [hye] at hy1 hy2 HE2
        clear hxe hye HE
        by_cases b0 : (x.f1.toList == y.f1.toList) = true
        · have n0 : (x.f1.toList != y.f1.toList) = false := by simp only [bne, b0, Bool.not_true]
          by_cases b1 : (x.f2.toList == y.f2.toList) = true
          · have n1 : (x.f2.toList != y.f2.toList) = false := by simp only [bne, b1, Bool.not_true]
            have HE3 := Aside0.mk (show eqf sameP (l0.drop (k + 1)) (l1.drop (k + 1)) = r by have h := HE2.out; rw [show sameP x y = true by simp [sameP, b0, b1], Bool.true_and] at h; exact h)
            clear HE2
            go_wp2
            repeat (go_quiet (fail); try go_wp2)
            go_roundw
            case rel => exact ⟨k + 1, by omega, by go_num, HE3, by repeat (first | exact Drawn0.refl _ | apply Drawn0.step)⟩
            case measure => simp [intOf]; omega
          · replace b1 : (x.f2.toList == y.f2.toList) = false := by simpa using b1
            have n1 : (x.f2.toList != y.f2.toList) = true := by simp only [bne, b1, Bool.not_false]
            have HE3 := Aside0.mk (show false = r by have h := HE2.out; rw [show sameP x y = false by simp [sameP, b0, b1], Bool.false_and] at h; exact h)
            obtain rfl := HE3.out
            clear HE2
            go_wp2
            repeat (go_quiet (fail); try go_wp2)
            go_ret
            exact ⟨rfl, Drawn0.below (by repeat (first | exact Drawn0.refl _ | apply Drawn0.step))⟩
        · replace b0 : (x.f1.toList == y.f1.toList) = false := by simpa using b0
          have n0 : (x.f1.toList != y.f1.toList) = true := by simp only [bne, b0, Bool.not_false]
          have HE3 := Aside0.mk (show false = r by have h := HE2.out; rw [show sameP x y = false by simp [sameP, b0], Bool.false_and] at h; exact h)
          obtain rfl := HE3.out
          clear HE2
          go_wp2
          repeat (go_quiet (fail); try go_wp2)
          go_ret
          exact ⟨rfl, Drawn0.below (by repeat (first | exact Drawn0.refl _ | apply Drawn0.step))⟩
      · have hke : k = l0.length := by omega
        subst hke
        have HE3 := Aside0.mk (show true = r by rw [← HE.out, eqf_end sameP l0 l1 HL.out])
        obtain rfl := HE3.out
        clear HE hlt hk
        go_wp2
        go_ret
        exact ⟨rfl, Drawn0.below (by repeat (first | exact Drawn0.refl _ | apply Drawn0.step))⟩
  · have c1b : ((l0.length : Int) != (l1.length : Int)) = true := bne_iff_ne.mpr c1
    have c1c : ((l0.length : Int) == (l1.length : Int)) = false := beq_eq_false_iff_ne.mpr c1
    have HE3 := Aside0.mk (show false = r by rw [← HR.out, eqf_len sameP l0 l1 (by omega)])
    obtain rfl := HE3.out
    clear HR
    go_enter Try.func61, Try.ntmps61
    go_wp2
    repeat (go_quiet (fail); try go_wp2)
    go_ret
    exact ⟨rfl, Drawn0.below (by repeat (first | exact Drawn0.refl _ | apply Drawn0.step))⟩

theorem quiet_load {P : Program} {ops : Array Oper} {C : World → Prop} {Q : Act → Prop} {rest : List Oper} {o : Oper} {a : Act} (hw : Region.wanted o (yielded ops a.tmps) = true) (ty : TypeId) (x : Operand) (v : Value) (ho : o.op = .load ty x) (hx : ∀ w, C w → (Instr.loadAt ty (a.eval x)).run P w = .ok v w) (h : wpQuiet P ops C Q rest (a.put o.dst v)) : wpQuiet P ops C Q (o :: rest) a :=
  wpQuiet_step fun K hK => by
   rw [if_pos hw]
   exact ⟨v, fun w hw => by
    have hr : (execOp a.eval o).run P w = .ok (.value v) w := by
      unfold execOp
      simp only [ho, Sem.run_bind, hx w hw, Result.andThen_ok, Sem.run_pure]
    unfold Oper.quietAt
    rw [hr]
    exact ⟨rfl, rfl⟩, hK _ h⟩
set_option maxHeartbeats 8000000 in
set_option maxRecDepth 100000 in
theorem equal63 (A0 : Option Addr) (c0 : Nat) (A1 : Option Addr) (c1 : Nat) (l0 : List S80) (w : World) (hr0 : Kd.C k80 w A0 l0.length l0) (hr1 : Kd.C k80 w A1 l0.length l0) :
    Calls Try.prog 63 #[.slice A0 l0.length c0, .slice A1 l0.length c1] w fun e w' => e = .returned (.bool true) ∧ Below w.heap.size w w' := by
  have HC := Aside0.mk hr0
  have HD := Aside0.mk hr1
  have hlen : l0.length ≤ 9223372036854775807 := hr0.2.1
  clear hr0 hr1
  go_enter Try.func63, Try.ntmps63
  go_wp2
  repeat (go_quiet (fail); try go_wp2)
  go_loopw [13] (fun i wr => ∃ k : Nat, k ≤ l0.length ∧ i = .int .i64 k ∧ Drawn0 w wr) (fun i _ => l0.length - (intOf i).toNat)
  case atStart => exact ⟨0, Nat.zero_le _, rfl, by repeat (first | exact Drawn0.refl _ | apply Drawn0.step)⟩
  case round =>
    obtain ⟨k, hk, rfl, ⟨m1, rfl⟩⟩ := hrel
    by_cases hlt : k < l0.length
    · obtain ⟨ad, cs, e, hK, hx⟩ := elem_at HC.out k hlt
      subst e
      obtain ⟨ad', ds, e, hK', hx'⟩ := elem_at HD.out k hlt
      subst e
      obtain ⟨x, hxe⟩ : ∃ x, l0[k] = x := ⟨_, rfl⟩
      rw [hxe] at hK hK'
      clear hxe
      have e1 := k80_open hK
      have e2 := k80_open hK'
      subst e1 e2
      clear hK hK'
      have HX := Aside0.mk (show ∀ j v, _ → w.cell? ((ad.add (k * 4)).add j) = some v from hx)
      have HX' := Aside0.mk (show ∀ j v, _ → w.cell? ((ad'.add (k * 4)).add j) = some v from hx')
      clear hx hx'
      have hl1 : ∀ n, (Instr.loadAt 80 (.pointer (some (ad.add (k * 4))))).run Try.prog ((w.drewN m1).drewN n) = .ok (.agg #[.int .i64 x.f0, .string x.f1, .string x.f2, .int .u8 x.f3]) ((w.drewN m1).drewN n) := fun n => load_run (n := 4) (fun j v hv => by have := HX.out j v hv; simpa using this) Try.underlying80 rfl size80 rfl
      have hl2 : ∀ n, (Instr.loadAt 80 (.pointer (some (ad'.add (k * 4))))).run Try.prog ((w.drewN m1).drewN n) = .ok (.agg #[.int .i64 x.f0, .string x.f1, .string x.f2, .int .u8 x.f3]) ((w.drewN m1).drewN n) := fun n => load_run (n := 4) (fun j v hv => by have := HX'.out j v hv; simpa using this) Try.underlying80 rfl size80 rfl
      obtain ⟨W, hW⟩ : ∃ W, w.drewN m1 = W := ⟨_, rfl⟩
      have HDR := Aside0.mk (show Drawn0 w W from ⟨m1, hW.symm⟩)
      rw [hW] at hl1 hl2 ⊢
      clear hW
      go_wp2_with fail
      refine wp_region_quiet_lit (by kernel_rfl) (by kernel_rfl) ?_
      quiet_step (fail)
      quiet_step (fail)
      quiet_step (fail)
      refine quiet_load rfl 80 (.tmp 18) (.agg #[.int .i64 x.f0, .string x.f1, .string x.f2, .int .u8 x.f3]) rfl (fun w hw => by obtain ⟨n, rfl⟩ := hw; exact hl1 n) ?_
      (try simp only [Act.put, List.setIfInBounds_toArray, List.set_cons_zero, List.set_cons_succ])
      quiet_step (fail)
      quiet_step (fail)
      quiet_step (fail)
      refine quiet_load rfl 80 (.tmp 22) (.agg #[.int .i64 x.f0, .string x.f1, .string x.f2, .int .u8 x.f3]) rfl (fun w hw => by obtain ⟨n, rfl⟩ := hw; exact hl2 n) ?_
      (try simp only [Act.put, List.setIfInBounds_toArray, List.set_cons_zero, List.set_cons_succ])
      clear hl1 hl2
      quiet_step (fail)
      refine wpQuiet_nil ?_
      intro _ hw'
      obtain ⟨nq, hw''⟩ := hw'
      subst hw''
      obtain ⟨m2, rfl⟩ := HDR.out
      go_wp2
      go_roundw
      case rel => exact ⟨k + 1, by omega, by go_num, by repeat (first | exact Drawn0.refl _ | apply Drawn0.step)⟩
      case measure => simp [intOf]; omega
    · go_wp2
      go_ret
      exact ⟨rfl, Drawn0.below (by repeat (first | exact Drawn0.refl _ | apply Drawn0.step))⟩
end Go.Proofs.Ytblgcodkbapccaa.SamesWalk
