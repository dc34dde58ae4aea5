/- PROVED: what provisoref11.sameExprs, sameStmts answer. Conditions: the sizes bound the depth. -/
import Derived.Test.YtblgcodkbapccaaSamesClo
namespace Go.Proofs.Ytblgcodkbapccaa.SamesWalk
open Go.RowKit Go.Proofs.Ytblgcodkbapccaa.PParseSames Go.Proofs.YtblgcodkbapccaaW.PrintWords Go.Proofs.YtblgcodkbapccaaW.PrintLast Go.Proofs.YtblgcodkbapccaaW.PrintMore
attribute [local go_sem] max2_int min2_int max_two min_two max_three min_three max_four min_four
set_option linter.unusedVariables false
set_option linter.unusedSimpArgs false

set_option maxHeartbeats 8000000 in
set_option maxRecDepth 100000 in
theorem wrap83 (n : Nat) (hcl : ∀ (x y : S111) (cs ds : List Value) (W : World), SizeOf.sizeOf x ≤ n → k111.K W x cs → k111.K W y ds → Calls Try.prog 89 #[.agg cs.toArray, .agg ds.toArray] W fun e W' => e = .returned (.bool (sameE n x y)) ∧ Below W.heap.size W W') : SameL111 83 n := by
  intro A0 c0 l0 A1 c1 l1 w hr0 hr1 hs
  have HB := Aside0.mk (Below.refl w.heap.size w)
  have HC := Aside0.mk hr0
  have HD := Aside0.mk hr1
  have HCL := Aside0.mk (fun x hx y cs ds W => hcl x y cs ds W (hs x hx))
  have hlen : l0.length ≤ 9223372036854775807 := hr0.2.1
  clear hr0 hr1 hcl hs
  obtain ⟨r, hr⟩ : ∃ r, eqf (sameE n) l0 l1 = r := ⟨_, rfl⟩
  rw [hr]
  have HR := Aside0.mk hr
  clear hr
  by_cases c1 : (l0.length : Int) = (l1.length : Int)
  · have hl : l0.length = l1.length := by omega
    have HL := Aside0.mk hl
    have c1b : ((l0.length : Int) != (l1.length : Int)) = false := bne_eq_false_iff_eq.mpr c1
    have c1c : ((l0.length : Int) == (l1.length : Int)) = true := beq_iff_eq.mpr c1
    clear c1 hl
    have HE := Aside0.mk (show eqf (sameE n) (l0.drop 0) (l1.drop 0) = r from HR.out)
    clear HR
    go_enter Try.func83, Try.ntmps83
    go_wp2
    go_loopw [13] (fun i wr => ∃ k : Nat, k ≤ l0.length ∧ i = .int .i64 k ∧ Aside0 (eqf (sameE n) (l0.drop k) (l1.drop k) = r) ∧ Aside0 (Below w.heap.size w wr)) (fun i _ => l0.length - (intOf i).toNat)
    case atStart => exact ⟨0, Nat.zero_le _, rfl, HE, HB⟩
    case round =>
      clear HE HB
      obtain ⟨k, hk, rfl, HE, HB⟩ := hrel
      by_cases hlt : k < l0.length
      · have hlt1 : k < l1.length := by have := HL.out; omega
        obtain ⟨ad, cs, e, hK, hx⟩ := elem_at (Kd.C_below HC.out HB.out) k hlt
        subst e
        obtain ⟨ad', ds, e, hK', hx'⟩ := elem_at (Kd.C_below HD.out HB.out) k hlt1
        subst e
        have HE2 := Aside0.mk ((eqf_at (sameE n) l0 l1 k hlt hlt1).symm.trans HE.out)
        have HN := Aside0.mk (show cs.length = 8 ∧ ds.length = 8 from ⟨k111.K_len hK, k111.K_len hK'⟩)
        have HX := Aside0.mk (show ∀ j v, cs[j]? = some v → wr.cell? ((ad.add (k * 8)).add j) = some v from hx)
        have HX' := Aside0.mk (show ∀ j v, ds[j]? = some v → wr.cell? ((ad'.add (k * 8)).add j) = some v from hx')
        have HKK := Aside0.mk (And.intro hK hK')
        have HCALL := Aside0.mk (HCL.out l0[k] (List.getElem_mem hlt) l1[k] cs ds)
        obtain ⟨x, hxe⟩ : ∃ x, l0[k] = x := ⟨_, rfl⟩
        obtain ⟨y, hye⟩ : ∃ y, l1[k] = y := ⟨_, rfl⟩
        rw [hxe, hye] at HKK HCALL HE2
        clear hx hx' hK hK' hxe hye HE
        go_wp2_with fail
        refine start_ (n := 10) (S := fun w' => Below wr.heap.size wr w') (ds := []) #[false, false, false, false, false, false, false, false, false, false] (by kernel_rfl) rfl rfl (below_drew1 (Below.refl wr.heap.size wr)) (fun hHeld => ?_)
        generalize wr.drew = w5 at hHeld ⊢
        refine pure_ (i := 0) (N := some 16) (v := ?_) (a' := ?_) #[true, false, false, false, false, false, false, false, false, false] rfl rfl (by kernel_rfl) (fun _ _ _ h => h) (Or.inl ⟨by rfl, ?_⟩) ?_ ?_
        rotate_left
        · intro w'
          go_simp
          with_reducible rfl
        rotate_left
        · simp only [Act.put, List.setIfInBounds_toArray, List.set_cons_zero, List.set_cons_succ, i64_w, i32_w]
          rfl
        refine pure_ (i := 1) (N := some 17) (v := ?_) (a' := ?_) #[true, true, false, false, false, false, false, false, false, false] rfl rfl (by kernel_rfl) (fun _ _ _ h => h) (Or.inl ⟨by rfl, ?_⟩) ?_ ?_
        rotate_left
        · intro w'
          go_simp
          with_reducible rfl
        rotate_left
        · simp only [Act.put, List.setIfInBounds_toArray, List.set_cons_zero, List.set_cons_succ, i64_w, i32_w]
          rfl
        refine pure_ (i := 2) (N := some 18) (v := ?_) (a' := ?_) #[true, true, true, false, false, false, false, false, false, false] rfl rfl (by kernel_rfl) (fun _ _ _ h => h) (Or.inl ⟨by rfl, ?_⟩) ?_ ?_
        rotate_left
        · intro w'
          go_simp
          with_reducible rfl
        rotate_left
        · simp only [Act.put, List.setIfInBounds_toArray, List.set_cons_zero, List.set_cons_succ, i64_w, i32_w]
          rfl
        refine take_ (i := 3) (N := some 19) (v := .agg cs.toArray) (a' := ?_) #[true, true, true, true, false, false, false, false, false, false] rfl rfl (by kernel_rfl) (fun _ _ _ h => h) (Or.inl ⟨by rfl, fun w' hS => exec_load (P := Try.prog) (ty := 111) (x := .tmp 18) rfl (show (Instr.loadAt 111 (.pointer (some (ad.add (k * 8))))).run Try.prog w' = _ from load_run (row_below hS HX.out) Try.underlying111 rfl size111 HN.out.1)⟩) hHeld ?_ ?_
        rotate_left
        · simp only [Act.put, List.setIfInBounds_toArray, List.set_cons_zero, List.set_cons_succ, i64_w, i32_w]
          rfl
        refine pure_ (i := 4) (N := some 20) (v := ?_) (a' := ?_) #[true, true, true, true, true, false, false, false, false, false] rfl rfl (by kernel_rfl) (fun _ _ _ h => h) (Or.inl ⟨by rfl, ?_⟩) ?_ ?_
        rotate_left
        · intro w'
          go_simp
          with_reducible rfl
        rotate_left
        · simp only [Act.put, List.setIfInBounds_toArray, List.set_cons_zero, List.set_cons_succ, i64_w, i32_w]
          rfl
        refine pure_ (i := 5) (N := some 21) (v := ?_) (a' := ?_) #[true, true, true, true, true, true, false, false, false, false] rfl rfl (by kernel_rfl) (fun _ _ _ h => h) (Or.inl ⟨by rfl, ?_⟩) ?_ ?_
        rotate_left
        · intro w'
          go_simp
          with_reducible rfl
        rotate_left
        · simp only [Act.put, List.setIfInBounds_toArray, List.set_cons_zero, List.set_cons_succ, i64_w, i32_w]
          rfl
        refine pure_ (i := 6) (N := some 22) (v := ?_) (a' := ?_) #[true, true, true, true, true, true, true, false, false, false] rfl rfl (by kernel_rfl) (fun _ _ _ h => h) (Or.inl ⟨by rfl, ?_⟩) ?_ ?_
        rotate_left
        · intro w'
          go_simp
          with_reducible rfl
        rotate_left
        · simp only [Act.put, List.setIfInBounds_toArray, List.set_cons_zero, List.set_cons_succ, i64_w, i32_w]
          rfl
        refine take_ (i := 7) (N := some 23) (v := .agg ds.toArray) (a' := ?_) #[true, true, true, true, true, true, true, true, false, false] rfl rfl (by kernel_rfl) (fun _ _ _ h => h) (Or.inl ⟨by rfl, fun w' hS => exec_load (P := Try.prog) (ty := 111) (x := .tmp 22) rfl (show (Instr.loadAt 111 (.pointer (some (ad'.add (k * 8))))).run Try.prog w' = _ from load_run (row_below hS HX'.out) Try.underlying111 rfl size111 HN.out.2)⟩) hHeld ?_ ?_
        rotate_left
        · simp only [Act.put, List.setIfInBounds_toArray, List.set_cons_zero, List.set_cons_succ, i64_w, i32_w]
          rfl
        refine one_ (i := 8) (N := some 24) #[true, true, true, true, true, true, true, true, true, false] rfl rfl (by kernel_rfl) (by decide) (fun K hK => ?_)
        refine goes_ Try.func89 (by kernel_rfl) rfl #[.agg cs.toArray, .agg ds.toArray] (by rfl) rfl rfl (by (try simp only [List.map_toArray, List.map_cons, List.map_nil]); first | done | rfl) ?_
        refine Calls.mono (HCALL.out _ (k111.K_below hHeld HKK.out.1) (k111.K_below hHeld HKK.out.2)) ?_
        rintro e w8 ⟨rfl, hb⟩
        refine ⟨_, rfl, ?_⟩
        have HS := Aside0.mk (below_step hHeld hb)
        refine hK.out _ _ HS.out (fun hHeld => ?_)
        clear hK K hb
        refine norm_ (a' := ?_) ?_ ?_
        rotate_left
        · show Act.put _ (some 24) _ = _
          simp only [Act.put, List.setIfInBounds_toArray, List.set_cons_zero, List.set_cons_succ, i64_w, i32_w]
          rfl
        refine pure_ (i := 9) (N := some 25) (v := ?_) (a' := ?_) #[true, true, true, true, true, true, true, true, true, true] rfl rfl (by kernel_rfl) (fun _ _ _ h => h) (Or.inl ⟨by rfl, ?_⟩) ?_ ?_
        rotate_left
        · intro w'
          go_simp
          with_reducible rfl
        rotate_left
        · simp only [Act.put, List.setIfInBounds_toArray, List.set_cons_zero, List.set_cons_succ, i64_w, i32_w]
          rfl
        refine done_ (by kernel_rfl) ?_
        have HBW := Aside0.mk (below_step HB.out HS.out)
        obtain ⟨b, hbe⟩ : ∃ b, sameE n x y = b := ⟨_, rfl⟩
        rw [hbe] at HE2 ⊢
        clear hbe HCALL hHeld
        cases b with
        | true =>
          have HE3 := Aside0.mk (show eqf (sameE n) (l0.drop (k + 1)) (l1.drop (k + 1)) = r by have h := HE2.out; simpa using h)
          clear HE2
          go_wp2
          go_roundw
          case rel => exact ⟨k + 1, by omega, by go_num, HE3, HBW⟩
          case measure => simp [intOf]; omega
        | false =>
          have HE3 := Aside0.mk (show false = r by have h := HE2.out; simpa using h)
          obtain rfl := HE3.out
          clear HE2
          go_wp2
          go_ret
          exact ⟨rfl, HBW.out⟩
      · have hke : k = l0.length := by omega
        subst hke
        have HE3 := Aside0.mk (show true = r by rw [← HE.out, eqf_end (sameE n) l0 l1 HL.out])
        obtain rfl := HE3.out
        clear HE hlt hk
        go_wp2
        go_ret
        exact ⟨rfl, HB.out⟩
  · have c1b : ((l0.length : Int) != (l1.length : Int)) = true := bne_iff_ne.mpr c1
    have c1c : ((l0.length : Int) == (l1.length : Int)) = false := beq_eq_false_iff_ne.mpr c1
    have HE3 := Aside0.mk (show false = r by rw [← HR.out, eqf_len (sameE n) l0 l1 (by omega)])
    obtain rfl := HE3.out
    clear HR
    go_enter Try.func83, Try.ntmps83
    go_wp2
    go_ret
    exact ⟨rfl, HB.out⟩
theorem same83 : ∀ n, SameL111 83 n
  | 0 => wrap83 0 (fun x _ _ _ _ hx _ _ => absurd hx (pos111 x))
  | n + 1 => wrap83 (n + 1) (fun x y cs ds W hx K K' => clo89_calls n (same83 n) x y cs ds W K K' hx)

end Go.Proofs.Ytblgcodkbapccaa.SamesWalk
