/- PROVED: what provisoref06.body tells of an entry. Conditions: 24 slots; the locals from 0 to 16. -/
import Derived.Test.YtblgcodkbapccaaCertEq
import Derived.Laws.CopyOwn
namespace Go.Proofs.Ytblgcodkbapccaa.CertWalk
open Go.RowKit Go.Proofs.Ytblgcodkbapccaa.PCertChecks Go.Proofs.YtblgcodkbapccaaW.PrintWords Go.Proofs.YtblgcodkbapccaaW.PrintLast Go.Proofs.YtblgcodkbapccaaW.PrintMore
attribute [local go_sem] max2_int min2_int max_two min_two max_three min_three max_four min_four
set_option linter.unusedVariables false
set_option linter.unusedSimpArgs false
attribute [local go_sem high] eqFrame

def z24 : List Int := List.replicate 24 0
theorem z24_len : z24.length = 24 := rfl
theorem info97 : (Try.prog.info? 97).map (fun i => (i.zero, i.size)) = some (some (.agg (frameCells 0 0 z24).toArray), 26) := by kernel_rfl
theorem zero97 (w : World) : (zeroValue 97).run Try.prog w = .ok (.agg (frameCells 0 0 z24).toArray) w := (zero_of_info info97).1 w
theorem isCode_f (t : Int) : provisoref06_IsCode.f t = some (isCode t) := by
  unfold provisoref06_IsCode.f isCode
  by_cases h : t ≤ 5
  · simp [h]
  · by_cases h2 : t ≥ 16
    · simp [h, h2]; omega
    · simp [h, h2]
section
variable {P : Program} {ops : Array Oper} {rest : List Oper} {o : Oper} {a : Act} {Q : Exit → Act → World → Prop}
/-- A whole row is stored into a block. -/
theorem store_event {w0 W : World} (hgd : o.guard = none) {ty : TypeId} {p v : Operand} (ho : o.op = .store ty p v) {g base : Nat} (hx : a.eval p = .pointer (some ⟨g, 0, none⟩)) {c c' : Array Value} (hy : a.eval v = .agg c') {t : TypeId} (hb : W.heap[g]? = some (.cells c t (0, 0)))
    (hi : (P.info? ty).map (·.size) = some c'.size) (hs : c.size = c'.size) (h1 : ∀ u ∈ c'.toList, u.oneCell' = true) (HB : Below base w0 W) (hg : base ≤ g)
    (h : ∀ w1, w1.heap[g]? = some (.cells c' t (0, 0)) → Below base w0 w1 → (∀ k, k ≠ g → w1.heap[k]? = W.heap[k]?) → w1.heap.size = W.heap.size → wpList P ops Q rest (a.put o.dst undef) w1) : wpList P ops Q (o :: rest) a W := by
  refine wpList_plain hgd fun K hK => ?_
  unfold Oper.wp execOp
  simp only [ho, hx, hy, Instr.storeAt, Instr.sureAddr, Sem.run_bind, Sem.run_pure, Result.andThen_ok, run_storeVar_row W g t ty c c' hb hi hs (Array.all_eq_true_iff_forall_mem.2 (fun u hu => h1 u (Array.mem_toList_iff.2 hu)))]
  exact hK _ _ (h _ (setRow_heap W g c c' t _ hb) (below_setRow HB hg c') (fun k hk => setRow_other W g k c' hk) (size_setRow W g c'))
end
theorem any_drop_at (l : List Int) (p : Int → Bool) (n k : Nat) (h : n ≤ k) (hk : k < l.length) (hp : p (rd l (k : Int)) = true) : (l.drop n).any p = true := by
  rw [rd_nat l k hk] at hp
  refine List.any_eq_true.2 ⟨l[k], ?_, hp⟩
  rw [List.mem_drop_iff_getElem]
  exact ⟨k - n, by omega, by congr 1; omega⟩
theorem any_drop_none (l : List Int) (p : Int → Bool) (n : Nat) (h : ∀ j : Nat, n ≤ j → j < l.length → p (rd l (j : Int)) = false) : (l.drop n).any p = false := by
  rw [List.any_eq_false]
  intro x hx
  rw [List.mem_drop_iff_getElem] at hx
  obtain ⟨i, hi, rfl⟩ := hx
  have := h (n + i) (by omega) (by omega)
  rw [rd_nat l _ (by omega)] at this
  rw [this]
  decide
/-- What 'body' tells. -/
def bodyErr (locals : Int) (x : Ent) : Int :=
  if x.dead = true then (if (x.loc == 0 && (x.hgt == 0 && (x.sl == z24))) = true then 0 else 65) else
  if x.loc ≠ locals ∨ x.hgt < 0 ∨ x.hgt > 24 - locals then 65 else
  if ((x.sl.drop (locals + x.hgt).toNat).any (fun t => t != 0)) = true then 65 else
  if (x.sl.any (fun t => !isCode t)) = true then 62 else 0

set_option maxHeartbeats 8000000 in
set_option maxRecDepth 100000 in
theorem body_calls (locals : Int) (x : Ent) (w : World) (hs : x.sl.length = 24) (h0 : 0 ≤ locals) (h1 : locals ≤ 16) (hw : -9223372036854775808 ≤ x.hgt ∧ x.hgt ≤ 9223372036854775807) :
    Calls Try.prog 73 #[.int .i64 locals, .agg x.cells.toArray] w fun e w' => e = .returned (.int .i64 (bodyErr locals x)) ∧ Below w.heap.size w w' := by
  have HB := Aside0.mk (Below.refl w.heap.size w)
  obtain ⟨r, hr⟩ : ∃ r, bodyErr locals x = r := ⟨_, rfl⟩
  rw [hr]
  have HR := Aside0.mk hr
  clear hr
  have hz := zero97
  have hzl := z24_len
  go_enter Try.func73, Try.ntmps73
  go_upto_region 2 with (first | ((with_reducible refine gate_dst (N := 3) rfl ?_); refine box_event ?hg (N := 3) ?hd (cs := x.cells.toArray) (t := 99) ?hr ?_; (case hd => rfl); (case hg => rfl); (case hr => first | (go_simp; done) | (go_simp; rfl)); intro gb hg w3 hbox hb; have BK := Aside0.mk hbox; have HB3 := Aside0.mk (below_step HB.out hb); have HG := Aside0.mk (show w.heap.size ≤ gb by rw [hg]; exact Nat.le_refl _); clear hb hbox hg) | ((with_reducible refine gate_dst (N := 9) rfl ?_); refine wpList_load_mid rfl 97 (.tmp 8) rfl gb 2 rfl (frameCells x.loc x.hgt x.sl) _ (by have hh := World.rangeAt_of_block BK.out 2 26; rw [show (x.cells.toArray.extract 2 (2 + 26)).toList = frameCells x.loc x.hgt x.sl by simp [Ent.cells, List.take_of_length_le, frameCells_len, hs]] at hh; simpa using hh) Try.underlying97 rfl (by rw [frameCells_len, hs]; exact size97) ?_) | ((with_reducible refine gate_dst (N := 5) rfl ?_); refine box_event ?hg (N := 5) ?hd (cs := (frameCells 0 0 z24).toArray) (t := 97) ?hr ?_; (case hd => rfl); (case hg => rfl); (case hr => first | (go_simp; done) | (go_simp; rfl)); intro gc hgc w5 hboxc hb; have BC := Aside0.mk hboxc; have BK5 := Aside0.mk (blk_below BK.out hb); have HGC := Aside0.mk (show w.heap.size ≤ gc by rw [hgc]; exact below_size HB3.out); have HNE := Aside0.mk (show gb ≠ gc by rw [hgc]; exact Nat.ne_of_lt (blk_lt BK.out)); have HB5 := Aside0.mk (below_step HB3.out hb); clear hb hboxc hgc) | (refine store_event (w0 := w) (base := w.heap.size) rfl (ty := 97) (p := .tmp 5) (v := .tmp 9) rfl rfl rfl BC.out (by rw [List.size_toArray, frameCells_len, hs]; exact size97) (by rw [List.size_toArray, List.size_toArray, frameCells_len, frameCells_len, hs]; rfl) (frameCells_one _ _ _) HB5.out HGC.out ?_; intro w6 hbc hb6 hoth hsz; have BC6 := Aside0.mk hbc; have BK6 := Aside0.mk ((hoth gb HNE.out).trans BK5.out); have HB6 := Aside0.mk hb6; clear hbc hb6 hoth hsz))
  (try simp only [Act.put, List.setIfInBounds_toArray, List.set_cons_zero, List.set_cons_succ])
  have hdead : w6.cell? ⟨gb, 1, none⟩ = some (.bool x.dead) := (blk_cell BK6.out 1).trans rfl
  by_cases hd : x.dead = true
  · rw [hd] at hdead
    by_cases he : (x.loc == 0 && (x.hgt == 0 && (x.sl == z24))) = true
    · have HE := Aside0.mk (show r = 0 by rw [← HR.out, bodyErr, if_pos hd, if_pos he])
      clear hd
      go_wp2_with (first | ((with_reducible refine gate_dst (N := 12) rfl ?_); refine wpList_load_row rfl 97 (.tmp 5) rfl gc rfl 97 (frameCells x.loc x.hgt x.sl).toArray (0, 0) _ BC6.out Try.underlying97 rfl (by rw [List.size_toArray, frameCells_len, hs]; exact size97) ?_))
      go_ret
      exact ⟨by rw [HE.out]; rfl, HB6.out⟩
    · have hef := Bool.eq_false_iff.mpr he
      have HE := Aside0.mk (show r = 65 by rw [← HR.out, bodyErr, if_pos hd, if_neg he])
      clear hd he
      go_wp2_with (first | ((with_reducible refine gate_dst (N := 12) rfl ?_); refine wpList_load_row rfl 97 (.tmp 5) rfl gc rfl 97 (frameCells x.loc x.hgt x.sl).toArray (0, 0) _ BC6.out Try.underlying97 rfl (by rw [List.size_toArray, frameCells_len, hs]; exact size97) ?_))
      go_ret
      exact ⟨by rw [HE.out]; rfl, HB6.out⟩
  · replace hd := Bool.eq_false_iff.mpr hd
    rw [hd] at hdead
    have HE := Aside0.mk (show (if x.loc ≠ locals ∨ x.hgt < 0 ∨ x.hgt > 24 - locals then 65 else if ((x.sl.drop (locals + x.hgt).toNat).any (fun t => t != 0)) = true then 65 else if (x.sl.any (fun t => !isCode t)) = true then 62 else 0) = r by have h := HR.out; unfold bodyErr at h; rw [if_neg (c := x.dead = true) (by rw [hd]; decide)] at h; exact h)
    clear hd
    have hc0 : w6.cell? ⟨gc, 0, none⟩ = some (.int .i64 x.loc) := (blk_cell BC6.out 0).trans rfl
    have hc1 : w6.cell? ⟨gc, 1, none⟩ = some (.int .i64 x.hgt) := (blk_cell BC6.out 1).trans rfl
    have R := Aside0.mk (row_of_block BC6.out 2 x.sl (by omega) (fun j y hj => by have := frame_at (loc := x.loc) (hgt := x.hgt) (sl := x.sl) 0 j y (by simpa using hj); simpa using this))
    by_cases c1 : x.loc = locals
    · by_cases c2 : x.hgt < 0
      · have HE2 := Aside0.mk (show r = 65 by rw [← HE.out, if_pos (.inr (.inl c2))])
        go_wp2
        go_ret
        exact ⟨by rw [HE2.out]; rfl, HB6.out⟩
      · by_cases c3 : x.hgt > 24 - locals
        · have HE2 := Aside0.mk (show r = 65 by rw [← HE.out, if_pos (.inr (.inr c3))])
          go_wp2
          go_ret
          exact ⟨by rw [HE2.out]; rfl, HB6.out⟩
        · obtain ⟨n, hn⟩ : ∃ n : Nat, locals + x.hgt = (n : Int) := ⟨(locals + x.hgt).toNat, by omega⟩
          have hn24 : n ≤ 24 := by omega
          have hwr : wrap64 (locals + x.hgt) = (n : Int) := by unfold wrap64; omega
          have HE2 := Aside0.mk (show (if ((x.sl.drop n).any (fun t => t != 0)) = true then 65 else if (x.sl.any (fun t => !isCode t)) = true then 62 else 0) = r by have h := HE.out; rw [if_neg (c := x.loc ≠ locals ∨ x.hgt < 0 ∨ x.hgt > 24 - locals) (by omega), hn, Int.toNat_natCast] at h; exact h)
          go_wp2
          go_loop [6] (fun i => ∃ k : Nat, n ≤ k ∧ k ≤ 24 ∧ i = .int .i64 k ∧ ∀ j : Nat, n ≤ j → j < k → rd x.sl (j : Int) = 0) (fun i => 24 - (intOf i).toNat)
          case atStart => exact ⟨n, Nat.le_refl _, hn24, rfl, fun j h1 h2 => by omega⟩
          case round =>
            obtain ⟨k, hnk, hk, rfl, hz0⟩ := hrel
            have HZ := Aside0.mk hz0
            clear hz0
            by_cases hlt : k < 24
            · obtain ⟨ad, e, hx⟩ := Kd.at_int R.out (k : Int) (by omega) (by omega)
              cases e
              rw [Int.toNat_natCast, Addr.add_mid] at hx
              by_cases hv : rd x.sl (k : Int) = 0
              · have HS := Aside0.mk (show ∀ j : Nat, n ≤ j → j < k + 1 → rd x.sl (j : Int) = 0 from fun j h1 h2 => by
                  rcases Nat.lt_or_ge j k with h | h
                  · exact HZ.out j h1 h
                  · obtain rfl : j = k := by omega
                    exact hv)
                rw [hv] at hx
                go_wp2
                go_round
                case rel => exact ⟨k + 1, by omega, by omega, by go_num, HS.out⟩
                case measure => simp [intOf]; omega
              · have HS := Aside0.mk (show (x.sl.drop n).any (fun t => t != 0) = true from any_drop_at _ _ n k hnk (by omega) (by simpa using hv))
                have hvb : (rd x.sl (k : Int) != 0) = true := by simpa using hv
                clear hv
                go_wp2
                go_ret
                exact ⟨by rw [← HE2.out, if_pos HS.out]; rfl, HB6.out⟩
            · obtain rfl : k = 24 := by omega
              have HS := Aside0.mk (show (x.sl.drop n).any (fun t => t != 0) = false from any_drop_none _ _ n (fun j h1 h2 => by rw [HZ.out j h1 (by omega)]; rfl))
              clear hlt
              go_wp2
              go_loopw [7] (fun i wr => ∃ k : Nat, k ≤ 24 ∧ i = .int .i64 k ∧ (∀ j : Nat, j < k → isCode (rd x.sl (j : Int)) = true) ∧ Drawn0 w6 wr) (fun i _ => 24 - (intOf i).toNat)
              case atStart => exact ⟨0, Nat.zero_le _, rfl, fun j h => by omega, Drawn0.refl _⟩
              case round =>
                obtain ⟨k, hk, rfl, hz2, hdr⟩ := hrel
                have HZ2 := Aside0.mk hz2
                obtain ⟨m, rfl⟩ := hdr
                clear hz2
                by_cases hlt : k < 24
                · obtain ⟨ad, e, hx⟩ := Kd.at_int R.out (k : Int) (by omega) (by omega)
                  cases e
                  rw [Int.toNat_natCast, Addr.add_mid] at hx
                  by_cases hv : isCode (rd x.sl (k : Int)) = true
                  · have HS2 := Aside0.mk (show ∀ j : Nat, j < k + 1 → isCode (rd x.sl (j : Int)) = true from fun j h2 => by
                      rcases Nat.lt_or_ge j k with h | h
                      · exact HZ2.out j h
                      · obtain rfl : j = k := by omega
                        exact hv)
                    have HV := Aside0.mk hv
                    clear hv
                    go_wp2_with fail
                    refine (provisoref06_IsCode.calls _ _ _ (isCode_f _)).mono ?_
                    rintro e w7 ⟨rfl, m7, rfl⟩
                    have hv := HV.out
                    rw [hv]
                    go_wp2
                    go_roundw
                    case rel => exact ⟨k + 1, by omega, by go_num, HS2.out, by repeat (first | exact Drawn0.refl _ | apply Drawn0.step)⟩
                    case measure => simp [intOf]; omega
                  · have HS2 := Aside0.mk (show x.sl.any (fun t => !isCode t) = true from any_at _ _ k (by omega) (by simpa using hv))
                    have HV := Aside0.mk (Bool.eq_false_iff.mpr hv)
                    clear hv
                    go_wp2_with fail
                    refine (provisoref06_IsCode.calls _ _ _ (isCode_f _)).mono ?_
                    rintro e w7 ⟨rfl, m7, rfl⟩
                    have hv := HV.out
                    rw [hv]
                    go_wp2
                    go_ret
                    exact ⟨by rw [← HE2.out, if_neg (by rw [HS.out]; decide), if_pos HS2.out]; rfl, by repeat (first | exact HB6.out | refine pw_below_drewN ?_ _)⟩
                · obtain rfl : k = 24 := by omega
                  have HS2 := Aside0.mk (show x.sl.any (fun t => !isCode t) = false from (by have := any_drop_none x.sl (fun t => !isCode t) 0 (fun j h1 h2 => by rw [HZ2.out j (by omega)]; rfl); simpa using this))
                  clear hlt
                  go_wp2
                  go_ret
                  exact ⟨by rw [← HE2.out, if_neg (by rw [HS.out]; decide), if_neg (by rw [HS2.out]; decide)]; rfl, by repeat (first | exact HB6.out | refine pw_below_drewN ?_ _)⟩
    · have HE2 := Aside0.mk (show r = 65 by rw [← HE.out, if_pos (.inl c1)])
      go_wp2
      go_ret
      exact ⟨by rw [HE2.out]; rfl, HB6.out⟩
end Go.Proofs.Ytblgcodkbapccaa.CertWalk
