/- PROVED: provisoplain.Expr and slices.Clone at Param make a copy: the same data in memory of its own. Conditions: each list inside takes fewer bytes than the reach. -/
import Derived.Test.YtblgcodkbapccaaSamesBase
namespace Go.Proofs.Ytblgcodkbapccaa.SamesWalk
open Go.RowKit Go.Proofs.Ytblgcodkbapccaa.PParseSames Go.Proofs.YtblgcodkbapccaaW.PrintWords Go.Proofs.YtblgcodkbapccaaW.PrintLast Go.Proofs.YtblgcodkbapccaaW.PrintMore
attribute [local go_sem] max2_int min2_int max_two min_two max_three min_three max_four min_four
set_option linter.unusedVariables false
set_option linter.unusedSimpArgs false
theorem info80 : (Try.prog.info? 80).map (fun i => (i.zero, i.size, i.bytes)) = some (some (.agg z_80.toArray), 4, 48) := by kernel_rfl
theorem k80_KM {w : World} {base : Nat} {x : S80} {cs : List Value} (h : k80.K w x cs) : k80.M w base (fun _ => False) x cs := by
  have e := k80_open h
  subst e
  exact k80_mkM w base _ x
set_option maxHeartbeats 8000000 in
set_option maxRecDepth 100000 in
theorem clone53 (A0 : Option Addr) (c0 : Nat) (l0 : List S80) (w : World) (hr0 : Kd.C k80 w A0 l0.length l0) (hl : l0.length * 48 ≤ 140737488355328) :
    Calls Try.prog 53 #[.slice A0 l0.length c0] w fun e w' => ∃ v0_ : Value, e = .returned v0_ ∧ Kd.R k80 80 w' w.heap.size (fun _ => True) v0_ l0 ∧ Below w.heap.size w w' := by
  have HB := Aside0.mk (Below.refl w.heap.size w)
  have HR0 := Aside0.mk hr0
  have HL := Aside0.mk hl
  clear hr0 hl
  cases A0 with
  | none =>
    have h0 : l0.length = 0 := by
      rcases Nat.eq_zero_or_pos l0.length with h0 | h0
      · exact h0
      · obtain ⟨ad, h, _⟩ := HR0.out.2.2 h0
        cases h
    have hn : l0 = [] := List.eq_nil_of_length_eq_zero h0
    subst hn
    have he := fun W : World => Lib.run_eql_slice_nil (P := Try.prog) W 74 80 none 0 c0 0 0 Try.underlying74
    simp only [Option.isNone_none] at he
    go_enter Try.func53, Try.ntmps53
    go_wp2
    go_ret
    exact ⟨_, rfl, Kd.R_nil _ _ _ _ _, HB.out⟩
  | some ad =>
    have he := fun W : World => Lib.run_eql_slice_nil (P := Try.prog) W 74 80 (some ad) l0.length c0 0 0 Try.underlying74
    simp only [Option.isNone_some] at he
    go_enter Try.func53, Try.ntmps53
    go_wp2_with (first | ((with_reducible refine gate_dst (N := 5) rfl ?_); refine Kd.R_lit k80 (w0 := w) w.heap.size 80 ?hg (N := 5) ?hd (xs := ([] : List S80)) (inner := []) (ok := fun _ => True) (okp := fun _ => False) ?hr ?hp (fun _ _ => trivial) trivial HB.out (Nat.le_refl _) (by simp) ?_; (case hd => rfl); (case hg => rfl); (case hr => first | (go_simp; done) | (go_simp; rfl)); (case hp => exact Reps.none _ _); intro v5 w5 ho hb hg_ hnew_; have HO := Aside0.mk ho; have HB2 := Aside0.mk hb; clear ho hb hg_ hnew_; obtain ⟨Ao, co, eo⟩ := Kd.R_slice HO.out; subst eo) | ((with_reducible refine gate_builtin (b := .append) (xs := #[.tmp 5, .tmp 6]) rfl ?_); at_builtin; refine Kd.R_append_rows k80 (w0 := w) w.heap.size rfl (.tmp 5) (.tmp 6) 74 80 (.agg z_80.toArray) 48 rfl Try.underlying74 info80 rfl (by decide) (by omega) (.slice Ao ([] : List S80).length co) [] l0 _ _ _ (fun _ => True) (fun _ => False) rfl rfl HO.out (Kd.C_below HR0.out HB2.out) (fun _ _ h => k80_KM h) (fun _ h => h.elim) (fun _ _ => trivial) HB2.out (below_size HB2.out) (by have := HL.out; simp; omega) ?_; intro v7 w7 ho hb hg hat; have HO7 := Aside0.mk ho; have HB7 := Aside0.mk hb; clear ho hb hg hat))
    go_ret
    exact ⟨_, rfl, by simpa using HO7.out, HB7.out⟩

/-- Each list inside is within the reach. -/
inductive FitE : S111 → Prop
  | mk (x : S111) (h : x.f4.length * 88 ≤ 140737488355328) (hk : ∀ z ∈ x.f4, FitE z) : FitE x
theorem heap_other (w : World) (g k : Nat) (u : Value) (j : Nat) (h : k ≠ g) : (w.setCell ⟨g, j, none⟩ u).heap[k]? = w.heap[k]? := Below.heap_setCell w ⟨g, j, none⟩ u k h
set_option maxHeartbeats 8000000 in
set_option maxRecDepth 100000 in
theorem expr77 {x : S111} (hf : FitE x) : ∀ (cs : List Value) (w : World), k111.K w x cs →
    Calls Try.prog 77 #[.agg cs.toArray] w fun e w' => ∃ ds : List Value, e = .returned (.agg ds.toArray) ∧ k111.M w' w.heap.size (fun _ => True) x ds ∧ Below w.heap.size w w' := by
  induction hf with
  | mk x hlen hkids ih =>
  intro cs w hK
  obtain ⟨A4, c4, hcs, l4, g4⟩ := k111_open hK
  subst hcs
  have HC := Aside0.mk g4
  have HL := Aside0.mk hlen
  have HIH := Aside0.mk ih
  have hln : x.f4.length ≤ 9223372036854775807 := g4.2.1
  clear hK g4 hlen hkids ih l4
  have hz := zv111
  go_enter Try.func77, Try.ntmps77
  go_upto_region 1 with (first | ((with_reducible refine gate_dst (N := 1) rfl ?_); refine box_event ?hg (N := 1) ?hd (cs := #[.int .i64 x.f0, .int .i64 x.f1, .string x.f2, .int .i64 x.f3, .slice A4 x.f4.length c4, .int .u8 x.f5, .int .i64 x.f6, .int .i64 x.f7]) (t := 111) ?hr ?_; (case hd => rfl); (case hg => rfl); (case hr => first | (go_simp; done) | (go_simp; rfl)); intro ge hge w1 hbox hb; have BE1 := Aside0.mk hbox; have HS1 := Aside0.mk hb; have HGE := Aside0.mk (show w.heap.size ≤ ge by rw [hge]; exact Nat.le_refl _); clear hb hbox hge) | ((with_reducible refine gate_dst (N := 2) rfl ?_); refine box_event ?hg (N := 2) ?hd (cs := z_111.toArray) (t := 111) ?hr ?_; (case hd => rfl); (case hg => rfl); (case hr => first | (go_simp; done) | (go_simp; rfl)); intro gr hgr w2 hbox hb; have BR2 := Aside0.mk hbox; have BE2 := Aside0.mk (blk_below BE1.out hb); have HNE := Aside0.mk (show ge ≠ gr by rw [hgr]; exact Nat.ne_of_lt (blk_lt BE1.out)); have HGR := Aside0.mk (show w.heap.size ≤ gr by rw [hgr]; exact below_size HS1.out); have HB2 := Aside0.mk (below_step HS1.out hb); clear hb hbox hgr))
  (try simp only [Act.put, List.setIfInBounds_toArray, List.set_cons_zero, List.set_cons_succ])
  have hx4 : w2.cell? ⟨ge, 4, none⟩ = some (.slice A4 x.f4.length c4) := (blk_cell BE2.out 4).trans rfl
  have hf4 := blk_frozen BE2.out 4
  go_wp2
  go_loopw [11] (fun i wr => ∃ (k : Nat) (v : Value), k ≤ x.f4.length ∧ i = .int .i64 k ∧ Aside0 (Kd.R k111 111 wr w.heap.size (fun j => j ≠ ge ∧ j ≠ gr) v (x.f4.take k)) ∧ Aside0 (wr.heap[ge]? = some (.cells #[.int .i64 x.f0, .int .i64 x.f1, .string x.f2, .int .i64 x.f3, v, .int .u8 x.f5, .int .i64 x.f6, .int .i64 x.f7] 111 (0, 0))) ∧ Aside0 (wr.heap[gr]? = some (.cells z_111.toArray 111 (0, 0))) ∧ Aside0 (Below w.heap.size w wr)) (fun i _ => x.f4.length - (intOf i).toNat)
  case atStart => exact ⟨0, .slice none 0 0, Nat.zero_le _, rfl, ⟨Kd.R_nil _ _ _ _ _⟩, ⟨blk_put BE2.out 4 _ rfl⟩, ⟨(heap_other w2 ge gr _ 4 (fun e => HNE.out e.symm)).trans BR2.out⟩, ⟨below_set HB2.out HGE.out⟩⟩
  case round =>
    clear hx4 hf4 BE1 BE2 BR2 HS1 HB2
    obtain ⟨k, v, hk, rfl, HR, BE, BR, HB⟩ := hrel
    by_cases hlt : k < x.f4.length
    · obtain ⟨ad, cs, e, hK, hx⟩ := elem_at (Kd.C_below HC.out HB.out) k hlt
      subst e
      have HN := Aside0.mk (show cs.length = 8 from k111.K_len hK)
      have HO := Aside0.mk (k111.K_one hK)
      have HX := Aside0.mk (show ∀ j v, cs[j]? = some v → wr.cell? ((ad.add (k * 8)).add j) = some v from hx)
      have HKK := Aside0.mk hK
      have HCALL := Aside0.mk (HIH.out x.f4[k] (List.getElem_mem hlt) cs)
      have HTK := Aside0.mk (show x.f4.take (k + 1) = x.f4.take k ++ [x.f4[k]] from List.take_succ_eq_append_getElem hlt)
      have HLK := Aside0.mk (show ((x.f4.take k).length + 1) * 88 ≤ 140737488355328 by have := HL.out; rw [List.length_take]; omega)
      obtain ⟨y, hye⟩ : ∃ y, x.f4[k] = y := ⟨_, rfl⟩
      rw [hye] at HKK HCALL HTK
      clear hx hK hye
      go_upto_region 6 with (first | ((with_reducible refine gate_dst (N := 14) rfl ?_); refine load_event rfl 111 (.tmp 13) rfl (ad.add (k * 8)) ?ev cs _ 8 HX.out Try.underlying111 rfl size111 HN.out ?_; (case ev => first | rfl | (go_simp; done) | (go_simp; rfl))) | ((with_reducible refine gate_dst (N := 5) rfl ?_); refine box_event ?hg (N := 5) ?hd (cs := z_111.toArray) (t := 111) ?hr ?_; (case hd => rfl); (case hg => rfl); (case hr => first | (go_simp; done) | (go_simp; rfl)); intro gb hgb w5 hbox hb; have BK5 := Aside0.mk hbox; have HGB := Aside0.mk (show wr.heap.size ≤ gb by rw [hgb]; exact Nat.le_refl _); have HS5 := Aside0.mk hb; clear hb hbox hgb) | (refine store_event (w0 := wr) (base := wr.heap.size) rfl (ty := 111) (p := .tmp 5) (v := .tmp 14) rfl rfl rfl BK5.out size111 HN.out rfl HO.out HS5.out HGB.out ?_; intro w6 hbc hb6 hoth hsz; have BK6 := Aside0.mk hbc; have HS6 := Aside0.mk hb6; clear hbc hb6 hoth hsz))
      (try simp only [Act.put, List.setIfInBounds_toArray, List.set_cons_zero, List.set_cons_succ])
      have BE6 := Aside0.mk (blk_below BE.out HS6.out)
      have BR6 := Aside0.mk (blk_below BR.out HS6.out)
      have HR6 := Aside0.mk (Kd.R_below HR.out HS6.out)
      have HB6 := Aside0.mk (below_step HB.out HS6.out)
      have HVL := Aside0.mk (show ∀ j, v.ownBlock = some j → j < wr.heap.size from Kd.R_lt HR.out)
      have hv4 : w6.cell? ⟨ge, 4, none⟩ = some v := (blk_cell BE6.out 4).trans rfl
      refine start_ (n := 8) (S := fun w' => w'.heap[ge]? = some (.cells #[.int .i64 x.f0, .int .i64 x.f1, .string x.f2, .int .i64 x.f3, v, .int .u8 x.f5, .int .i64 x.f6, .int .i64 x.f7] 111 (0, 0)) ∧ w'.heap[gb]? = some (.cells cs.toArray 111 (0, 0))) (ds := [7]) #[false, false, false, false, false, false, false, false] (by kernel_rfl) rfl rfl ⟨BE6.out, BK6.out⟩ (fun hHeld => ?_)
      have BR7 := Aside0.mk (show w6.drew.heap[gr]? = _ from BR6.out)
      have HR7 := Aside0.mk (Kd.R_drew HR6.out)
      have HS7 := Aside0.mk (below_drew1 HS6.out)
      have HB7 := Aside0.mk (below_drew1 HB6.out)
      clear hv4 BE6 BR6 HR6 HB6 HS6 BK6
      generalize w6.drew = w7 at BR7 HR7 HS7 HB7 hHeld ⊢
      refine pure_ (i := 0) (N := some 15) (v := ?_) (a' := ?_) #[true, false, false, false, false, false, false, false] rfl rfl (by kernel_rfl) (fun _ _ _ h => h) (Or.inl ⟨by rfl, ?_⟩) ?_ ?_
      rotate_left
      · intro w'
        go_simp
        with_reducible rfl
      rotate_left
      · simp only [Act.put, List.setIfInBounds_toArray, List.set_cons_zero, List.set_cons_succ, i64_w, i32_w]
        rfl
      refine take_ (i := 1) (N := some 16) (v := ?_) (a' := ?_) #[true, true, false, false, false, false, false, false] rfl rfl (by kernel_rfl) (fun _ _ _ h => h) (Or.inl ⟨by rfl, ?_⟩) hHeld ?_ ?_
      rotate_left
      · intro w' hS
        have hrd : w'.cell? ⟨ge, 4, none⟩ = some v := (blk_cell hS.1 4).trans rfl
        go_simp
        with_reducible rfl
      rotate_left
      · simp only [Act.put, List.setIfInBounds_toArray, List.set_cons_zero, List.set_cons_succ, i64_w, i32_w]
        rfl
      refine take_ (i := 2) (N := some 17) (v := .agg cs.toArray) (a' := ?_) #[true, true, true, false, false, false, false, false] rfl rfl (by kernel_rfl) (fun _ _ _ h => h) (Or.inl ⟨by rfl, fun w' hS => exec_load (P := Try.prog) (ty := 111) (x := .tmp 5) rfl (show (Instr.loadAt 111 (.pointer (some ⟨gb, 0, none⟩))).run Try.prog w' = _ from load_run (blk_row hS.2) Try.underlying111 rfl size111 HN.out)⟩) hHeld ?_ ?_
      rotate_left
      · simp only [Act.put, List.setIfInBounds_toArray, List.set_cons_zero, List.set_cons_succ, i64_w, i32_w]
        rfl
      refine one_ (i := 3) (N := some 18) #[true, true, true, true, false, false, false, false] rfl rfl (by kernel_rfl) (by decide) (fun K hK => ?_)
      refine goes_ Try.func77 (by kernel_rfl) rfl #[.agg cs.toArray] (by rfl) rfl rfl (by (try simp only [List.map_toArray, List.map_cons, List.map_nil]); first | done | rfl) ?_
      refine Calls.mono (HCALL.out w7 (k111.K_below HS7.out HKK.out)) ?_
      rintro e w8 ⟨ds, rfl, hM, hb⟩
      refine ⟨_, rfl, ?_⟩
      have hv := HVL.out
      have hsz7 := below_size HS7.out
      have hE7 := blk_lt hHeld.1
      have hR7 := blk_lt BR7.out
      have HM := Aside0.mk (show k111.M w8 w.heap.size (fun j => (j ≠ ge ∧ j ≠ gr) ∧ some j ≠ v.ownBlock) y ds from k111.M_lower (below_size HB7.out) (k111.M_mono (fun j hj => ⟨⟨by have := hj.2.1; omega, by have := hj.2.1; omega⟩, fun e => by have h1 := hv j e.symm; have h2 := hj.2.1; omega⟩) (k111.M_bound hM)))
      have BE8 := Aside0.mk (blk_below hHeld.1 hb)
      have BK8 := Aside0.mk (blk_below hHeld.2 hb)
      have BR8 := Aside0.mk (blk_below BR7.out hb)
      have HR8 := Aside0.mk (Kd.R_below HR7.out hb)
      have HB8 := Aside0.mk (below_step HB7.out hb)
      refine hK.out _ _ ⟨BE8.out, BK8.out⟩ (fun hHeld8 => ?_)
      clear hK K hb hM hv hsz7 hE7 hR7 hHeld BR7 HR7 HS7 HB7
      obtain ⟨v4, hds, h4⟩ := k111_openM HM.out
      obtain ⟨Ao, co, rfl⟩ := Kd.R_slice h4
      subst hds
      clear h4
      refine norm_ (a' := ?_) ?_ ?_
      rotate_left
      · show Act.put _ (some 18) _ = _
        simp only [Act.put, List.setIfInBounds_toArray, List.set_cons_zero, List.set_cons_succ, i64_w, i32_w]
        rfl
      refine one_ (i := 4) (N := some 19) #[true, true, true, true, true, false, false, false] rfl rfl (by kernel_rfl) (by decide) (fun K hK => ?_)
      refine value_ (w1 := ?_) (v := ?_) (by rfl) rfl ?_ ?_
      rotate_left 2
      · go_simp
        constructor
        · rfl
        · rfl
      refine hK.out _ _ ⟨blk_alloc BE8.out _, blk_alloc BK8.out _⟩ (fun hHeld9 => ?_)
      clear hK K hHeld9
      refine norm_ (a' := ?_) ?_ ?_
      rotate_left
      · show Act.put _ (some 19) _ = _
        simp only [Act.put, List.setIfInBounds_toArray, List.set_cons_zero, List.set_cons_succ, i64_w, i32_w]
        rfl
      refine one_ (i := 5) (N := some 20) #[true, true, true, true, true, true, false, false] rfl rfl (by kernel_rfl) (by decide) (fun K hK => ?_)
      refine Kd.R_append_step k111 (w0 := w) w.heap.size (by rfl) (.tmp 16) (.tmp 19) 107 111 (.agg #[(.int .i64 0), (.int .i64 0), (.string ⟨#[]⟩), (.int .i64 0), (.slice none 0 0), (.int .u8 0), (.int .i64 0), (.int .i64 0)]) 88 rfl Try.underlying107 info111 rfl (by decide) (by omega) v (x.f4.take k) y [.int .i64 y.f0, .int .i64 y.f1, .string y.f2, .int .i64 y.f3, .slice Ao y.f4.length co, .int .u8 y.f5, .int .i64 y.f6, .int .i64 y.f7] (fun j => j ≠ ge ∧ j ≠ gr) (fun j => (j ≠ ge ∧ j ≠ gr) ∧ some j ≠ v.ownBlock) rfl rfl HM.out (fun _ hj => hj) (fun j hj => ⟨by have := blk_lt BE8.out; omega, by have := blk_lt BR8.out; omega⟩) HR8.out HB8.out (below_size HB8.out) HLK.out ?_
      intro v1 w9 hR9 hb9 hg hat
      rw [← HTK.out] at hR9
      obtain ⟨lk, hlk⟩ : ∃ lk, x.f4.take (k + 1) = lk := ⟨_, rfl⟩
      rw [hlk] at hR9
      have HLE := Aside0.mk hlk
      clear hlk
      have hne1 : some ge ≠ v.ownBlock := Kd.R_away HR8.out (fun _ hj => hj.1)
      have hne2 : some gr ≠ v.ownBlock := Kd.R_away HR8.out (fun _ hj => hj.2)
      have hne3 : some gb ≠ v.ownBlock := fun e => by have h1 := HVL.out gb e.symm; have h2 := HGB.out; omega
      have BE9 := Aside0.mk (blk_grown BE8.out hg hne1)
      have BR9 := Aside0.mk (blk_grown BR8.out hg hne2)
      have BK9 := Aside0.mk (blk_grown BK8.out hg hne3)
      have HR9 := Aside0.mk hR9
      have HB9 := Aside0.mk hb9
      obtain ⟨Av, cv, ev⟩ := Kd.R_slice hR9
      subst ev
      clear hR9 hb9 hg hat hne1 hne2 hne3 hHeld8
      refine hK.out _ _ ⟨BE9.out, BK9.out⟩ (fun hHeld9 => ?_)
      clear hK K hHeld9
      refine norm_ (a' := ?_) ?_ ?_
      rotate_left
      · show Act.put _ (some 20) _ = _
        simp only [Act.put, List.setIfInBounds_toArray, List.set_cons_zero, List.set_cons_succ, i64_w, i32_w]
        rfl
      refine pure_ (i := 6) (N := some 21) (v := ?_) (a' := ?_) #[true, true, true, true, true, true, true, false] rfl rfl (by kernel_rfl) (fun _ _ _ h => h) (Or.inl ⟨by rfl, ?_⟩) ?_ ?_
      rotate_left
      · intro w'
        go_simp
        with_reducible rfl
      rotate_left
      · simp only [Act.put, List.setIfInBounds_toArray, List.set_cons_zero, List.set_cons_succ, i64_w, i32_w]
        rfl
      refine last_ (i := 7) (N := none) #[true, true, true, true, true, true, true, true] rfl rfl (by kernel_rfl) (by decide) (fun K hK => ?_)
      have hs9 : w9.cell? ⟨ge, 4, none⟩ = some v := (blk_cell BE9.out 4).trans rfl
      have hf9 := blk_frozen BE9.out 4
      refine skip_ (w1 := ?_) (by rfl) rfl ?_ ?_
      rotate_left
      · go_simp
        rfl
      refine hK.out _ _ ?_
      clear hK K
      refine done_ (by kernel_rfl) ?_
      clear hs9 hf9
      have HF := Aside0.mk (And.intro (Kd.R_far (p := ⟨ge, 4, none⟩) HR9.out (fun _ hj => hj.1) (.slice Av lk.length cv)) (And.intro (blk_put BE9.out 4 (.slice Av lk.length cv) rfl) (And.intro ((heap_other w9 ge gr (.slice Av lk.length cv) 4 (fun e => HNE.out e.symm)).trans BR9.out) (below_set (j := 4) (v := .slice Av lk.length cv) HB9.out HGE.out))))
      go_wp2
      go_roundw
      case rel => exact ⟨k + 1, .slice Av lk.length cv, by omega, by go_num, ⟨by rw [HLE.out]; exact HF.out.1⟩, ⟨HF.out.2.1⟩, ⟨HF.out.2.2.1⟩, ⟨HF.out.2.2.2⟩⟩
      case measure => simp [intOf]; omega
    · have hke : k = x.f4.length := by omega
      subst hke
      rw [List.take_length] at HR
      obtain ⟨Av, cv, ev⟩ := Kd.R_slice HR.out
      subst ev
      go_wp2_with (first | ((with_reducible refine gate_dst (N := 23) rfl ?_); refine load_event rfl 111 (.tmp 1) rfl ⟨ge, 0, none⟩ rfl [.int .i64 x.f0, .int .i64 x.f1, .string x.f2, .int .i64 x.f3, .slice Av x.f4.length cv, .int .u8 x.f5, .int .i64 x.f6, .int .i64 x.f7] _ 8 (blk_row BE.out) Try.underlying111 rfl size111 rfl ?_) | (refine store_event (w0 := w) (base := w.heap.size) (c' := [.int .i64 x.f0, .int .i64 x.f1, .string x.f2, .int .i64 x.f3, .slice Av x.f4.length cv, .int .u8 x.f5, .int .i64 x.f6, .int .i64 x.f7]) rfl (ty := 111) (p := .tmp 2) (v := .tmp 23) rfl rfl rfl BR.out size111 rfl rfl (by intro u hu; simp at hu; rcases hu with rfl | rfl | rfl | rfl | rfl | rfl | rfl | rfl <;> rfl) HB.out HGR.out ?_; intro w6 hbc hb6 hoth hsz; have BR6 := Aside0.mk hbc; have HB6 := Aside0.mk hb6; have HR6 := Aside0.mk (Kd.R_mono (Kd.R_step HR.out (fun j hj _ => hoth j hj.2)) (fun _ _ => trivial : ∀ j, (j ≠ ge ∧ j ≠ gr) → (fun _ => True) j)); clear hbc hb6 hoth hsz))
      exact bodyPost_ret (results_cell_row rfl _ _ gr 111 #[.int .i64 x.f0, .int .i64 x.f1, .string x.f2, .int .i64 x.f3, .slice Av x.f4.length cv, .int .u8 x.f5, .int .i64 x.f6, .int .i64 x.f7] (0, 0) _ rfl BR6.out Try.underlying111 rfl size111) rfl ⟨_, rfl, k111_mkM _ _ _ x HR6.out, HB6.out⟩
end Go.Proofs.Ytblgcodkbapccaa.SamesWalk
