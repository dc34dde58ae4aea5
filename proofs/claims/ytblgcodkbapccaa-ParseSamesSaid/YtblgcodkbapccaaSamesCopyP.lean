/- PROVED: provisoplain.Program makes a copy: the same data in memory of its own. Conditions: each list inside takes fewer bytes than the reach. -/
import Derived.Test.YtblgcodkbapccaaSamesCopyS
namespace Go.Proofs.Ytblgcodkbapccaa.SamesWalk
open Go.RowKit Go.Proofs.Ytblgcodkbapccaa.PParseSames Go.Proofs.YtblgcodkbapccaaW.PrintWords Go.Proofs.YtblgcodkbapccaaW.PrintLast Go.Proofs.YtblgcodkbapccaaW.PrintMore
attribute [local go_sem] max2_int min2_int max_two min_two max_three min_three max_four min_four
set_option linter.unusedVariables false
set_option linter.unusedSimpArgs false

theorem info76 : (Try.prog.info? 76).map (fun i => (i.zero, i.size, i.bytes)) = some (some (.agg #[.int .i64 0, .string ⟨#[]⟩, .string ⟨#[]⟩, .slice none 0 0]), 4, 64) := by kernel_rfl
theorem info83 : (Try.prog.info? 83).map (fun i => (i.zero, i.size, i.bytes)) = some (some (.agg #[.int .i64 0, .string ⟨#[]⟩, .string ⟨#[]⟩, .slice none 0 0, .slice none 0 0, .int .u8 0, .int .i64 0]), 7, 104) := by kernel_rfl
/-- A row of another type of elements has been written. -/
theorem R_grown_type {α : Type} {d : Kd α} {e e' base base' size n : Nat} {w w1 : World} {ok : Nat → Prop} {v u : Value} {xs : List α} {ys : List Value} (h : d.R e w base ok v xs) (ho : w.ownsRow base' e' size u n ys) (ht : ∀ q, q ∈ e :: d.E → q ≠ e') (hg : w.grownBy w1 u.ownBlock) : d.R e w1 base ok v xs := by
  cases hu : u.ownBlock with
  | none =>
    rw [hu] at hg
    exact Kd.R_grown h hg (fun _ _ => by simp)
  | some g =>
    obtain ⟨cells, hc⟩ := own_typed ho g hu
    rw [hu] at hg
    exact Kd.R_mono (Kd.R_grown (Kd.R_types h hc ht) hg (fun k hk e => hk.2 (by injection e))) (fun _ hk => hk.1)

set_option maxHeartbeats 8000000 in
set_option maxRecDepth 100000 in
theorem program28 (N : Nat) (A0 : Option Addr) (c0 : Nat) (rs : List S76) (A1 : Option Addr) (c1 : Nat) (fs : List S83) (w : World) (hr : Kd.C k76 w A0 rs.length rs) (hf : Kd.C k83 w A1 fs.length fs)
    (hl0 : rs.length * 64 ≤ 140737488355328) (hl1 : fs.length * 104 ≤ 140737488355328) (hfr : ∀ x ∈ rs, x.f3.length * 48 ≤ 140737488355328)
    (hff : ∀ x ∈ fs, x.f3.length * 48 ≤ 140737488355328 ∧ x.f4.length * 144 ≤ 140737488355328 ∧ (∀ z ∈ x.f4, FitS z) ∧ (∀ z ∈ x.f4, SizeOf.sizeOf z ≤ N)) :
    Calls Try.prog 28 #[.agg #[.slice A0 rs.length c0, .slice A1 fs.length c1]] w fun e w' => ∃ (B0 : Option Addr) (d0 : Nat) (B1 : Option Addr) (d1 : Nat), e = .returned (.agg #[.slice B0 rs.length d0, .slice B1 fs.length d1]) ∧ Kd.R k76 76 w' w.heap.size (fun _ => True) (.slice B0 rs.length d0) rs ∧ Kd.R k83 83 w' w.heap.size (fun _ => True) (.slice B1 fs.length d1) fs ∧ Below w.heap.size w w' := by
  have HC := Aside0.mk hr
  have HC1 := Aside0.mk hf
  have HL0 := Aside0.mk hl0
  have HL1 := Aside0.mk hl1
  have HF76 := Aside0.mk hfr
  have HF83 := Aside0.mk hff
  have H54 := Aside0.mk (stmts54 N)
  have hlen0 : rs.length ≤ 9223372036854775807 := hr.2.1
  have hlen1 : fs.length ≤ 9223372036854775807 := hf.2.1
  clear hr hf hl0 hl1 hfr hff
  have hz38 := zv38
  go_enter Try.func28, Try.ntmps28
  go_upto_region 2 with (first | ((with_reducible refine gate_dst (N := 1) rfl ?_); refine box_event ?hg (N := 1) ?hd (cs := #[.slice A0 rs.length c0, .slice A1 fs.length c1]) (t := 38) ?hr ?_; (case hd => rfl); (case hg => rfl); (case hr => first | (go_simp; done) | (go_simp; rfl)); intro gp hgp w1 hbox hb; have BP1 := Aside0.mk hbox; have HS1 := Aside0.mk hb; have HGP := Aside0.mk (show w.heap.size ≤ gp by rw [hgp]; exact Nat.le_refl _); clear hb hbox hgp) | ((with_reducible refine gate_dst (N := 2) rfl ?_); refine box_event ?hg (N := 2) ?hd (cs := z_38.toArray) (t := 38) ?hr ?_; (case hd => rfl); (case hg => rfl); (case hr => first | (go_simp; done) | (go_simp; rfl)); intro gr hgr w2 hbox hb; have BR2 := Aside0.mk hbox; have BP2 := Aside0.mk (blk_below BP1.out hb); have HNRP := Aside0.mk (show gp ≠ gr by rw [hgr]; exact Nat.ne_of_lt (blk_lt BP1.out)); have HGR := Aside0.mk (show w.heap.size ≤ gr by rw [hgr]; exact below_size HS1.out); have HS2 := Aside0.mk (below_step HS1.out hb); clear hb hbox hgr) | ((with_reducible refine gate_dst (N := 3) rfl ?_); refine box_event ?hg (N := 3) ?hd (cs := #[.slice none 0 0, .slice none 0 0]) (t := 38) ?hr ?_; (case hd => rfl); (case hg => rfl); (case hr => first | (go_simp; done) | (go_simp; rfl)); intro go hgo w3 hbox hb; have BO3 := Aside0.mk hbox; have BR3 := Aside0.mk (blk_below BR2.out hb); have BP3 := Aside0.mk (blk_below BP2.out hb); have HNE := Aside0.mk (show go ≠ gr by rw [hgo]; exact Nat.ne_of_gt (blk_lt BR2.out)); have HNP := Aside0.mk (show gp ≠ go by rw [hgo]; exact Nat.ne_of_lt (blk_lt BP2.out)); have HGO := Aside0.mk (show w.heap.size ≤ go by rw [hgo]; exact below_size HS2.out); have HB3 := Aside0.mk (below_step HS2.out hb); clear hb hbox hgo))
  (try simp only [Act.put, List.setIfInBounds_toArray, List.set_cons_zero, List.set_cons_succ])
  have hp0 : w3.cell? ⟨gp, 0, none⟩ = some (.slice A0 rs.length c0) := (blk_cell BP3.out 0).trans rfl
  go_wp2
  clear hp0
  go_loopw [11] (fun i wr => ∃ (k : Nat) (v : Value), k ≤ rs.length ∧ i = .int .i64 k ∧ Aside0 (Kd.R k76 76 wr w.heap.size (fun j => j ≠ go ∧ j ≠ gr) v (rs.take k)) ∧ Aside0 (wr.heap[go]? = some (.cells #[v, .slice none 0 0] 38 (0, 0))) ∧ Aside0 (wr.heap[gr]? = some (.cells z_38.toArray 38 (0, 0))) ∧ Aside0 (wr.heap[gp]? = some (.cells #[.slice A0 rs.length c0, .slice A1 fs.length c1] 38 (0, 0))) ∧ Aside0 (some gp ≠ v.ownBlock) ∧ Aside0 (Below w.heap.size w wr)) (fun i _ => rs.length - (intOf i).toNat)
  case atStart => exact ⟨0, .slice none 0 0, Nat.zero_le _, rfl, ⟨Kd.R_nil _ _ _ _ _⟩, BO3, BR3, BP3, ⟨by simp [Value.ownBlock]⟩, HB3⟩
  case round =>
    clear BO3 BR3 BP3 HB3 BP1 HS1 BR2 BP2 HS2
    obtain ⟨k, v, hk, rfl, HV, BO, BR, BP, HPN, HB⟩ := hrel
    by_cases hlt : k < rs.length
    · skip
      obtain ⟨ad, cs, e, hK, hx⟩ := elem_at (Kd.C_below HC.out HB.out) k hlt
      subst e
      have HTK := Aside0.mk (show rs.take (k + 1) = rs.take k ++ [rs[k]] from List.take_succ_eq_append_getElem hlt)
      have HLK := Aside0.mk (show ((rs.take k).length + 1) * 64 ≤ 140737488355328 by have := HL0.out; rw [List.length_take]; omega)
      have hfx := HF76.out rs[k] (List.getElem_mem hlt)
      obtain ⟨x, hxe⟩ : ∃ x, rs[k] = x := ⟨_, rfl⟩
      rw [hxe] at hK hfx HTK
      have HFX := Aside0.mk hfx
      obtain ⟨A3, c3, hcs, l3, g3⟩ := k76_open hK
      subst hcs
      have G3 := Aside0.mk g3
      have HX := Aside0.mk (show ∀ j v, [.int .i64 x.f0, .string x.f1, .string x.f2, .slice A3 x.f3.length c3][j]? = some v → wr.cell? ((ad.add (k * 4)).add j) = some v from hx)
      clear hx hK hxe hfx g3 l3
      have hz := zv76
      go_upto_region 5 with (first | ((with_reducible refine gate_dst (N := 14) rfl ?_); refine load_event rfl 76 (.tmp 13) rfl (ad.add (k * 4)) ?ev [.int .i64 x.f0, .string x.f1, .string x.f2, .slice A3 x.f3.length c3] _ 4 HX.out Try.underlying76 rfl size76 rfl ?_; (case ev => first | rfl | (go_simp; done) | (go_simp; rfl))) | ((with_reducible refine gate_dst (N := 5) rfl ?_); refine box_event ?hg (N := 5) ?hd (cs := z_76.toArray) (t := 76) ?hr ?_; (case hd => rfl); (case hg => rfl); (case hr => first | (go_simp; done) | (go_simp; rfl)); intro gx hgx w5 hbox hb; have BX5 := Aside0.mk hbox; have HGX := Aside0.mk (show wr.heap.size ≤ gx by rw [hgx]; exact Nat.le_refl _); have HS5 := Aside0.mk hb; clear hb hbox hgx) | (refine store_event (w0 := wr) (base := wr.heap.size) (c' := [.int .i64 x.f0, .string x.f1, .string x.f2, .slice A3 x.f3.length c3]) rfl (ty := 76) (p := .tmp 5) (v := .tmp 14) rfl rfl rfl BX5.out size76 rfl rfl (by intro u hu; simp at hu; rcases hu with rfl | rfl | rfl | rfl <;> rfl) HS5.out HGX.out ?_; intro w6 hbc hb6 hoth hsz; have BX6 := Aside0.mk hbc; have HS6 := Aside0.mk hb6; clear hbc hb6 hoth hsz))
      (try simp only [Act.put, List.setIfInBounds_toArray, List.set_cons_zero, List.set_cons_succ])
      have HC53 := Aside0.mk (fun (W : World) (h : Below wr.heap.size wr W) => clone53 A3 c3 x.f3 W (Kd.C_below G3.out h) HFX.out)
      have hx3 : w6.cell? ⟨gx, 3, none⟩ = some (.slice A3 x.f3.length c3) := (blk_cell BX6.out 3).trans rfl
      go_upto_region 6 with (go_at_call 53; refine Calls.mono (HC53.out w6 HS6.out) ?_; rintro e w8 ⟨v3, rfl, hR3, hb⟩; have hlt8 := blk_lt BX6.out; have HR3 := Aside0.mk (show Kd.R k80 80 w8 wr.heap.size (fun j => j ≠ gx) v3 x.f3 from Kd.R_lower (Kd.R_mono (Kd.R_bound hR3) (fun j hj => by have := hj.2.1; omega)) (below_size HS6.out)); obtain ⟨B3, d3, e3⟩ := Kd.R_slice hR3; subst e3; have BX8 := Aside0.mk (blk_below BX6.out hb); have HS8 := Aside0.mk (below_step HS6.out hb); clear hb hR3 hlt8; have hx8 : w8.cell? ⟨gx, 3, none⟩ = some (.slice A3 x.f3.length c3) := (blk_cell BX8.out 3).trans rfl; have hf8 := blk_frozen BX8.out 3)
      have BX9 := Aside0.mk (blk_put BX8.out 3 (.slice B3 x.f3.length d3) rfl)
      have HR39 := Aside0.mk (Kd.R_far (p := ⟨gx, 3, none⟩) HR3.out (fun _ hj => hj) (.slice B3 x.f3.length d3))
      have HS9 := Aside0.mk (below_set (j := 3) (v := .slice B3 x.f3.length d3) HS8.out HGX.out)
      clear hx3 hx8 hf8 BX8 HR3 HS8 BX6 HS6 HC53
      generalize w8.setCell ⟨gx, 3, none⟩ (.slice B3 x.f3.length d3) = w9 at BX9 HR39 HS9 ⊢
      simp only [List.setIfInBounds_toArray, List.set_cons_zero, List.set_cons_succ] at BX9
      have BO9 := Aside0.mk (blk_below BO.out HS9.out)
      have BR9 := Aside0.mk (blk_below BR.out HS9.out)
      have BP9 := Aside0.mk (blk_below BP.out HS9.out)
      have HV9 := Aside0.mk (Kd.R_below HV.out HS9.out)
      have HB9 := Aside0.mk (below_step HB.out HS9.out)
      have hvl := Kd.R_lt HV.out
      have hol := blk_lt BO.out
      have hrl := blk_lt BR.out
      have HM := Aside0.mk (show k76.M w9 w.heap.size (fun j => (j ≠ go ∧ j ≠ gr) ∧ some j ≠ v.ownBlock) x [.int .i64 x.f0, .string x.f1, .string x.f2, .slice B3 x.f3.length d3] from k76.M_lower (below_size HB.out) (k76_mkM w9 wr.heap.size _ x (Kd.R_mono (Kd.R_bound HR39.out) (fun j hj => ⟨⟨by have h2 := hj.2.1; omega, by have h2 := hj.2.1; omega⟩, fun e => by have h1 := hvl j e.symm; have h2 := hj.2.1; omega⟩))))
      clear hvl hol hrl
      have ho9 : w9.cell? ⟨go, 0, none⟩ = some v := (blk_cell BO9.out 0).trans rfl
      go_wp2_with (first | ((with_reducible refine gate_dst (N := 21) rfl ?_); refine load_event rfl 76 (.tmp 5) rfl ⟨gx, 0, none⟩ rfl [.int .i64 x.f0, .string x.f1, .string x.f2, .slice B3 x.f3.length d3] _ 4 (blk_row BX9.out) Try.underlying76 rfl size76 rfl ?_) | ((with_reducible refine gate_builtin (b := .append) (xs := #[.tmp 20, .tmp 22]) rfl ?_); at_builtin; refine Kd.R_append k76 (w0 := w) w.heap.size rfl (.tmp 20) (.tmp 22) 35 76 (.agg #[.int .i64 0, .string ⟨#[]⟩, .string ⟨#[]⟩, .slice none 0 0]) 64 rfl Try.underlying35 info76 rfl (by decide) (by omega) v (rs.take k) x [.int .i64 x.f0, .string x.f1, .string x.f2, .slice B3 x.f3.length d3] (fun j => j ≠ go ∧ j ≠ gr) (fun j => (j ≠ go ∧ j ≠ gr) ∧ some j ≠ v.ownBlock) rfl rfl HM.out (fun _ hj => hj) (fun j hj => ⟨by have := blk_lt BO9.out; omega, by have := blk_lt BR9.out; omega⟩) HV9.out HB9.out (below_size HB9.out) HLK.out ?_; intro v1 w12 hR12 hb12 hg12 hat12; rw [← HTK.out] at hR12; obtain ⟨lk, hlk⟩ : ∃ lk, rs.take (k + 1) = lk := ⟨_, rfl⟩; rw [hlk] at hR12; have HLE := Aside0.mk hlk; have hne1 : some go ≠ v.ownBlock := Kd.R_away HV9.out (fun _ hj => hj.1); have hne2 : some gr ≠ v.ownBlock := Kd.R_away HV9.out (fun _ hj => hj.2); have BO12 := Aside0.mk (blk_grown BO9.out hg12 hne1); have BR12 := Aside0.mk (blk_grown BR9.out hg12 hne2); have BP12 := Aside0.mk (blk_grown BP9.out hg12 HPN.out); have HPN12 := Aside0.mk (show some gp ≠ v1.ownBlock from by rcases hat12 with e | ⟨b, e, hb⟩; exact e ▸ HPN.out; exact fun h => by have h1 := blk_lt BP9.out; rw [e] at h; injection h with h; omega);  obtain ⟨Av, cv, ev⟩ := Kd.R_slice hR12; subst ev; have HR12 := Aside0.mk hR12; have HB12 := Aside0.mk hb12; clear hR12 hb12 hg12 hat12 hne1 hne2 hlk ho9; have ho12 : w12.cell? ⟨go, 0, none⟩ = some v := (blk_cell BO12.out 0).trans rfl; have hf12 := blk_frozen BO12.out 0))
      have BO13 := Aside0.mk (blk_put BO12.out 0 (.slice Av lk.length cv) rfl)
      have BR13 := Aside0.mk ((heap_other w12 go gr (.slice Av lk.length cv) 0 (fun e => HNE.out e.symm)).trans BR12.out)
      have BP13 := Aside0.mk ((heap_other w12 go gp (.slice Av lk.length cv) 0 HNP.out).trans BP12.out)
      have HV13 := Aside0.mk (Kd.R_far (p := ⟨go, 0, none⟩) HR12.out (fun _ hj => hj.1) (.slice Av lk.length cv))
      have HB13 := Aside0.mk (below_set (j := 0) (v := .slice Av lk.length cv) HB12.out HGO.out)
      clear ho12 hf12
      go_roundw
      case rel => exact ⟨k + 1, .slice Av lk.length cv, by omega, by go_num, ⟨by rw [HLE.out]; exact HV13.out⟩, ⟨BO13.out⟩, BR13, BP13, HPN12, HB13⟩
      case measure => simp [intOf]; omega
    · have hke : k = rs.length := by omega
      subst hke
      rw [List.take_length] at HV
      obtain ⟨B0, d0, ev⟩ := Kd.R_slice HV.out
      subst ev
      have hp1 : wr.cell? ⟨gp, 1, none⟩ = some (.slice A1 fs.length c1) := (blk_cell BP.out 1).trans rfl
      have HV0 := HV
      have BO0 := BO
      have BR0 := BR
      have BP0 := BP
      have HB0 := HB
      clear HV BO BR BP HB HPN
      go_wp2
      clear hp1 hlt hk
      go_loopw [29] (fun i wr => ∃ (k : Nat) (v : Value), k ≤ fs.length ∧ i = .int .i64 k ∧ Aside0 (Kd.R k83 83 wr w.heap.size (fun j => j ≠ go ∧ j ≠ gr) v (fs.take k)) ∧ Aside0 (Kd.R k76 76 wr w.heap.size (fun j => j ≠ go ∧ j ≠ gr) (.slice B0 rs.length d0) rs) ∧ Aside0 (wr.heap[go]? = some (.cells #[.slice B0 rs.length d0, v] 38 (0, 0))) ∧ Aside0 (wr.heap[gr]? = some (.cells z_38.toArray 38 (0, 0))) ∧ Aside0 (wr.heap[gp]? = some (.cells #[.slice A0 rs.length c0, .slice A1 fs.length c1] 38 (0, 0))) ∧ Aside0 (some gp ≠ v.ownBlock) ∧ Aside0 (Below w.heap.size w wr)) (fun i _ => fs.length - (intOf i).toNat)
      case atStart => exact ⟨0, .slice none 0 0, Nat.zero_le _, rfl, ⟨Kd.R_nil _ _ _ _ _⟩, HV0, BO0, BR0, BP0, ⟨by simp [Value.ownBlock]⟩, HB0⟩
      case round =>
        clear HV0 BO0 BR0 BP0 HB0
        obtain ⟨k, v, hk, rfl, HV, HZ, BO, BR, BP, HPN, HB⟩ := hrel
        by_cases hlt : k < fs.length
        · skip
          obtain ⟨ad, cs, e, hK, hx⟩ := elem_at (Kd.C_below HC1.out HB.out) k hlt
          subst e
          have HTK := Aside0.mk (show fs.take (k + 1) = fs.take k ++ [fs[k]] from List.take_succ_eq_append_getElem hlt)
          have HLK := Aside0.mk (show ((fs.take k).length + 1) * 104 ≤ 140737488355328 by have := HL1.out; rw [List.length_take]; omega)
          have hfx := HF83.out fs[k] (List.getElem_mem hlt)
          obtain ⟨x, hxe⟩ : ∃ x, fs[k] = x := ⟨_, rfl⟩
          rw [hxe] at hK hfx HTK
          have HFX := Aside0.mk hfx
          obtain ⟨A3, c3, A4, c4, hcs, l3, g3, l4, g4⟩ := k83_open hK
          subst hcs
          have G3 := Aside0.mk g3
          have G4 := Aside0.mk g4
          have HX := Aside0.mk (show ∀ j v, [.int .i64 x.f0, .string x.f1, .string x.f2, .slice A3 x.f3.length c3, .slice A4 x.f4.length c4, .int .u8 x.f5, .int .i64 x.f6][j]? = some v → wr.cell? ((ad.add (k * 7)).add j) = some v from hx)
          clear hx hK hxe hfx g3 l3 g4 l4
          have hz := zv83
          go_upto_region 11 with (first | ((with_reducible refine gate_dst (N := 32) rfl ?_); refine load_event rfl 83 (.tmp 31) rfl (ad.add (k * 7)) ?ev [.int .i64 x.f0, .string x.f1, .string x.f2, .slice A3 x.f3.length c3, .slice A4 x.f4.length c4, .int .u8 x.f5, .int .i64 x.f6] _ 7 HX.out Try.underlying83 rfl size83 rfl ?_; (case ev => first | rfl | (go_simp; done) | (go_simp; rfl))) | ((with_reducible refine gate_dst (N := 7) rfl ?_); refine box_event ?hg (N := 7) ?hd (cs := z_83.toArray) (t := 83) ?hr ?_; (case hd => rfl); (case hg => rfl); (case hr => first | (go_simp; done) | (go_simp; rfl)); intro gx hgx w5 hbox hb; have BX5 := Aside0.mk hbox; have HGX := Aside0.mk (show wr.heap.size ≤ gx by rw [hgx]; exact Nat.le_refl _); have HS5 := Aside0.mk hb; clear hb hbox hgx) | (refine store_event (w0 := wr) (base := wr.heap.size) (c' := [.int .i64 x.f0, .string x.f1, .string x.f2, .slice A3 x.f3.length c3, .slice A4 x.f4.length c4, .int .u8 x.f5, .int .i64 x.f6]) rfl (ty := 83) (p := .tmp 7) (v := .tmp 32) rfl rfl rfl BX5.out size83 rfl rfl (by intro u hu; simp at hu; rcases hu with rfl | rfl | rfl | rfl | rfl | rfl | rfl <;> rfl) HS5.out HGX.out ?_; intro w6 hbc hb6 hoth hsz; have BX6 := Aside0.mk hbc; have HS6 := Aside0.mk hb6; clear hbc hb6 hoth hsz))
          (try simp only [Act.put, List.setIfInBounds_toArray, List.set_cons_zero, List.set_cons_succ])
          have HC53 := Aside0.mk (fun (W : World) (h : Below wr.heap.size wr W) => clone53 A3 c3 x.f3 W (Kd.C_below G3.out h) HFX.out.1)
          have hx3 : w6.cell? ⟨gx, 3, none⟩ = some (.slice A3 x.f3.length c3) := (blk_cell BX6.out 3).trans rfl
          go_upto_region 12 with (go_at_call 53; refine Calls.mono (HC53.out w6 HS6.out) ?_; rintro e w8 ⟨v3, rfl, hR3, hb⟩; have hlt8 := blk_lt BX6.out; have HR3 := Aside0.mk (show Kd.R k80 80 w8 wr.heap.size (fun j => j ≠ gx) v3 x.f3 from Kd.R_lower (Kd.R_mono (Kd.R_bound hR3) (fun j hj => by have := hj.2.1; omega)) (below_size HS6.out)); obtain ⟨B3, d3, e3⟩ := Kd.R_slice hR3; subst e3; have BX8 := Aside0.mk (blk_below BX6.out hb); have HS8 := Aside0.mk (below_step HS6.out hb); clear hb hR3 hlt8; have hx8 : w8.cell? ⟨gx, 3, none⟩ = some (.slice A3 x.f3.length c3) := (blk_cell BX8.out 3).trans rfl; have hf8 := blk_frozen BX8.out 3)
          have BX9 := Aside0.mk (blk_put BX8.out 3 (.slice B3 x.f3.length d3) rfl)
          have HR39 := Aside0.mk (Kd.R_far (p := ⟨gx, 3, none⟩) HR3.out (fun _ hj => hj) (.slice B3 x.f3.length d3))
          have HS9 := Aside0.mk (below_set (j := 3) (v := .slice B3 x.f3.length d3) HS8.out HGX.out)
          clear hx3 hx8 hf8 BX8 HR3 HS8 BX6 HS6 HC53
          generalize w8.setCell ⟨gx, 3, none⟩ (.slice B3 x.f3.length d3) = w9 at BX9 HR39 HS9 ⊢
          simp only [List.setIfInBounds_toArray, List.set_cons_zero, List.set_cons_succ] at BX9
          have HC54 := Aside0.mk (fun (W : World) (h : Below wr.heap.size wr W) => H54.out x.f4 HFX.out.2.1 HFX.out.2.2.1 HFX.out.2.2.2 A4 c4 W (Kd.C_below G4.out h))
          have hx4 : w9.cell? ⟨gx, 4, none⟩ = some (.slice A4 x.f4.length c4) := (blk_cell BX9.out 4).trans rfl
          go_upto_region 13 with (go_at_call 54; refine Calls.mono (HC54.out w9 HS9.out) ?_; rintro e w10 ⟨v4, rfl, hR4, hb⟩; have hlt9 := blk_lt BX9.out; have HR4 := Aside0.mk (show Kd.R k109 109 w10 wr.heap.size (fun j => j ≠ gx) v4 x.f4 from Kd.R_lower (Kd.R_mono (Kd.R_bound hR4) (fun j hj => by have := hj.2.1; omega)) (below_size HS9.out)); obtain ⟨B4, d4, e4⟩ := Kd.R_slice hR4; subst e4; have BX10 := Aside0.mk (blk_below BX9.out hb); have HR310 := Aside0.mk (Kd.R_below HR39.out hb); have HS10 := Aside0.mk (below_step HS9.out hb); clear hb hR4 hlt9; have hx10 : w10.cell? ⟨gx, 4, none⟩ = some (.slice A4 x.f4.length c4) := (blk_cell BX10.out 4).trans rfl; have hf10 := blk_frozen BX10.out 4)
          have BX11 := Aside0.mk (blk_put BX10.out 4 (.slice B4 x.f4.length d4) rfl)
          have HR311 := Aside0.mk (Kd.R_far (p := ⟨gx, 4, none⟩) HR310.out (fun _ hj => hj) (.slice B4 x.f4.length d4))
          have HR411 := Aside0.mk (Kd.R_far (p := ⟨gx, 4, none⟩) HR4.out (fun _ hj => hj) (.slice B4 x.f4.length d4))
          have HS11 := Aside0.mk (below_set (j := 4) (v := .slice B4 x.f4.length d4) HS10.out HGX.out)
          clear hx4 hx10 hf10 BX10 HR310 HR4 HS10 BX9 HR39 HS9 HC54
          generalize w10.setCell ⟨gx, 4, none⟩ (.slice B4 x.f4.length d4) = w11 at BX11 HR311 HR411 HS11 ⊢
          simp only [List.setIfInBounds_toArray, List.set_cons_zero, List.set_cons_succ] at BX11
          have BO9 := Aside0.mk (blk_below BO.out HS11.out)
          have BR9 := Aside0.mk (blk_below BR.out HS11.out)
          have BP9 := Aside0.mk (blk_below BP.out HS11.out)
          have HV9 := Aside0.mk (Kd.R_below HV.out HS11.out)
          have HB9 := Aside0.mk (below_step HB.out HS11.out)
          have HZ9 := Aside0.mk (Kd.R_below HZ.out HS11.out)
          have hvl := Kd.R_lt HV.out
          have hol := blk_lt BO.out
          have hrl := blk_lt BR.out
          have HM := Aside0.mk (show k83.M w11 w.heap.size (fun j => (j ≠ go ∧ j ≠ gr) ∧ some j ≠ v.ownBlock) x [.int .i64 x.f0, .string x.f1, .string x.f2, .slice B3 x.f3.length d3, .slice B4 x.f4.length d4, .int .u8 x.f5, .int .i64 x.f6] from k83.M_lower (below_size HB.out) (k83_mkM w11 wr.heap.size _ x (Kd.R_mono (Kd.R_bound HR311.out) (fun j hj => ⟨⟨by have h2 := hj.2.1; omega, by have h2 := hj.2.1; omega⟩, fun e => by have h1 := hvl j e.symm; have h2 := hj.2.1; omega⟩)) (Kd.R_mono (Kd.R_bound HR411.out) (fun j hj => ⟨⟨by have h2 := hj.2.1; omega, by have h2 := hj.2.1; omega⟩, fun e => by have h1 := hvl j e.symm; have h2 := hj.2.1; omega⟩))))
          clear hvl hol hrl
          have ho9 : w11.cell? ⟨go, 1, none⟩ = some v := (blk_cell BO9.out 1).trans rfl
          go_wp2_with (first | ((with_reducible refine gate_dst (N := 43) rfl ?_); refine load_event rfl 83 (.tmp 7) rfl ⟨gx, 0, none⟩ rfl [.int .i64 x.f0, .string x.f1, .string x.f2, .slice B3 x.f3.length d3, .slice B4 x.f4.length d4, .int .u8 x.f5, .int .i64 x.f6] _ 7 (blk_row BX11.out) Try.underlying83 rfl size83 rfl ?_) | ((with_reducible refine gate_builtin (b := .append) (xs := #[.tmp 42, .tmp 44]) rfl ?_); at_builtin; refine Kd.R_append k83 (w0 := w) w.heap.size rfl (.tmp 42) (.tmp 44) 36 83 (.agg #[.int .i64 0, .string ⟨#[]⟩, .string ⟨#[]⟩, .slice none 0 0, .slice none 0 0, .int .u8 0, .int .i64 0]) 104 rfl Try.underlying36 info83 rfl (by decide) (by omega) v (fs.take k) x [.int .i64 x.f0, .string x.f1, .string x.f2, .slice B3 x.f3.length d3, .slice B4 x.f4.length d4, .int .u8 x.f5, .int .i64 x.f6] (fun j => j ≠ go ∧ j ≠ gr) (fun j => (j ≠ go ∧ j ≠ gr) ∧ some j ≠ v.ownBlock) rfl rfl HM.out (fun _ hj => hj) (fun j hj => ⟨by have := blk_lt BO9.out; omega, by have := blk_lt BR9.out; omega⟩) HV9.out HB9.out (below_size HB9.out) HLK.out ?_; intro v1 w12 hR12 hb12 hg12 hat12; rw [← HTK.out] at hR12; obtain ⟨lk, hlk⟩ : ∃ lk, fs.take (k + 1) = lk := ⟨_, rfl⟩; rw [hlk] at hR12; have HLE := Aside0.mk hlk; have hne1 : some go ≠ v.ownBlock := Kd.R_away HV9.out (fun _ hj => hj.1); have hne2 : some gr ≠ v.ownBlock := Kd.R_away HV9.out (fun _ hj => hj.2); have BO12 := Aside0.mk (blk_grown BO9.out hg12 hne1); have BR12 := Aside0.mk (blk_grown BR9.out hg12 hne2); have BP12 := Aside0.mk (blk_grown BP9.out hg12 HPN.out); have HPN12 := Aside0.mk (show some gp ≠ v1.ownBlock from by rcases hat12 with e | ⟨b, e, hb⟩; exact e ▸ HPN.out; exact fun h => by have h1 := blk_lt BP9.out; rw [e] at h; injection h with h; omega); obtain ⟨inr, hown⟩ := Kd.R_own HV9.out; have HZ12 := Aside0.mk (R_grown_type HZ9.out hown (by intro q hq; simp [k76, Kd.iso, Kd.pair, Kd.int, Kd.string, Kd.scalar, Kd.slice, k80] at hq; omega) hg12); clear hown; obtain ⟨Av, cv, ev⟩ := Kd.R_slice hR12; subst ev; have HR12 := Aside0.mk hR12; have HB12 := Aside0.mk hb12; clear hR12 hb12 hg12 hat12 hne1 hne2 hlk ho9; have ho12 : w12.cell? ⟨go, 1, none⟩ = some v := (blk_cell BO12.out 1).trans rfl; have hf12 := blk_frozen BO12.out 1))
          have BO13 := Aside0.mk (blk_put BO12.out 1 (.slice Av lk.length cv) rfl)
          have BR13 := Aside0.mk ((heap_other w12 go gr (.slice Av lk.length cv) 1 (fun e => HNE.out e.symm)).trans BR12.out)
          have BP13 := Aside0.mk ((heap_other w12 go gp (.slice Av lk.length cv) 1 HNP.out).trans BP12.out)
          have HV13 := Aside0.mk (Kd.R_far (p := ⟨go, 1, none⟩) HR12.out (fun _ hj => hj.1) (.slice Av lk.length cv))
          have HB13 := Aside0.mk (below_set (j := 1) (v := .slice Av lk.length cv) HB12.out HGO.out)
          have HZ13 := Aside0.mk (Kd.R_far (p := ⟨go, 1, none⟩) HZ12.out (fun _ hj => hj.1) (.slice Av lk.length cv))
          clear ho12 hf12
          go_roundw
          case rel => exact ⟨k + 1, .slice Av lk.length cv, by omega, by go_num, ⟨by rw [HLE.out]; exact HV13.out⟩, HZ13, ⟨BO13.out⟩, BR13, BP13, HPN12, HB13⟩
          case measure => simp [intOf]; omega
        · have hke : k = fs.length := by omega
          subst hke
          rw [List.take_length] at HV
          obtain ⟨B1, d1, ev⟩ := Kd.R_slice HV.out
          subst ev
          go_wp2_with (first | ((with_reducible refine gate_dst (N := 48) rfl ?_); refine load_event rfl 38 (.tmp 3) rfl ⟨go, 0, none⟩ rfl [.slice B0 rs.length d0, .slice B1 fs.length d1] _ 2 (blk_row BO.out) Try.underlying38 rfl size38 rfl ?_) | (refine store_event (w0 := w) (base := w.heap.size) (c' := [.slice B0 rs.length d0, .slice B1 fs.length d1]) rfl (ty := 38) (p := .tmp 2) (v := .tmp 48) rfl rfl rfl BR.out size38 rfl rfl (by intro u hu; simp at hu; rcases hu with rfl | rfl <;> rfl) HB.out HGR.out ?_; intro w6 hbc hb6 hoth hsz; have BR6 := Aside0.mk hbc; have HB6 := Aside0.mk hb6; have HV6 := Aside0.mk (Kd.R_step HV.out (fun j hj _ => hoth j hj.2)); have HZ6 := Aside0.mk (Kd.R_step HZ.out (fun j hj _ => hoth j hj.2)); clear hbc hb6 hoth hsz))
          exact bodyPost_ret (results_cell_row rfl _ _ gr 38 #[.slice B0 rs.length d0, .slice B1 fs.length d1] (0, 0) _ rfl BR6.out Try.underlying38 rfl size38) rfl ⟨B0, d0, B1, d1, rfl, Kd.R_mono HZ6.out (fun _ _ => trivial), Kd.R_mono HV6.out (fun _ _ => trivial), HB6.out⟩
end Go.Proofs.Ytblgcodkbapccaa.SamesWalk
