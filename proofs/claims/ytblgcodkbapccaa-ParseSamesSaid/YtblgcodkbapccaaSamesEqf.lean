/- PROVED: slices.EqualFunc at five types of elements, each by its closure's contract: two lists of one length, the same place by place. Conditions: the closure answers by p, and changes no elder memory. -/
import Derived.Test.YtblgcodkbapccaaSamesBase
namespace Go.Proofs.Ytblgcodkbapccaa.SamesWalk
open Go.RowKit Go.Proofs.Ytblgcodkbapccaa.PParseSames Go.Proofs.YtblgcodkbapccaaW.PrintWords Go.Proofs.YtblgcodkbapccaaW.PrintLast Go.Proofs.YtblgcodkbapccaaW.PrintMore
attribute [local go_sem] max2_int min2_int max_two min_two max_three min_three max_four min_four
set_option linter.unusedVariables false
set_option linter.unusedSimpArgs false


set_option maxHeartbeats 8000000 in
set_option maxRecDepth 100000 in
theorem eqf78_calls (p : S80 → S80 → Bool) (A0 : Option Addr) (c0 : Nat) (l0 : List S80) (A1 : Option Addr) (c1 : Nat) (l1 : List S80) (w : World) (hr0 : Kd.C k80 w A0 l0.length l0) (hr1 : Kd.C k80 w A1 l1.length l1)
    (hcl : ∀ x ∈ l0, ∀ (y : S80) (cs ds : List Value) (W : World), k80.K W x cs → k80.K W y ds → Calls Try.prog 79 #[.agg cs.toArray, .agg ds.toArray] W fun e W' => e = .returned (.bool (p x y)) ∧ Below W.heap.size W W') :
    Calls Try.prog 78 #[.slice A0 l0.length c0, .slice A1 l1.length c1, .func (.func 79) #[] #[]] w fun e w' => e = .returned (.bool (eqf p l0 l1)) ∧ Below w.heap.size w w' := by
  have HB := Aside0.mk (Below.refl w.heap.size w)
  have HC := Aside0.mk hr0
  have HD := Aside0.mk hr1
  have HCL := Aside0.mk hcl
  have hlen : l0.length ≤ 9223372036854775807 := hr0.2.1
  clear hr0 hr1 hcl
  obtain ⟨r, hr⟩ : ∃ r, eqf p l0 l1 = r := ⟨_, rfl⟩
  rw [hr]
  have HR := Aside0.mk hr
  clear hr
  have hz := zv80
  by_cases c1 : (l0.length : Int) = (l1.length : Int)
  · have hl : l0.length = l1.length := by omega
    have HL := Aside0.mk hl
    have c1b : ((l0.length : Int) != (l1.length : Int)) = false := bne_eq_false_iff_eq.mpr c1
    have c1c : ((l0.length : Int) == (l1.length : Int)) = true := beq_iff_eq.mpr c1
    clear c1 hl
    have HE := Aside0.mk (show eqf p (l0.drop 0) (l1.drop 0) = r from HR.out)
    clear HR
    go_enter Try.func78, Try.ntmps78
    go_wp2
    go_loopw [17] (fun i wr => ∃ k : Nat, k ≤ l0.length ∧ i = .int .i64 k ∧ Aside0 (eqf p (l0.drop k) (l1.drop k) = r) ∧ Aside0 (Below w.heap.size w wr)) (fun i _ => l0.length - (intOf i).toNat)
    case atStart => exact ⟨0, Nat.zero_le _, rfl, HE, HB⟩
    case round =>
      clear HE HB
      obtain ⟨k, hk, rfl, HE, HB⟩ := hrel
      by_cases hlt : k < l0.length
      · have hlt1 : k < l1.length := by have := HL.out; omega
        obtain ⟨ad, cs, e, hK, hx⟩ := elem_at (Kd.C_below HC.out HB.out) k hlt
        subst e
        obtain ⟨ad', ds, e, hK', hx'⟩ := elem_at (Kd.C_below HD.out HB.out) k hlt1
        subst e
        have HE2 := Aside0.mk ((eqf_at p l0 l1 k hlt hlt1).symm.trans HE.out)
        have hcs : cs.length = 4 := k80.K_len hK
        have hds : ds.length = 4 := k80.K_len hK'
        have HN := Aside0.mk (And.intro hcs hds)
        have hone := k80.K_one hK
        have hone' := k80.K_one hK'
        have HO := Aside0.mk (And.intro hone hone')
        have HX := Aside0.mk (show ∀ j v, cs[j]? = some v → wr.cell? ((ad.add (k * 4)).add j) = some v from hx)
        have HX' := Aside0.mk (show ∀ j v, ds[j]? = some v → wr.cell? ((ad'.add (k * 4)).add j) = some v from hx')
        have HKK := Aside0.mk (And.intro hK hK')
        have hcall := HCL.out l0[k] (List.getElem_mem hlt) l1[k] cs ds
        have HCALL := Aside0.mk hcall
        obtain ⟨x, hxe⟩ : ∃ x, l0[k] = x := ⟨_, rfl⟩
        obtain ⟨y, hye⟩ : ∃ y, l1[k] = y := ⟨_, rfl⟩
        rw [hxe, hye] at HKK HCALL HE2
        clear hx hx' hK hK' hcs hds hone hone' hxe hye HE hcall
        have HS0 := Aside0.mk (Below.refl wr.heap.size wr)
        go_upto_region 6 with (first | ((with_reducible refine gate_dst (N := 21) rfl ?_); refine load_event rfl 80 (.tmp 20) rfl (ad.add (k * 4)) ?ev cs _ 4 HX.out Try.underlying80 rfl size80 HN.out.1 ?_; (case ev => first | rfl | (go_simp; done) | (go_simp; rfl))) | ((with_reducible refine gate_dst (N := 8) rfl ?_); refine box_event ?hg (N := 8) ?hd (cs := z_80.toArray) (t := 80) ?hr ?_; (case hd => rfl); (case hg => rfl); (case hr => first | (go_simp; done) | (go_simp; rfl)); intro gb hgb w5 hbox hb; have BK5 := Aside0.mk hbox; have HGB := Aside0.mk (show wr.heap.size ≤ gb by rw [hgb]; exact Nat.le_refl _); have HS5 := Aside0.mk hb; clear hb hbox hgb) | (refine store_event (w0 := wr) (base := wr.heap.size) rfl (ty := 80) (p := .tmp 8) (v := .tmp 21) rfl rfl rfl BK5.out size80 HN.out.1 rfl HO.out.1 HS5.out HGB.out ?_; intro w6 hbc hb6 hoth hsz; have BK6 := Aside0.mk hbc; have HS6 := Aside0.mk hb6; clear hbc hb6 hoth hsz))
        (try simp only [Act.put, List.setIfInBounds_toArray, List.set_cons_zero, List.set_cons_succ])
        have HX6 := Aside0.mk (row_below HS6.out HX'.out)
        go_upto_region 7 with (first | ((with_reducible refine gate_dst (N := 25) rfl ?_); refine load_event rfl 80 (.tmp 24) rfl (ad'.add (k * 4)) ?ev ds _ 4 HX6.out Try.underlying80 rfl size80 HN.out.2 ?_; (case ev => first | rfl | (go_simp; done) | (go_simp; rfl))) | ((with_reducible refine gate_dst (N := 9) rfl ?_); refine box_event ?hg (N := 9) ?hd (cs := z_80.toArray) (t := 80) ?hr ?_; (case hd => rfl); (case hg => rfl); (case hr => first | (go_simp; done) | (go_simp; rfl)); intro gc hgc w7 hbox hb; have BC7 := Aside0.mk hbox; have BK7 := Aside0.mk (blk_below BK6.out hb); have HGC := Aside0.mk (show wr.heap.size ≤ gc by rw [hgc]; exact below_size HS6.out); have HNE := Aside0.mk (show gb ≠ gc by rw [hgc]; exact Nat.ne_of_lt (blk_lt BK6.out)); have HS7 := Aside0.mk (below_step HS6.out hb); clear hb hbox hgc) | (refine store_event (w0 := wr) (base := wr.heap.size) rfl (ty := 80) (p := .tmp 9) (v := .tmp 25) rfl rfl rfl BC7.out size80 HN.out.2 rfl HO.out.2 HS7.out HGC.out ?_; intro w8 hbc hb8 hoth hsz; have BC8 := Aside0.mk hbc; have BK8 := Aside0.mk ((hoth gb HNE.out).trans BK7.out); have HS8 := Aside0.mk hb8; clear hbc hb8 hoth hsz))
        (try simp only [Act.put, List.setIfInBounds_toArray, List.set_cons_zero, List.set_cons_succ])
        have HCW := Aside0.mk (HCALL.out w8 (k80.K_below HS8.out HKK.out.1) (k80.K_below HS8.out HKK.out.2))
        obtain ⟨b, hbe⟩ : ∃ b, p x y = b := ⟨_, rfl⟩
        rw [hbe] at HCW HE2
        clear hbe HCALL
        cases b with
        | true =>
          have HE3 := Aside0.mk (show eqf p (l0.drop (k + 1)) (l1.drop (k + 1)) = r by have h := HE2.out; simpa using h)
          clear HE2
          go_wp2_with (first | ((with_reducible refine gate_dst (N := 27) rfl ?_); refine load_event rfl 80 (.tmp 8) rfl ⟨gb, 0, none⟩ rfl cs _ 4 (blk_row BK8.out) Try.underlying80 rfl size80 HN.out.1 ?_) | ((with_reducible refine gate_dst (N := 28) rfl ?_); refine load_event rfl 80 (.tmp 9) rfl ⟨gc, 0, none⟩ rfl ds _ 4 (blk_row BC8.out) Try.underlying80 rfl size80 HN.out.2 ?_) | (go_at_call 79; refine HCW.out.mono ?_; rintro e9 w9 ⟨rfl, hb9⟩; have HB9 := Aside0.mk (below_step HB.out (below_step HS8.out hb9)); clear hb9))
          go_roundw
          case rel => exact ⟨k + 1, by omega, by go_num, HE3, HB9⟩
          case measure => simp [intOf]; omega
        | false =>
          have HE3 := Aside0.mk (show false = r by have h := HE2.out; simpa using h)
          obtain rfl := HE3.out
          clear HE2
          go_wp2_with (first | ((with_reducible refine gate_dst (N := 27) rfl ?_); refine load_event rfl 80 (.tmp 8) rfl ⟨gb, 0, none⟩ rfl cs _ 4 (blk_row BK8.out) Try.underlying80 rfl size80 HN.out.1 ?_) | ((with_reducible refine gate_dst (N := 28) rfl ?_); refine load_event rfl 80 (.tmp 9) rfl ⟨gc, 0, none⟩ rfl ds _ 4 (blk_row BC8.out) Try.underlying80 rfl size80 HN.out.2 ?_) | (go_at_call 79; refine HCW.out.mono ?_; rintro e9 w9 ⟨rfl, hb9⟩; have HB9 := Aside0.mk (below_step HB.out (below_step HS8.out hb9)); clear hb9))
          go_ret
          exact ⟨rfl, HB9.out⟩
      · have hke : k = l0.length := by omega
        subst hke
        have HE3 := Aside0.mk (show true = r by rw [← HE.out, eqf_end p l0 l1 HL.out])
        obtain rfl := HE3.out
        clear HE hlt hk
        go_wp2
        go_ret
        exact ⟨rfl, HB.out⟩
  · have c1b : ((l0.length : Int) != (l1.length : Int)) = true := bne_iff_ne.mpr c1
    have c1c : ((l0.length : Int) == (l1.length : Int)) = false := beq_eq_false_iff_ne.mpr c1
    have HE3 := Aside0.mk (show false = r by rw [← HR.out, eqf_len p l0 l1 (by omega)])
    obtain rfl := HE3.out
    clear HR
    go_enter Try.func78, Try.ntmps78
    go_wp2
    go_ret
    exact ⟨rfl, HB.out⟩


set_option maxHeartbeats 8000000 in
set_option maxRecDepth 100000 in
theorem eqf87_calls (p : S111 → S111 → Bool) (A0 : Option Addr) (c0 : Nat) (l0 : List S111) (A1 : Option Addr) (c1 : Nat) (l1 : List S111) (w : World) (hr0 : Kd.C k111 w A0 l0.length l0) (hr1 : Kd.C k111 w A1 l1.length l1)
    (hcl : ∀ x ∈ l0, ∀ (y : S111) (cs ds : List Value) (W : World), k111.K W x cs → k111.K W y ds → Calls Try.prog 88 #[.agg cs.toArray, .agg ds.toArray] W fun e W' => e = .returned (.bool (p x y)) ∧ Below W.heap.size W W') :
    Calls Try.prog 87 #[.slice A0 l0.length c0, .slice A1 l1.length c1, .func (.func 88) #[] #[]] w fun e w' => e = .returned (.bool (eqf p l0 l1)) ∧ Below w.heap.size w w' := by
  have HB := Aside0.mk (Below.refl w.heap.size w)
  have HC := Aside0.mk hr0
  have HD := Aside0.mk hr1
  have HCL := Aside0.mk hcl
  have hlen : l0.length ≤ 9223372036854775807 := hr0.2.1
  clear hr0 hr1 hcl
  obtain ⟨r, hr⟩ : ∃ r, eqf p l0 l1 = r := ⟨_, rfl⟩
  rw [hr]
  have HR := Aside0.mk hr
  clear hr
  have hz := zv111
  by_cases c1 : (l0.length : Int) = (l1.length : Int)
  · have hl : l0.length = l1.length := by omega
    have HL := Aside0.mk hl
    have c1b : ((l0.length : Int) != (l1.length : Int)) = false := bne_eq_false_iff_eq.mpr c1
    have c1c : ((l0.length : Int) == (l1.length : Int)) = true := beq_iff_eq.mpr c1
    clear c1 hl
    have HE := Aside0.mk (show eqf p (l0.drop 0) (l1.drop 0) = r from HR.out)
    clear HR
    go_enter Try.func87, Try.ntmps87
    go_wp2
    go_loopw [17] (fun i wr => ∃ k : Nat, k ≤ l0.length ∧ i = .int .i64 k ∧ Aside0 (eqf p (l0.drop k) (l1.drop k) = r) ∧ Aside0 (Below w.heap.size w wr)) (fun i _ => l0.length - (intOf i).toNat)
    case atStart => exact ⟨0, Nat.zero_le _, rfl, HE, HB⟩
    case round =>
      clear HE HB
      obtain ⟨k, hk, rfl, HE, HB⟩ := hrel
      by_cases hlt : k < l0.length
      · have hlt1 : k < l1.length := by have := HL.out; omega
        obtain ⟨ad, cs, e, hK, hx⟩ := elem_at (Kd.C_below HC.out HB.out) k hlt
        subst e
        obtain ⟨ad', ds, e, hK', hx'⟩ := elem_at (Kd.C_below HD.out HB.out) k hlt1
        subst e
        have HE2 := Aside0.mk ((eqf_at p l0 l1 k hlt hlt1).symm.trans HE.out)
        have hcs : cs.length = 8 := k111.K_len hK
        have hds : ds.length = 8 := k111.K_len hK'
        have HN := Aside0.mk (And.intro hcs hds)
        have hone := k111.K_one hK
        have hone' := k111.K_one hK'
        have HO := Aside0.mk (And.intro hone hone')
        have HX := Aside0.mk (show ∀ j v, cs[j]? = some v → wr.cell? ((ad.add (k * 8)).add j) = some v from hx)
        have HX' := Aside0.mk (show ∀ j v, ds[j]? = some v → wr.cell? ((ad'.add (k * 8)).add j) = some v from hx')
        have HKK := Aside0.mk (And.intro hK hK')
        have hcall := HCL.out l0[k] (List.getElem_mem hlt) l1[k] cs ds
        have HCALL := Aside0.mk hcall
        obtain ⟨x, hxe⟩ : ∃ x, l0[k] = x := ⟨_, rfl⟩
        obtain ⟨y, hye⟩ : ∃ y, l1[k] = y := ⟨_, rfl⟩
        rw [hxe, hye] at HKK HCALL HE2
        clear hx hx' hK hK' hcs hds hone hone' hxe hye HE hcall
        have HS0 := Aside0.mk (Below.refl wr.heap.size wr)
        go_upto_region 6 with (first | ((with_reducible refine gate_dst (N := 21) rfl ?_); refine load_event rfl 111 (.tmp 20) rfl (ad.add (k * 8)) ?ev cs _ 8 HX.out Try.underlying111 rfl size111 HN.out.1 ?_; (case ev => first | rfl | (go_simp; done) | (go_simp; rfl))) | ((with_reducible refine gate_dst (N := 8) rfl ?_); refine box_event ?hg (N := 8) ?hd (cs := z_111.toArray) (t := 111) ?hr ?_; (case hd => rfl); (case hg => rfl); (case hr => first | (go_simp; done) | (go_simp; rfl)); intro gb hgb w5 hbox hb; have BK5 := Aside0.mk hbox; have HGB := Aside0.mk (show wr.heap.size ≤ gb by rw [hgb]; exact Nat.le_refl _); have HS5 := Aside0.mk hb; clear hb hbox hgb) | (refine store_event (w0 := wr) (base := wr.heap.size) rfl (ty := 111) (p := .tmp 8) (v := .tmp 21) rfl rfl rfl BK5.out size111 HN.out.1 rfl HO.out.1 HS5.out HGB.out ?_; intro w6 hbc hb6 hoth hsz; have BK6 := Aside0.mk hbc; have HS6 := Aside0.mk hb6; clear hbc hb6 hoth hsz))
        (try simp only [Act.put, List.setIfInBounds_toArray, List.set_cons_zero, List.set_cons_succ])
        have HX6 := Aside0.mk (row_below HS6.out HX'.out)
        go_upto_region 7 with (first | ((with_reducible refine gate_dst (N := 25) rfl ?_); refine load_event rfl 111 (.tmp 24) rfl (ad'.add (k * 8)) ?ev ds _ 8 HX6.out Try.underlying111 rfl size111 HN.out.2 ?_; (case ev => first | rfl | (go_simp; done) | (go_simp; rfl))) | ((with_reducible refine gate_dst (N := 9) rfl ?_); refine box_event ?hg (N := 9) ?hd (cs := z_111.toArray) (t := 111) ?hr ?_; (case hd => rfl); (case hg => rfl); (case hr => first | (go_simp; done) | (go_simp; rfl)); intro gc hgc w7 hbox hb; have BC7 := Aside0.mk hbox; have BK7 := Aside0.mk (blk_below BK6.out hb); have HGC := Aside0.mk (show wr.heap.size ≤ gc by rw [hgc]; exact below_size HS6.out); have HNE := Aside0.mk (show gb ≠ gc by rw [hgc]; exact Nat.ne_of_lt (blk_lt BK6.out)); have HS7 := Aside0.mk (below_step HS6.out hb); clear hb hbox hgc) | (refine store_event (w0 := wr) (base := wr.heap.size) rfl (ty := 111) (p := .tmp 9) (v := .tmp 25) rfl rfl rfl BC7.out size111 HN.out.2 rfl HO.out.2 HS7.out HGC.out ?_; intro w8 hbc hb8 hoth hsz; have BC8 := Aside0.mk hbc; have BK8 := Aside0.mk ((hoth gb HNE.out).trans BK7.out); have HS8 := Aside0.mk hb8; clear hbc hb8 hoth hsz))
        (try simp only [Act.put, List.setIfInBounds_toArray, List.set_cons_zero, List.set_cons_succ])
        have HCW := Aside0.mk (HCALL.out w8 (k111.K_below HS8.out HKK.out.1) (k111.K_below HS8.out HKK.out.2))
        obtain ⟨b, hbe⟩ : ∃ b, p x y = b := ⟨_, rfl⟩
        rw [hbe] at HCW HE2
        clear hbe HCALL
        cases b with
        | true =>
          have HE3 := Aside0.mk (show eqf p (l0.drop (k + 1)) (l1.drop (k + 1)) = r by have h := HE2.out; simpa using h)
          clear HE2
          go_wp2_with (first | ((with_reducible refine gate_dst (N := 27) rfl ?_); refine load_event rfl 111 (.tmp 8) rfl ⟨gb, 0, none⟩ rfl cs _ 8 (blk_row BK8.out) Try.underlying111 rfl size111 HN.out.1 ?_) | ((with_reducible refine gate_dst (N := 28) rfl ?_); refine load_event rfl 111 (.tmp 9) rfl ⟨gc, 0, none⟩ rfl ds _ 8 (blk_row BC8.out) Try.underlying111 rfl size111 HN.out.2 ?_) | (go_at_call 88; refine HCW.out.mono ?_; rintro e9 w9 ⟨rfl, hb9⟩; have HB9 := Aside0.mk (below_step HB.out (below_step HS8.out hb9)); clear hb9))
          go_roundw
          case rel => exact ⟨k + 1, by omega, by go_num, HE3, HB9⟩
          case measure => simp [intOf]; omega
        | false =>
          have HE3 := Aside0.mk (show false = r by have h := HE2.out; simpa using h)
          obtain rfl := HE3.out
          clear HE2
          go_wp2_with (first | ((with_reducible refine gate_dst (N := 27) rfl ?_); refine load_event rfl 111 (.tmp 8) rfl ⟨gb, 0, none⟩ rfl cs _ 8 (blk_row BK8.out) Try.underlying111 rfl size111 HN.out.1 ?_) | ((with_reducible refine gate_dst (N := 28) rfl ?_); refine load_event rfl 111 (.tmp 9) rfl ⟨gc, 0, none⟩ rfl ds _ 8 (blk_row BC8.out) Try.underlying111 rfl size111 HN.out.2 ?_) | (go_at_call 88; refine HCW.out.mono ?_; rintro e9 w9 ⟨rfl, hb9⟩; have HB9 := Aside0.mk (below_step HB.out (below_step HS8.out hb9)); clear hb9))
          go_ret
          exact ⟨rfl, HB9.out⟩
      · have hke : k = l0.length := by omega
        subst hke
        have HE3 := Aside0.mk (show true = r by rw [← HE.out, eqf_end p l0 l1 HL.out])
        obtain rfl := HE3.out
        clear HE hlt hk
        go_wp2
        go_ret
        exact ⟨rfl, HB.out⟩
  · have c1b : ((l0.length : Int) != (l1.length : Int)) = true := bne_iff_ne.mpr c1
    have c1c : ((l0.length : Int) == (l1.length : Int)) = false := beq_eq_false_iff_ne.mpr c1
    have HE3 := Aside0.mk (show false = r by rw [← HR.out, eqf_len p l0 l1 (by omega)])
    obtain rfl := HE3.out
    clear HR
    go_enter Try.func87, Try.ntmps87
    go_wp2
    go_ret
    exact ⟨rfl, HB.out⟩


set_option maxHeartbeats 8000000 in
set_option maxRecDepth 100000 in
theorem eqf80_calls (p : S109 → S109 → Bool) (A0 : Option Addr) (c0 : Nat) (l0 : List S109) (A1 : Option Addr) (c1 : Nat) (l1 : List S109) (w : World) (hr0 : Kd.C k109 w A0 l0.length l0) (hr1 : Kd.C k109 w A1 l1.length l1)
    (hcl : ∀ x ∈ l0, ∀ (y : S109) (cs ds : List Value) (W : World), k109.K W x cs → k109.K W y ds → Calls Try.prog 81 #[.agg cs.toArray, .agg ds.toArray] W fun e W' => e = .returned (.bool (p x y)) ∧ Below W.heap.size W W') :
    Calls Try.prog 80 #[.slice A0 l0.length c0, .slice A1 l1.length c1, .func (.func 81) #[] #[]] w fun e w' => e = .returned (.bool (eqf p l0 l1)) ∧ Below w.heap.size w w' := by
  have HB := Aside0.mk (Below.refl w.heap.size w)
  have HC := Aside0.mk hr0
  have HD := Aside0.mk hr1
  have HCL := Aside0.mk hcl
  have hlen : l0.length ≤ 9223372036854775807 := hr0.2.1
  clear hr0 hr1 hcl
  obtain ⟨r, hr⟩ : ∃ r, eqf p l0 l1 = r := ⟨_, rfl⟩
  rw [hr]
  have HR := Aside0.mk hr
  clear hr
  have hz := zv109
  by_cases c1 : (l0.length : Int) = (l1.length : Int)
  · have hl : l0.length = l1.length := by omega
    have HL := Aside0.mk hl
    have c1b : ((l0.length : Int) != (l1.length : Int)) = false := bne_eq_false_iff_eq.mpr c1
    have c1c : ((l0.length : Int) == (l1.length : Int)) = true := beq_iff_eq.mpr c1
    clear c1 hl
    have HE := Aside0.mk (show eqf p (l0.drop 0) (l1.drop 0) = r from HR.out)
    clear HR
    go_enter Try.func80, Try.ntmps80
    go_wp2
    go_loopw [17] (fun i wr => ∃ k : Nat, k ≤ l0.length ∧ i = .int .i64 k ∧ Aside0 (eqf p (l0.drop k) (l1.drop k) = r) ∧ Aside0 (Below w.heap.size w wr)) (fun i _ => l0.length - (intOf i).toNat)
    case atStart => exact ⟨0, Nat.zero_le _, rfl, HE, HB⟩
    case round =>
      clear HE HB
      obtain ⟨k, hk, rfl, HE, HB⟩ := hrel
      by_cases hlt : k < l0.length
      · have hlt1 : k < l1.length := by have := HL.out; omega
        obtain ⟨ad, cs, e, hK, hx⟩ := elem_at (Kd.C_below HC.out HB.out) k hlt
        subst e
        obtain ⟨ad', ds, e, hK', hx'⟩ := elem_at (Kd.C_below HD.out HB.out) k hlt1
        subst e
        have HE2 := Aside0.mk ((eqf_at p l0 l1 k hlt hlt1).symm.trans HE.out)
        have hcs : cs.length = 10 := k109.K_len hK
        have hds : ds.length = 10 := k109.K_len hK'
        have HN := Aside0.mk (And.intro hcs hds)
        have hone := k109.K_one hK
        have hone' := k109.K_one hK'
        have HO := Aside0.mk (And.intro hone hone')
        have HX := Aside0.mk (show ∀ j v, cs[j]? = some v → wr.cell? ((ad.add (k * 10)).add j) = some v from hx)
        have HX' := Aside0.mk (show ∀ j v, ds[j]? = some v → wr.cell? ((ad'.add (k * 10)).add j) = some v from hx')
        have HKK := Aside0.mk (And.intro hK hK')
        have hcall := HCL.out l0[k] (List.getElem_mem hlt) l1[k] cs ds
        have HCALL := Aside0.mk hcall
        obtain ⟨x, hxe⟩ : ∃ x, l0[k] = x := ⟨_, rfl⟩
        obtain ⟨y, hye⟩ : ∃ y, l1[k] = y := ⟨_, rfl⟩
        rw [hxe, hye] at HKK HCALL HE2
        clear hx hx' hK hK' hcs hds hone hone' hxe hye HE hcall
        have HS0 := Aside0.mk (Below.refl wr.heap.size wr)
        go_upto_region 6 with (first | ((with_reducible refine gate_dst (N := 21) rfl ?_); refine load_event rfl 109 (.tmp 20) rfl (ad.add (k * 10)) ?ev cs _ 10 HX.out Try.underlying109 rfl size109 HN.out.1 ?_; (case ev => first | rfl | (go_simp; done) | (go_simp; rfl))) | ((with_reducible refine gate_dst (N := 8) rfl ?_); refine box_event ?hg (N := 8) ?hd (cs := z_109.toArray) (t := 109) ?hr ?_; (case hd => rfl); (case hg => rfl); (case hr => first | (go_simp; done) | (go_simp; rfl)); intro gb hgb w5 hbox hb; have BK5 := Aside0.mk hbox; have HGB := Aside0.mk (show wr.heap.size ≤ gb by rw [hgb]; exact Nat.le_refl _); have HS5 := Aside0.mk hb; clear hb hbox hgb) | (refine store_event (w0 := wr) (base := wr.heap.size) rfl (ty := 109) (p := .tmp 8) (v := .tmp 21) rfl rfl rfl BK5.out size109 HN.out.1 rfl HO.out.1 HS5.out HGB.out ?_; intro w6 hbc hb6 hoth hsz; have BK6 := Aside0.mk hbc; have HS6 := Aside0.mk hb6; clear hbc hb6 hoth hsz))
        (try simp only [Act.put, List.setIfInBounds_toArray, List.set_cons_zero, List.set_cons_succ])
        have HX6 := Aside0.mk (row_below HS6.out HX'.out)
        go_upto_region 7 with (first | ((with_reducible refine gate_dst (N := 25) rfl ?_); refine load_event rfl 109 (.tmp 24) rfl (ad'.add (k * 10)) ?ev ds _ 10 HX6.out Try.underlying109 rfl size109 HN.out.2 ?_; (case ev => first | rfl | (go_simp; done) | (go_simp; rfl))) | ((with_reducible refine gate_dst (N := 9) rfl ?_); refine box_event ?hg (N := 9) ?hd (cs := z_109.toArray) (t := 109) ?hr ?_; (case hd => rfl); (case hg => rfl); (case hr => first | (go_simp; done) | (go_simp; rfl)); intro gc hgc w7 hbox hb; have BC7 := Aside0.mk hbox; have BK7 := Aside0.mk (blk_below BK6.out hb); have HGC := Aside0.mk (show wr.heap.size ≤ gc by rw [hgc]; exact below_size HS6.out); have HNE := Aside0.mk (show gb ≠ gc by rw [hgc]; exact Nat.ne_of_lt (blk_lt BK6.out)); have HS7 := Aside0.mk (below_step HS6.out hb); clear hb hbox hgc) | (refine store_event (w0 := wr) (base := wr.heap.size) rfl (ty := 109) (p := .tmp 9) (v := .tmp 25) rfl rfl rfl BC7.out size109 HN.out.2 rfl HO.out.2 HS7.out HGC.out ?_; intro w8 hbc hb8 hoth hsz; have BC8 := Aside0.mk hbc; have BK8 := Aside0.mk ((hoth gb HNE.out).trans BK7.out); have HS8 := Aside0.mk hb8; clear hbc hb8 hoth hsz))
        (try simp only [Act.put, List.setIfInBounds_toArray, List.set_cons_zero, List.set_cons_succ])
        have HCW := Aside0.mk (HCALL.out w8 (k109.K_below HS8.out HKK.out.1) (k109.K_below HS8.out HKK.out.2))
        obtain ⟨b, hbe⟩ : ∃ b, p x y = b := ⟨_, rfl⟩
        rw [hbe] at HCW HE2
        clear hbe HCALL
        cases b with
        | true =>
          have HE3 := Aside0.mk (show eqf p (l0.drop (k + 1)) (l1.drop (k + 1)) = r by have h := HE2.out; simpa using h)
          clear HE2
          go_wp2_with (first | ((with_reducible refine gate_dst (N := 27) rfl ?_); refine load_event rfl 109 (.tmp 8) rfl ⟨gb, 0, none⟩ rfl cs _ 10 (blk_row BK8.out) Try.underlying109 rfl size109 HN.out.1 ?_) | ((with_reducible refine gate_dst (N := 28) rfl ?_); refine load_event rfl 109 (.tmp 9) rfl ⟨gc, 0, none⟩ rfl ds _ 10 (blk_row BC8.out) Try.underlying109 rfl size109 HN.out.2 ?_) | (go_at_call 81; refine HCW.out.mono ?_; rintro e9 w9 ⟨rfl, hb9⟩; have HB9 := Aside0.mk (below_step HB.out (below_step HS8.out hb9)); clear hb9))
          go_roundw
          case rel => exact ⟨k + 1, by omega, by go_num, HE3, HB9⟩
          case measure => simp [intOf]; omega
        | false =>
          have HE3 := Aside0.mk (show false = r by have h := HE2.out; simpa using h)
          obtain rfl := HE3.out
          clear HE2
          go_wp2_with (first | ((with_reducible refine gate_dst (N := 27) rfl ?_); refine load_event rfl 109 (.tmp 8) rfl ⟨gb, 0, none⟩ rfl cs _ 10 (blk_row BK8.out) Try.underlying109 rfl size109 HN.out.1 ?_) | ((with_reducible refine gate_dst (N := 28) rfl ?_); refine load_event rfl 109 (.tmp 9) rfl ⟨gc, 0, none⟩ rfl ds _ 10 (blk_row BC8.out) Try.underlying109 rfl size109 HN.out.2 ?_) | (go_at_call 81; refine HCW.out.mono ?_; rintro e9 w9 ⟨rfl, hb9⟩; have HB9 := Aside0.mk (below_step HB.out (below_step HS8.out hb9)); clear hb9))
          go_ret
          exact ⟨rfl, HB9.out⟩
      · have hke : k = l0.length := by omega
        subst hke
        have HE3 := Aside0.mk (show true = r by rw [← HE.out, eqf_end p l0 l1 HL.out])
        obtain rfl := HE3.out
        clear HE hlt hk
        go_wp2
        go_ret
        exact ⟨rfl, HB.out⟩
  · have c1b : ((l0.length : Int) != (l1.length : Int)) = true := bne_iff_ne.mpr c1
    have c1c : ((l0.length : Int) == (l1.length : Int)) = false := beq_eq_false_iff_ne.mpr c1
    have HE3 := Aside0.mk (show false = r by rw [← HR.out, eqf_len p l0 l1 (by omega)])
    obtain rfl := HE3.out
    clear HR
    go_enter Try.func80, Try.ntmps80
    go_wp2
    go_ret
    exact ⟨rfl, HB.out⟩


set_option maxHeartbeats 8000000 in
set_option maxRecDepth 100000 in
theorem eqf55_calls (p : S76 → S76 → Bool) (A0 : Option Addr) (c0 : Nat) (l0 : List S76) (A1 : Option Addr) (c1 : Nat) (l1 : List S76) (w : World) (hr0 : Kd.C k76 w A0 l0.length l0) (hr1 : Kd.C k76 w A1 l1.length l1)
    (hcl : ∀ x ∈ l0, ∀ (y : S76) (cs ds : List Value) (W : World), k76.K W x cs → k76.K W y ds → Calls Try.prog 56 #[.agg cs.toArray, .agg ds.toArray] W fun e W' => e = .returned (.bool (p x y)) ∧ Below W.heap.size W W') :
    Calls Try.prog 55 #[.slice A0 l0.length c0, .slice A1 l1.length c1, .func (.func 56) #[] #[]] w fun e w' => e = .returned (.bool (eqf p l0 l1)) ∧ Below w.heap.size w w' := by
  have HB := Aside0.mk (Below.refl w.heap.size w)
  have HC := Aside0.mk hr0
  have HD := Aside0.mk hr1
  have HCL := Aside0.mk hcl
  have hlen : l0.length ≤ 9223372036854775807 := hr0.2.1
  clear hr0 hr1 hcl
  obtain ⟨r, hr⟩ : ∃ r, eqf p l0 l1 = r := ⟨_, rfl⟩
  rw [hr]
  have HR := Aside0.mk hr
  clear hr
  have hz := zv76
  by_cases c1 : (l0.length : Int) = (l1.length : Int)
  · have hl : l0.length = l1.length := by omega
    have HL := Aside0.mk hl
    have c1b : ((l0.length : Int) != (l1.length : Int)) = false := bne_eq_false_iff_eq.mpr c1
    have c1c : ((l0.length : Int) == (l1.length : Int)) = true := beq_iff_eq.mpr c1
    clear c1 hl
    have HE := Aside0.mk (show eqf p (l0.drop 0) (l1.drop 0) = r from HR.out)
    clear HR
    go_enter Try.func55, Try.ntmps55
    go_wp2
    go_loopw [17] (fun i wr => ∃ k : Nat, k ≤ l0.length ∧ i = .int .i64 k ∧ Aside0 (eqf p (l0.drop k) (l1.drop k) = r) ∧ Aside0 (Below w.heap.size w wr)) (fun i _ => l0.length - (intOf i).toNat)
    case atStart => exact ⟨0, Nat.zero_le _, rfl, HE, HB⟩
    case round =>
      clear HE HB
      obtain ⟨k, hk, rfl, HE, HB⟩ := hrel
      by_cases hlt : k < l0.length
      · have hlt1 : k < l1.length := by have := HL.out; omega
        obtain ⟨ad, cs, e, hK, hx⟩ := elem_at (Kd.C_below HC.out HB.out) k hlt
        subst e
        obtain ⟨ad', ds, e, hK', hx'⟩ := elem_at (Kd.C_below HD.out HB.out) k hlt1
        subst e
        have HE2 := Aside0.mk ((eqf_at p l0 l1 k hlt hlt1).symm.trans HE.out)
        have hcs : cs.length = 4 := k76.K_len hK
        have hds : ds.length = 4 := k76.K_len hK'
        have HN := Aside0.mk (And.intro hcs hds)
        have hone := k76.K_one hK
        have hone' := k76.K_one hK'
        have HO := Aside0.mk (And.intro hone hone')
        have HX := Aside0.mk (show ∀ j v, cs[j]? = some v → wr.cell? ((ad.add (k * 4)).add j) = some v from hx)
        have HX' := Aside0.mk (show ∀ j v, ds[j]? = some v → wr.cell? ((ad'.add (k * 4)).add j) = some v from hx')
        have HKK := Aside0.mk (And.intro hK hK')
        have hcall := HCL.out l0[k] (List.getElem_mem hlt) l1[k] cs ds
        have HCALL := Aside0.mk hcall
        obtain ⟨x, hxe⟩ : ∃ x, l0[k] = x := ⟨_, rfl⟩
        obtain ⟨y, hye⟩ : ∃ y, l1[k] = y := ⟨_, rfl⟩
        rw [hxe, hye] at HKK HCALL HE2
        clear hx hx' hK hK' hcs hds hone hone' hxe hye HE hcall
        have HS0 := Aside0.mk (Below.refl wr.heap.size wr)
        go_upto_region 6 with (first | ((with_reducible refine gate_dst (N := 21) rfl ?_); refine load_event rfl 76 (.tmp 20) rfl (ad.add (k * 4)) ?ev cs _ 4 HX.out Try.underlying76 rfl size76 HN.out.1 ?_; (case ev => first | rfl | (go_simp; done) | (go_simp; rfl))) | ((with_reducible refine gate_dst (N := 8) rfl ?_); refine box_event ?hg (N := 8) ?hd (cs := z_76.toArray) (t := 76) ?hr ?_; (case hd => rfl); (case hg => rfl); (case hr => first | (go_simp; done) | (go_simp; rfl)); intro gb hgb w5 hbox hb; have BK5 := Aside0.mk hbox; have HGB := Aside0.mk (show wr.heap.size ≤ gb by rw [hgb]; exact Nat.le_refl _); have HS5 := Aside0.mk hb; clear hb hbox hgb) | (refine store_event (w0 := wr) (base := wr.heap.size) rfl (ty := 76) (p := .tmp 8) (v := .tmp 21) rfl rfl rfl BK5.out size76 HN.out.1 rfl HO.out.1 HS5.out HGB.out ?_; intro w6 hbc hb6 hoth hsz; have BK6 := Aside0.mk hbc; have HS6 := Aside0.mk hb6; clear hbc hb6 hoth hsz))
        (try simp only [Act.put, List.setIfInBounds_toArray, List.set_cons_zero, List.set_cons_succ])
        have HX6 := Aside0.mk (row_below HS6.out HX'.out)
        go_upto_region 7 with (first | ((with_reducible refine gate_dst (N := 25) rfl ?_); refine load_event rfl 76 (.tmp 24) rfl (ad'.add (k * 4)) ?ev ds _ 4 HX6.out Try.underlying76 rfl size76 HN.out.2 ?_; (case ev => first | rfl | (go_simp; done) | (go_simp; rfl))) | ((with_reducible refine gate_dst (N := 9) rfl ?_); refine box_event ?hg (N := 9) ?hd (cs := z_76.toArray) (t := 76) ?hr ?_; (case hd => rfl); (case hg => rfl); (case hr => first | (go_simp; done) | (go_simp; rfl)); intro gc hgc w7 hbox hb; have BC7 := Aside0.mk hbox; have BK7 := Aside0.mk (blk_below BK6.out hb); have HGC := Aside0.mk (show wr.heap.size ≤ gc by rw [hgc]; exact below_size HS6.out); have HNE := Aside0.mk (show gb ≠ gc by rw [hgc]; exact Nat.ne_of_lt (blk_lt BK6.out)); have HS7 := Aside0.mk (below_step HS6.out hb); clear hb hbox hgc) | (refine store_event (w0 := wr) (base := wr.heap.size) rfl (ty := 76) (p := .tmp 9) (v := .tmp 25) rfl rfl rfl BC7.out size76 HN.out.2 rfl HO.out.2 HS7.out HGC.out ?_; intro w8 hbc hb8 hoth hsz; have BC8 := Aside0.mk hbc; have BK8 := Aside0.mk ((hoth gb HNE.out).trans BK7.out); have HS8 := Aside0.mk hb8; clear hbc hb8 hoth hsz))
        (try simp only [Act.put, List.setIfInBounds_toArray, List.set_cons_zero, List.set_cons_succ])
        have HCW := Aside0.mk (HCALL.out w8 (k76.K_below HS8.out HKK.out.1) (k76.K_below HS8.out HKK.out.2))
        obtain ⟨b, hbe⟩ : ∃ b, p x y = b := ⟨_, rfl⟩
        rw [hbe] at HCW HE2
        clear hbe HCALL
        cases b with
        | true =>
          have HE3 := Aside0.mk (show eqf p (l0.drop (k + 1)) (l1.drop (k + 1)) = r by have h := HE2.out; simpa using h)
          clear HE2
          go_wp2_with (first | ((with_reducible refine gate_dst (N := 27) rfl ?_); refine load_event rfl 76 (.tmp 8) rfl ⟨gb, 0, none⟩ rfl cs _ 4 (blk_row BK8.out) Try.underlying76 rfl size76 HN.out.1 ?_) | ((with_reducible refine gate_dst (N := 28) rfl ?_); refine load_event rfl 76 (.tmp 9) rfl ⟨gc, 0, none⟩ rfl ds _ 4 (blk_row BC8.out) Try.underlying76 rfl size76 HN.out.2 ?_) | (go_at_call 56; refine HCW.out.mono ?_; rintro e9 w9 ⟨rfl, hb9⟩; have HB9 := Aside0.mk (below_step HB.out (below_step HS8.out hb9)); clear hb9))
          go_roundw
          case rel => exact ⟨k + 1, by omega, by go_num, HE3, HB9⟩
          case measure => simp [intOf]; omega
        | false =>
          have HE3 := Aside0.mk (show false = r by have h := HE2.out; simpa using h)
          obtain rfl := HE3.out
          clear HE2
          go_wp2_with (first | ((with_reducible refine gate_dst (N := 27) rfl ?_); refine load_event rfl 76 (.tmp 8) rfl ⟨gb, 0, none⟩ rfl cs _ 4 (blk_row BK8.out) Try.underlying76 rfl size76 HN.out.1 ?_) | ((with_reducible refine gate_dst (N := 28) rfl ?_); refine load_event rfl 76 (.tmp 9) rfl ⟨gc, 0, none⟩ rfl ds _ 4 (blk_row BC8.out) Try.underlying76 rfl size76 HN.out.2 ?_) | (go_at_call 56; refine HCW.out.mono ?_; rintro e9 w9 ⟨rfl, hb9⟩; have HB9 := Aside0.mk (below_step HB.out (below_step HS8.out hb9)); clear hb9))
          go_ret
          exact ⟨rfl, HB9.out⟩
      · have hke : k = l0.length := by omega
        subst hke
        have HE3 := Aside0.mk (show true = r by rw [← HE.out, eqf_end p l0 l1 HL.out])
        obtain rfl := HE3.out
        clear HE hlt hk
        go_wp2
        go_ret
        exact ⟨rfl, HB.out⟩
  · have c1b : ((l0.length : Int) != (l1.length : Int)) = true := bne_iff_ne.mpr c1
    have c1c : ((l0.length : Int) == (l1.length : Int)) = false := beq_eq_false_iff_ne.mpr c1
    have HE3 := Aside0.mk (show false = r by rw [← HR.out, eqf_len p l0 l1 (by omega)])
    obtain rfl := HE3.out
    clear HR
    go_enter Try.func55, Try.ntmps55
    go_wp2
    go_ret
    exact ⟨rfl, HB.out⟩


set_option maxHeartbeats 8000000 in
set_option maxRecDepth 100000 in
theorem eqf58_calls (p : S83 → S83 → Bool) (A0 : Option Addr) (c0 : Nat) (l0 : List S83) (A1 : Option Addr) (c1 : Nat) (l1 : List S83) (w : World) (hr0 : Kd.C k83 w A0 l0.length l0) (hr1 : Kd.C k83 w A1 l1.length l1)
    (hcl : ∀ x ∈ l0, ∀ (y : S83) (cs ds : List Value) (W : World), k83.K W x cs → k83.K W y ds → Calls Try.prog 59 #[.agg cs.toArray, .agg ds.toArray] W fun e W' => e = .returned (.bool (p x y)) ∧ Below W.heap.size W W') :
    Calls Try.prog 58 #[.slice A0 l0.length c0, .slice A1 l1.length c1, .func (.func 59) #[] #[]] w fun e w' => e = .returned (.bool (eqf p l0 l1)) ∧ Below w.heap.size w w' := by
  have HB := Aside0.mk (Below.refl w.heap.size w)
  have HC := Aside0.mk hr0
  have HD := Aside0.mk hr1
  have HCL := Aside0.mk hcl
  have hlen : l0.length ≤ 9223372036854775807 := hr0.2.1
  clear hr0 hr1 hcl
  obtain ⟨r, hr⟩ : ∃ r, eqf p l0 l1 = r := ⟨_, rfl⟩
  rw [hr]
  have HR := Aside0.mk hr
  clear hr
  have hz := zv83
  by_cases c1 : (l0.length : Int) = (l1.length : Int)
  · have hl : l0.length = l1.length := by omega
    have HL := Aside0.mk hl
    have c1b : ((l0.length : Int) != (l1.length : Int)) = false := bne_eq_false_iff_eq.mpr c1
    have c1c : ((l0.length : Int) == (l1.length : Int)) = true := beq_iff_eq.mpr c1
    clear c1 hl
    have HE := Aside0.mk (show eqf p (l0.drop 0) (l1.drop 0) = r from HR.out)
    clear HR
    go_enter Try.func58, Try.ntmps58
    go_wp2
    go_loopw [17] (fun i wr => ∃ k : Nat, k ≤ l0.length ∧ i = .int .i64 k ∧ Aside0 (eqf p (l0.drop k) (l1.drop k) = r) ∧ Aside0 (Below w.heap.size w wr)) (fun i _ => l0.length - (intOf i).toNat)
    case atStart => exact ⟨0, Nat.zero_le _, rfl, HE, HB⟩
    case round =>
      clear HE HB
      obtain ⟨k, hk, rfl, HE, HB⟩ := hrel
      by_cases hlt : k < l0.length
      · have hlt1 : k < l1.length := by have := HL.out; omega
        obtain ⟨ad, cs, e, hK, hx⟩ := elem_at (Kd.C_below HC.out HB.out) k hlt
        subst e
        obtain ⟨ad', ds, e, hK', hx'⟩ := elem_at (Kd.C_below HD.out HB.out) k hlt1
        subst e
        have HE2 := Aside0.mk ((eqf_at p l0 l1 k hlt hlt1).symm.trans HE.out)
        have hcs : cs.length = 7 := k83.K_len hK
        have hds : ds.length = 7 := k83.K_len hK'
        have HN := Aside0.mk (And.intro hcs hds)
        have hone := k83.K_one hK
        have hone' := k83.K_one hK'
        have HO := Aside0.mk (And.intro hone hone')
        have HX := Aside0.mk (show ∀ j v, cs[j]? = some v → wr.cell? ((ad.add (k * 7)).add j) = some v from hx)
        have HX' := Aside0.mk (show ∀ j v, ds[j]? = some v → wr.cell? ((ad'.add (k * 7)).add j) = some v from hx')
        have HKK := Aside0.mk (And.intro hK hK')
        have hcall := HCL.out l0[k] (List.getElem_mem hlt) l1[k] cs ds
        have HCALL := Aside0.mk hcall
        obtain ⟨x, hxe⟩ : ∃ x, l0[k] = x := ⟨_, rfl⟩
        obtain ⟨y, hye⟩ : ∃ y, l1[k] = y := ⟨_, rfl⟩
        rw [hxe, hye] at HKK HCALL HE2
        clear hx hx' hK hK' hcs hds hone hone' hxe hye HE hcall
        have HS0 := Aside0.mk (Below.refl wr.heap.size wr)
        go_upto_region 6 with (first | ((with_reducible refine gate_dst (N := 21) rfl ?_); refine load_event rfl 83 (.tmp 20) rfl (ad.add (k * 7)) ?ev cs _ 7 HX.out Try.underlying83 rfl size83 HN.out.1 ?_; (case ev => first | rfl | (go_simp; done) | (go_simp; rfl))) | ((with_reducible refine gate_dst (N := 8) rfl ?_); refine box_event ?hg (N := 8) ?hd (cs := z_83.toArray) (t := 83) ?hr ?_; (case hd => rfl); (case hg => rfl); (case hr => first | (go_simp; done) | (go_simp; rfl)); intro gb hgb w5 hbox hb; have BK5 := Aside0.mk hbox; have HGB := Aside0.mk (show wr.heap.size ≤ gb by rw [hgb]; exact Nat.le_refl _); have HS5 := Aside0.mk hb; clear hb hbox hgb) | (refine store_event (w0 := wr) (base := wr.heap.size) rfl (ty := 83) (p := .tmp 8) (v := .tmp 21) rfl rfl rfl BK5.out size83 HN.out.1 rfl HO.out.1 HS5.out HGB.out ?_; intro w6 hbc hb6 hoth hsz; have BK6 := Aside0.mk hbc; have HS6 := Aside0.mk hb6; clear hbc hb6 hoth hsz))
        (try simp only [Act.put, List.setIfInBounds_toArray, List.set_cons_zero, List.set_cons_succ])
        have HX6 := Aside0.mk (row_below HS6.out HX'.out)
        go_upto_region 7 with (first | ((with_reducible refine gate_dst (N := 25) rfl ?_); refine load_event rfl 83 (.tmp 24) rfl (ad'.add (k * 7)) ?ev ds _ 7 HX6.out Try.underlying83 rfl size83 HN.out.2 ?_; (case ev => first | rfl | (go_simp; done) | (go_simp; rfl))) | ((with_reducible refine gate_dst (N := 9) rfl ?_); refine box_event ?hg (N := 9) ?hd (cs := z_83.toArray) (t := 83) ?hr ?_; (case hd => rfl); (case hg => rfl); (case hr => first | (go_simp; done) | (go_simp; rfl)); intro gc hgc w7 hbox hb; have BC7 := Aside0.mk hbox; have BK7 := Aside0.mk (blk_below BK6.out hb); have HGC := Aside0.mk (show wr.heap.size ≤ gc by rw [hgc]; exact below_size HS6.out); have HNE := Aside0.mk (show gb ≠ gc by rw [hgc]; exact Nat.ne_of_lt (blk_lt BK6.out)); have HS7 := Aside0.mk (below_step HS6.out hb); clear hb hbox hgc) | (refine store_event (w0 := wr) (base := wr.heap.size) rfl (ty := 83) (p := .tmp 9) (v := .tmp 25) rfl rfl rfl BC7.out size83 HN.out.2 rfl HO.out.2 HS7.out HGC.out ?_; intro w8 hbc hb8 hoth hsz; have BC8 := Aside0.mk hbc; have BK8 := Aside0.mk ((hoth gb HNE.out).trans BK7.out); have HS8 := Aside0.mk hb8; clear hbc hb8 hoth hsz))
        (try simp only [Act.put, List.setIfInBounds_toArray, List.set_cons_zero, List.set_cons_succ])
        have HCW := Aside0.mk (HCALL.out w8 (k83.K_below HS8.out HKK.out.1) (k83.K_below HS8.out HKK.out.2))
        obtain ⟨b, hbe⟩ : ∃ b, p x y = b := ⟨_, rfl⟩
        rw [hbe] at HCW HE2
        clear hbe HCALL
        cases b with
        | true =>
          have HE3 := Aside0.mk (show eqf p (l0.drop (k + 1)) (l1.drop (k + 1)) = r by have h := HE2.out; simpa using h)
          clear HE2
          go_wp2_with (first | ((with_reducible refine gate_dst (N := 27) rfl ?_); refine load_event rfl 83 (.tmp 8) rfl ⟨gb, 0, none⟩ rfl cs _ 7 (blk_row BK8.out) Try.underlying83 rfl size83 HN.out.1 ?_) | ((with_reducible refine gate_dst (N := 28) rfl ?_); refine load_event rfl 83 (.tmp 9) rfl ⟨gc, 0, none⟩ rfl ds _ 7 (blk_row BC8.out) Try.underlying83 rfl size83 HN.out.2 ?_) | (go_at_call 59; refine HCW.out.mono ?_; rintro e9 w9 ⟨rfl, hb9⟩; have HB9 := Aside0.mk (below_step HB.out (below_step HS8.out hb9)); clear hb9))
          go_roundw
          case rel => exact ⟨k + 1, by omega, by go_num, HE3, HB9⟩
          case measure => simp [intOf]; omega
        | false =>
          have HE3 := Aside0.mk (show false = r by have h := HE2.out; simpa using h)
          obtain rfl := HE3.out
          clear HE2
          go_wp2_with (first | ((with_reducible refine gate_dst (N := 27) rfl ?_); refine load_event rfl 83 (.tmp 8) rfl ⟨gb, 0, none⟩ rfl cs _ 7 (blk_row BK8.out) Try.underlying83 rfl size83 HN.out.1 ?_) | ((with_reducible refine gate_dst (N := 28) rfl ?_); refine load_event rfl 83 (.tmp 9) rfl ⟨gc, 0, none⟩ rfl ds _ 7 (blk_row BC8.out) Try.underlying83 rfl size83 HN.out.2 ?_) | (go_at_call 59; refine HCW.out.mono ?_; rintro e9 w9 ⟨rfl, hb9⟩; have HB9 := Aside0.mk (below_step HB.out (below_step HS8.out hb9)); clear hb9))
          go_ret
          exact ⟨rfl, HB9.out⟩
      · have hke : k = l0.length := by omega
        subst hke
        have HE3 := Aside0.mk (show true = r by rw [← HE.out, eqf_end p l0 l1 HL.out])
        obtain rfl := HE3.out
        clear HE hlt hk
        go_wp2
        go_ret
        exact ⟨rfl, HB.out⟩
  · have c1b : ((l0.length : Int) != (l1.length : Int)) = true := bne_iff_ne.mpr c1
    have c1c : ((l0.length : Int) == (l1.length : Int)) = false := beq_eq_false_iff_ne.mpr c1
    have HE3 := Aside0.mk (show false = r by rw [← HR.out, eqf_len p l0 l1 (by omega)])
    obtain rfl := HE3.out
    clear HR
    go_enter Try.func58, Try.ntmps58
    go_wp2
    go_ret
    exact ⟨rfl, HB.out⟩

end Go.Proofs.Ytblgcodkbapccaa.SamesWalk
