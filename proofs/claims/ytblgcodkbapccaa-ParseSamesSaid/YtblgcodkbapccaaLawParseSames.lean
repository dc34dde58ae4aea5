/- PROVED: the given row of ParseSames: for every two programs the call returns true and its arguments read as before. Conditions: none beyond the row's own cells. -/
import Derived.Test.YtblgcodkbapccaaRows
import Derived.Test.YtblgcodkbapccaaSamesOpen
import Derived.WalkKit
import Derived.ProofKit
import Derived.OpenShut
import Derived.ShutString
import Derived.ChangeOld
import Derived.Below
import Derived.SizedLaws
import Derived.Lib.SmallJoins
import Derived.Deep.Strs
namespace Go.Proofs.Ytblgcodkbapccaa.parseSames
open Go.Deep Go.ChangeShapes Go.WideShapes Go.ChangeAt Go.RowKit Go.Joins Go.Proofs.Ytblgcodkbapccaa.OpenRows Go.Proofs.YtblgcodkbapccaaW.PrintWords Go.Proofs.Ytblgcodkbapccaa.PParseSames Go.Proofs.Ytblgcodkbapccaa.SamesWalk
set_option linter.unusedVariables false
theorem own : ownKnob Try.prog.godebug = none := by kernel_rfl
theorem laidOut : laidOutB Try.prog = true := by kernel_rfl
/-- An argument, opened. -/
theorem prog_of {H : Type} {enc : TypeId × Value → H} {w : World} {base : Nat} {spare : Nat → Bool} {held : Bool} {n : Nat} {u0 u1 : Value} {y0 y1 : DataW H × List MemPlace}
    (hy0 : DataW.trod enc Try.prog w base spare held n 35 [u0] = some y0) (hy1 : DataW.trod enc Try.prog w base spare held n 36 [u1] = some y1) (hw : ∀ m ∈ DataW.weights Try.prog 38 (.agg [y0.1, y1.1]), m ≤ reachBytes) :
    ∃ (A0 : Option Addr) (c0 : Nat) (rs : List S76) (A1 : Option Addr) (c1 : Nat) (fs : List S83), u0 = .slice A0 rs.length c0 ∧ u1 = .slice A1 fs.length c1 ∧ Kd.C k76 w A0 rs.length rs ∧ Kd.C k83 w A1 fs.length fs ∧ ∀ N, SizeOf.sizeOf fs ≤ N → ProgOk N rs fs := by
  have w0 : ∀ m ∈ y0.1.weights Try.prog 35, m ≤ reachBytes := fun m hm => hw m (by simp only [DataW.weights, Try.underlying38]; exact DataW.weights_mem_each (j := 0) (t := 35) rfl rfl m hm)
  have w1 : ∀ m ∈ y1.1.weights Try.prog 36, m ≤ reachBytes := fun m hm => hw m (by simp only [DataW.weights, Try.underlying38]; exact DataW.weights_mem_each (j := 1) (t := 36) rfl rfl m hm)
  obtain ⟨A0, c0, rs, e0, l0, g0, b0, f0⟩ := open_slice_w (d := k76) (T := fun x => x.f3.length * 48 ≤ 140737488355328) Try.underlying35 cells76 bytes76 hy0 w0 (fun n'' _ => open76 n'')
  obtain ⟨A1, c1, fs, e1, l1, g1, b1, f1⟩ := open_slice_w (d := k83) (T := fun x => x.f3.length * 48 ≤ 140737488355328 ∧ x.f4.length * 144 ≤ 140737488355328 ∧ ∀ z ∈ x.f4, FitS z) Try.underlying36 cells83 bytes83 hy1 w1 (fun n'' _ => open83 n'')
  simp only [List.cons.injEq, and_true] at e0 e1
  exact ⟨A0, c0, rs, A1, c1, fs, e0, e1, g0, g1, fun N hN => ⟨b0, b1, f0, fun x hx => ⟨(f1 x hx).1, (f1 x hx).2.1, (f1 x hx).2.2, fun z hz => Nat.le_trans (deep_le x hx z hz) hN⟩⟩⟩

set_option maxRecDepth 100000 in
theorem lifted (os : Os) (started : os.Started) (H : Type) (enc : TypeId × Value → H) :
    ReturnsInHanded {} Try.checked os 6 .any (Rows.parseSamesSpec.pre6 enc Try.prog Try.f6 Rows.parseSamesRow.domain false) (Rows.parseSamesSpec.post enc Try.prog Try.f6 false true false false) := by
  refine returnsInHanded_of_change_sized (C := Try.checked) own started (by kernel_rfl) Try.func6
    (ChangeSpec.witness6 (enc := enc) (C := Try.checked) false ⟨#[], #[.agg #[.slice none 0 0, .slice none 0 0], .agg #[.slice none 0 0, .slice none 0 0]], []⟩ 8 (by kernel_rfl) (by kernel_rfl) (by kernel_rfl) (by kernel_rfl)) ?_
  intro W base args ds gs before hval0 hW hcnd hsz0 _
  have hsz : (DataW.weightsEach Try.prog (Try.f6.params.toList ++ Rows.parseSamesSpec.plain.varTypes Try.prog) (ds ++ gs)).all (· ≤ reachBytes) = true := hsz0
  have hval : ∀ (j : Nat) t v, Try.f6.params[j]? = some t → args[j]? = some v → Value.okWide Try.prog W .any base t v := hval0
  have hW' := hW
  obtain ⟨p, q, hA0, hV, rfl, hfz, hnd⟩ := hW
  have hA : DataW.TrodAll enc Try.prog W 0 (fun _ => true) true Try.f6.params.toList args.toList ds p := hA0
  rw [Try.params6] at hA hval hsz
  obtain ⟨v0, vs0, d0, ds0, p0, q0, hargs, rfl, rfl, h0, r0⟩ := trodAll_cons hA
  obtain ⟨v1, vs1, d1, ds1, p1, q1, rfl, rfl, rfl, h1, r1⟩ := trodAll_cons r0
  obtain ⟨rfl, rfl, rfl⟩ := trodAll_nil r1
  obtain rfl : args = #[v0, v1] := by cases args; simp_all
  obtain ⟨rfl, rfl⟩ := trodVars_none hV
  have k0 := h0
  have k1 := h1
  have lt0 : ∀ x ∈ p0, x.block < W.heap.size := by obtain ⟨m, hm⟩ := k0; exact DataW.trod_lt m _ _ _ hm
  have lt1 : ∀ x ∈ p1, x.block < W.heap.size := by obtain ⟨m, hm⟩ := k1; exact DataW.trod_lt m _ _ _ hm
  have z0 : ∀ m ∈ DataW.weights Try.prog 38 d0, m ≤ reachBytes := fun m hm => by
    have z := List.all_eq_true.1 hsz _ (DataW.weights_mem_each (j := 0) (t := 38) rfl rfl m hm)
    simpa using z
  have z1 : ∀ m ∈ DataW.weights Try.prog 38 d1, m ≤ reachBytes := fun m hm => by
    have z := List.all_eq_true.1 hsz _ (DataW.weights_mem_each (j := 1) (t := 38) rfl rfl m hm)
    simpa using z
  obtain ⟨u0, u1, y0, y1, m0, rfl, rfl, hp0, hy0, hy1⟩ := open_agg2 Try.underlying38 (by kernel_rfl) cells38 (hval 0 38 v0 rfl rfl) h0
  obtain ⟨u2, u3, y2, y3, m1, rfl, rfl, hp1, hy2, hy3⟩ := open_agg2 Try.underlying38 (by kernel_rfl) cells38 (hval 1 38 v1 rfl rfl) h1
  obtain ⟨A0, c0, rs, A1, c1, fs, rfl, rfl, g0, g1, o0⟩ := prog_of hy0 hy1 z0
  obtain ⟨B0, d0, rs', B1, d1, fs', rfl, rfl, g2, g3, o1⟩ := prog_of hy2 hy3 z1
  clear hA0 hval0 hsz0 hsz
  refine (law6 (SizeOf.sizeOf fs + SizeOf.sizeOf fs') A0 c0 rs A1 c1 fs B0 d0 rs' B1 d1 fs' W g0 g1 g2 g3 (o0 _ (by omega)) (o1 _ (by omega))).mono fun e W' ⟨he, bel⟩ => ?_
  subst he
  exact ⟨_, rfl, _, _, _, [], _, [], hW', trodAll_mk1 (shut_bool Try.underlying4 _), (trodAll_cons_mk (Below.trod laidOut (by kernel_rfl) (of_decide_eq_true (by kernel_rfl)) k0 bel lt0) (trodAll_cons_mk (Below.trod laidOut (by kernel_rfl) (of_decide_eq_true (by kernel_rfl)) k1 bel lt1) trodAll_mk0)), rfl, bel.frame _, fun h => by cases h⟩
theorem over : Rows.parseSamesRow.holds Try.pinned (OpenSpec.ofChange Rows.parseSamesSpec) :=
  OpenClaim.holds_of_wide 6 Try.f6 rfl rfl rfl rfl rfl rfl rfl ⟨rfl, rfl, rfl, rfl, rfl⟩ rfl rfl rfl rfl rfl (by kernel_rfl) Try.func6 (by kernel_rfl)
    (of_decide_eq_true (by kernel_rfl)) (by unfold Func.isWrapper; first | (rw [if_pos (by decide +kernel)]; kernel_rfl) | (rw [if_neg (by decide +kernel)]; exact ⟨rfl, rfl⟩))
    (fun os started H enc _ => lifted os started H enc)
theorem proved : Rows.ParseSamesSaid := over
end Go.Proofs.Ytblgcodkbapccaa.parseSames
namespace Go.Proofs.Ytblgcodkbapccaa
/-- The row, under a short name, for the claim. -/
theorem parseSames_holds : Rows.ParseSamesSaid := parseSames.proved
end Go.Proofs.Ytblgcodkbapccaa
