/- PROVED: the given row of CodeApart: for any two instructions the call returns true and its arguments read as before. Conditions: none beyond the row's own cells. -/
import Derived.Test.YtblgcodkbapccaaRows
import Derived.Test.YtblgcodkbapccaaPureCodeApart
import Derived.WalkKit
import Derived.ProofKit
import Derived.OpenShut
import Derived.ShutString
import Derived.ChangeOld
import Derived.Below
import Derived.SizedLaws
import Derived.Lib.SmallJoins
namespace Go.Proofs.Ytblgcodkbapccaa.codeApart
open Go.ChangeShapes Go.WideShapes Go.ChangeAt Go.RowKit Go.Joins
set_option linter.unusedVariables false
theorem own : ownKnob Try.prog.godebug = none := by kernel_rfl
theorem cells42 : Try.prog.cellsOf 42 = 4 := by kernel_rfl
set_option maxRecDepth 100000 in
theorem lifted (os : Os) (started : os.Started) (H : Type) (enc : TypeId × Value → H) :
    ReturnsInHanded {} Try.checked os 11 .any (Rows.codeApartSpec.pre6 enc Try.prog Try.f11 Rows.codeApartRow.domain false) (Rows.codeApartSpec.post enc Try.prog Try.f11 false true false false) := by
  refine returnsInHanded_of_change_sized (C := Try.checked) own started (by kernel_rfl) Try.func11
    (ChangeSpec.witness6 (enc := enc) (C := Try.checked) false ⟨#[], #[.agg #[.int .i64 0, .int .u8 0, .int .i64 0, .int .i64 0], .agg #[.int .i64 0, .int .u8 0, .int .i64 0, .int .i64 0]], []⟩ 8 (by kernel_rfl) (by kernel_rfl) (by kernel_rfl) (by kernel_rfl)) ?_
  intro W base args ds gs before hval0 hW hcnd hsz0 _
  have hval : ∀ (j : Nat) t v, Try.f11.params[j]? = some t → args[j]? = some v → Value.okWide Try.prog W .any base t v := hval0
  have hW' := hW
  obtain ⟨p, q, hA0, hV, rfl, hfz, hnd⟩ := hW
  have hA : DataW.TrodAll enc Try.prog W 0 (fun _ => true) true Try.f11.params.toList args.toList ds p := hA0
  rw [Try.params11] at hA hval
  obtain ⟨v0, vs0, d0, ds0, p0, q0, hargs, rfl, rfl, h0, r0⟩ := trodAll_cons hA
  obtain ⟨v1, vs1, d1, ds1, p1, q1, rfl, rfl, rfl, h1, r1⟩ := trodAll_cons r0
  obtain ⟨rfl, rfl, rfl⟩ := trodAll_nil r1
  obtain rfl : args = #[v0, v1] := by cases args; simp_all
  obtain ⟨rfl, rfl⟩ := trodVars_none hV
  obtain ⟨c0, c1, c2, c3, y0, y1, y2, y3, m, rfl, rfl, rfl, hy0, hy1, hy2, hy3⟩ := open_agg4 Try.underlying42 (by kernel_rfl) cells42 (hval 0 42 v0 rfl rfl) h0
  obtain ⟨a, e0, rfl, wa⟩ := DataW.trod_int Try.underlying3 hy0
  obtain ⟨b, e1, rfl, wb⟩ := DataW.trod_int Try.underlying5 hy1
  obtain ⟨c, e2, rfl, wc⟩ := DataW.trod_int Try.underlying3 hy2
  obtain ⟨d, e3, rfl, wd⟩ := DataW.trod_int Try.underlying3 hy3
  simp only [List.cons.injEq, and_true] at e0 e1 e2 e3
  subst e0 e1 e2 e3
  obtain ⟨c4, c5, c6, c7, y4, y5, y6, y7, m', rfl, rfl, rfl, hy4, hy5, hy6, hy7⟩ := open_agg4 Try.underlying42 (by kernel_rfl) cells42 (hval 1 42 v1 rfl rfl) h1
  obtain ⟨a', e4, rfl, wa'⟩ := DataW.trod_int Try.underlying3 hy4
  obtain ⟨b', e5, rfl, wb'⟩ := DataW.trod_int Try.underlying5 hy5
  obtain ⟨c', e6, rfl, wc'⟩ := DataW.trod_int Try.underlying3 hy6
  obtain ⟨d', e7, rfl, wd'⟩ := DataW.trod_int Try.underlying3 hy7
  simp only [List.cons.injEq, and_true] at e4 e5 e6 e7
  subst e4 e5 e6 e7
  clear hA0 hval0 hsz0
  obtain ⟨k, hk⟩ := PureCodeApart.CodeApart a b c d a' b' c' d' wb wb'
  refine (ApartLaw.provisolaw04_CodeApart.calls k a b c d a' b' c' d' true W hk).mono fun e W' ⟨he, bel⟩ => ?_
  subst he
  exact ⟨_, rfl, _, _, _, [], _, [], hW', trodAll_mk1 (shut_bool Try.underlying4 _), (trodAll_cons_mk (shut_agg4 (y0 := (.lit (.int .i64 a), [])) (y1 := (.lit (.int .u8 b), [])) (y2 := (.lit (.int .i64 c), [])) (y3 := (.lit (.int .i64 d), [])) Try.underlying42 (by kernel_rfl) cells42 ⟨1, trod_int_mk 0 Try.underlying3 wa⟩ ⟨1, trod_int_mk 0 Try.underlying5 wb⟩ ⟨1, trod_int_mk 0 Try.underlying3 wc⟩ ⟨1, trod_int_mk 0 Try.underlying3 wd⟩) (trodAll_cons_mk (shut_agg4 (y0 := (.lit (.int .i64 a'), [])) (y1 := (.lit (.int .u8 b'), [])) (y2 := (.lit (.int .i64 c'), [])) (y3 := (.lit (.int .i64 d'), [])) Try.underlying42 (by kernel_rfl) cells42 ⟨1, trod_int_mk 0 Try.underlying3 wa'⟩ ⟨1, trod_int_mk 0 Try.underlying5 wb'⟩ ⟨1, trod_int_mk 0 Try.underlying3 wc'⟩ ⟨1, trod_int_mk 0 Try.underlying3 wd'⟩) trodAll_mk0)), rfl, bel.frame _, fun h => by cases h⟩
theorem over : Rows.codeApartRow.holds Try.pinned (OpenSpec.ofChange Rows.codeApartSpec) :=
  OpenClaim.holds_of_wide 11 Try.f11 rfl rfl rfl rfl rfl rfl rfl ⟨rfl, rfl, rfl, rfl, rfl⟩ rfl rfl rfl rfl rfl (by kernel_rfl) Try.func11 (by kernel_rfl)
    (of_decide_eq_true (by kernel_rfl)) (by unfold Func.isWrapper; first | (rw [if_pos (by decide +kernel)]; kernel_rfl) | (rw [if_neg (by decide +kernel)]; exact ⟨rfl, rfl⟩))
    (fun os started H enc _ => lifted os started H enc)
theorem proved : Rows.CodeApartSaid := over
end Go.Proofs.Ytblgcodkbapccaa.codeApart
namespace Go.Proofs.Ytblgcodkbapccaa
/-- The row, under a short name, for the claim. -/
theorem codeApart_holds : Rows.CodeApartSaid := codeApart.proved
end Go.Proofs.Ytblgcodkbapccaa
