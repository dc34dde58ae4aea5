/- PROVED: lemmas that the walks of ParseSames share: what 'the same' means, an element of a row, loads and stores of whole rows. Conditions: none beyond the lemmas' own hypotheses. -/
import Derived.Test.YtblgcodkbapccaaPParseSamesx0
import Derived.WalkSpells
import Derived.Deep.MidRow
import Derived.Deep.WholeRow
import Derived.Deep.Slices
import Derived.Laws.CopyOwn
import Derived.DeepKeys
namespace Go.Proofs.Ytblgcodkbapccaa.SamesWalk
open Go.RowKit Go.Proofs.Ytblgcodkbapccaa.PParseSames Go.Proofs.YtblgcodkbapccaaW.PrintWords Go.Proofs.YtblgcodkbapccaaW.PrintLast Go.Proofs.YtblgcodkbapccaaW.PrintMore
attribute [local go_sem] max2_int min2_int max_two min_two max_three min_three max_four min_four
set_option linter.unusedVariables false
set_option linter.unusedSimpArgs false

/-! ### What 'the same' means -/
/-- Two lists of one length, the same place by place. -/
def eqf {α : Type} (p : α → α → Bool) : List α → List α → Bool
  | [], [] => true
  | x :: xs, y :: ys => p x y && eqf p xs ys
  | _, _ => false
theorem eqf_len {α : Type} (p : α → α → Bool) : ∀ l m : List α, l.length ≠ m.length → eqf p l m = false
  | [], [], h => absurd rfl h
  | [], _ :: _, _ => rfl
  | _ :: _, [], _ => rfl
  | x :: xs, y :: ys, h => by rw [eqf, eqf_len p xs ys (fun e => h (by simp [e])), Bool.and_false]
theorem eqf_at {α : Type} (p : α → α → Bool) (l m : List α) (k : Nat) (h : k < l.length) (h' : k < m.length) : eqf p (l.drop k) (m.drop k) = (p l[k] m[k] && eqf p (l.drop (k + 1)) (m.drop (k + 1))) := by
  rw [List.drop_eq_getElem_cons h, List.drop_eq_getElem_cons h', eqf]
theorem eqf_end {α : Type} (p : α → α → Bool) (l m : List α) (h : l.length = m.length) : eqf p (l.drop l.length) (m.drop l.length) = true := by
  rw [List.drop_length, h, List.drop_length, eqf]
theorem eqf_refl {α : Type} (p : α → α → Bool) (h : ∀ x, p x x = true) : ∀ l : List α, eqf p l l = true
  | [] => rfl
  | x :: xs => by rw [eqf, h x, eqf_refl p h xs]; rfl
def sameE : Nat → S111 → S111 → Bool
  | 0, _, _ => true
  | n + 1, x, y => x.f0 == y.f0 && (x.f2.toList == y.f2.toList && (x.f3 == y.f3 && eqf (sameE n) x.f4 y.f4))
def sameS (m : Nat) : Nat → S109 → S109 → Bool
  | 0, _, _ => true
  | n + 1, x, y => x.f0 == y.f0 && (x.f2.toList == y.f2.toList && (x.f3.toList == y.f3.toList && (x.f4 == y.f4 && (eqf (sameE m) x.f5 y.f5 && (eqf (sameS m n) x.f6 y.f6 && eqf (sameS m n) x.f7 y.f7)))))
def sameP (x y : S80) : Bool := x.f1.toList == y.f1.toList && x.f2.toList == y.f2.toList
def sameR (x y : S76) : Bool := x.f1.toList == y.f1.toList && (x.f2.toList == y.f2.toList && eqf sameP x.f3 y.f3)
def sameF (m n : Nat) (x y : S83) : Bool := x.f1.toList == y.f1.toList && (x.f2.toList == y.f2.toList && (eqf sameP x.f3 y.f3 && eqf (sameS m n) x.f4 y.f4))
theorem sameE_refl : ∀ n x, sameE n x x = true
  | 0, _ => rfl
  | n + 1, x => by simp [sameE, eqf_refl _ (sameE_refl n)]
theorem sameS_refl (m : Nat) : ∀ n x, sameS m n x x = true
  | 0, _ => rfl
  | n + 1, x => by simp [sameS, eqf_refl _ (sameS_refl m n), eqf_refl _ (sameE_refl m)]
theorem sameP_refl (x : S80) : sameP x x = true := by simp [sameP]
theorem sameR_refl (x : S76) : sameR x x = true := by simp [sameR, eqf_refl _ sameP_refl]
theorem sameF_refl (m n : Nat) (x : S83) : sameF m n x x = true := by simp [sameF, eqf_refl _ sameP_refl, eqf_refl _ (sameS_refl m n)]

/-! ### Steps -/
/-- Element k of a row. -/
theorem elem_at {α : Type} {d : Kd α} {w : World} {A : Option Addr} {n : Nat} {l : List α} (h : Kd.C d w A n l) (k : Nat) (hk : k < l.length) : ∃ ad cs, A = some ad ∧ d.K w l[k] cs ∧ ∀ j v, cs[j]? = some v → w.cell? ((ad.add (k * d.sz)).add j) = some v := by
  obtain ⟨ad, e, hc⟩ := h.2.2 (by rw [← h.1]; omega)
  obtain ⟨c, hl, hR, hcell⟩ := hc k _ (List.getElem?_eq_getElem hk)
  refine ⟨ad, c, e, hR, fun j v hv => ?_⟩
  rw [Go.Deep.add_add]
  exact hcell j v hv
section
variable {P : Program} {ops : Array Oper} {rest : List Oper} {o : Oper} {a : Act} {Q : Exit → Act → World → Prop}
theorem load_run {W : World} {ty : TypeId} {ad : Addr} {cs : List Value} {d : TypeDesc} {n : Nat} (hc : ∀ j v, cs[j]? = some v → W.cell? (ad.add j) = some v)
    (hu : P.underlying ty = some d) (hd : d.isRow = true) (hi : (P.info? ty).map (·.size) = some n) (hn : cs.length = n) : (Instr.loadAt ty (.pointer (some ad))).run P W = .ok (.agg cs.toArray) W := by
  subst hn
  have hl : (loadCells ad cs.length).run P W = .ok cs.toArray W := run_loadCells_list (P := P) W ad cs hc
  cases hq : P.info? ty with
  | none => simp [hq] at hi
  | some i =>
    have hs : i.size = cs.length := by simpa [hq] using hi
    have hagg : (isAgg ty).run P W = .ok true W := by
      unfold isAgg
      rw [Sem.run_bind, run_underlying hu W]
      cases d <;> simp_all
    simp [Instr.loadAt, Instr.sureAddr, loadVar, Sem.run_bind, hagg, sizeOf, typeInfo, hq, hs, hl]
/-- A whole row is read, at whatever address. -/
theorem load_event {W : World} (hgd : o.guard = none) (ty : TypeId) (x : Operand) (ho : o.op = .load ty x) (ad : Addr) (hx : a.eval x = .pointer (some ad)) (cs : List Value) (d : TypeDesc) (n : Nat) (hc : ∀ j v, cs[j]? = some v → W.cell? (ad.add j) = some v)
    (hu : P.underlying ty = some d) (hd : d.isRow = true) (hi : (P.info? ty).map (·.size) = some n) (hn : cs.length = n)
    (h : wpList P ops Q rest (a.put o.dst (.agg cs.toArray)) W) : wpList P ops Q (o :: rest) a W := by
  have hl := load_run (P := P) (W := W) hc hu hd hi hn
  refine wpList_plain hgd fun K hK => ?_
  unfold Oper.wp execOp
  simp only [ho, hx, hl, Sem.run_bind, Sem.run_pure, Result.andThen_ok]
  exact hK _ _ h
theorem exec_load {W : World} {ty : TypeId} {x : Operand} {v : Value} (ho : o.op = .load ty x) (h : (Instr.loadAt ty (a.eval x)).run P W = .ok v W) : (execOp a.eval o).run P W = .ok (.value v) W := by
  unfold execOp
  simp only [ho, Sem.run_bind, h, Result.andThen_ok, Sem.run_pure]
/-- A whole row is stored into a block. -/
theorem store_run {base : Nat} {w0 W : World} {ty : TypeId} {p v : Operand} (ho : o.op = .store ty p v) {g : Nat} (hx : a.eval p = .pointer (some ⟨g, 0, none⟩)) {c : Array Value} {c' : List Value} (hy : a.eval v = .agg c'.toArray) {t : TypeId} (hb : W.heap[g]? = some (.cells c t (0, 0))) {n : Nat}
    (hi : (P.info? ty).map (·.size) = some n) (hn : c'.length = n) (hs : c.size = n) (h1 : ∀ u ∈ c', u.oneCell' = true) (HB : Below base w0 W) (hg : base ≤ g) :
    ∃ w1, (execOp a.eval o).run P W = .ok .skip w1 ∧ w1.heap[g]? = some (.cells c'.toArray t (0, 0)) ∧ Below base w0 w1 ∧ (∀ k, k ≠ g → w1.heap[k]? = W.heap[k]?) ∧ w1.heap.size = W.heap.size := by
  refine ⟨W.setRow g c'.toArray, ?_, setRow_heap W g c c'.toArray t _ hb, below_setRow HB hg c'.toArray, fun k hk => setRow_other W g k c'.toArray hk, size_setRow W g c'.toArray⟩
  unfold execOp
  simp only [ho, hx, hy, Instr.storeAt, Instr.sureAddr, Sem.run_bind, Sem.run_pure, Result.andThen_ok, run_storeVar_row W g t ty c c'.toArray hb (by rw [hi, List.size_toArray, hn]) (by rw [hs, List.size_toArray, hn]) (Array.all_eq_true_iff_forall_mem.2 (fun u hu => h1 u (by simpa using hu)))]
theorem store_event {w0 W : World} (hgd : o.guard = none) {ty : TypeId} {p v : Operand} (ho : o.op = .store ty p v) {g base : Nat} (hx : a.eval p = .pointer (some ⟨g, 0, none⟩)) {c : Array Value} {c' : List Value} (hy : a.eval v = .agg c'.toArray) {t : TypeId} (hb : W.heap[g]? = some (.cells c t (0, 0))) {n : Nat}
    (hi : (P.info? ty).map (·.size) = some n) (hn : c'.length = n) (hs : c.size = n) (h1 : ∀ u ∈ c', u.oneCell' = true) (HB : Below base w0 W) (hg : base ≤ g)
    (h : ∀ w1, w1.heap[g]? = some (.cells c'.toArray t (0, 0)) → Below base w0 w1 → (∀ k, k ≠ g → w1.heap[k]? = W.heap[k]?) → w1.heap.size = W.heap.size → wpList P ops Q rest (a.put o.dst undef) w1) : wpList P ops Q (o :: rest) a W := by
  obtain ⟨w1, hr, h2, h3, h4, h5⟩ := store_run (P := P) ho hx hy hb hi hn hs h1 HB hg
  refine wpList_plain hgd fun K hK => ?_
  unfold Oper.wp
  rw [hr]
  exact hK _ _ (h _ h2 h3 h4 h5)
/-- The same in a region that draws its order. -/
theorem store_step {w0 W : World} {Kc : Act → World → Prop} (hw : Region.wanted o (yielded ops a.tmps) = true) (hN : o.dst = none) {ty : TypeId} {p v : Operand} (ho : o.op = .store ty p v) {g base : Nat} (hx : a.eval p = .pointer (some ⟨g, 0, none⟩)) {c : Array Value} {c' : List Value} (hy : a.eval v = .agg c'.toArray) {t : TypeId} (hb : W.heap[g]? = some (.cells c t (0, 0))) {n : Nat}
    (hi : (P.info? ty).map (·.size) = some n) (hn : c'.length = n) (hs : c.size = n) (h1 : ∀ u ∈ c', u.oneCell' = true) (HB : Below base w0 W) (hg : base ≤ g)
    (h : ∀ w1, w1.heap[g]? = some (.cells c'.toArray t (0, 0)) → Below base w0 w1 → (∀ k, k ≠ g → w1.heap[k]? = W.heap[k]?) → Kc a w1) : if Region.wanted o (yielded ops a.tmps) = true then Oper.wp P o a W Kc Q else Kc (a.put none undef) W := by
  obtain ⟨w1, hr, h2, h3, h4, h5⟩ := store_run (P := P) ho hx hy hb hi hn hs h1 HB hg
  exact skip_ hw hN hr (h _ h2 h3 h4)
/-- A block of its own, read as a row. -/
theorem blk_row {w : World} {g : Nat} {cs : List Value} {t : TypeId} (h : w.heap[g]? = some (.cells cs.toArray t (0, 0))) : ∀ j v, cs[j]? = some v → w.cell? ((⟨g, 0, none⟩ : Addr).add j) = some v := fun j v hv => by
  rw [Addr.add_mid, Nat.zero_add, blk_cell h]
  simpa using hv
theorem row_below {w w1 : World} (h : Below w.heap.size w w1) {ad : Addr} {cs : List Value} (hx : ∀ j v, cs[j]? = some v → w.cell? (ad.add j) = some v) : ∀ j v, cs[j]? = some v → w1.cell? (ad.add j) = some v := fun j v hv => pw_cell_below h (hx j v hv)
end
theorem size111 : (Try.prog.info? 111).map (·.size) = some 8 := by kernel_rfl
theorem size109 : (Try.prog.info? 109).map (·.size) = some 10 := by kernel_rfl
theorem size80 : (Try.prog.info? 80).map (·.size) = some 4 := by kernel_rfl
theorem size76 : (Try.prog.info? 76).map (·.size) = some 4 := by kernel_rfl
theorem size83 : (Try.prog.info? 83).map (·.size) = some 7 := by kernel_rfl
theorem size38 : (Try.prog.info? 38).map (·.size) = some 2 := by kernel_rfl
def z_111 : List Value := [.int .i64 0, .int .i64 0, .string ⟨#[]⟩, .int .i64 0, .slice none 0 0, .int .u8 0, .int .i64 0, .int .i64 0]
def z_109 : List Value := [.int .i64 0, .int .i64 0, .string ⟨#[]⟩, .string ⟨#[]⟩, .int .i64 0, .slice none 0 0, .slice none 0 0, .slice none 0 0, .int .u8 0, .int .i64 0]
def z_80 : List Value := [.int .i64 0, .string ⟨#[]⟩, .string ⟨#[]⟩, .int .u8 0]
def z_76 : List Value := [.int .i64 0, .string ⟨#[]⟩, .string ⟨#[]⟩, .slice none 0 0]
def z_83 : List Value := [.int .i64 0, .string ⟨#[]⟩, .string ⟨#[]⟩, .slice none 0 0, .slice none 0 0, .int .u8 0, .int .i64 0]
def z_38 : List Value := [.slice none 0 0, .slice none 0 0]
theorem zv111 (w : World) : (zeroValue 111).run Try.prog w = .ok (.agg z_111.toArray) w := (zero_of_info (n := 8) (by kernel_rfl)).1 w
theorem zv109 (w : World) : (zeroValue 109).run Try.prog w = .ok (.agg z_109.toArray) w := (zero_of_info (n := 10) (by kernel_rfl)).1 w
theorem zv80 (w : World) : (zeroValue 80).run Try.prog w = .ok (.agg z_80.toArray) w := (zero_of_info (n := 4) (by kernel_rfl)).1 w
theorem zv76 (w : World) : (zeroValue 76).run Try.prog w = .ok (.agg z_76.toArray) w := (zero_of_info (n := 4) (by kernel_rfl)).1 w
theorem zv83 (w : World) : (zeroValue 83).run Try.prog w = .ok (.agg z_83.toArray) w := (zero_of_info (n := 7) (by kernel_rfl)).1 w
theorem zv38 (w : World) : (zeroValue 38).run Try.prog w = .ok (.agg z_38.toArray) w := (zero_of_info (n := 2) (by kernel_rfl)).1 w
/-! ### What the functions over lists are to answer -/
def SameL80 (f : FuncId) : Prop := ∀ (A : Option Addr) (c : Nat) (es : List S80) (A' : Option Addr) (c' : Nat) (fs : List S80) (W : World), Kd.C k80 W A es.length es → Kd.C k80 W A' fs.length fs →
  Calls Try.prog f #[.slice A es.length c, .slice A' fs.length c'] W fun e W' => e = .returned (.bool (eqf sameP es fs)) ∧ Below W.heap.size W W'
def SameL111 (f : FuncId) (n : Nat) : Prop := ∀ (A : Option Addr) (c : Nat) (es : List S111) (A' : Option Addr) (c' : Nat) (fs : List S111) (W : World), Kd.C k111 W A es.length es → Kd.C k111 W A' fs.length fs → (∀ x ∈ es, SizeOf.sizeOf x ≤ n) →
  Calls Try.prog f #[.slice A es.length c, .slice A' fs.length c'] W fun e W' => e = .returned (.bool (eqf (sameE n) es fs)) ∧ Below W.heap.size W W'
def SameL109 (f : FuncId) (m n : Nat) : Prop := ∀ (A : Option Addr) (c : Nat) (es : List S109) (A' : Option Addr) (c' : Nat) (fs : List S109) (W : World), Kd.C k109 W A es.length es → Kd.C k109 W A' fs.length fs → (∀ x ∈ es, SizeOf.sizeOf x ≤ n) →
  Calls Try.prog f #[.slice A es.length c, .slice A' fs.length c'] W fun e W' => e = .returned (.bool (eqf (sameS m n) es fs)) ∧ Below W.heap.size W W'
theorem kid111 {x : S111} {n : Nat} (hx : SizeOf.sizeOf x ≤ n + 1) : ∀ z ∈ x.f4, SizeOf.sizeOf z ≤ n := fun z hz => by
  have h := List.sizeOf_lt_of_mem hz
  cases x
  simp only [S111.mk.sizeOf_spec] at hx h
  omega
theorem kid109e {x : S109} {n : Nat} (hx : SizeOf.sizeOf x ≤ n + 1) : ∀ z ∈ x.f5, SizeOf.sizeOf z ≤ n := fun z hz => by
  have h := List.sizeOf_lt_of_mem hz
  cases x
  simp only [S109.mk.sizeOf_spec] at hx h
  omega
theorem kid109a {x : S109} {n : Nat} (hx : SizeOf.sizeOf x ≤ n + 1) : ∀ z ∈ x.f6, SizeOf.sizeOf z ≤ n := fun z hz => by
  have h := List.sizeOf_lt_of_mem hz
  cases x
  simp only [S109.mk.sizeOf_spec] at hx h
  omega
theorem kid109b {x : S109} {n : Nat} (hx : SizeOf.sizeOf x ≤ n + 1) : ∀ z ∈ x.f7, SizeOf.sizeOf z ≤ n := fun z hz => by
  have h := List.sizeOf_lt_of_mem hz
  cases x
  simp only [S109.mk.sizeOf_spec] at hx h
  omega
theorem pos111 (x : S111) : ¬ SizeOf.sizeOf x ≤ 0 := by
  cases x
  simp only [S111.mk.sizeOf_spec]
  omega
theorem pos109 (x : S109) : ¬ SizeOf.sizeOf x ≤ 0 := by
  cases x
  simp only [S109.mk.sizeOf_spec]
  omega
end Go.Proofs.Ytblgcodkbapccaa.SamesWalk
