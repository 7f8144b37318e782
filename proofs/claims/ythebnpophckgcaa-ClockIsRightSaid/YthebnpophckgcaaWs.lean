/-
  The walk of around; how a slice of steps reads as an argument.
-/
import Derived.Test.YthebnpophckgcaaWm
import Derived.Test.YthebnpophckgcaaWc
import Derived.Deep.SlicePairs
namespace Go.Proofs.Ythebnpophckgcaa
open Go.ChangeShapes Go.WideShapes Go.ChangeAt Go.RowKit Go.Joins Go.Deep
set_option linter.unusedSimpArgs false
set_option linter.unusedVariables false
set_option maxHeartbeats 1000000
set_option maxRecDepth 100000
theorem around_any (t e l : Int) (w : World) (h1 : 0 ≤ t) (h2 : t ≤ 2199023255552) (h3 : 0 ≤ e) (h4 : e ≤ 65535) (h5 : 0 ≤ l) (h6 : l ≤ 65535) :
    Calls Try.prog 38 #[.int .i64 t, .int .u16 e, .int .u16 l] w fun e' w' => e' = .returned (sp (max 0 (t - e % 1000)) (t + l % 1000)) ∧ Below w.heap.size w w' := by
  have hmx := mx0
  go_enter Try.func38, Try.ntmps38
  go_wp2_with fail
  (go_at_call 39; refine (span_any _ _ _).mono ?_; rintro e w1 ⟨rfl, hb1⟩; have hc1 := (bcell hb1).1; have hf1 := (bcell hb1).2.1; have hs1 := (bcell hb1).2.2; (try simp [go_sem] at hs1); have z1_0 : w.heap.size < w1.heap.size := (by omega); have y1_0 : (w.heap.size = w1.heap.size) = False := eq_false (by omega); have c1_0_0 := hc1 (w.heap.size) 0 (by first | omega | (simp; done) | (simp; omega)); have c1_0_1 := hc1 (w.heap.size) 1 (by first | omega | (simp; done) | (simp; omega)); have f1_0 : ∀ i, w1.frozen? ⟨w.heap.size, i, none⟩ = false := fun i => (hf1 (w.heap.size) i (by first | omega | (simp; done) | (simp; omega))).trans (by simp [go_sem, *]); clear hc1 hf1; simp [go_sem, *] at c1_0_0; simp [go_sem, *] at c1_0_1)
  go_wp2_with fail
  refine bodyPost_ret (v := sp _ _) (by simp [results, Try.results38, go_sem, *]) rfl ⟨rfl, ?_⟩
  (repeat (first | exact Below.refl _ _ | refine Below.setCell ?_ (by first | omega | (simp; done) | (simp; omega)) _ | refine Below.alloc ?_ (by first | omega | (simp; done) | (simp; omega)) _ | refine below_drewN ?_ _ | refine Below.drew ?_ | refine Below.trans ?_ (Below.mono (by assumption) (by first | omega | (simp; done) | (simp; omega)))))
/-- a step: what happens, the time that passes, the speed, and how much wider what is known is -/
structure Stp where
  kind : Int
  passes : Int
  speed : Int
  earlier : Int
  later : Int
  whn : Int
instance : Inhabited Stp := ⟨⟨0, 0, 0, 0, 0, 0⟩⟩
def Stp.ok (s : Stp) : Prop := (0 ≤ s.passes ∧ s.passes ≤ 4294967295) ∧ (0 ≤ s.speed ∧ s.speed ≤ 255) ∧ (0 ≤ s.earlier ∧ s.earlier ≤ 65535) ∧ (0 ≤ s.later ∧ s.later ≤ 65535) ∧ (0 ≤ s.whn ∧ s.whn ≤ 65535)
def StepCells (w : World) (b off : Nat) (l : List Stp) : Prop :=
  b < w.heap.size ∧ ∀ i, i < l.length → (w.cell? ⟨b, off + i * 6, none⟩ = some (.int .i64 (l.getD i default).kind) ∧ w.cell? ⟨b, off + i * 6 + 1, none⟩ = some (.int .u32 (l.getD i default).passes) ∧ w.cell? ⟨b, off + i * 6 + 2, none⟩ = some (.int .u8 (l.getD i default).speed) ∧
    w.cell? ⟨b, off + i * 6 + 3, none⟩ = some (.int .u16 (l.getD i default).earlier) ∧ w.cell? ⟨b, off + i * 6 + 4, none⟩ = some (.int .u16 (l.getD i default).later) ∧ w.cell? ⟨b, off + i * 6 + 5, none⟩ = some (.int .u16 (l.getD i default).whn)) ∧ (l.getD i default).ok
theorem StepCells.grow {w w' : World} {b off : Nat} {l : List Stp} (h : StepCells w b off l) (hg : Grew w w') : StepCells w' b off l :=
  ⟨Nat.lt_of_lt_of_le h.1 hg.size, fun i hi => by have := h.2 i hi; have hc := (bcell hg).1; rw [hc _ _ h.1, hc _ _ h.1, hc _ _ h.1, hc _ _ h.1, hc _ _ h.1, hc _ _ h.1]; exact this⟩
def Steps (w : World) (v : Value) (l : List Stp) : Prop :=
  ∃ a cap, v = .slice a l.length cap ∧ (l = [] ∨ ∃ b off, a = some ⟨b, off, none⟩ ∧ StepCells w b off l)
theorem Try.cells54 : Try.prog.cellsOf 54 = 6 := by kernel_rfl
theorem Try.cells49 : Try.prog.cellsOf 49 = 1 := by kernel_rfl
theorem Try.cells50 : Try.prog.cellsOf 50 = 1 := by kernel_rfl
theorem Try.cells5 : Try.prog.cellsOf 5 = 1 := by kernel_rfl
theorem open_steps {H : Type} {enc : TypeId × Value → H} {W : World} {base b0 : Nat} {sp1 : Nat → Bool} {held : Bool} {r : Reach} {v : Value} {d : DataW H} {p : List MemPlace} (hv : Value.okWide Try.prog W r base 51 v) (h : DataW.Trod enc Try.prog W b0 sp1 held 51 v d p) :
    ∃ l : List Stp, Steps W v l ∧ l.length ≤ 9223372036854775807 := by
  obtain ⟨a0, len0, cap0, rfl⟩ := okWide_slice Try.underlying51 hv
  obtain ⟨fuel, hf⟩ := h
  rcases open_slice Try.underlying51 hf with ⟨hc, hx⟩ | ⟨a, len, cap, m, k, D, Pl, hc, _, hl, hm, hmm, hx, hall⟩
  · simp only [Value.cells, List.cons.injEq, and_true] at hc
    rw [hc]
    exact ⟨[], ⟨none, 0, rfl, .inl rfl⟩, by simp⟩
  · simp only [Value.cells, List.cons.injEq, and_true] at hc
    rw [hc]
    have hlm : len ≤ m := by rw [hmm]; split <;> omega
    have hcap : len ≤ 9223372036854775807 := by unfold maxLen at hm; omega
    cases len with
    | zero => exact ⟨[], ⟨_, _, rfl, .inl rfl⟩, by simp⟩
    | succ n =>
      rw [Try.cells54] at hall
      obtain ⟨sb, so, spot⟩ := a
      have hspot : spot = none := by
        obtain ⟨cs', h1, _⟩ := hall 0 (by omega)
        obtain ⟨_, hlen, hcell⟩ := World.cells?_some h1
        have h0 := hcell 0 (by omega)
        rw [List.getElem?_eq_getElem (by omega)] at h0
        simpa [Addr.add] using World.cell?_spot h0
      subst hspot
      have e : ∀ i, i < n + 1 → ∃ y : Stp, (W.cell? ⟨sb, so + i * 6, none⟩ = some (.int .i64 y.kind) ∧ W.cell? ⟨sb, so + i * 6 + 1, none⟩ = some (.int .u32 y.passes) ∧ W.cell? ⟨sb, so + i * 6 + 2, none⟩ = some (.int .u8 y.speed) ∧
          W.cell? ⟨sb, so + i * 6 + 3, none⟩ = some (.int .u16 y.earlier) ∧ W.cell? ⟨sb, so + i * 6 + 4, none⟩ = some (.int .u16 y.later) ∧ W.cell? ⟨sb, so + i * 6 + 5, none⟩ = some (.int .u16 y.whn)) ∧ y.ok := by
        intro i hi
        obtain ⟨cs', h1, h2⟩ := hall i (by omega)
        obtain ⟨_, hlen, hcell⟩ := World.cells?_some h1
        obtain ⟨xs, q, _, _, _, hxl, hall'⟩ := DataW.trod_struct Try.underlying54 h2
        match cs', hlen, xs, hxl with
        | [c0, c1, c2, c3, c4, c5], _, [x0, x1, x2, x3, x4, x5], _ =>
          have f0 : DataW.trod enc Try.prog W b0 sp1 held q 3 [c0] = some x0 := by have := hall' 0 _ rfl; simpa [Try.cells3', Try.cells49, Try.cells50, Try.cells5] using this
          have f1 : DataW.trod enc Try.prog W b0 sp1 held q 49 [c1] = some x1 := by have := hall' 1 _ rfl; simpa [Try.cells3', Try.cells49, Try.cells50, Try.cells5] using this
          have f2 : DataW.trod enc Try.prog W b0 sp1 held q 5 [c2] = some x2 := by have := hall' 2 _ rfl; simpa [Try.cells3', Try.cells49, Try.cells50, Try.cells5] using this
          have f3 : DataW.trod enc Try.prog W b0 sp1 held q 50 [c3] = some x3 := by have := hall' 3 _ rfl; simpa [Try.cells3', Try.cells49, Try.cells50, Try.cells5] using this
          have f4 : DataW.trod enc Try.prog W b0 sp1 held q 50 [c4] = some x4 := by have := hall' 4 _ rfl; simpa [Try.cells3', Try.cells49, Try.cells50, Try.cells5] using this
          have f5 : DataW.trod enc Try.prog W b0 sp1 held q 50 [c5] = some x5 := by have := hall' 5 _ rfl; simpa [Try.cells3', Try.cells49, Try.cells50, Try.cells5] using this
          obtain ⟨n0, e0, _, w0⟩ := DataW.trod_int Try.underlying3 f0
          obtain ⟨n1, e1, _, w1⟩ := DataW.trod_int Try.underlying49 f1
          obtain ⟨n2, e2, _, w2⟩ := DataW.trod_int Try.underlying5 f2
          obtain ⟨n3, e3, _, w3⟩ := DataW.trod_int Try.underlying50 f3
          obtain ⟨n4, e4, _, w4⟩ := DataW.trod_int Try.underlying50 f4
          obtain ⟨n5, e5, _, w5⟩ := DataW.trod_int Try.underlying50 f5
          simp only [List.cons.injEq, and_true] at e0 e1 e2 e3 e4 e5
          subst e0 e1 e2 e3 e4 e5
          have g0 := hcell 0 (by omega)
          have g1 := hcell 1 (by omega)
          have g2 := hcell 2 (by omega)
          have g3 := hcell 3 (by omega)
          have g4 := hcell 4 (by omega)
          have g5 := hcell 5 (by omega)
          rw [add_add, add_plain] at g0 g1 g2 g3 g4 g5
          exact ⟨⟨n0, n1, n2, n3, n4, n5⟩, ⟨g0, g1, g2, g3, g4, g5⟩, bounds_u32 w1, bounds_u8 w2, bounds_u16 w3, bounds_u16 w4, bounds_u16 w5⟩
      obtain ⟨f, hff⟩ := choose_lt e
      have hsz : sb < W.heap.size := World.block_lt_of_cell? _ _ (hff 0 (by omega)).1.1
      refine ⟨(List.range (n + 1)).map f, ⟨_, cap, by simp, .inr ⟨sb, so, rfl, hsz, ?_⟩⟩, by simpa using hcap⟩
      intro i hi
      have hi' : i < n + 1 := by simpa using hi
      have hg : ((List.range (n + 1)).map f).getD i default = f i := by simp [List.getD, hi']
      rw [hg]
      exact hff i hi'
end Go.Proofs.Ythebnpophckgcaa
