/-
  How networks, ways and numbers read as arguments.
-/
import Derived.Test.YtdbffighngmibaaWc
namespace Go.Proofs.Ytdbffighngmibaa
open Go.ChangeShapes Go.WideShapes Go.ChangeAt Go.RowKit Go.Joins Go.Deep
set_option linter.unusedSimpArgs false
set_option linter.unusedVariables false
set_option maxRecDepth 100000
theorem cells3 : Try.prog.cellsOf 3 = 1 := by kernel_rfl
theorem cells4 : Try.prog.cellsOf 4 = 1 := by kernel_rfl
theorem cells9 : Try.prog.cellsOf 9 = 1 := by kernel_rfl
theorem cells22 : Try.prog.cellsOf 22 = 1 := by kernel_rfl
theorem cells23 : Try.prog.cellsOf 23 = 1 := by kernel_rfl
theorem cells24 : Try.prog.cellsOf 24 = 1 := by kernel_rfl
theorem cells26 : Try.prog.cellsOf 26 = 3 := by kernel_rfl
theorem cells28 : Try.prog.cellsOf 28 = 1 := by kernel_rfl
theorem cells48 : Try.prog.cellsOf 48 = 5 := by kernel_rfl
theorem cells63 : Try.prog.cellsOf 63 = 3 := by kernel_rfl
theorem cells121 : Try.prog.cellsOf 121 = 4 := by kernel_rfl
theorem cells124 : Try.prog.cellsOf 124 = 2 := by kernel_rfl
theorem own_knob : ownKnob Try.prog.godebug = none := by kernel_rfl
theorem i64_bd {n : Int} (h : (Lit.int .i64 n).wf = true) : -9223372036854775808 ≤ n ∧ n ≤ 9223372036854775807 := by
  have := bounds_i64 h; exact this
section
variable {H : Type} {enc : TypeId × Value → H} {W : World} {b0 n : Nat} {sp1 : Nat → Bool} {held : Bool} {y : DataW H × List MemPlace} {cs : List Value}
theorem rd_int {c : Value} (h : DataW.trod enc Try.prog W b0 sp1 held n 3 [c] = some y) : ∃ a : Int, c = .int .i64 a ∧ (-9223372036854775808 ≤ a ∧ a ≤ 9223372036854775807) := by
  obtain ⟨a, e0, _, wa⟩ := DataW.trod_int Try.underlying3 h
  simp at e0
  exact ⟨a, e0, i64_bd wa⟩
theorem rd_node (h : DataW.trod enc Try.prog W b0 sp1 held n 121 cs = some y) : ∃ u : Nod, cs = encN u ∧ u.name.size ≤ 9223372036854775807 := by
  obtain ⟨xs, m, rfl, hx, hlen, hxl, hall⟩ := DataW.trod_struct Try.underlying121 h
  rw [cells121] at hlen
  match xs, hxl, cs, hlen with
  | [x0, x1, x2, x3], _, [c0, c1, c2, c3], _ =>
    have f0 : DataW.trod enc Try.prog W b0 sp1 held m 9 [c0] = some x0 := by have := hall 0 _ rfl; simpa [cells9] using this
    have f1 : DataW.trod enc Try.prog W b0 sp1 held m 4 [c1] = some x1 := by have := hall 1 _ rfl; simpa [cells4] using this
    have f2 : DataW.trod enc Try.prog W b0 sp1 held m 3 [c2] = some x2 := by have := hall 2 _ rfl; simpa [cells3] using this
    have f3 : DataW.trod enc Try.prog W b0 sp1 held m 3 [c3] = some x3 := by have := hall 3 _ rfl; simpa [cells3] using this
    obtain ⟨s, e0, _, ws⟩ := DataW.trod_string Try.underlying9 f0
    obtain ⟨b, e1, _⟩ := DataW.trod_bool Try.underlying4 f1
    obtain ⟨a2, rfl, _⟩ := rd_int f2
    obtain ⟨a3, rfl, _⟩ := rd_int f3
    simp at e0 e1
    exact ⟨⟨s, b, a2, a3⟩, by rw [e0, e1], by unfold maxLen at ws; simp only []; omega⟩
theorem rd_link (h : DataW.trod enc Try.prog W b0 sp1 held n 63 cs = some y) : ∃ u : Lnk, cs = encL u ∧ True := by
  obtain ⟨xs, m, rfl, hx, hlen, hxl, hall⟩ := DataW.trod_struct Try.underlying63 h
  rw [cells63] at hlen
  match xs, hxl, cs, hlen with
  | [x0, x1, x2], _, [c0, c1, c2], _ =>
    have f0 : DataW.trod enc Try.prog W b0 sp1 held m 3 [c0] = some x0 := by have := hall 0 _ rfl; simpa [cells3] using this
    have f1 : DataW.trod enc Try.prog W b0 sp1 held m 3 [c1] = some x1 := by have := hall 1 _ rfl; simpa [cells3] using this
    have f2 : DataW.trod enc Try.prog W b0 sp1 held m 3 [c2] = some x2 := by have := hall 2 _ rfl; simpa [cells3] using this
    obtain ⟨a0, rfl, _⟩ := rd_int f0
    obtain ⟨a1, rfl, _⟩ := rd_int f1
    obtain ⟨a2, rfl, _⟩ := rd_int f2
    exact ⟨⟨a0, a1, a2⟩, rfl, trivial⟩
theorem rd_edge (h : DataW.trod enc Try.prog W b0 sp1 held n 124 cs = some y) : ∃ u : Edg, cs = encE u ∧ u.name.size ≤ 9223372036854775807 := by
  obtain ⟨xs, m, rfl, hx, hlen, hxl, hall⟩ := DataW.trod_struct Try.underlying124 h
  rw [cells124] at hlen
  match xs, hxl, cs, hlen with
  | [x0, x1], _, [c0, c1], _ =>
    have f0 : DataW.trod enc Try.prog W b0 sp1 held m 9 [c0] = some x0 := by have := hall 0 _ rfl; simpa [cells9] using this
    have f1 : DataW.trod enc Try.prog W b0 sp1 held m 3 [c1] = some x1 := by have := hall 1 _ rfl; simpa [cells3] using this
    obtain ⟨s, e0, _, ws⟩ := DataW.trod_string Try.underlying9 f0
    obtain ⟨a1, rfl, _⟩ := rd_int f1
    simp at e0
    exact ⟨⟨s, a1⟩, by rw [e0], by unfold maxLen at ws; simp only []; omega⟩
theorem rd_ints (h : DataW.trod enc Try.prog W b0 sp1 held n 28 cs = some y) : ∃ (q : Option Addr) (l : List Int) (cap : Nat), cs = [.slice q l.length cap] ∧ IntArr W [] q l ∧ l.length ≤ cap ∧ l.length ≤ 9223372036854775807 ∧ ∀ u ∈ l, True :=
  open_arr Try.underlying28 cells3 (by omega) (fun n cs y h => by
    obtain ⟨a, e0, _, wa⟩ := DataW.trod_int Try.underlying3 h
    exact ⟨a, e0, trivial⟩) h
theorem rd_way (h : DataW.trod enc Try.prog W b0 sp1 held n 48 cs = some y) : ∃ u : Wm, cs = encW u ∧ (WayM W [] u ∧ u.way.links.length ≤ u.cap) := by
  obtain ⟨xs, m, rfl, hx, hlen, hxl, hall⟩ := DataW.trod_struct Try.underlying48 h
  rw [cells48] at hlen
  match xs, hxl, cs, hlen with
  | [x0, x1, x2, x3, x4], _, [c0, c1, c2, c3, c4], _ =>
    have f0 : DataW.trod enc Try.prog W b0 sp1 held m 3 [c0] = some x0 := by have := hall 0 _ rfl; simpa [cells3] using this
    have f1 : DataW.trod enc Try.prog W b0 sp1 held m 28 [c1] = some x1 := by have := hall 1 _ rfl; simpa [cells28] using this
    have f2 : DataW.trod enc Try.prog W b0 sp1 held m 3 [c2] = some x2 := by have := hall 2 _ rfl; simpa [cells3] using this
    have f3 : DataW.trod enc Try.prog W b0 sp1 held m 3 [c3] = some x3 := by have := hall 3 _ rfl; simpa [cells3] using this
    have f4 : DataW.trod enc Try.prog W b0 sp1 held m 3 [c4] = some x4 := by have := hall 4 _ rfl; simpa [cells3] using this
    obtain ⟨a0, rfl, _⟩ := rd_int f0
    obtain ⟨a2, rfl, h2⟩ := rd_int f2
    obtain ⟨a3, rfl, _⟩ := rd_int f3
    obtain ⟨a4, rfl, _⟩ := rd_int f4
    obtain ⟨q, l, cap, e1, ha, hcap, hl, _⟩ := rd_ints f1
    simp at e1
    exact ⟨⟨⟨a0, l, a2, a3, a4⟩, q, cap⟩, by rw [e1], ⟨ha, hl, h2⟩, hcap⟩
theorem open_net {base : Nat} {r : Reach} {v : Value} {d : DataW H} {p : List MemPlace} (hv : Value.okWide Try.prog W r base 26 v) (h : DataW.Trod enc Try.prog W b0 sp1 held 26 v d p) : ∃ n : Nm, v = .agg (encNm n).toArray ∧ NetM W [] n := by
  obtain ⟨cs, rfl, hsz⟩ := okWide_struct Try.underlying26 hv
  obtain ⟨fuel, hf⟩ := h
  obtain ⟨xs, m, rfl, hx, hlen, hxl, hall⟩ := DataW.trod_struct Try.underlying26 hf
  obtain ⟨l⟩ := cs
  simp only [Value.cells, cells26] at hlen hall
  match xs, hxl, l, hlen with
  | [x0, x1, x2], _, [c0, c1, c2], _ =>
    have f0 : DataW.trod enc Try.prog W b0 sp1 held m 22 [c0] = some x0 := by have := hall 0 _ rfl; simpa [cells22] using this
    have f1 : DataW.trod enc Try.prog W b0 sp1 held m 23 [c1] = some x1 := by have := hall 1 _ rfl; simpa [cells23] using this
    have f2 : DataW.trod enc Try.prog W b0 sp1 held m 24 [c2] = some x2 := by have := hall 2 _ rfl; simpa [cells24] using this
    obtain ⟨q0, l0, k0, e0, a0, _, b0, s0⟩ := open_arr (el := encN) Try.underlying22 cells121 (by omega) (fun n cs y h => rd_node h) f0
    obtain ⟨q1, l1, k1, e1, a1, _, b1, _⟩ := open_arr (el := encL) Try.underlying23 cells63 (by omega) (fun n cs y h => rd_link h) f1
    obtain ⟨q2, l2, k2, e2, a2, _, b2, s2⟩ := open_arr (el := encE) Try.underlying24 cells124 (by omega) (fun n cs y h => rd_edge h) f2
    simp at e0 e1 e2
    exact ⟨⟨l0, l1, l2, q0, k0, q1, k1, q2, k2⟩, by rw [e0, e1, e2], ⟨a0, a1, a2, b0, b1, b2, s0, s2⟩⟩
theorem open_ways {base : Nat} {r : Reach} {v : Value} {d : DataW H} {p : List MemPlace} (hv : Value.okWide Try.prog W r base 27 v) (h : DataW.Trod enc Try.prog W b0 sp1 held 27 v d p) : ∃ (q : Option Addr) (l : List Wm) (cap : Nat), v = .slice q l.length cap ∧ WaysM W [] q l ∧ l.length ≤ cap := by
  obtain ⟨a0, len0, cap0, rfl⟩ := okWide_slice Try.underlying27 hv
  obtain ⟨fuel, hf⟩ := h
  obtain ⟨q, l, cap, e, ha, hc, hl, hw⟩ := open_arr (el := encW) Try.underlying27 cells48 (by omega) (fun n cs y h => rd_way h) hf
  simp only [Value.cells, List.cons.injEq, and_true] at e
  exact ⟨q, l, cap, e, ⟨ha, fun m hm => (hw m hm).1, hl⟩, hc⟩
theorem open_ints {base : Nat} {r : Reach} {v : Value} {d : DataW H} {p : List MemPlace} (hv : Value.okWide Try.prog W r base 28 v) (h : DataW.Trod enc Try.prog W b0 sp1 held 28 v d p) : ∃ (q : Option Addr) (l : List Int) (cap : Nat), v = .slice q l.length cap ∧ IntArr W [] q l ∧ l.length ≤ cap ∧ l.length ≤ 9223372036854775807 := by
  obtain ⟨a0, len0, cap0, rfl⟩ := okWide_slice Try.underlying28 hv
  obtain ⟨fuel, hf⟩ := h
  obtain ⟨q, l, cap, e, ha, hc, hl, _⟩ := rd_ints hf
  simp only [Value.cells, List.cons.injEq, and_true] at e
  exact ⟨q, l, cap, e, ha, hc, hl⟩
theorem open_way {base : Nat} {r : Reach} {v : Value} {d : DataW H} {p : List MemPlace} (hv : Value.okWide Try.prog W r base 48 v) (h : DataW.Trod enc Try.prog W b0 sp1 held 48 v d p) : ∃ u : Wm, v = .agg (encW u).toArray ∧ WayM W [] u ∧ u.way.links.length ≤ u.cap := by
  obtain ⟨cs, rfl, hsz⟩ := okWide_struct Try.underlying48 hv
  obtain ⟨fuel, hf⟩ := h
  obtain ⟨l⟩ := cs
  obtain ⟨u, e, hu⟩ := rd_way hf
  simp only [Value.cells] at e
  exact ⟨u, by rw [← e], hu.1, hu.2⟩
end
end Go.Proofs.Ytdbffighngmibaa
