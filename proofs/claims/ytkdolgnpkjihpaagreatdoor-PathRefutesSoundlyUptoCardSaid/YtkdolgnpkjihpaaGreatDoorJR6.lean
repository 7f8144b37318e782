/-
  A part of what LawR rests on: the logic, walks and plain laws. No condition.
-/
import Derived.Test.YtkdolgnpkjihpaaGreatDoorJR5
import Derived.Test.YtkdolgnpkjihpaaGreatDoorRows
import Derived.WalkKit
import Derived.ProofKit
import Derived.OpenShut
import Derived.Lib.SmallJoins
import Derived.Deep.SlicePairs
import Derived.Test.YtkdolgnpkjihpaaGreatDoorCards
import Derived.Test.YtkdolgnpkjihpaaGreatDoorTie
import Derived.Deep.DeepHandedRow
namespace Go.Proofs.YtkdolgnpkjihpaaGreatDoor
open Go.ChangeShapes Go.WideShapes Go.ChangeAt Go.RowKit Go.Joins Go.Deep
set_option linter.unusedSimpArgs false
set_option linter.unusedVariables false
set_option maxRecDepth 100000
theorem below_cell {W w : World} {p : Addr} {v : Value} (hb : Below W.heap.size W w) (h : W.cell? p = some v) : w.cell? p = some v := by
  have hlt := World.block_lt_of_cell? _ _ h
  have := hb.block p.block hlt
  unfold World.cell? at h ⊢
  rw [this]; exact h
theorem cell_arg {W : World} {p : Addr} {v : Value} (h : W.cell? p = some v) : Cell W [] p v := fun w hO => below_cell hO.below h
theorem blk_pos {H : Type} (d : DataW H) : 1 ≤ Rows.uptoBulk d := by
  cases d with
  | lit l => cases l <;> simp [Rows.uptoBulk]
  | nil => simp [Rows.uptoBulk]
  | ptr d => simp [Rows.uptoBulk]
  | slice elems spare => simp [Rows.uptoBulk]
  | agg parts => simp [Rows.uptoBulk]
  | iface t d => simp [Rows.uptoBulk]
  | map entries => simp [Rows.uptoBulk]
  | held h => simp [Rows.uptoBulk]
theorem blk_sum {H : Type} {f : Nat → Nat} {D : Nat → DataW H} : ∀ (l : List Nat), (∀ i ∈ l, f i ≤ Rows.uptoBulk (D i)) → (l.map f).sum ≤ Rows.uptoBulkAll (l.map D)
  | [], _ => Nat.le_refl _
  | x :: l, h => by
    have h1 := h x (by simp)
    have h2 := blk_sum l fun i hi => h i (by simp [hi])
    simp only [List.map_cons, List.sum_cons, Rows.uptoBulkAll]
    omega
theorem blk_mem {H : Type} {D : Nat → DataW H} : ∀ {l : List Nat} {i : Nat}, i ∈ l → Rows.uptoBulk (D i) ≤ Rows.uptoBulkAll (l.map D)
  | x :: l, i, h => by
    simp only [List.map_cons, Rows.uptoBulkAll]
    rcases List.mem_cons.1 h with rfl | h
    · exact Nat.le_add_right _ _
    · have := blk_mem (D := D) h; omega
section
variable {H : Type} {enc : TypeId × Value → H} {P : Program} {W : World} {b0 : Nat} {sp1 : Nat → Bool} {held : Bool}
theorem open_arr {α : Type} {t e sz fuel : Nat} {cs : List Value} {x : DataW H × List MemPlace} {el : α → List Value} {φ : α → Prop} {szf : α → Nat} (ht : P.underlying t = some (.slice e)) (hc : P.cellsOf e = sz) (hsz : 0 < sz)
    (hel : ∀ n cs y, Rows.uptoBulk y.1 < Rows.uptoBulk x.1 → DataW.trod enc P W b0 sp1 held n e cs = some y → ∃ u : α, cs = el u ∧ φ u ∧ szf u ≤ Rows.uptoBulk y.1) (h : DataW.trod enc P W b0 sp1 held fuel t cs = some x) :
    ∃ (q : Option Addr) (l : List α) (cap : Nat), cs = [.slice q l.length cap] ∧ Arr W [] q sz el l ∧ l.length ≤ cap ∧ l.length ≤ 9223372036854775807 ∧ (∀ u ∈ l, φ u) ∧ (l.map szf).sum + 1 ≤ Rows.uptoBulk x.1 := by
  rcases open_slice ht h with ⟨rfl, rfl⟩ | ⟨a, len, cap, m, n, D, Pl, rfl, hb, hl, hm, hmm, rfl, hx⟩
  · exact ⟨none, [], 0, rfl, fun i u hi => by simp at hi, by simp, by simp, by simp, by simp [Rows.uptoBulk]⟩
  have hlm : len ≤ m := by rw [hmm]; split <;> omega
  have hlen : len ≤ 9223372036854775807 := by unfold maxLen at hm; omega
  cases len with
  | zero => exact ⟨some a, [], cap, rfl, fun i u hi => by simp at hi, by simp, by simp, by simp, by simp [Rows.uptoBulk]⟩
  | succ k =>
    have hbk : Rows.uptoBulkAll ((List.range (k + 1)).map D) + 1 ≤ Rows.uptoBulk (DataW.slice ((List.range (k + 1)).map D) ((List.range (m - (k + 1))).map fun j => D (k + 1 + j))) := by
      simp only [Rows.uptoBulk]; omega
    have each : ∀ i, i < k + 1 → ∃ u : α, W.cells? b0 (a.add (i * sz)) sz = some (el u) ∧ φ u ∧ szf u ≤ Rows.uptoBulk (D i) := fun i hi => by
      obtain ⟨cs', h1, h2⟩ := hx i (by omega)
      rw [hc] at h1
      have h3 := blk_mem (D := D) (List.mem_range.2 hi)
      obtain ⟨u, rfl, hu⟩ := hel _ _ _ (by simp only []; omega) h2
      exact ⟨u, h1, hu⟩
    obtain ⟨u0, h00, hu0⟩ := each 0 (by omega)
    letI : Inhabited α := ⟨u0⟩
    obtain ⟨f, hf⟩ := choose_lt each
    refine ⟨some a, (List.range (k + 1)).map f, cap, by simp, fun i u hi => ?_, by simpa using hl, by simpa using hlen, fun u hu => ?_, ?_⟩
    · have hik : i < k + 1 := by have := (List.getElem?_eq_some_iff.1 hi).1; simpa using this
      have hfu : f i = u := by simpa [hik] using hi
      obtain ⟨sb, so, spot⟩ := a
      obtain ⟨_, hl0, hc0⟩ := World.cells?_some h00
      have hspot : spot = none := by
        have h6 := (hc0 0 hsz).trans (List.getElem?_eq_getElem (by omega))
        simpa [Addr.add] using World.cell?_spot h6
      subst hspot
      refine ⟨rfl, fun j v hj => cell_arg ?_⟩
      obtain ⟨_, hl1, hc1⟩ := World.cells?_some (hf i hik).1
      rw [hfu] at hl1 hc1
      have hjl := (List.getElem?_eq_some_iff.1 hj).1
      have h5 := hc1 j (by omega)
      rw [add_add, add_plain] at h5
      have h6 := h5.trans hj
      rw [← Nat.add_assoc] at h6
      exact h6
    · obtain ⟨i, hi, rfl⟩ := List.mem_map.1 hu
      exact (hf i (List.mem_range.1 hi)).2.1
    · have := blk_sum (f := fun i => szf (f i)) (D := D) (List.range (k + 1)) fun i hi => (hf i (List.mem_range.1 hi)).2.2
      rw [List.map_map]
      have e : (szf ∘ f) = fun i => szf (f i) := rfl
      rw [e]; simp only [] at hbk ⊢; omega
end
theorem cells3 : Tryz.prog.cellsOf 3 = 1 := by kernel_rfl
theorem cells4 : Tryz.prog.cellsOf 4 = 1 := by kernel_rfl
theorem cells9 : Tryz.prog.cellsOf 9 = 1 := by kernel_rfl
theorem cells22 : Tryz.prog.cellsOf 22 = 1 := by kernel_rfl
theorem cells24 : Tryz.prog.cellsOf 24 = 3 := by kernel_rfl
theorem cells42 : Tryz.prog.cellsOf 42 = 1 := by kernel_rfl
theorem cells52 : Tryz.prog.cellsOf 52 = 1 := by kernel_rfl
theorem cells53 : Tryz.prog.cellsOf 53 = 1 := by kernel_rfl
theorem cells54 : Tryz.prog.cellsOf 54 = 1 := by kernel_rfl
theorem cells56 : Tryz.prog.cellsOf 56 = 3 := by kernel_rfl
theorem cells58 : Tryz.prog.cellsOf 58 = 2 := by kernel_rfl
theorem cells74 : Tryz.prog.cellsOf 74 = 2 := by kernel_rfl
theorem cells71 : Tryz.prog.cellsOf 71 = 3 := by kernel_rfl
theorem cells138 : Tryz.prog.cellsOf 138 = 4 := by kernel_rfl
theorem cells154 : Tryz.prog.cellsOf 154 = 2 := by kernel_rfl
theorem own_knob : ownKnob Tryz.prog.godebug = none := by kernel_rfl
theorem i64_bd {n : Int} (h : (Lit.int .i64 n).wf = true) : -9223372036854775808 ≤ n ∧ n ≤ 9223372036854775807 := by
  have := bounds_i64 h; exact this
theorem sum_len {α : Type} (l : List α) : (l.map fun _ => 1).sum = l.length := by
  induction l with
  | nil => rfl
  | cons x l ih => simp only [List.map_cons, List.sum_cons, List.length_cons, ih]; omega
theorem szL_sum : ∀ l : List Rxm, szL l = (l.map Rxm.sz).sum
  | [] => rfl
  | x :: l => by simp only [szL, List.map_cons, List.sum_cons, szL_sum l]
section
variable {H : Type} {enc : TypeId × Value → H} {W : World} {b0 n : Nat} {sp1 : Nat → Bool} {held : Bool} {y : DataW H × List MemPlace} {cs : List Value}
theorem rd_int {c : Value} (h : DataW.trod enc Tryz.prog W b0 sp1 held n 3 [c] = some y) : ∃ a : Int, c = .int .i64 a ∧ (-9223372036854775808 ≤ a ∧ a ≤ 9223372036854775807) := by
  obtain ⟨a, e0, _, wa⟩ := DataW.trod_int Tryz.underlying3 h
  simp at e0
  exact ⟨a, e0, i64_bd wa⟩
theorem rd_str (h : DataW.trod enc Tryz.prog W b0 sp1 held n 9 cs = some y) : ∃ u : ByteArray, cs = encS u ∧ u.size ≤ 9223372036854775807 := by
  obtain ⟨s, e0, _, ws⟩ := DataW.trod_string Tryz.underlying9 h
  exact ⟨s, e0, by unfold maxLen at ws; omega⟩
theorem rd_ints (h : DataW.trod enc Tryz.prog W b0 sp1 held n 42 cs = some y) : ∃ (q : Option Addr) (l : List Int) (cap : Nat), cs = [.slice q l.length cap] ∧ Arr W [] q 1 encI l ∧ l.length ≤ cap ∧ l.length ≤ 9223372036854775807 ∧ (∀ u ∈ l, -9223372036854775808 ≤ u ∧ u ≤ 9223372036854775807) ∧ l.length + 1 ≤ Rows.uptoBulk y.1 := by
  obtain ⟨q, l, cap, e, a, c, b, f, s⟩ := open_arr (el := encI) (φ := fun u => -9223372036854775808 ≤ u ∧ u ≤ 9223372036854775807) (szf := fun _ => 1) Tryz.underlying42 cells3 (by omega) (fun n cs y _ h => by
    obtain ⟨a, e0, _, wa⟩ := DataW.trod_int Tryz.underlying3 h
    exact ⟨a, e0, i64_bd wa, blk_pos _⟩) h
  rw [sum_len] at s
  exact ⟨q, l, cap, e, a, c, b, f, s⟩
theorem rd_rx : ∀ (N : Nat) {n : Nat} {y : DataW H × List MemPlace} {cs : List Value}, Rows.uptoBulk y.1 ≤ N → DataW.trod enc Tryz.prog W b0 sp1 held n 24 cs = some y → ∃ u : Rxm, cs = encRx u ∧ RxM W [] u ∧ u.sz ≤ Rows.uptoBulk y.1
  | 0, n, y, cs, hN, _ => by have := blk_pos y.1; omega
  | N + 1, n, y, cs, hN, h => by
    obtain ⟨xs, m, rfl, rfl, hlen, hxl, hall⟩ := DataW.trod_struct Tryz.underlying24 h
    rw [cells24] at hlen
    match xs, hxl, cs, hlen with
    | [x0, x1, x2], _, [c0, c1, c2], _ =>
      have f0 : DataW.trod enc Tryz.prog W b0 sp1 held m 3 [c0] = some x0 := by have := hall 0 _ rfl; simpa [cells3] using this
      have f1 : DataW.trod enc Tryz.prog W b0 sp1 held m 9 [c1] = some x1 := by have := hall 1 _ rfl; simpa [cells9] using this
      have f2 : DataW.trod enc Tryz.prog W b0 sp1 held m 22 [c2] = some x2 := by have := hall 2 _ rfl; simpa [cells22] using this
      have hb : Rows.uptoBulk x2.1 + 2 ≤ Rows.uptoBulk (DataW.agg (H := H) ([x0, x1, x2].map (·.1))) := by
        have := blk_pos x0.1; have := blk_pos x1.1
        simp only [Rows.uptoBulk, Rows.uptoBulkAll, List.map_cons, List.map_nil] at *; omega
      have hN' : Rows.uptoBulk (DataW.agg (H := H) ([x0, x1, x2].map (·.1))) ≤ N + 1 := hN
      obtain ⟨k, rfl, _⟩ := rd_int f0
      obtain ⟨s, e1, hs⟩ := rd_str f1
      obtain ⟨q, l, cap, e2, ha, hc, hl, hf, hsum⟩ := open_arr (el := encRx) (φ := RxM W []) (szf := Rxm.sz) Tryz.underlying22 cells24 (by omega) (fun n cs y hy h => rd_rx N (by omega) h) f2
      simp at e1 e2
      refine ⟨.mk k s q cap l, by rw [e1, e2]; rfl, .mk ha hf hs hl, ?_⟩
      rw [sz_eq, show (Rxm.mk k s q cap l).args = l from rfl, szL_sum]
      exact Nat.le_trans (by omega : 1 + (l.map Rxm.sz).sum ≤ Rows.uptoBulk x2.1 + 2) hb
theorem open_rx {base : Nat} {r : _root_.Go.Reach} {v : Value} {d : DataW H} {p : List MemPlace} (hv : Value.okWide Tryz.prog W r base 24 v) (h : DataW.Trod enc Tryz.prog W b0 sp1 held 24 v d p) : ∃ u : Rxm, v = .agg (encRx u).toArray ∧ RxM W [] u ∧ u.sz ≤ Rows.uptoBulk d := by
  obtain ⟨cs, rfl, hsz⟩ := okWide_struct Tryz.underlying24 hv
  obtain ⟨fuel, hf⟩ := h
  obtain ⟨l⟩ := cs
  obtain ⟨u, e, hu⟩ := rd_rx _ (Nat.le_refl _) hf
  simp only [Value.cells] at e
  exact ⟨u, by rw [← e], hu⟩
theorem open_ints {base : Nat} {r : _root_.Go.Reach} {v : Value} {d : DataW H} {p : List MemPlace} (hv : Value.okWide Tryz.prog W r base 42 v) (h : DataW.Trod enc Tryz.prog W b0 sp1 held 42 v d p) : ∃ (q : Option Addr) (l : List Int) (cap : Nat), v = .slice q l.length cap ∧ Arr W [] q 1 encI l ∧ l.length ≤ cap ∧ l.length ≤ 9223372036854775807 ∧ (∀ u ∈ l, -9223372036854775808 ≤ u ∧ u ≤ 9223372036854775807) ∧ l.length + 1 ≤ Rows.uptoBulk d := by
  obtain ⟨a0, len0, cap0, rfl⟩ := okWide_slice Tryz.underlying42 hv
  obtain ⟨fuel, hf⟩ := h
  obtain ⟨q, l, cap, e, r⟩ := rd_ints hf
  simp only [Value.cells, List.cons.injEq, and_true] at e
  exact ⟨q, l, cap, e, r⟩
theorem rd_node (h : DataW.trod enc Tryz.prog W b0 sp1 held n 138 cs = some y) : ∃ u : Nod, cs = encN u ∧ u.name.size ≤ 9223372036854775807 := by
  obtain ⟨xs, m, rfl, hx, hlen, hxl, hall⟩ := DataW.trod_struct Tryz.underlying138 h
  rw [cells138] at hlen
  match xs, hxl, cs, hlen with
  | [x0, x1, x2, x3], _, [c0, c1, c2, c3], _ =>
    have f0 : DataW.trod enc Tryz.prog W b0 sp1 held m 9 [c0] = some x0 := by have := hall 0 _ rfl; simpa [cells9] using this
    have f1 : DataW.trod enc Tryz.prog W b0 sp1 held m 4 [c1] = some x1 := by have := hall 1 _ rfl; simpa [cells4] using this
    have f2 : DataW.trod enc Tryz.prog W b0 sp1 held m 3 [c2] = some x2 := by have := hall 2 _ rfl; simpa [cells3] using this
    have f3 : DataW.trod enc Tryz.prog W b0 sp1 held m 3 [c3] = some x3 := by have := hall 3 _ rfl; simpa [cells3] using this
    obtain ⟨s, e0, hs⟩ := rd_str f0
    obtain ⟨b, e1, _⟩ := DataW.trod_bool Tryz.underlying4 f1
    obtain ⟨a2, rfl, _⟩ := rd_int f2
    obtain ⟨a3, rfl, _⟩ := rd_int f3
    simp at e0 e1
    exact ⟨⟨s, b, a2, a3⟩, by rw [e0, e1], hs⟩
theorem rd_link (h : DataW.trod enc Tryz.prog W b0 sp1 held n 71 cs = some y) : ∃ u : Lnk, cs = encL u ∧ True := by
  obtain ⟨xs, m, rfl, hx, hlen, hxl, hall⟩ := DataW.trod_struct Tryz.underlying71 h
  rw [cells71] at hlen
  match xs, hxl, cs, hlen with
  | [x0, x1, x2], _, [c0, c1, c2], _ =>
    have f0 : DataW.trod enc Tryz.prog W b0 sp1 held m 3 [c0] = some x0 := by have := hall 0 _ rfl; simpa [cells3] using this
    have f1 : DataW.trod enc Tryz.prog W b0 sp1 held m 3 [c1] = some x1 := by have := hall 1 _ rfl; simpa [cells3] using this
    have f2 : DataW.trod enc Tryz.prog W b0 sp1 held m 3 [c2] = some x2 := by have := hall 2 _ rfl; simpa [cells3] using this
    obtain ⟨a0, rfl, _⟩ := rd_int f0
    obtain ⟨a1, rfl, _⟩ := rd_int f1
    obtain ⟨a2, rfl, _⟩ := rd_int f2
    exact ⟨⟨a0, a1, a2⟩, rfl, trivial⟩
theorem rd_edge (h : DataW.trod enc Tryz.prog W b0 sp1 held n 154 cs = some y) : ∃ u : Edg, cs = encE u ∧ u.name.size ≤ 9223372036854775807 := by
  obtain ⟨xs, m, rfl, hx, hlen, hxl, hall⟩ := DataW.trod_struct Tryz.underlying154 h
  rw [cells154] at hlen
  match xs, hxl, cs, hlen with
  | [x0, x1], _, [c0, c1], _ =>
    have f0 : DataW.trod enc Tryz.prog W b0 sp1 held m 9 [c0] = some x0 := by have := hall 0 _ rfl; simpa [cells9] using this
    have f1 : DataW.trod enc Tryz.prog W b0 sp1 held m 3 [c1] = some x1 := by have := hall 1 _ rfl; simpa [cells3] using this
    obtain ⟨s, e0, hs⟩ := rd_str f0
    obtain ⟨a1, rfl, _⟩ := rd_int f1
    simp at e0
    exact ⟨⟨s, a1⟩, by rw [e0], hs⟩
theorem rd_place (h : DataW.trod enc Tryz.prog W b0 sp1 held n 74 cs = some y) : ∃ u : Int × Int, cs = encPI u ∧ True := by
  obtain ⟨xs, m, rfl, hx, hlen, hxl, hall⟩ := DataW.trod_struct Tryz.underlying74 h
  rw [cells74] at hlen
  match xs, hxl, cs, hlen with
  | [x0, x1], _, [c0, c1], _ =>
    have f0 : DataW.trod enc Tryz.prog W b0 sp1 held m 3 [c0] = some x0 := by have := hall 0 _ rfl; simpa [cells3] using this
    have f1 : DataW.trod enc Tryz.prog W b0 sp1 held m 3 [c1] = some x1 := by have := hall 1 _ rfl; simpa [cells3] using this
    obtain ⟨a0, rfl, _⟩ := rd_int f0
    obtain ⟨a1, rfl, _⟩ := rd_int f1
    exact ⟨(a0, a1), rfl, trivial⟩
theorem open_net {base : Nat} {r : _root_.Go.Reach} {v : Value} {d : DataW H} {p : List MemPlace} (hv : Value.okWide Tryz.prog W r base 56 v) (h : DataW.Trod enc Tryz.prog W b0 sp1 held 56 v d p) : ∃ n : Nm, v = .agg (encNm n).toArray ∧ NetM W [] n := by
  obtain ⟨cs, rfl, hsz⟩ := okWide_struct Tryz.underlying56 hv
  obtain ⟨fuel, hf⟩ := h
  obtain ⟨xs, m, rfl, hx, hlen, hxl, hall⟩ := DataW.trod_struct Tryz.underlying56 hf
  obtain ⟨l⟩ := cs
  simp only [Value.cells, cells56] at hlen hall
  match xs, hxl, l, hlen with
  | [x0, x1, x2], _, [c0, c1, c2], _ =>
    have f0 : DataW.trod enc Tryz.prog W b0 sp1 held m 52 [c0] = some x0 := by have := hall 0 _ rfl; simpa [cells52] using this
    have f1 : DataW.trod enc Tryz.prog W b0 sp1 held m 53 [c1] = some x1 := by have := hall 1 _ rfl; simpa [cells53] using this
    have f2 : DataW.trod enc Tryz.prog W b0 sp1 held m 54 [c2] = some x2 := by have := hall 2 _ rfl; simpa [cells54] using this
    obtain ⟨q0, l0, k0, e0, a0, _, b0, s0, _⟩ := open_arr (el := encN) (szf := fun _ => 0) Tryz.underlying52 cells138 (by omega) (fun n cs y _ h => by obtain ⟨u, h1, h2⟩ := rd_node h; exact ⟨u, h1, h2, Nat.zero_le _⟩) f0
    obtain ⟨q1, l1, k1, e1, a1, _, b1, _, _⟩ := open_arr (el := encL) (szf := fun _ => 0) Tryz.underlying53 cells71 (by omega) (fun n cs y _ h => by obtain ⟨u, h1, h2⟩ := rd_link h; exact ⟨u, h1, h2, Nat.zero_le _⟩) f1
    obtain ⟨q2, l2, k2, e2, a2, _, b2, s2, _⟩ := open_arr (el := encE) (szf := fun _ => 0) Tryz.underlying54 cells154 (by omega) (fun n cs y _ h => by obtain ⟨u, h1, h2⟩ := rd_edge h; exact ⟨u, h1, h2, Nat.zero_le _⟩) f2
    simp at e0 e1 e2
    exact ⟨⟨l0, l1, l2, q0, k0, q1, k1, q2, k2⟩, by rw [e0, e1, e2], ⟨a0, a1, a2, b0, b1, b2, s0, s2⟩⟩
theorem open_fail {base : Nat} {r : _root_.Go.Reach} {v : Value} {d : DataW H} {p : List MemPlace} (hv : Value.okWide Tryz.prog W r base 58 v) (h : DataW.Trod enc Tryz.prog W b0 sp1 held 58 v d p) : ∃ f : Flr, v = .agg (encFl f).toArray ∧ Arr W [] f.q 1 encI f.links ∧ f.links.length ≤ 9223372036854775807 := by
  obtain ⟨cs, rfl, hsz⟩ := okWide_struct Tryz.underlying58 hv
  obtain ⟨fuel, hf⟩ := h
  obtain ⟨xs, m, rfl, hx, hlen, hxl, hall⟩ := DataW.trod_struct Tryz.underlying58 hf
  obtain ⟨l⟩ := cs
  simp only [Value.cells, cells58] at hlen hall
  match xs, hxl, l, hlen with
  | [x0, x1], _, [c0, c1], _ =>
    have f0 : DataW.trod enc Tryz.prog W b0 sp1 held m 42 [c0] = some x0 := by have := hall 0 _ rfl; simpa [cells42] using this
    have f1 : DataW.trod enc Tryz.prog W b0 sp1 held m 3 [c1] = some x1 := by have := hall 1 _ rfl; simpa [cells3] using this
    obtain ⟨q, l, cap, e, a, _, b, _, _⟩ := rd_ints f0
    obtain ⟨k, rfl, _⟩ := rd_int f1
    simp at e
    exact ⟨⟨q, cap, l, k⟩, by rw [e], a, b⟩
theorem open_places {base : Nat} {r : _root_.Go.Reach} {v : Value} {d : DataW H} {p : List MemPlace} (hv : Value.okWide Tryz.prog W r base 59 v) (h : DataW.Trod enc Tryz.prog W b0 sp1 held 59 v d p) : ∃ (q : Option Addr) (l : List (Int × Int)) (cap : Nat), v = .slice q l.length cap ∧ Arr W [] q 2 encPI l ∧ l.length ≤ cap ∧ l.length ≤ 9223372036854775807 := by
  obtain ⟨a0, len0, cap0, rfl⟩ := okWide_slice Tryz.underlying59 hv
  obtain ⟨fuel, hf⟩ := h
  obtain ⟨q, l, cap, e, a, c, b, _, _⟩ := open_arr (el := encPI) (szf := fun _ => 0) Tryz.underlying59 cells74 (by omega) (fun n cs y _ h => by obtain ⟨u, h1, h2⟩ := rd_place h; exact ⟨u, h1, h2, Nat.zero_le _⟩) hf
  simp only [Value.cells, List.cons.injEq, and_true] at e
  exact ⟨q, l, cap, e, a, c, b⟩
end
end Go.Proofs.YtkdolgnpkjihpaaGreatDoor
namespace Go.Proofs.YtkdolgnpkjihpaaGreatDoor
open Go.ChangeShapes Go.WideShapes Go.ChangeAt Go.RowKit Go.Joins
set_option linter.unusedSimpArgs false
set_option linter.unusedVariables false
set_option maxRecDepth 100000
section
variable {H : Type} {enc : TypeId × Value → H} {W : World}
theorem laid_out : laidOutB Tryz.prog = true := by kernel_rfl
theorem trodAll_stays : ∀ {ts : List TypeId} {vs : List Value} {ds : List (DataW H)} {ps : List MemPlace} {W' : World}, (∀ t ∈ ts, Tryz.prog.readableRec t = true ∧ t < Tryz.prog.types.size) → DataW.TrodAll enc Tryz.prog W 0 (fun _ => true) true ts vs ds ps → Below W.heap.size W W' → (∀ x ∈ ps, x.block < W.heap.size) →
    DataW.TrodAll enc Tryz.prog W' 0 (fun b => decide (b < W.heap.size)) true ts vs ds ps
  | [], _, _, _, _, _, h, _, _ => by obtain ⟨rfl, rfl, rfl⟩ := trodAll_nil h; exact trodAll_mk0
  | t :: ts, _, _, _, _, hr, h, hb, hlt => by
    obtain ⟨v, vs, d, ds, p, q, rfl, rfl, rfl, h0, r0⟩ := trodAll_cons h
    exact trodAll_cons_mk (Below.trod laid_out (hr t (by simp)).1 (hr t (by simp)).2 h0 hb (fun x hx => hlt x (by simp [hx]))) (trodAll_stays (fun t ht => hr t (by simp [ht])) r0 hb (fun x hx => hlt x (by simp [hx])))
end
theorem calls_true {f : FuncId} {args : Array Value} {W : World} (h : FSpec Tryz.prog W f args [] (Still (.bool true) [])) : Calls Tryz.prog f args W fun e W' => e = .returned (.bool true) ∧ Below W.heap.size W W' :=
  (h W (Own.start W)).mono fun e W' ⟨v, H', he, hO, hv, _⟩ => ⟨by rw [he, hv], hO.below⟩
def tab32 : Array Value := #[.int .u8 0, .int .u8 1, .int .u8 28, .int .u8 2, .int .u8 29, .int .u8 14, .int .u8 24, .int .u8 3, .int .u8 30, .int .u8 22, .int .u8 20, .int .u8 15, .int .u8 25, .int .u8 17, .int .u8 4, .int .u8 8, .int .u8 31, .int .u8 27, .int .u8 13, .int .u8 23, .int .u8 21, .int .u8 19, .int .u8 16, .int .u8 7, .int .u8 26, .int .u8 12, .int .u8 18, .int .u8 6, .int .u8 11, .int .u8 5, .int .u8 10, .int .u8 9]
def tab64 : Array Value := #[.int .u8 0, .int .u8 1, .int .u8 56, .int .u8 2, .int .u8 57, .int .u8 49, .int .u8 28, .int .u8 3, .int .u8 61, .int .u8 58, .int .u8 42, .int .u8 50, .int .u8 38, .int .u8 29, .int .u8 17, .int .u8 4, .int .u8 62, .int .u8 47, .int .u8 59, .int .u8 36, .int .u8 45, .int .u8 43, .int .u8 51, .int .u8 22, .int .u8 53, .int .u8 39, .int .u8 33, .int .u8 30, .int .u8 24, .int .u8 18, .int .u8 12, .int .u8 5, .int .u8 63, .int .u8 55, .int .u8 48, .int .u8 27, .int .u8 60, .int .u8 41, .int .u8 37, .int .u8 16, .int .u8 46, .int .u8 35, .int .u8 44, .int .u8 21, .int .u8 52, .int .u8 32, .int .u8 23, .int .u8 11, .int .u8 54, .int .u8 26, .int .u8 40, .int .u8 15, .int .u8 34, .int .u8 20, .int .u8 31, .int .u8 10, .int .u8 25, .int .u8 14, .int .u8 19, .int .u8 9, .int .u8 13, .int .u8 8, .int .u8 7, .int .u8 6]
def tab10 : Array Value := #[.int .u64 1, .int .u64 10, .int .u64 100, .int .u64 1000, .int .u64 10000, .int .u64 100000, .int .u64 1000000, .int .u64 10000000, .int .u64 100000000, .int .u64 1000000000, .int .u64 10000000000, .int .u64 100000000000, .int .u64 1000000000000, .int .u64 10000000000000, .int .u64 100000000000000, .int .u64 1000000000000000, .int .u64 10000000000000000, .int .u64 100000000000000000, .int .u64 1000000000000000000, .int .u64 10000000000000000000]
def layObj (a : Array Value) : Obj → Obj
  | .cells _ t frozen => .cells a t frozen
  | o => o
noncomputable def laidWorld (os : Os) : World :=
  { World.holding Tryz.prog os ⟨#[], #[], []⟩ with heap := (((World.holding Tryz.prog os ⟨#[], #[], []⟩).heap.modify 0 (layObj tab10)).modify 1 (layObj tab32)).modify 2 (layObj tab64) }
end Go.Proofs.YtkdolgnpkjihpaaGreatDoor
