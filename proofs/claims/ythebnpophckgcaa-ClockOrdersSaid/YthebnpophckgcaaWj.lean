/-
  The walk of reduced and of Order.
-/
import Derived.Test.YthebnpophckgcaaWi
import Derived.OwnWalk
import Derived.Lib.Hide
namespace Go.Proofs.Ythebnpophckgcaa
open Go.RowKit
set_option linter.unusedSimpArgs false
set_option linter.unusedVariables false
set_option maxHeartbeats 2000000
theorem ownsRow_grow {w w' : World} {base : Nat} {e : TypeId} {size : Nat} {v : Value} {n : Nat} {xs : List Value} (h : w.ownsRow base e size v n xs) (hg : Grew w w') : w'.ownsRow base e size v n xs := by
  obtain ⟨h1, h2⟩ := h
  refine ⟨h1, ?_⟩
  rcases h2 with h2 | ⟨g, cap, cur, hv, hb, hh, r⟩
  · exact .inl h2
  · have hl : g < w.heap.size := by
      rcases Nat.lt_or_ge g w.heap.size with k | k
      · exact k
      · rw [Array.getElem?_eq_none k] at hh; cases hh
    exact .inr ⟨g, cap, cur, hv, hb, by rw [hg.block g hl]; exact hh, r⟩
theorem ownsRow_base {w : World} {base base' : Nat} {e : TypeId} {size : Nat} {v : Value} {n : Nat} {xs : List Value} (h : w.ownsRow base e size v n xs) (hb : base' ≤ base) : w.ownsRow base' e size v n xs := by
  obtain ⟨h1, h2⟩ := h
  refine ⟨h1, ?_⟩
  rcases h2 with h2 | ⟨g, cap, cur, hv, hg, r⟩
  · exact .inl h2
  · exact .inr ⟨g, cap, cur, hv, by omega, r⟩
/-- a block whose elements have another type is not the row's -/
theorem ownsRow_other {w : World} {base : Nat} {e : TypeId} {size : Nat} {v : Value} {n : Nat} {xs : List Value} (h : w.ownsRow base e size v n xs) {b : Nat} {c : Array Value} {t : TypeId} {f : Nat × Nat} (hb : w.heap[b]? = some (.cells c t f)) (ht : t ≠ e) : some b ≠ v.ownBlock := by
  obtain ⟨h1, h2⟩ := h
  rcases h2 with ⟨rfl, _⟩ | ⟨g, cap, cur, rfl, hg, hh, r⟩
  · simp [Value.ownBlock]
  · intro k
    simp [Value.ownBlock] at k
    subst k
    rw [hb] at hh
    injection hh with hh; injection hh with _ h3; exact ht h3
/-- the pairs of the order -/
def ordC (l : List (Int × Int)) (i j : Nat) : Bool :=
  decide ((l.getD i (0, 0)).2 < (l.getD j (0, 0)).1) && !betw l (l.getD i (0, 0)) (l.getD j (0, 0))
def rowP (l : List (Int × Int)) (i j : Nat) : List (Nat × Nat) := ((List.range j).filter (ordC l i)).map fun j => (i, j)
def ordP (l : List (Int × Int)) (i : Nat) : List (Nat × Nat) := (List.range i).flatMap fun i => rowP l i l.length
def ordF (l : List (Int × Int)) : List (Nat × Nat) := ordP l l.length
def flatP (x : List (Nat × Nat)) : List Value := x.flatMap fun p => [.int .i64 p.1, .int .i64 p.2]
theorem flatP_append (x y : List (Nat × Nat)) : flatP (x ++ y) = flatP x ++ flatP y := by simp [flatP]
theorem rowP_zero (l : List (Int × Int)) (i : Nat) : rowP l i 0 = [] := rfl
theorem rowP_yes {l : List (Int × Int)} {i j : Nat} (h : ordC l i j = true) : rowP l i (j + 1) = rowP l i j ++ [(i, j)] := by
  unfold rowP; rw [List.range_succ, List.filter_append, List.map_append]; simp [h]
theorem rowP_no {l : List (Int × Int)} {i j : Nat} (h : ordC l i j = false) : rowP l i (j + 1) = rowP l i j := by
  unfold rowP; rw [List.range_succ, List.filter_append, List.map_append]; simp [h]
theorem ordP_succ (l : List (Int × Int)) (i : Nat) : ordP l (i + 1) = ordP l i ++ rowP l i l.length := by
  unfold ordP; rw [List.range_succ, List.flatMap_append]; simp
theorem rowP_len (l : List (Int × Int)) (i j : Nat) : (rowP l i j).length ≤ j := by
  unfold rowP; rw [List.length_map]; have := List.length_filter_le (ordC l i) (List.range j); simpa using this
theorem ordP_len (l : List (Int × Int)) : ∀ i, (ordP l i).length ≤ i * l.length
  | 0 => by simp [ordP]
  | i + 1 => by rw [ordP_succ, List.length_append, Nat.succ_mul]; have := ordP_len l i; have := rowP_len l i l.length; omega
theorem Try.info59 : (Try.prog.info? 59).map (fun i => (i.zero, i.size, i.bytes)) = some (some (.agg #[.int .i64 0, .int .i64 0]), 2, 16) := by kernel_rfl

theorem reduced_any (l : List (Int × Int)) (b off cap : Nat) (w : World) (hS : SpanCells w b off l) (hm : l.length ≤ 1000) :
    Calls Try.prog 46 #[.slice (some ⟨b, off, none⟩) l.length cap, .func (.func 25) #[] #[]] w fun e w' => ∃ v, e = .returned v ∧ w'.ownsRow w.heap.size 59 2 v (ordF l).length (flatP (ordF l)) ∧ Below w.heap.size w w' := by
  obtain ⟨i0, hi, hz0, hz1, hz2⟩ := info_parts Try.info59
  go_enter Try.func46, Try.ntmps46
  go_wp2_with fail
  go_loopw [6, 14] (fun o i wr => ∃ k : Nat, k ≤ l.length ∧ i = .int .i64 k ∧ Grew ((w.alloc (.cells #[.slice (some ⟨b, off, none⟩) l.length cap] 36)).alloc (.cells #[.func (.func 25) #[] #[]] 40)) wr ∧ wr.ownsRow (w.heap.size + 2) 59 2 o (ordP l k).length (flatP (ordP l k))) (fun _ i _ => l.length - (intOf i).toNat)
  case atStart => exact ⟨0, Nat.zero_le _, rfl, Below.refl _ _, World.ownsRow_nil _ _ _ _⟩
  case round =>
    obtain ⟨k, hk, rfl, hg, hown⟩ := hrel
    obtain ⟨wo, rfl⟩ : ∃ wo : World, wo = wr := ⟨_, rfl⟩
    (have hcr := (bcell hg).1; have hfr := (bcell hg).2.1; have hsr := (bcell hg).2.2; (try simp [go_sem] at hsr); have zr_0 : w.heap.size < wo.heap.size := (by omega); have yr_0 : (w.heap.size = wo.heap.size) = False := eq_false (by omega); have cr_0_0 := hcr (w.heap.size) 0 (by first | omega | (simp; done) | (simp; omega)); have zr_1 : w.heap.size + 1 < wo.heap.size := (by omega); have yr_1 : (w.heap.size + 1 = wo.heap.size) = False := eq_false (by omega); have cr_1_0 := hcr (w.heap.size + 1) 0 (by first | omega | (simp; done) | (simp; omega)); clear hcr hfr; simp [go_sem, *] at cr_0_0; simp [go_sem, *] at cr_1_0)
    by_cases hlt : k < l.length
    · have hS2 := ((hS.grow (bl1 _ _)).grow (bl1 _ _)).grow hg
      have hbw := hS2.1
      obtain ⟨e1, e2⟩ := hS2.2 k hlt
      clear hS2
      have HO := Lib.hid hown; clear hown
      have Hg := Lib.hid hg; clear hg
      go_wp2_with fail
      go_loopw [6, 21] (fun o i w2 => ∃ m : Nat, m ≤ l.length ∧ i = .int .i64 m ∧ Grew ((w.alloc (.cells #[.slice (some ⟨b, off, none⟩) l.length cap] 36)).alloc (.cells #[.func (.func 25) #[] #[]] 40)) w2 ∧ wo.heap.size < w2.heap.size ∧ w2.heap[wo.heap.size]? = some (.cells #[.int .i64 l[k].1, .int .i64 l[k].2] 23 (0, 0)) ∧ w2.ownsRow (w.heap.size + 2) 59 2 o (ordP l k ++ rowP l k m).length (flatP (ordP l k ++ rowP l k m))) (fun _ i _ => l.length - (intOf i).toNat)
      case atStart => exact ⟨0, Nat.zero_le _, rfl, Below.trans Hg.out ((bl1 _ _).mono Hg.out.size), by simp, heap_alloc_new _ _, by rw [rowP_zero, List.append_nil]; exact ownsRow_grow HO.out (bl1 _ _)⟩
      case round =>
        obtain ⟨m, hm', rfl, hg2, hB8, hb8, hown2⟩ := hrel
        clear e1 e2
        (have hcq := (bcell hg2).1; have hfq := (bcell hg2).2.1; have hsq := (bcell hg2).2.2; (try simp [go_sem] at hsq); have zq_0 : w.heap.size < wr.heap.size := (by omega); have yq_0 : (w.heap.size = wr.heap.size) = False := eq_false (by omega); have cq_0_0 := hcq (w.heap.size) 0 (by first | omega | (simp; done) | (simp; omega)); have zq_1 : w.heap.size + 1 < wr.heap.size := (by omega); have yq_1 : (w.heap.size + 1 = wr.heap.size) = False := eq_false (by omega); have cq_1_0 := hcq (w.heap.size + 1) 0 (by first | omega | (simp; done) | (simp; omega)); clear hcq hfq; simp [go_sem, *] at cq_0_0; simp [go_sem, *] at cq_1_0)
        by_cases hlt2 : m < l.length
        · have hS3 := ((hS.grow (bl1 _ _)).grow (bl1 _ _)).grow hg2
          have hbw2 := hS3.1
          obtain ⟨e1, e2⟩ := hS3.2 m hlt2
          have HO2 := Lib.hid hown2; clear hown2
          have Hg2 := Lib.hid hg2; clear hg2
          have d0 : wr.cell? ⟨wo.heap.size, 0, none⟩ = some (.int .i64 l[k].1) := by simp [World.cell?, hb8]
          have d1 : wr.cell? ⟨wo.heap.size, 1, none⟩ = some (.int .i64 l[k].2) := by simp [World.cell?, hb8]
          have Hb8 := Lib.hid hb8; clear hb8
          have HS3 := Lib.hid hS3; clear hS3
          by_cases h1 : l[k].2 < l[m].1
          · have hS4 := HS3.out.grow (bl1 wr (.cells #[.int .i64 l[m].1, .int .i64 l[m].2] 23))
            cases hbt : betw l (l[k].1, l[k].2) (l[m].1, l[m].2)
            · have HS4 := Lib.hid hS4; clear hS4
              go_wp2_with fail
              (go_at_call 25; refine (before_any _ _ _ _ _).mono ?_; rintro e w1 ⟨rfl, hb1⟩; have hc1 := (bcell hb1).1; have hf1 := (bcell hb1).2.1; have hs1 := (bcell hb1).2.2; (try simp [go_sem] at hs1); have z1_0 : w.heap.size < w1.heap.size := (by omega); have y1_0 : (w.heap.size = w1.heap.size) = False := eq_false (by omega); have c1_0_0 := hc1 (w.heap.size) 0 (by first | omega | (simp; done) | (simp; omega)); have z1_1 : w.heap.size + 1 < w1.heap.size := (by omega); have y1_1 : (w.heap.size + 1 = w1.heap.size) = False := eq_false (by omega); have c1_1_0 := hc1 (w.heap.size + 1) 0 (by first | omega | (simp; done) | (simp; omega)); have z1_2 : wo.heap.size < w1.heap.size := (by omega); have y1_2 : (wo.heap.size = w1.heap.size) = False := eq_false (by omega); have c1_2_0 := hc1 (wo.heap.size) 0 (by first | omega | (simp; done) | (simp; omega)); have c1_2_1 := hc1 (wo.heap.size) 1 (by first | omega | (simp; done) | (simp; omega)); have z1_3 : wr.heap.size < w1.heap.size := (by omega); have y1_3 : (wr.heap.size = w1.heap.size) = False := eq_false (by omega); have c1_3_0 := hc1 (wr.heap.size) 0 (by first | omega | (simp; done) | (simp; omega)); have c1_3_1 := hc1 (wr.heap.size) 1 (by first | omega | (simp; done) | (simp; omega)); have f1_3 : ∀ i, w1.frozen? ⟨wr.heap.size, i, none⟩ = false := fun i => (hf1 (wr.heap.size) i (by first | omega | (simp; done) | (simp; omega))).trans (by simp [go_sem, *]); clear hc1 hf1; simp [go_sem, *] at c1_0_0; simp [go_sem, *] at c1_1_0; simp [go_sem, *] at c1_2_0; simp [go_sem, *] at c1_2_1; simp [go_sem, *] at c1_3_0; simp [go_sem, *] at c1_3_1; (try clear yq_0 cq_0_0 yq_1 cq_1_0))
              go_wp2_with fail
              have hS5 := HS4.out.grow hb1
              (go_at_call 47; refine (betw_any l b off cap w.heap.size (w.heap.size + 1) _ _ _ _ _ hS5 (by omega) c1_0_0 z1_0 c1_1_0 z1_1).mono ?_; rintro e w2 ⟨rfl, hb2⟩; have hc2 := (bcell hb2).1; have hf2 := (bcell hb2).2.1; have hs2 := (bcell hb2).2.2; (try simp [go_sem] at hs2); have z2_0 : w.heap.size < w2.heap.size := (by omega); have y2_0 : (w.heap.size = w2.heap.size) = False := eq_false (by omega); have c2_0_0 := hc2 (w.heap.size) 0 (by first | omega | (simp; done) | (simp; omega)); have z2_1 : w.heap.size + 1 < w2.heap.size := (by omega); have y2_1 : (w.heap.size + 1 = w2.heap.size) = False := eq_false (by omega); have c2_1_0 := hc2 (w.heap.size + 1) 0 (by first | omega | (simp; done) | (simp; omega)); have z2_2 : wo.heap.size < w2.heap.size := (by omega); have y2_2 : (wo.heap.size = w2.heap.size) = False := eq_false (by omega); have c2_2_0 := hc2 (wo.heap.size) 0 (by first | omega | (simp; done) | (simp; omega)); have c2_2_1 := hc2 (wo.heap.size) 1 (by first | omega | (simp; done) | (simp; omega)); have z2_3 : wr.heap.size < w2.heap.size := (by omega); have y2_3 : (wr.heap.size = w2.heap.size) = False := eq_false (by omega); have c2_3_0 := hc2 (wr.heap.size) 0 (by first | omega | (simp; done) | (simp; omega)); have c2_3_1 := hc2 (wr.heap.size) 1 (by first | omega | (simp; done) | (simp; omega)); have f2_3 : ∀ i, w2.frozen? ⟨wr.heap.size, i, none⟩ = false := fun i => (hf2 (wr.heap.size) i (by first | omega | (simp; done) | (simp; omega))).trans (by simp [go_sem, *]); clear hc2 hf2; simp [go_sem, *] at c2_0_0; simp [go_sem, *] at c2_1_0; simp [go_sem, *] at c2_2_0; simp [go_sem, *] at c2_2_1; simp [go_sem, *] at c2_3_0; simp [go_sem, *] at c2_3_1; (try clear y1_0 c1_0_0 y1_1 c1_1_0 y1_2 c1_2_0 c1_2_1 y1_3 f1_3 c1_3_0 c1_3_1))
              clear hS5
              have hgw1 : Grew wr w2 := Grew.trans ((bl1 _ _).trans (hb1.mono (by simp))) hb2
              have hgw2 : Grew wr (w2.alloc (.cells #[.int .i64 k, .int .i64 m] 59)) := Grew.trans hgw1 (bl1 _ _)
              have HOW := Lib.hid (ownsRow_grow HO2.out hgw2); clear HO2
              have Hn := Lib.hid (ordP_len l k)
              have hl1 : (ordP l k ++ rowP l k m).length ≤ 1001000 := by
                have h1 := rowP_len l k m
                have h2 := Nat.mul_le_mul (show k ≤ 1000 by omega) (show l.length ≤ 1000 by omega)
                have h3 := Hn.out
                rw [List.length_append]; omega
              have HG := Lib.hid hgw2; clear hgw2
              go_wp2_with (at_builtin; refine wpList_append_own _ rfl _ _ 44 rfl (w.heap.size + 2) 59 i0 (.agg #[.int .i64 0, .int .i64 0]) 2 16 Try.underlying44 hi hz0 hz1 hz2 rfl (by decide) _ _ _ rfl HOW.out ⟨w2.heap.size, 0, none⟩ 1 1 [.int .i64 k, .int .i64 m] rfl rfl ?c1 ?c2 ?c3 ?c4 ?c5 ?_)
              case c1 =>
                intro j u hj
                match j, hj with
                | 0, hj => simp at hj; subst hj; simp [Addr.add]
                | 1, hj => simp at hj; subst hj; simp [Addr.add]
              case c2 => intro u hu; simp at hu; rcases hu with rfl | rfl <;> rfl
              case c3 => unfold maxLen; omega
              case c4 => omega
              case c5 => simp; omega
              intro v' w5 hown5 hgrow5 _
              have hlt5 := HOW.out.lt
              have hne := ownsRow_other HOW.out (show _ = some (Obj.cells #[.int .i64 l[k].1, .int .i64 l[k].2] 23 (0, 0)) by rw [HG.out.block _ hB8]; exact Hb8.out) (by decide)
              have hsz5 := hgrow5.size
              have hG5 : Grew ((w.alloc (.cells #[.slice (some ⟨b, off, none⟩) l.length cap] 36)).alloc (.cells #[.func (.func 25) #[] #[]] 40)) w5 := (Grew.trans Hg2.out HG.out).grown hgrow5 (by have := (Grew.trans Hg2.out HG.out).size; exact this) (fun j hj => by have := (hlt5 j hj).1; simp; omega)
              have hB5 : w5.heap[wo.heap.size]? = some (.cells #[.int .i64 l[k].1, .int .i64 l[k].2] 23 (0, 0)) := by rw [hgrow5.block _ (by have := HG.out.size; omega) hne, HG.out.block _ hB8]; exact Hb8.out
              have hL5 : wo.heap.size < w5.heap.size := by have := HG.out.size; omega
              have hown6 : w5.ownsRow (w.heap.size + 2) 59 2 v' (ordP l k ++ rowP l k (m + 1)).length (flatP (ordP l k ++ rowP l k (m + 1))) := by
                rw [rowP_yes (by unfold ordC; simp [hlt, hlt2]; exact ⟨h1, hbt⟩), ← List.append_assoc, flatP_append, show (ordP l k ++ rowP l k m ++ [(k, m)]).length = (ordP l k).length + (rowP l k m).length + 1 by simp only [List.length_append, List.length_cons, List.length_nil]]; exact hown5
              have H5 := Lib.hid (And.intro hG5 (And.intro hL5 (And.intro hB5 hown6)))
              clear hown5 hgrow5 hG5 hL5 hB5 hown6 hne hlt5 hsz5
              go_wp2_with fail
              go_roundw
              case rel => exact ⟨m + 1, by omega, by go_num, H5.out.1, H5.out.2.1, H5.out.2.2.1, H5.out.2.2.2⟩
              case measure => simp [intOf]; omega
            · have HS4 := Lib.hid hS4; clear hS4
              go_wp2_with fail
              (go_at_call 25; refine (before_any _ _ _ _ _).mono ?_; rintro e w1 ⟨rfl, hb1⟩; have hc1 := (bcell hb1).1; have hf1 := (bcell hb1).2.1; have hs1 := (bcell hb1).2.2; (try simp [go_sem] at hs1); have z1_0 : w.heap.size < w1.heap.size := (by omega); have y1_0 : (w.heap.size = w1.heap.size) = False := eq_false (by omega); have c1_0_0 := hc1 (w.heap.size) 0 (by first | omega | (simp; done) | (simp; omega)); have z1_1 : w.heap.size + 1 < w1.heap.size := (by omega); have y1_1 : (w.heap.size + 1 = w1.heap.size) = False := eq_false (by omega); have c1_1_0 := hc1 (w.heap.size + 1) 0 (by first | omega | (simp; done) | (simp; omega)); have z1_2 : wo.heap.size < w1.heap.size := (by omega); have y1_2 : (wo.heap.size = w1.heap.size) = False := eq_false (by omega); have c1_2_0 := hc1 (wo.heap.size) 0 (by first | omega | (simp; done) | (simp; omega)); have c1_2_1 := hc1 (wo.heap.size) 1 (by first | omega | (simp; done) | (simp; omega)); have z1_3 : wr.heap.size < w1.heap.size := (by omega); have y1_3 : (wr.heap.size = w1.heap.size) = False := eq_false (by omega); have c1_3_0 := hc1 (wr.heap.size) 0 (by first | omega | (simp; done) | (simp; omega)); have c1_3_1 := hc1 (wr.heap.size) 1 (by first | omega | (simp; done) | (simp; omega)); have f1_3 : ∀ i, w1.frozen? ⟨wr.heap.size, i, none⟩ = false := fun i => (hf1 (wr.heap.size) i (by first | omega | (simp; done) | (simp; omega))).trans (by simp [go_sem, *]); clear hc1 hf1; simp [go_sem, *] at c1_0_0; simp [go_sem, *] at c1_1_0; simp [go_sem, *] at c1_2_0; simp [go_sem, *] at c1_2_1; simp [go_sem, *] at c1_3_0; simp [go_sem, *] at c1_3_1; (try clear y2_0 c2_0_0 y2_1 c2_1_0 y2_2 c2_2_0 c2_2_1 y2_3 f2_3 c2_3_0 c2_3_1))
              go_wp2_with fail
              have hS5 := HS4.out.grow hb1
              (go_at_call 47; refine (betw_any l b off cap w.heap.size (w.heap.size + 1) _ _ _ _ _ hS5 (by omega) c1_0_0 z1_0 c1_1_0 z1_1).mono ?_; rintro e w2 ⟨rfl, hb2⟩; have hc2 := (bcell hb2).1; have hf2 := (bcell hb2).2.1; have hs2 := (bcell hb2).2.2; (try simp [go_sem] at hs2); have z2_0 : w.heap.size < w2.heap.size := (by omega); have y2_0 : (w.heap.size = w2.heap.size) = False := eq_false (by omega); have c2_0_0 := hc2 (w.heap.size) 0 (by first | omega | (simp; done) | (simp; omega)); have z2_1 : w.heap.size + 1 < w2.heap.size := (by omega); have y2_1 : (w.heap.size + 1 = w2.heap.size) = False := eq_false (by omega); have c2_1_0 := hc2 (w.heap.size + 1) 0 (by first | omega | (simp; done) | (simp; omega)); have z2_2 : wo.heap.size < w2.heap.size := (by omega); have y2_2 : (wo.heap.size = w2.heap.size) = False := eq_false (by omega); have c2_2_0 := hc2 (wo.heap.size) 0 (by first | omega | (simp; done) | (simp; omega)); have c2_2_1 := hc2 (wo.heap.size) 1 (by first | omega | (simp; done) | (simp; omega)); have z2_3 : wr.heap.size < w2.heap.size := (by omega); have y2_3 : (wr.heap.size = w2.heap.size) = False := eq_false (by omega); have c2_3_0 := hc2 (wr.heap.size) 0 (by first | omega | (simp; done) | (simp; omega)); have c2_3_1 := hc2 (wr.heap.size) 1 (by first | omega | (simp; done) | (simp; omega)); have f2_3 : ∀ i, w2.frozen? ⟨wr.heap.size, i, none⟩ = false := fun i => (hf2 (wr.heap.size) i (by first | omega | (simp; done) | (simp; omega))).trans (by simp [go_sem, *]); clear hc2 hf2; simp [go_sem, *] at c2_0_0; simp [go_sem, *] at c2_1_0; simp [go_sem, *] at c2_2_0; simp [go_sem, *] at c2_2_1; simp [go_sem, *] at c2_3_0; simp [go_sem, *] at c2_3_1; (try clear y1_0 c1_0_0 y1_1 c1_1_0 y1_2 c1_2_0 c1_2_1 y1_3 f1_3 c1_3_0 c1_3_1))
              clear hS5
              go_wp2_with fail
              have hgw1 : Grew wr w2 := Grew.trans ((bl1 _ _).trans (hb1.mono (by simp))) hb2
              go_roundw
              case rel => exact ⟨m + 1, by omega, by go_num, Grew.trans Hg2.out hgw1, by omega, by rw [hgw1.block _ hB8]; exact Hb8.out, by rw [rowP_no (by unfold ordC; simp [hlt, hlt2]; intro hh; exact hbt)]; exact ownsRow_grow HO2.out hgw1⟩
              case measure => simp [intOf]; omega
          · go_wp2_with fail
            (go_at_call 25; refine (before_any _ _ _ _ _).mono ?_; rintro e w1 ⟨rfl, hb1⟩; have hc1 := (bcell hb1).1; have hf1 := (bcell hb1).2.1; have hs1 := (bcell hb1).2.2; (try simp [go_sem] at hs1); have z1_0 : w.heap.size < w1.heap.size := (by omega); have y1_0 : (w.heap.size = w1.heap.size) = False := eq_false (by omega); have c1_0_0 := hc1 (w.heap.size) 0 (by first | omega | (simp; done) | (simp; omega)); have z1_1 : w.heap.size + 1 < w1.heap.size := (by omega); have y1_1 : (w.heap.size + 1 = w1.heap.size) = False := eq_false (by omega); have c1_1_0 := hc1 (w.heap.size + 1) 0 (by first | omega | (simp; done) | (simp; omega)); have z1_2 : wo.heap.size < w1.heap.size := (by omega); have y1_2 : (wo.heap.size = w1.heap.size) = False := eq_false (by omega); have c1_2_0 := hc1 (wo.heap.size) 0 (by first | omega | (simp; done) | (simp; omega)); have c1_2_1 := hc1 (wo.heap.size) 1 (by first | omega | (simp; done) | (simp; omega)); have z1_3 : wr.heap.size < w1.heap.size := (by omega); have y1_3 : (wr.heap.size = w1.heap.size) = False := eq_false (by omega); have c1_3_0 := hc1 (wr.heap.size) 0 (by first | omega | (simp; done) | (simp; omega)); have c1_3_1 := hc1 (wr.heap.size) 1 (by first | omega | (simp; done) | (simp; omega)); have f1_3 : ∀ i, w1.frozen? ⟨wr.heap.size, i, none⟩ = false := fun i => (hf1 (wr.heap.size) i (by first | omega | (simp; done) | (simp; omega))).trans (by simp [go_sem, *]); clear hc1 hf1; simp [go_sem, *] at c1_0_0; simp [go_sem, *] at c1_1_0; simp [go_sem, *] at c1_2_0; simp [go_sem, *] at c1_2_1; simp [go_sem, *] at c1_3_0; simp [go_sem, *] at c1_3_1; (try clear y2_0 c2_0_0 y2_1 c2_1_0 y2_2 c2_2_0 c2_2_1 y2_3 f2_3 c2_3_0 c2_3_1))
            go_wp2_with fail
            have hgw1 : Grew wr w1 := (bl1 _ _).trans (hb1.mono (by simp))
            go_roundw
            case rel => exact ⟨m + 1, by omega, by go_num, Grew.trans Hg2.out hgw1, by omega, by rw [hgw1.block _ hB8]; exact Hb8.out, by rw [rowP_no (by unfold ordC; simp [hlt, hlt2]; intro hh; omega)]; exact ownsRow_grow HO2.out hgw1⟩
            case measure => simp [intOf]; omega
        · have HO2 := Lib.hid hown2; clear hown2
          have Hg2 := Lib.hid hg2; clear hg2
          go_wp2_with fail
          go_roundw
          case rel => exact ⟨k + 1, by omega, by go_num, Hg2.out, by rw [ordP_succ, show l.length = m by omega]; exact HO2.out⟩
          case measure => simp [intOf]; omega
    · go_wp2_with fail
      go_ret
      have hkl : k = l.length := by omega
      subst hkl
      exact ⟨_, rfl, ownsRow_base hown (by omega), (bl1 _ _).trans (((bl1 _ _).mono (by simp)).trans (hg.mono (by simp; omega)))⟩
theorem reduced_nil (a : Option Addr) (cap : Nat) (w : World) :
    Calls Try.prog 46 #[.slice a 0 cap, .func (.func 25) #[] #[]] w fun e w' => e = .returned (.slice none 0 0) ∧ Below w.heap.size w w' := by
  go_enter Try.func46, Try.ntmps46
  go_wp2_with fail
  go_loopw [6, 14] (fun o i wr => o = .slice none 0 0 ∧ i = .int .i64 0 ∧ (w.alloc (.cells #[.slice a 0 cap] 36)).alloc (.cells #[.func (.func 25) #[] #[]] 40) = wr) (fun _ i _ => 0)
  case atStart => exact ⟨rfl, rfl, rfl⟩
  case round =>
    obtain ⟨rfl, rfl, rfl⟩ := hrel
    go_wp2_with fail
    go_ret
    exact ⟨rfl, (bl1 _ _).trans ((bl1 _ _).mono (by simp))⟩
/-- a slice of spans: nil, empty, or its cells -/
def Spans (w : World) (v : Value) (l : List (Int × Int)) : Prop :=
  ∃ a cap, v = .slice a l.length cap ∧ (l = [] ∨ ∃ b off, a = some ⟨b, off, none⟩ ∧ SpanCells w b off l)
theorem Spans.grow {w w' : World} {v : Value} {l : List (Int × Int)} (h : Spans w v l) (hg : Grew w w') : Spans w' v l := by
  obtain ⟨a, cap, hv, h⟩ := h
  exact ⟨a, cap, hv, h.imp id fun ⟨b, off, ha, hs⟩ => ⟨b, off, ha, hs.grow hg⟩⟩
/-- a slice of pairs that the call made -/
def Pairs (w : World) (base : Nat) (v : Value) (x : List (Nat × Nat)) : Prop := w.ownsRow base 59 2 v x.length (flatP x)
theorem order_any (v : Value) (l : List (Int × Int)) (w : World) (hS : Spans w v l) (hm : l.length ≤ 1000) :
    Calls Try.prog 33 #[v] w fun e w' => ∃ u, e = .returned u ∧ Pairs w' w.heap.size u (ordF l) ∧ Below w.heap.size w w' := by
  obtain ⟨a, cap, rfl, rfl | ⟨b, off, rfl, hs⟩⟩ := hS
  · go_enter Try.func33, Try.ntmps33
    go_wp2_with fail
    (go_at_call 46; refine (reduced_nil a cap w).mono ?_; rintro e w1 ⟨rfl, hb1⟩)
    go_wp2_with fail
    go_ret
    exact ⟨_, rfl, World.ownsRow_nil _ _ _ _, hb1⟩
  · have H := Lib.hid (reduced_any l b off cap w hs hm)
    clear hs
    go_enter Try.func33, Try.ntmps33
    go_wp2_with fail
    (go_at_call 46; refine H.out.mono ?_; rintro e w1 ⟨u, rfl, hu, hb1⟩)
    have HU := Lib.hid hu; clear hu
    go_wp2_with fail
    go_ret
    exact ⟨_, rfl, HU.out, hb1⟩
theorem valid_spans (v : Value) (l : List (Int × Int)) (w : World) (hS : Spans w v l) (hm : l.length ≤ 9223372036854775807) :
    Calls Try.prog 22 #[v] w fun e w' => e = .returned (.bool (l.all fun x => vld x.1 x.2)) ∧ Below w.heap.size w w' := by
  obtain ⟨a, cap, rfl, rfl | ⟨b, off, rfl, hs⟩⟩ := hS
  · exact valids_nil a cap w
  · exact valids_any l b off cap w hs.1 hm hs.2
end Go.Proofs.Ythebnpophckgcaa
