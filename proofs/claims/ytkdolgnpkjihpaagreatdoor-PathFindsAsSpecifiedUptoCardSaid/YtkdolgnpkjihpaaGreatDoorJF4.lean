/-
  A part of what LawF rests on: the logic, walks and plain laws. No condition.
-/
import Derived.Test.YtkdolgnpkjihpaaGreatDoorJF3
namespace Go.Proofs.YtkdolgnpkjihpaaGreatDoor
open _root_.Go.Proofs.Tryz
open Go.RowKit
set_option linter.unusedVariables false
set_option linter.unusedSimpArgs false
def rnA (m : PM) (i : Nat) (ws : List Nat) : Nat := ws.foldl (nx m) i
def Lts (m : PM) (ws : List Nat) : Prop := ∀ a ∈ ws, a < m.names.length + 1
def Dst (m : PM) (i k : Nat) : Prop := ∃ ws, Lts m ws ∧ ¬ gd m.acc (rnA m i ws) = gd m.acc (rnA m k ws)
theorem Dst.step {m : PM} {i k a : Nat} (ha : a < m.names.length + 1) (h : Dst m (nx m i a) (nx m k a)) : Dst m i k := by
 obtain ⟨ws, h1, h2⟩ := h
 exact ⟨a :: ws, fun x hx => by
  rcases List.mem_cons.1 hx with rfl | hx
  ·exact ha
  ·exact h1 x hx, h2⟩
structure Part (m : PM) (b : List Nat) : Prop where
 acc : ∀ i, i < m.next.length → ∀ k, k < m.next.length → gd b i = gd b k → gd m.acc i = gd m.acc k
 cong : ∀ i, i < m.next.length → ∀ k, k < m.next.length → gd b i = gd b k → ∀ a, a < m.names.length + 1 → gd b (nx m i a) = gd b (nx m k a)
 dst : ∀ i, i < m.next.length → ∀ k, k < m.next.length → ¬ gd b i = gd b k → Dst m i k
theorem Part.run {m : PM} (hp : PMok m) {b : List Nat} (h : Part m b) : ∀ (ws : List Nat) {i k : Nat}, Lts m ws → i < m.next.length → k < m.next.length → gd b i = gd b k → gd b (rnA m i ws) = gd b (rnA m k ws)
 | [], _, _, _, _, _, he => he
 | a :: ws, i, k, ha, hi, hk, he => h.run hp ws (fun x hx => ha x (List.mem_cons_of_mem _ hx)) (nx_lt hp hi (ha a (by simp))) (nx_lt hp hk (ha a (by simp))) (h.cong i hi k hk he a (ha a (by simp)))
structure Prt (m : PM) (b : List Nat) : Prop where
 len : b.length = m.next.length
 acc : ∀ i, i < m.next.length → ∀ k, k < m.next.length → gd b i = gd b k → gd m.acc i = gd m.acc k
 dst : ∀ i, i < m.next.length → ∀ k, k < m.next.length → ¬ gd b i = gd b k → Dst m i k
 cont : Cont b
theorem fs_is {β : Type} {f : Nat → Option β} {n : Nat} {x : β} (h : (List.range n).findSome? f = some x) : ∃ j, j < n ∧ f j = some x := by
 obtain ⟨j, hj, e⟩ := List.exists_of_findSome?_eq_some h
 exact ⟨j, List.mem_range.1 hj, e⟩
theorem findSp_is {m : PM} {b : List Nat} {k a : Nat} (h : findSp m b = some (k, a)) : k < b.length ∧ ∃ i, i < k ∧ gd b i = gd b k ∧ a < (gd m.next k).length ∧ ¬ gd b (nx m i a) = gd b (nx m k a) := by
 obtain ⟨k', hk, h1⟩ := fs_is h
 obtain ⟨i, hi, h2⟩ := fs_is h1
 split at h2
 ·rename_i he
  obtain ⟨a', ha, h3⟩ := fs_is h2
  split at h3
  ·cases h3
  ·rename_i hn
   cases h3
   exact ⟨hk, i, hi, he, ha, hn⟩
 ·cases h2
theorem Prt.init {m : PM} (hp : PMok m) : Prt m (initB m) := by
 have hl : (initB m).length = m.next.length := by simp [initB, hp.acc]
 have hg : ∀ i, i < m.next.length → gd (initB m) i = if gd m.acc i then 1 else 0 := fun i hi => gd_map (by rw [hp.acc]; exact hi)
 refine ⟨hl, fun i hi k hk he => ?_, fun i hi k hk hn => ⟨[], (fun x hx => by cases hx), fun he => hn ?_⟩, .init (by rw [hp.acc]; exact hp.some')⟩
 ·rw [hg i hi, hg k hk] at he
  revert he
  cases gd m.acc i <;> cases gd m.acc k <;> simp
 ·rw [hg i hi, hg k hk, show gd m.acc i = gd m.acc k from he]
theorem Prt.split {m : PM} (hp : PMok m) {b : List Nat} (h : Prt m b) {k a : Nat} (hs : findSp m b = some (k, a)) : Prt m (splitF m b k a) ∧ maxF (splitF m b k a) = maxF b + 1 := by
 obtain ⟨hk, i, hi, he, ha, hn⟩ := findSp_is hs
 have hk' : k < m.next.length := by rw [← h.len]; exact hk
 have ha' : a < m.names.length + 1 := by rw [← (hp.row _ (Bg hk')).1]; exact ha
 have hmx : ∀ x, x < b.length → gd b x ≤ maxF b := fun x hx => maxF_all (Bg hx)
 refine ⟨⟨by rw [splitF_len]; exact h.len, fun x hx y hy e => ?_, fun x hx y hy e => ?_, h.cont.split (by omega) hk he hn⟩, split_max (by omega) hk he hn⟩
 ·have hx2 := hmx x (by rw [h.len]; exact hx)
  have hy2 := hmx y (by rw [h.len]; exact hy)
  rw [gd_splitF, gd_splitF] at e
  split at e
  ·rename_i c1
   split at e
   ·rename_i c2
    exact h.acc x hx y hy (by rw [c1.2.1, c2.2.1])
   ·omega
  ·split at e
   ·omega
   ·exact h.acc x hx y hy e
 ·by_cases hb : gd b x = gd b y
  ·rw [gd_splitF, gd_splitF] at e
   have hxl : x < b.length := by rw [h.len]; exact hx
   have hyl : y < b.length := by rw [h.len]; exact hy
   refine .step ha' (h.dst _ (nx_lt hp hx ha') _ (nx_lt hp hy ha') fun hc => e ?_)
   rw [hb, hc]
   simp only [hxl, hyl, true_and]
  ·exact h.dst x hx y hy hb
structure NumSem (m : PM) (b order : List Nat) (k : Nat) (rows : List (List Nat)) (acc : List Bool) : Prop where
 ord : OrdOk m b order
 fst : gd order 0 = 0 ∧ 0 < order.length
 kl : k ≤ order.length
 rl : rows.length = k
 al : acc.length = k
 row : ∀ i, i < k → ∀ a, a < m.names.length + 1 → gd (gd rows i) a < order.length ∧ gd b (gd order (gd (gd rows i) a)) = gd b (nx m (gd order i) a)
 acc : ∀ i, i < k → gd acc i = gd m.acc (gd order i)
theorem numK_sem (b tos order : List Nat) : ∀ i, (∃ x, (numK b tos order i).1 = order ++ x) ∧ (numK b tos order i).2.length = i ∧ ∀ j, j < i → gd (numK b tos order i).2 j < (numK b tos order i).1.length ∧ gd b (gd (numK b tos order i).1 (gd (numK b tos order i).2 j)) = gd b (gd tos j)
 | 0 => ⟨⟨[], by simp [numK]⟩, rfl, fun j hj => by omega⟩
 | i + 1 => by
  obtain ⟨⟨x, h2⟩, h3, h4⟩ := numK_sem b tos order i
  have hm := numK_mem b tos order i
  have hx := idx_lt hm
  have hg : gd ((numK b tos order (i + 1)).1.map (gd b)) (idx ((numK b tos order (i + 1)).1.map (gd b)) (gd b (gd tos i))) = gd b (gd tos i) := by
   rw [Bv hx]; exact List.getElem_idxOf hx
  rw [numK_idx] at hx hg
  rw [List.length_map] at hx
  rw [gd_map hx] at hg
  have hext : ∃ y, (numK b tos order (i + 1)).1 = (numK b tos order i).1 ++ y := by
   rw [numK_succ]; simp only []
   split
   ·exact ⟨[], by simp⟩
   ·exact ⟨_, rfl⟩
  have h2nd : (numK b tos order (i + 1)).2 = (numK b tos order i).2 ++ [idx ((numK b tos order i).1.map (gd b)) (gd b (gd tos i))] := rfl
  generalize (numK b tos order (i + 1)) = q at *
  obtain ⟨q1, q2⟩ := q
  simp only [] at *
  obtain ⟨y, hy⟩ := hext
  refine ⟨⟨x ++ y, by rw [hy, h2, List.append_assoc]⟩, by rw [h2nd]; simp [h3], fun j hj => ?_⟩
  rw [h2nd]
  by_cases e : j = i
  ·subst e
   have : gd ((numK b tos order j).2 ++ [idx ((numK b tos order j).1.map (gd b)) (gd b (gd tos j))]) j = idx ((numK b tos order j).1.map (gd b)) (gd b (gd tos j)) := by
    have := C0 (l := (numK b tos order j).2) (x := idx ((numK b tos order j).1.map (gd b)) (gd b (gd tos j)))
    rwa [h3] at this
   rw [this]
   exact ⟨hx, hg⟩
  ·obtain ⟨h5, h6⟩ := h4 j (by omega)
   rw [Cp (by rw [h3]; omega), hy, Cp h5]
   exact ⟨by simp; omega, h6⟩
theorem NumSem.next {m : PM} (hp : PMok m) {b order : List Nat} {k : Nat} {rows : List (List Nat)} {acc : List Bool} (h : NumSem m b order k rows acc) (hk : k < order.length) :
  NumSem m b (numK b (gd m.next (gd order k)) order (gd m.next (gd order k)).length).1 (k + 1) (rows ++ [(numK b (gd m.next (gd order k)) order (gd m.next (gd order k)).length).2]) (acc ++ [gd m.acc (gd order k)]) := by
 have hok := h.ord.lt (gd order k) (Bg hk)
 obtain ⟨hr1, hr2⟩ := hp.row (gd m.next (gd order k)) (Bg hok)
 obtain ⟨g1, g2, g3⟩ := h.ord.step hr2 (gd m.next (gd order k)).length (Nat.le_refl _)
 obtain ⟨⟨x, h2⟩, h3, h4⟩ := numK_sem b (gd m.next (gd order k)) order (gd m.next (gd order k)).length
 generalize numK b (gd m.next (gd order k)) order (gd m.next (gd order k)).length = q at *
 obtain ⟨q1, q2⟩ := q
 simp only [] at *
 subst h2
 refine ⟨g1, ⟨by rw [Cp h.fst.2]; exact h.fst.1, by have := h.fst.2; simp; omega⟩, by simp; omega, by simp [h.rl], by simp [h.al], fun i hi a ha => ?_, fun i hi => ?_⟩
 ·by_cases ei : i = k
  ·subst ei
   have : gd (rows ++ [q2]) i = q2 := by have := C0 (l := rows) (x := q2); rwa [h.rl] at this
   rw [this, Cp (l := order) hk]
   exact h4 a (by rw [hr1]; exact ha)
  ·have : gd (rows ++ [q2]) i = gd rows i := Cp (by rw [h.rl]; omega)
   rw [this, Cp (l := order) (by omega : i < order.length)]
   obtain ⟨h5, h6⟩ := h.row i (by omega) a ha
   exact ⟨by simp; omega, by rw [Cp h5]; exact h6⟩
 ·rw [Cp (l := order) (by omega : i < order.length)]
  by_cases ei : i = k
  ·subst ei
   have := C0 (l := acc) (x := gd m.acc (gd order i)); rwa [h.al] at this
  ·rw [Cp (by rw [h.al]; omega)]
   exact h.acc i (by omega)
end Go.Proofs.YtkdolgnpkjihpaaGreatDoor
namespace Go.Proofs.YtkdolgnpkjihpaaGreatDoor
open _root_.Go.Proofs.Tryz
open Go.RowKit
set_option linter.unusedVariables false
set_option linter.unusedSimpArgs false
abbrev BRow := Nat × List Bool
def ap (M : List BRow) (k i : Nat) : Bool := gd (gd M k).2 i
def setA (M : List BRow) (k i : Nat) (v : Bool) : List BRow := M.set k ((gd M k).1, (gd M k).2.set i v)
structure ApOk (n : Nat) (M : List BRow) : Prop where
 len : M.length = n
 row : ∀ k, k < n → (gd M k).2.length = n
def cf (M : List BRow) : Nat := (M.map fun r => r.2.countP fun x => !x).sum
theorem gdB_set {l : List BRow} {k x : Nat} {r : BRow} (hk : k < l.length) : gd (l.set k r) x = if x = k then r else gd l x := by
 unfold gd
 by_cases e : x = k
 ·subst e; simp [List.getD, hk]
 ·rw [if_neg e]; simp [List.getD, List.getElem?_set, Ne.symm e]
theorem gdb_set {l : List Bool} {k x : Nat} {r : Bool} (hk : k < l.length) : gd (l.set k r) x = if x = k then r else gd l x := by
 unfold gd
 by_cases e : x = k
 ·subst e; simp [List.getD, hk]
 ·rw [if_neg e]; simp [List.getD, List.getElem?_set, Ne.symm e]
theorem ap_set {n : Nat} {M : List BRow} (h : ApOk n M) {k i : Nat} (hk : k < n) (hi : i < n) (x y : Nat) (v : Bool) : ap (setA M k i v) x y = if x = k ∧ y = i then v else ap M x y := by
 unfold ap setA
 rw [gdB_set (by rw [h.len]; exact hk)]
 by_cases e : x = k
 ·subst e
  rw [if_pos rfl]
  simp only []
  rw [gdb_set (by rw [h.row x hk]; exact hi)]
  simp
 ·rw [if_neg e, if_neg (fun h => e h.1)]
theorem ok_set {n : Nat} {M : List BRow} (h : ApOk n M) {k : Nat} (hk : k < n) (i : Nat) (v : Bool) : ApOk n (setA M k i v) := by
 refine ⟨by simp [setA, h.len], fun x hx => ?_⟩
 unfold setA
 rw [gdB_set (by rw [h.len]; exact hk)]
 split
 ·simp [h.row k hk]
 ·exact h.row x hx
structure ApInv (m : PM) (M : List BRow) : Prop where
 ok : ApOk m.next.length M
 base : ∀ k, k < m.next.length → ∀ i, i < m.next.length → ¬ gd m.acc k = gd m.acc i → ap M k i = true
 irr : ∀ k, k < m.next.length → ap M k k = false
def Clo (m : PM) (M : List BRow) (k i a : Nat) : Prop := ap M (nx m k a) (nx m i a) = true → ap M k i = true
theorem ApInv.set {m : PM} (hp : PMok m) {M : List BRow} (h : ApInv m M) {k i a : Nat} (hk : k < m.next.length) (hi : i < m.next.length) (ha : a < m.names.length + 1) (hs : ap M (nx m k a) (nx m i a) = true) : ApInv m (setA M k i true) := by
 have hne : ¬ k = i := fun e => by
  subst e
  rw [h.irr _ (nx_lt hp hk ha)] at hs; cases hs
 refine ⟨ok_set h.ok hk i true, fun x hx y hy hxy => ?_, fun x hx => ?_⟩
 ·rw [ap_set h.ok hk hi]; split
  ·rfl
  ·exact h.base x hx y hy hxy
 ·rw [ap_set h.ok hk hi, if_neg (fun e : x = k ∧ x = i => hne (e.1.symm.trans e.2)), h.irr x hx]
structure Pas (m : PM) (M0 M : List BRow) (more : Bool) (k i a : Nat) : Prop where
 inv : ApInv m M
 fst : M.map Prod.fst = M0.map Prod.fst
 le : cf M ≤ cf M0
 more' : more = true → cf M < cf M0
 done : more = false → (∀ x, x < k → ∀ y, y < m.next.length → ∀ z, z < m.names.length + 1 → Clo m M x y z) ∧ (∀ y, y < i → ∀ z, z < m.names.length + 1 → Clo m M k y z) ∧ ∀ z, z < a → Clo m M k i z
theorem Pas.start {m : PM} {M : List BRow} (h : ApInv m M) : Pas m M M false 0 0 0 := ⟨h, rfl, Nat.le_refl _, (fun h => by cases h), fun _ => ⟨fun x hx => absurd hx (Nat.not_lt_zero _), fun x hx => absurd hx (Nat.not_lt_zero _), fun x hx => absurd hx (Nat.not_lt_zero _)⟩⟩
theorem Pas.row {m : PM} {M0 M : List BRow} {more : Bool} {k : Nat} (h : Pas m M0 M more k m.next.length 0) : Pas m M0 M more (k + 1) 0 0 := ⟨h.inv, h.fst, h.le, h.more', fun e => ⟨fun x hx => by
 by_cases ex : x = k
 ·subst ex; exact (h.done e).2.1
 ·exact (h.done e).1 x (by omega), fun x hx => absurd hx (Nat.not_lt_zero _), fun x hx => absurd hx (Nat.not_lt_zero _)⟩⟩
theorem Pas.no {m : PM} {M0 M : List BRow} {more : Bool} {k i a : Nat} (h : Pas m M0 M more k i a) (hc : Clo m M k i a) : Pas m M0 M more k i (a + 1) := ⟨h.inv, h.fst, h.le, h.more', fun e => ⟨(h.done e).1, (h.done e).2.1, fun z hz => by
 by_cases ez : z = a
 ·subst ez; exact hc
 ·exact (h.done e).2.2 z (by omega)⟩⟩
def apR (m : PM) (k i : Nat) : List Bool := (List.range m.next.length).map fun j => decide (j < i) && (gd m.acc k != gd m.acc j)
theorem apR_len (m : PM) (k i : Nat) : (apR m k i).length = m.next.length := by simp [apR]
theorem apR_gd (m : PM) (k i : Nat) {j : Nat} (hj : j < m.next.length) : gd (apR m k i) j = (decide (j < i) && (gd m.acc k != gd m.acc j)) := by
 unfold apR; rw [gd_map (by simpa using hj), Bv (by simpa using hj)]; simp
def Mad (m : PM) (M : List BRow) (k : Nat) : Prop := M.length = k ∧ ∀ x, x < k → (gd M x).2 = apR m x m.next.length
theorem Mad.add {m : PM} {M : List BRow} {k : Nat} (h : Mad m M k) (b : Nat) : Mad m (M ++ [(b, apR m k m.next.length)]) (k + 1) := by
 refine ⟨by simp [h.1], fun x hx => ?_⟩
 by_cases e : x = k
 ·subst e
  have := C0 (l := M) (x := ((b, apR m x m.next.length) : BRow))
  rw [h.1] at this; rw [this]
 ·rw [Cp (by rw [h.1]; omega)]; exact h.2 x (by omega)
theorem Mad.inv {m : PM} {M : List BRow} (h : Mad m M m.next.length) : ApInv m M := by
 have hap : ∀ k, k < m.next.length → ∀ i, i < m.next.length → ap M k i = (gd m.acc k != gd m.acc i) := fun k hk i hi => by
  unfold ap; rw [h.2 k hk, apR_gd m k _ hi]; simp [hi]
 refine ⟨⟨h.1, fun k hk => by rw [h.2 k hk, apR_len]⟩, fun k hk i hi hn => ?_, fun k hk => ?_⟩
 ·rw [hap k hk i hi]; simpa using hn
 ·rw [hap k hk k hk]; simp
end Go.Proofs.YtkdolgnpkjihpaaGreatDoor
namespace Go.Proofs.YtkdolgnpkjihpaaGreatDoor
open _root_.Go.Proofs.Tryz
open Go.RowKit
set_option linter.unusedVariables false
set_option linter.unusedSimpArgs false
theorem bd138_2_3 (a0 : Int) (a1 : Int) (w : World) : (Instr.build 138 #[(2, .int .i64 a0), (3, .int .i64 a1)]).run Tryz.prog w = .ok (.agg #[.string ⟨#[]⟩, .bool false, .int .i64 a0, .int .i64 a1]) w := by kernel_rfl
theorem bd154_0_1 (a0 : ByteArray) (a1 : Int) (w : World) : (Instr.build 154 #[(0, .string a0), (1, .int .i64 a1)]).run Tryz.prog w = .ok (.agg #[.string a0, .int .i64 a1]) w := by kernel_rfl
theorem bd24_0 (a0 : Int) (w : World) : (Instr.build 24 #[(0, .int .i64 a0)]).run Tryz.prog w = .ok (.agg #[.int .i64 a0, .string ⟨#[]⟩, .slice none 0 0]) w := by kernel_rfl
theorem bd24_0_1 (a0 : Int) (a1 : ByteArray) (w : World) : (Instr.build 24 #[(0, .int .i64 a0), (1, .string a1)]).run Tryz.prog w = .ok (.agg #[.int .i64 a0, .string a1, .slice none 0 0]) w := by kernel_rfl
theorem bd56_0 (a0 : Option Addr) (a0n a0c : Nat) (w : World) : (Instr.build 56 #[(0, .slice a0 a0n a0c)]).run Tryz.prog w = .ok (.agg #[.slice a0 a0n a0c, .slice none 0 0, .slice none 0 0]) w := by kernel_rfl
theorem bd71_0_1_2 (a0 : Int) (a1 : Int) (a2 : Int) (w : World) : (Instr.build 71 #[(0, .int .i64 a0), (1, .int .i64 a1), (2, .int .i64 a2)]).run Tryz.prog w = .ok (.agg #[.int .i64 a0, .int .i64 a1, .int .i64 a2]) w := by kernel_rfl
theorem bs152_1_0 (a0 : Int) (w : World) : (Instr.buildSlice 152 1 #[(0, .int .u8 a0)]).run Tryz.prog w = .ok (.slice (some ⟨w.heap.size, 0, none⟩) 1 1) (w.alloc (Cl [.int .u8 a0] 5)) := by kernel_rfl
theorem bs52_4_0_1_2_3 (a0 : ByteArray) (a1 : Bool) (a2 : Int) (a3 : Int) (a4 : ByteArray) (a5 : Bool) (a6 : Int) (a7 : Int) (a8 : ByteArray) (a9 : Bool) (a10 : Int) (a11 : Int) (a12 : ByteArray) (a13 : Bool) (a14 : Int) (a15 : Int) (w : World) : (Instr.buildSlice 52 4 #[(0, .agg #[.string a0, .bool a1, .int .i64 a2, .int .i64 a3]), (1, .agg #[.string a4, .bool a5, .int .i64 a6, .int .i64 a7]), (2, .agg #[.string a8, .bool a9, .int .i64 a10, .int .i64 a11]), (3, .agg #[.string a12, .bool a13, .int .i64 a14, .int .i64 a15])]).run Tryz.prog w = .ok (.slice (some ⟨w.heap.size, 0, none⟩) 4 4) (w.alloc (Cl [.string a0, .bool a1, .int .i64 a2, .int .i64 a3, .string a4, .bool a5, .int .i64 a6, .int .i64 a7, .string a8, .bool a9, .int .i64 a10, .int .i64 a11, .string a12, .bool a13, .int .i64 a14, .int .i64 a15] 138)) := by kernel_rfl
theorem bs53_6_0_1_2_3_4_5 (a0 : Int) (a1 : Int) (a2 : Int) (a3 : Int) (a4 : Int) (a5 : Int) (a6 : Int) (a7 : Int) (a8 : Int) (a9 : Int) (a10 : Int) (a11 : Int) (a12 : Int) (a13 : Int) (a14 : Int) (a15 : Int) (a16 : Int) (a17 : Int) (w : World) : (Instr.buildSlice 53 6 #[(0, .agg #[.int .i64 a0, .int .i64 a1, .int .i64 a2]), (1, .agg #[.int .i64 a3, .int .i64 a4, .int .i64 a5]), (2, .agg #[.int .i64 a6, .int .i64 a7, .int .i64 a8]), (3, .agg #[.int .i64 a9, .int .i64 a10, .int .i64 a11]), (4, .agg #[.int .i64 a12, .int .i64 a13, .int .i64 a14]), (5, .agg #[.int .i64 a15, .int .i64 a16, .int .i64 a17])]).run Tryz.prog w = .ok (.slice (some ⟨w.heap.size, 0, none⟩) 6 6) (w.alloc (Cl [.int .i64 a0, .int .i64 a1, .int .i64 a2, .int .i64 a3, .int .i64 a4, .int .i64 a5, .int .i64 a6, .int .i64 a7, .int .i64 a8, .int .i64 a9, .int .i64 a10, .int .i64 a11, .int .i64 a12, .int .i64 a13, .int .i64 a14, .int .i64 a15, .int .i64 a16, .int .i64 a17] 71)) := by kernel_rfl
theorem bs54_2_0_1 (a0 : ByteArray) (a1 : Int) (a2 : ByteArray) (a3 : Int) (w : World) : (Instr.buildSlice 54 2 #[(0, .agg #[.string a0, .int .i64 a1]), (1, .agg #[.string a2, .int .i64 a3])]).run Tryz.prog w = .ok (.slice (some ⟨w.heap.size, 0, none⟩) 2 2) (w.alloc (Cl [.string a0, .int .i64 a1, .string a2, .int .i64 a3] 154)) := by kernel_rfl
theorem fa56_2 (b o : Nat) (w : World) : (Instr.fieldAt 56 (.pointer (some ⟨b, o, none⟩)) 2).run Tryz.prog w = .ok (.pointer (some ⟨b, o + 2, none⟩)) w := by kernel_rfl
theorem bytes_ext {a b : ByteArray} (h : ¬ ¬ a.data.toList = b.data.toList) : a = b := ByteArray.ext (Array.ext' (Classical.not_not.1 h))
section
variable {P : Program} {w0 : World} {s t : TypeId} {ty : TypeId} {L : Fm} {H : List (Nat × Obj)} {x : Operand}
theorem yl_convB {e n c : Nat} {b0 : Int} (hx : Ev L x (.slice (some ⟨n, 0, none⟩) 1 c)) (hs : ∀ w, (underlying s).run P w = .ok (.slice e) w) (he : ∀ w, (underlying e).run P w = .ok (.int .u8) w) (ht : ∀ w, (underlying t).run P w = .ok .string w) (hc : Cell w0 H ⟨n, 0, none⟩ (.int .u8 b0)) :
  Yl P w0 (.convert s t x) ty L H (.string ⟨#[b0.toNat.toUInt8]⟩) := yl_of E fun H' hs' b w hO => by
 have hc' := hc.mono hs' w hO
 have hl : (loadCells ⟨n, 0, none⟩ 1).run P w = .ok #[.int .u8 b0] w := by
  have := run_loadCells (P := P) (b := n) (o := 0) (w := w) [.int .u8 b0] 0 #[] (fun j v hj => by
   cases j with
   | zero => simp at hj; subst hj; exact hc'
   | succ j => simp at hj)
  simpa [loadCells] using this
 simp [exO, execOp, hx b, convert, hs, ht, he, Conv.bytesToString, hl, Sem.run_bind, Result.andThen]
 rfl
end
abbrev exC (a b c d : ByteArray) : List Value := [.string a, .bool false, .int .i64 100, .int .i64 100, .string b, .bool false, .int .i64 100, .int .i64 100, .string c, .bool false, .int .i64 100, .int .i64 100, .string d, .bool false, .int .i64 100, .int .i64 100]
def exNm (j k : Nat) : ByteArray := if j < k then ⟨#[(IntKind.u8.wrap (97 + (j : Int))).toNat.toUInt8]⟩ else ⟨#[]⟩
abbrev exK (k : Nat) : List Value := exC (exNm 0 k) (exNm 1 k) (exNm 2 k) (exNm 3 k)
theorem ex_set {k : Nat} (hk : k < 4) : SetN (exK k) (0 + k * 4) (.string ⟨#[(IntKind.u8.wrap (97 + (k : Int))).toNat.toUInt8]⟩) (exK (k + 1)) := by
 match k, hk with
 | 0, _ => exact setN_of rfl
 | 1, _ => exact setN_of rfl
 | 2, _ => exact setN_of rfl
 | 3, _ => exact setN_of rfl
def exLinks : List Ln := [⟨0, 1, 10⟩, ⟨1, 3, 10⟩, ⟨0, 2, 10⟩, ⟨2, 3, 10⟩, ⟨1, 2, 10⟩, ⟨3, 0, 10⟩]
def exEdges : List Edg := [⟨⟨#[101]⟩, 0⟩, ⟨⟨#[102]⟩, 3⟩]
def exN (n1 n2 n3 : Nat) : Nn where
 nodes := [⟨⟨#[97]⟩, false, 100, 100⟩, ⟨⟨#[98]⟩, false, 100, 100⟩, ⟨⟨#[99]⟩, false, 100, 100⟩, ⟨⟨#[100]⟩, false, 100, 100⟩]
 links := exLinks
 edges := exEdges
 qn := some ⟨n1, 0, none⟩
 cn := 4
 ql := some ⟨n2, 0, none⟩
 cl := 6
 qe := some ⟨n3, 0, none⟩
 ce := 2
theorem Dp {α : Type} {w0 : World} {H : List (Nat × Obj)} {n sz : Nat} {enc : α → List Value} {l : List α} {cells : List Value} {e : TypeId} (he : ∀ x, (enc x).length = sz) (hc : cells = l.flatMap enc) (hf : Fnd H n (Cl cells e)) : Arr w0 H (some ⟨n, 0, none⟩) sz enc l := fun i x hi =>
 ⟨rfl, fun j v hj => by
  refine C3 hf ?_
  rw [hc]
  have := flat_get he l i x j v hi hj
  simpa [oq] using this⟩
theorem ex_net {w0 : World} {H : List (Nat × Obj)} {n1 n2 n3 : Nat} (h1 : Fnd H n1 (Cl (exK 4) 138)) (h2 : Fnd H n2 (Cl (exLinks.flatMap encLn) 71)) : NetR w0 H (exN n1 n2 n3) where
 nodes := Dp (fun _ => rfl) E h1
 links := Dp (fun _ => rfl) E h2
theorem ex_ok (n1 n2 n3 : Nat) : NnOk (exN n1 n2 n3) where
 fewN := by simp [exN]
 fewL := by simp [exN, exLinks]
 ends := by simp [exN, exLinks]
theorem Cr {w0 : World} {H : List (Nat × Obj)} (k : Int) (q : Option Addr) (xs : List Rxm) (c : Nat) :
  FSpec Tryz.prog w0 26 #[.int .i64 k, .slice q xs.length c] H (Still (.agg (encRx (.mk k ⟨#[]⟩ q c xs)).toArray) H) := by
 refine A9 Tryz.func26 E ntmps26 E (Ag (Ab (e_ (A5 zeroValue24 cs_) ?_ E)))
 rintro _ _ ⟨n4, rfl, rfl⟩
 refine Af (Ae (Ag (Ab (y_ (Ac (T E)) (y_ (Ac (T E)) (y_ (B1 (.cons (T E) (.cons (T E) .nil)) (bd24_0_2 _ _ _ _)) ?_ E) E) E))))
 first | refine Bk (A7 (T E) (T E) sizeOf24) E Ah ?_
 rintro _ _ ⟨rfl, rfl⟩
 refine Af (Ae (Ay (Az E (.cellA (Aa E) isAgg24 sizeOf24 E (by first | exact Bb) .nil) ?_)))
 exact ⟨_, ⟨rfl, rfl⟩, sbt⟩
theorem node_s {w0 : World} {H : List (Nat × Obj)} (s : ByteArray) :
  FSpec Tryz.prog w0 45 #[.string s] H (Still (.agg (encRx (.mk 2 s none 0 [])).toArray) H) := by
 refine A9 Tryz.func45 E ntmps45 E (Ag (Ab (e_ (A5 zeroValue24 cs_) ?_ E)))
 rintro _ _ ⟨n2, rfl, rfl⟩
 refine Af (Ae (Ag (Ab (y_ (Ac (T E)) (y_ (B1 (.cons Aj (.cons (T E) .nil)) (bd24_0_1 _ _)) ?_ E) E))))
 first | refine Bk (A7 (T E) (T E) sizeOf24) E Ah ?_
 rintro _ _ ⟨rfl, rfl⟩
 refine Af (Ae (Ay (Az E (.cellA (Aa E) isAgg24 sizeOf24 E (by first | exact Bb) .nil) ?_)))
 exact ⟨_, ⟨rfl, rfl⟩, sbt⟩
theorem some_s {w0 : World} {H : List (Nat × Obj)}  :
  FSpec Tryz.prog w0 44 #[] H (Still (.agg (encRx (.mk 3 ⟨#[]⟩ none 0 [])).toArray) H) := by
 refine A9 Tryz.func44 E ntmps44 E (Ag (Ab (e_ (A5 zeroValue24 cs_) ?_ E)))
 rintro _ _ ⟨n0, rfl, rfl⟩
 refine Af (Ae (Ag (Ab (y_ (B1 (.cons Aj .nil) (bd24_0 _)) ?_ E))))
 first | refine Bk (A7 (T E) (T E) sizeOf24) E Ah ?_
 rintro _ _ ⟨rfl, rfl⟩
 refine Af (Ae (Ay (Az E (.cellA (Aa E) isAgg24 sizeOf24 E (by first | exact Bb) .nil) ?_)))
 exact ⟨_, ⟨rfl, rfl⟩, sbt⟩
theorem sameInts_s {w0 : World} {H : List (Nat × Obj)} (q q2 : Option Addr) (cap cap2 : Nat) (x y : List Int) (hx : Arr w0 H q 1 encI x) (hy : Arr w0 H q2 1 encI y) (hl : x.length ≤ 9223372036854775807) :
  FSpec Tryz.prog w0 31 #[.slice q x.length cap, .slice q2 y.length cap2] H (Still (.bool (decide (x = y))) H) := by
 refine A9 Tryz.func31 E ntmps31 E (Ag (Ab (y_ (Ad Aj) (Af (Ae (Ag (Ag (Ab (y_ (Ac (T E)) (y_ (Bp (T E) runUnderlying42) (y_ (Ac (T E)) (y_ (Bp (T E) runUnderlying42) (y_ (Cu (T E) (T E)) (Af (Ae ?_)) E) E) E) E) E)))))) E)))
 first | refine Ar (Aa E) (fun c10 => ?_) (fun c10 => ?_) | refine A6 (Aa E) (fun c10 => ?_) (fun c10 => ?_)
 ·refine Ag (Ab (y_ (Ad Aj) (Af (Ae (Ay (Al (Az E (.tmp (Aa E) .nil) ?_))))) E))
  exact ⟨_, ⟨by rw [decide_eq_false (fun h => c10 (by rw [h]))]; rfl, rfl⟩, sbt⟩
 ·refine A2 (Ae (Ag (Ag (Ab (y_ (Ad Aj) (Af (Ae (Aw ?_))) E)))))
  refine Cc (X := Nat) (V := fun k => [(5, .int .i64 (k : Nat))]) (C := [(0, _), (1, _)]) (φ := fun k => k ≤ x.length ∧ x.take k = y.take k) (μ := fun k => x.length - k) (x0 := 0) ?_ ⟨Aa E, Aa E, trivial⟩ ⟨(by first | exact Aa E | (refine Ak (Aa E) (vint ?_); omega) | (refine Ak (Aa E) ?_; simp; done)), trivial⟩ ?_
  ·exact ⟨Nat.zero_le _, rfl⟩
  rintro k ⟨hk, heq⟩
  refine Ag (Ag (Ab (y_ (Ac (T E)) (y_ (Ac (T E)) (y_ (Bp (T E) runUnderlying42) (y_ (Bu (T E) (T E)) (Af (Ae ?_)) E) E) E) E)))
  first | refine Ar (Aa E) (fun c14 => ?_) (fun c14 => ?_) | refine A6 (Aa E) (fun c14 => ?_) (fun c14 => ?_)
  ·refine A2 (Ae (Ag (Aw (Ag (Ch 9 [(0, true), (1, true), (2, true), (3, true), (4, true), (5, true), (6, true), (7, true), (8, true)] _ mixd (by kernel_rfl) sb0 ?_)))))
   refine o_y E (Ac (T E)) (o_y E (Ac (T E)) (o_y E (Be (T E) (T E) runUnderlying42 sizeOf3 (by omega) (by first | exact rfl | exact hx.b (i := k) (by omega) | exact hy.b (i := k) (by omega))) ?_ E Ah) E Ah) E Ah
   refine o_y E (Ai (T E) isAgg3 (by first | exact c_o | exact cell1 ((hx.mono sbt).cs (i := k) (by omega)) | exact cell1 ((hx.mono sbt).cs (i := k) (by omega)) | exact cell1 ((hy.mono sbt).cs (i := k) (by omega)))) ?_ E Ah
   refine o_y E (Ac (T E)) (o_y E (Ac (T E)) (o_y E (Be (T E) (T E) runUnderlying42 sizeOf3 (by omega) (by first | exact rfl | exact hx.b (i := k) (by omega) | exact hy.b (i := k) (by omega))) ?_ E Ah) E Ah) E Ah
   refine o_y E (Ai (T E) isAgg3 (by first | exact c_o | exact cell1 ((hy.mono sbt).cs (i := k) (by omega)) | exact cell1 ((hx.mono sbt).cs (i := k) (by omega)) | exact cell1 ((hy.mono sbt).cs (i := k) (by omega)))) ?_ E Ah
   refine o_y E (Cu (T E) (T E)) (Bx E (Af (Ae ?_))) E Ah
   first | refine Ar (Aa E) (fun c25 => ?_) (fun c25 => ?_) | refine A6 (Aa E) (fun c25 => ?_) (fun c25 => ?_)
   ·refine Ag (Ab (y_ (Ad Aj) (Af (Ae (Ay (An (Al (Bo (An (Al (Az E (.tmp (Aa E) .nil) ?_))))))))) E))
    exact ⟨_, ⟨by rw [decide_eq_false (fun h => c25 (by rw [h]))]; rfl, rfl⟩, sbt⟩
   ·refine A2 (Bl (Ae (Ab (y_ (Ac (T E)) (y_ (Bt (T E) Aj (by omega)) ?_ E) E))))
    refine y_ (Ad (T E)) (Af ?_) E
    refine Bn (k + 1) ?_ ?_ ⟨(by first | exact Aa E | (refine Ak (Aa E) (vint ?_); omega) | (refine Ak (Aa E) ?_; simp; done)), trivial⟩ ⟨Aa E, Aa E, trivial⟩ ?_
    ·exact ⟨by omega, by rw [take_gd (by omega), take_gd (by omega), heq, Classical.not_not.1 c25]⟩
    ·first | omega | (simp only []; omega)
    ·exact sbt
  ·refine B4 (A0 (A4 (A3 (Ae (Ag (Ab (y_ (Ad Aj) (Af (Ae (Ay (Az E (.tmp (Aa E) .nil) ?_)))) E)))))))
   exact ⟨_, ⟨by rw [decide_eq_true (by rw [take_end (by omega), take_end (by omega)] at heq; exact heq)]; rfl, rfl⟩, sbt⟩
theorem sameNames_s {w0 : World} {H : List (Nat × Obj)} (q q2 : Option Addr) (cap cap2 : Nat) (x y : List ByteArray) (hx : Arr w0 H q 1 encS x) (hy : Arr w0 H q2 1 encS y) (hl : x.length ≤ 9223372036854775807) :
  FSpec Tryz.prog w0 25 #[.slice q x.length cap, .slice q2 y.length cap2] H (Still (.bool (decide (x = y))) H) := by
 refine A9 Tryz.func25 E ntmps25 E (Ag (Ab (y_ (Ad Aj) (Af (Ae (Ag (Ag (Ab (y_ (Ac (T E)) (y_ (Bp (T E) runUnderlying25) (y_ (Ac (T E)) (y_ (Bp (T E) runUnderlying25) (y_ (Cu (T E) (T E)) (Af (Ae ?_)) E) E) E) E) E)))))) E)))
 first | refine Ar (Aa E) (fun c10 => ?_) (fun c10 => ?_) | refine A6 (Aa E) (fun c10 => ?_) (fun c10 => ?_)
 ·refine Ag (Ab (y_ (Ad Aj) (Af (Ae (Ay (Al (Az E (.tmp (Aa E) .nil) ?_))))) E))
  exact ⟨_, ⟨by rw [decide_eq_false (fun h => c10 (by rw [h]))]; rfl, rfl⟩, sbt⟩
 ·refine A2 (Ae (Ag (Ag (Ab (y_ (Ad Aj) (Af (Ae (Aw ?_))) E)))))
  refine Cc (X := Nat) (V := fun k => [(5, .int .i64 (k : Nat))]) (C := [(0, _), (1, _)]) (φ := fun k => k ≤ x.length ∧ x.take k = y.take k) (μ := fun k => x.length - k) (x0 := 0) ?_ ⟨Aa E, Aa E, trivial⟩ ⟨(by first | exact Aa E | (refine Ak (Aa E) (vint ?_); omega) | (refine Ak (Aa E) ?_; simp; done)), trivial⟩ ?_
  ·exact ⟨Nat.zero_le _, rfl⟩
  rintro k ⟨hk, heq⟩
  refine Ag (Ag (Ab (y_ (Ac (T E)) (y_ (Ac (T E)) (y_ (Bp (T E) runUnderlying25) (y_ (Bu (T E) (T E)) (Af (Ae ?_)) E) E) E) E)))
  first | refine Ar (Aa E) (fun c14 => ?_) (fun c14 => ?_) | refine A6 (Aa E) (fun c14 => ?_) (fun c14 => ?_)
  ·refine A2 (Ae (Ag (Aw (Ag (Ch 9 [(0, true), (1, true), (2, true), (3, true), (4, true), (5, true), (6, true), (7, true), (8, true)] _ mixd (by kernel_rfl) sb0 ?_)))))
   refine o_y E (Ac (T E)) (o_y E (Ac (T E)) (o_y E (Be (T E) (T E) runUnderlying25 sizeOf9 (by omega) (by first | exact rfl | exact hx.b (i := k) (by omega) | exact hy.b (i := k) (by omega))) ?_ E Ah) E Ah) E Ah
   refine o_y E (Ai (T E) isAgg9 (by first | exact c_o | exact cell1 ((hx.mono sbt).cs (i := k) (by omega)) | exact cell1 ((hx.mono sbt).cs (i := k) (by omega)) | exact cell1 ((hy.mono sbt).cs (i := k) (by omega)))) ?_ E Ah
   refine o_y E (Ac (T E)) (o_y E (Ac (T E)) (o_y E (Be (T E) (T E) runUnderlying25 sizeOf9 (by omega) (by first | exact rfl | exact hx.b (i := k) (by omega) | exact hy.b (i := k) (by omega))) ?_ E Ah) E Ah) E Ah
   refine o_y E (Ai (T E) isAgg9 (by first | exact c_o | exact cell1 ((hy.mono sbt).cs (i := k) (by omega)) | exact cell1 ((hx.mono sbt).cs (i := k) (by omega)) | exact cell1 ((hy.mono sbt).cs (i := k) (by omega)))) ?_ E Ah
   refine o_y E (yl_neSD (T E) (T E)) (Bx E (Af (Ae ?_))) E Ah
   first | refine Ar (Aa E) (fun c25 => ?_) (fun c25 => ?_) | refine A6 (Aa E) (fun c25 => ?_) (fun c25 => ?_)
   ·refine Ag (Ab (y_ (Ad Aj) (Af (Ae (Ay (An (Al (Bo (An (Al (Az E (.tmp (Aa E) .nil) ?_))))))))) E))
    exact ⟨_, ⟨by rw [decide_eq_false (fun h => c25 (by rw [h]))]; rfl, rfl⟩, sbt⟩
   ·refine A2 (Bl (Ae (Ab (y_ (Ac (T E)) (y_ (Bt (T E) Aj (by omega)) ?_ E) E))))
    refine y_ (Ad (T E)) (Af ?_) E
    refine Bn (k + 1) ?_ ?_ ⟨(by first | exact Aa E | (refine Ak (Aa E) (vint ?_); omega) | (refine Ak (Aa E) ?_; simp; done)), trivial⟩ ⟨Aa E, Aa E, trivial⟩ ?_
    ·exact ⟨by omega, by rw [take_gd (by omega), take_gd (by omega), heq, bytes_ext c25]⟩
    ·first | omega | (simp only []; omega)
    ·exact sbt
  ·refine B4 (A0 (A4 (A3 (Ae (Ag (Ab (y_ (Ad Aj) (Af (Ae (Ay (Az E (.tmp (Aa E) .nil) ?_)))) E)))))))
   exact ⟨_, ⟨by rw [decide_eq_true (by rw [take_end (by omega), take_end (by omega)] at heq; exact heq)]; rfl, rfl⟩, sbt⟩
theorem example_s {w0 : World} {H : List (Nat × Obj)} :
  FSpec Tryz.prog w0 43 #[] H (fun v H' => ∃ y : Nat × Nat × Nat, v = .agg (encNn (exN y.1 y.2.1 y.2.2)).toArray ∧ H' = (y.2.2, Cl (exEdges.flatMap encE) 154) :: (y.2.1, Cl (exLinks.flatMap encLn) 71) :: (y.1, Cl (exK 4) 138) :: H) := by
 refine A9 Tryz.func43 E ntmps43 E (Ag (Ab (e_ (A5 zeroValue56 cs_) ?_ E)))
 rintro _ _ ⟨n0, rfl, rfl⟩
 refine Af (Ae (Ag (Ab (y_ (B1 (.cons Aj (.cons Aj .nil)) (bd138_2_3 _ _)) (e_ (A5 zeroValue138 cs_) ?_ E) E))))
 rintro _ _ ⟨n1, rfl, rfl⟩
 first | refine Bk (A7 (T E) (T E) sizeOf138) E Ah ?_
 rintro _ _ ⟨rfl, rfl⟩
 refine Af (Ae (Ag (Ab (y_ (Am (T E) isAgg138 sizeOf138 E (by first | exact Bb)) ?_ E))))
 refine y_ (Am (T E) isAgg138 sizeOf138 E (by first | exact Bb)) ?_ E
 refine y_ (Am (T E) isAgg138 sizeOf138 E (by first | exact Bb)) ?_ E
 refine y_ (Am (T E) isAgg138 sizeOf138 E (by first | exact Bb)) ?_ E
 refine e_ (Ap (.cons (T E) (.cons (T E) (.cons (T E) (.cons (T E) .nil)))) (bs52_4_0_1_2_3 _ _ _ _ _ _ _ _ _ _ _ _ _ _ _ _)) ?_ E
 rintro _ _ ⟨n9, rfl, rfl⟩
 refine y_ (B1 (.cons (T E) .nil) (bd56_0 _ _ _)) (e_ (A5 zeroValue56 cs_) ?_ E) E
 rintro _ _ ⟨n2, rfl, rfl⟩
 first | refine Bk (A7 (T E) (T E) sizeOf56) E Ah ?_
 rintro _ _ ⟨rfl, rfl⟩
 refine Af (Ae (Ag (Ag (Ab (y_ (Ad Aj) (Af (Ae (Aw ?_))) E)))))
 refine Cm (X := Nat) (V := fun k => [(3, .int .i64 (k : Nat))]) (C := [(0, _), (2, _)]) (G := fun k => (n2, Cl [.slice (some ⟨n9, 0, none⟩) 4 4, .slice none 0 0, .slice none 0 0] 56) :: (n9, Cl (exK k) 138) :: (n1, Cl [.string ⟨#[]⟩, .bool false, .int .i64 100, .int .i64 100] 138) :: (n0, Cl [.slice none 0 0, .slice none 0 0, .slice none 0 0] 56) :: H) (φ := fun k => k ≤ 4) (μ := fun k => 4 - k) (x0 := 0) ?_ ⟨Aa E, Aa E, trivial⟩ ⟨(by first | exact Aa E | (refine Ak (Aa E) (vint ?_); omega) | (refine Ak (Aa E) ?_; simp; done)), trivial⟩ sb0 ?_
 ·show 0 ≤ 4; omega
 rintro k hk
 refine Ag (Ag (Ab (y_ (Ac (T E)) (y_ (Bu (T E) Aj) (Af (Ae ?_)) E) E)))
 first | refine Ar (Aa E) (fun c12 => ?_) (fun c12 => ?_) | refine A6 (Aa E) (fun c12 => ?_) (fun c12 => ?_)
 ·refine A2 (Ae (Ag (Aw (Ab (y_ (Bc (T E) C8) (y_ (Ai (T E) isAgg52 (by first | exact c_o)) ?_ E) E)))))
  refine y_ (Ac (T E)) (y_ (Ac (T E)) (y_ (Bt Aj (T E) (by omega)) ?_ E) E) E
  refine y_ (yl_convI (T E) runUnderlying3 runUnderlying5) (e_ (Ap (.cons (T E) .nil) (bs152_1_0 _)) ?_ E) E
  rintro _ _ ⟨n21, rfl, rfl⟩
  refine y_ (yl_convB (T E) runUnderlying152 runUnderlying5 runUnderlying9 (by first | exact c_o)) ?_ E
  refine y_ (Be (T E) (T E) runUnderlying52 sizeOf138 (by omega) (by first | exact rfl)) ?_ E
  refine y_ (Bc (T E) Dw) (e_ (eff_store1 (T E) (T E) E sizeOf9 (ex_set (k := k) (by omega)) (by repeat (first | exact Upd.h | apply Upd.t | apply D9))) ?_ E) E
  rintro _ _ ⟨rfl, rfl⟩
  refine Af (Bl (Ae (Ab (y_ (Ac (T E)) (y_ (Bt (T E) Aj (by omega)) ?_ E) E))))
  refine y_ (Ad (T E)) (Af ?_) E
  refine Bn (k + 1) ?_ ?_ ⟨(by first | exact Aa E | (refine Ak (Aa E) (vint ?_); omega) | (refine Ak (Aa E) ?_; simp; done)), trivial⟩ ⟨Aa E, Aa E, trivial⟩ ?_
  ·show k + 1 ≤ 4; omega
  ·first | omega | (simp only []; omega)
  ·exact sbt
 ·refine B4 (A0 (A4 (A3 (Ae (Ag (Ab (y_ (B1 (.cons Aj (.cons Aj (.cons Aj .nil))) (bd71_0_1_2 _ _ _)) (y_ (B1 (.cons Aj (.cons Aj (.cons Aj .nil))) (bd71_0_1_2 _ _ _)) (y_ (B1 (.cons Aj (.cons Aj (.cons Aj .nil))) (bd71_0_1_2 _ _ _)) (y_ (B1 (.cons Aj (.cons Aj (.cons Aj .nil))) (bd71_0_1_2 _ _ _)) (y_ (B1 (.cons Aj (.cons Aj (.cons Aj .nil))) (bd71_0_1_2 _ _ _)) (y_ (B1 (.cons Aj (.cons Aj (.cons Aj .nil))) (bd71_0_1_2 _ _ _)) (e_ (Ap (.cons (T E) (.cons (T E) (.cons (T E) (.cons (T E) (.cons (T E) (.cons (T E) .nil)))))) (bs53_6_0_1_2_3_4_5 _ _ _ _ _ _ _ _ _ _ _ _ _ _ _ _ _ _)) ?_ E) E) E) E) E) E) E)))))))
  rintro _ _ ⟨n31, rfl, rfl⟩
  refine y_ (Bi (T E) C6) ?_ E
  first | refine Bk (A7 (T E) (T E) sizeOf53) E Ah ?_ | refine Bk (Cg (T E) (T E) E sizeOf53) E Ah ?_ | refine Bk (B7 (T E) (T E) E sizeOf53) E Ah ?_
  rintro _ _ ⟨rfl, rfl⟩
  refine Af (Ae (Ag (Ab (y_ (B1 (.cons Aj (.cons Aj .nil)) (bd154_0_1 _ _)) (y_ (B1 (.cons Aj (.cons Aj .nil)) (bd154_0_1 _ _)) (e_ (Ap (.cons (T E) (.cons (T E) .nil)) (bs54_2_0_1 _ _ _ _)) ?_ E) E) E))))
  rintro _ _ ⟨n35, rfl, rfl⟩
  refine y_ (Bi (T E) fa56_2) ?_ E
  first | refine Bk (A7 (T E) (T E) sizeOf54) E Ah ?_ | refine Bk (Cg (T E) (T E) E sizeOf54) E Ah ?_ | refine Bk (B7 (T E) (T E) E sizeOf54) E Ah ?_
  rintro _ _ ⟨rfl, rfl⟩
  refine Af (Ae (Ag (Ab (y_ (Am (T E) isAgg56 sizeOf56 E (by first | exact Bb)) ?_ E))))
  first | refine Bk (A7 (T E) (T E) sizeOf56) E Ah ?_
  rintro _ _ ⟨rfl, rfl⟩
  refine Af (Ae (Ay (Az E (.cellA (Aa E) isAgg56 sizeOf56 E (by first | exact Bb) .nil) ?_)))
  have e4 : k = 4 := by omega
  subst e4
  exact ⟨_, ⟨(n9, n31, n35), rfl, rfl⟩, sbt⟩
end Go.Proofs.YtkdolgnpkjihpaaGreatDoor
namespace Go.Proofs.YtkdolgnpkjihpaaGreatDoor
open _root_.Go.Proofs.Tryz
open Go.RowKit
set_option linter.unusedVariables false
set_option linter.unusedSimpArgs false
theorem sF1 (n1 n2 n3 : Nat) (q : Option Addr) (c : Nat) : findF (exN n1 n2 n3) ⟨q, c, [], -1⟩ sM 0 3 = ([2, 3], 0) := by kernel_rfl
theorem sF2 (n1 n2 n3 : Nat) (q : Option Addr) (c : Nat) : findF (exN n1 n2 n3) ⟨q, c, [2], -1⟩ sM 0 3 = ([0, 4, 3], 0) := by kernel_rfl
theorem sF3 (n1 n2 n3 : Nat) (q : Option Addr) (c : Nat) : findF (exN n1 n2 n3) ⟨q, c, [], -1⟩ sM 1 3 = ([], 18) := by kernel_rfl
theorem sMet (n1 n2 n3 : Nat) (q : Option Addr) (c : Nat) : metF (exN n1 n2 n3) ⟨q, c, [], -1⟩ sM 1 = [(1, 2), (3, 2), (2, 2), (0, 2)] := by kernel_rfl
theorem sHo (n1 n2 n3 : Nat) (q : Option Addr) (c : Nat) : holdsF (exN n1 n2 n3) ⟨q, c, [], -1⟩ sX 0 3 [2, 3] = true := by kernel_rfl
theorem sRe (n1 n2 n3 : Nat) (q : Option Addr) (c : Nat) : decide (RefOk (exN n1 n2 n3) ⟨q, c, [], -1⟩ sM 1 3 [(0, 2), (1, 2), (2, 2), (3, 2)]) = true := by kernel_rfl
theorem sReach {n1 n2 n3 : Nat} {q : Option Addr} {c : Nat} {ks : List Pl} (h : Reach (exN n1 n2 n3) ⟨q, c, [], -1⟩ sM 1 ks) : ks = [(0, 2), (1, 2), (2, 2), (3, 2)] := by
 have h1 := h.1
 rw [if_neg (show ¬ (-1 : Int) = ((1 : Nat) : Int) by decide), sMet] at h1
 have h3 : ks.Perm [(0, 2), (1, 2), (2, 2), (3, 2)] := h1.trans (by decide)
 refine h3.eq_of_pairwise (fun a b ha hb hab hba => ?_) h.2 (by decide)
 have h1 : a ∈ [(0, 2), (1, 2), (2, 2), (3, 2)] := h3.mem_iff.1 ha
 simp only [List.mem_cons, List.not_mem_nil, or_false] at h1 hb
 rcases h1 with rfl | rfl | rfl | rfl <;> rcases hb with rfl | rfl | rfl | rfl <;> first | rfl | (revert hab hba; decide)
end Go.Proofs.YtkdolgnpkjihpaaGreatDoor
namespace Go.Proofs.YtkdolgnpkjihpaaGreatDoor
open _root_.Go.Proofs.Tryz
open Go.RowKit
set_option linter.unusedVariables false
set_option linter.unusedSimpArgs false
theorem still_b {P : Program} {w0 : World} {f : FuncId} {args : Array Value} {H : List (Nat × Obj)} {b c : Bool} (e : b = c) (h : FSpec P w0 f args H (Still (.bool b) H)) : FSpec P w0 f args H (Still (.bool c) H) := e ▸ h
theorem rx0 {w0 : World} {H : List (Nat × Obj)} {k : Int} {s : ByteArray} (hs : s.size ≤ 9223372036854775807 := by decide) : RxM w0 H (.mk k s none 0 []) := .mk (fun i x hi => by cases hi) (fun a ha => by cases ha) hs (by decide)
theorem rx1 {w0 : World} {H : List (Nat × Obj)} {k : Int} {n : Nat} {a : Rxm} (h : RxM w0 H a) (hf : Fnd H n (Cl (encRx a) 24) := by repeat (first | exact By | refine As ?_ | refine Bd ?_)) : RxM w0 H (.mk k ⟨#[]⟩ (some ⟨n, 0, none⟩) 1 [a]) :=
 .mk (Dp (fun _ => rfl) (by simp) hf) (fun x hx => by rw [List.mem_singleton] at hx; subst hx; exact h) (by decide) (by simp)
theorem rx2 {w0 : World} {H : List (Nat × Obj)} {k : Int} {n : Nat} {a b : Rxm} (h1 : RxM w0 H a) (h2 : RxM w0 H b) (hf : Fnd H n (Cl (encRx a ++ encRx b) 24) := by repeat (first | exact By | refine As ?_ | refine Bd ?_)) : RxM w0 H (.mk k ⟨#[]⟩ (some ⟨n, 0, none⟩) 2 [a, b]) :=
 .mk (arrRx2 hf) (fun x hx => by simp only [List.mem_cons, List.not_mem_nil, or_false] at hx; rcases hx with rfl | rfl <;> assumption) (by decide) (by simp)
theorem buildM_s {w0 : World} {H : List (Nat × Obj)} (m : Rxm) (e : Re) (hI : Is m e) (hM : RxM w0 H m) (hl : e.lv ≤ 64) {pm : PM} {cc : Int} (hb : buildF leastF e = (pm, cc)) :
  FSpec Tryz.prog w0 12 #[.agg (encRx m).toArray] H (fun v H' => ∃ (y : Mc) (M : List (Nat × Obj)), (v = .tuple #[.agg (encMc y).toArray, .int .i64 cc] ∧ y.pl = pm ∧ McOk w0 (M ++ H) y) ∧ H' = M ++ H) := by
 have h := buildL_s (w0 := w0) H m e hI hM hl
 rw [hb] at h
 refine h.mono fun v H' hk => ?_
 obtain ⟨y, ⟨rfl, hok, ho⟩, rfl⟩ := hk
 refine ⟨mcOf pm.names (slQ y.1) (slC y.1) y.2 pm.acc, rowsH y.2.2.2 ++ (slH y.2.1 (y.2.2.2.flatMap encRow) 42 ++ (slH y.2.2.1 (pm.acc.flatMap encB1) 4 ++ slH y.1 (pm.names.flatMap encS) 9)), ⟨by rw [mcOf_enc], mcOf_pl ho, ?_⟩, by simp only [List.append_assoc]⟩
 have h2 := mcOf_ok (w0 := w0) (names := pm.names) (q1 := slQ y.1) (c1 := slC y.1) (H := slH y.1 (pm.names.flatMap encS) 9 ++ H) ho ((Bq (X := H) (enc := encS) (sz := 1) (e := 9) (l := pm.names) (fun _ => rfl) hok).mono (by exact sbt))
 simpa only [List.append_assoc, mOut] using h2
theorem Dg {w0 : World} {H : List (Nat × Obj)} (m1 m2 : Rxm) (ea eb : Re) (hIa : Is m1 ea) (hIb : Is m2 eb) (hMa : RxM w0 H m1) (hMb : RxM w0 H m2) (hla : ea.lv ≤ 32) (hlb : eb.lv ≤ 32) {l : List ByteArray} {b : Bool} {c : Int} (he : equalF ea eb = (l, b, c)) :
  FSpec Tryz.prog w0 23 #[.agg (encRx m1).toArray, .agg (encRx m2).toArray] H (fun v H' => ∃ d : Sl, (v = .tuple #[slV d l.length, .bool b, .int .i64 c] ∧ SlOk d l.length 1) ∧ H' = slH d (l.flatMap encS) 9 ++ H) := by
 have h := equal_s m1 m2 ea eb hIa hIb hMa hMb hla hlb
 rw [he] at h
 exact h
theorem findE_s {w0 : World} {H : List (Nat × Obj)} (n : Nn) (f : Flr) (m : Mc) (he : Env w0 H n f m) (ho : EnvOk n f m) (x : Nat) (hx : x < n.nodes.length) (to : Nat) {l : List Nat} {c : Int} (hf : findF n f m.pl x to = (l, c)) :
  FSpec Tryz.prog w0 29 #[.agg (encNn n).toArray, .agg (encFl f).toArray, .agg (encMc m).toArray, .int .i64 (x : Int), .int .i64 (to : Int)] H (fun v H' => ∃ d : Sl, (v = .tuple #[slV d l.length, .int .i64 c] ∧ SlOk d l.length 1) ∧ H' = slH d (l.flatMap encU) 3 ++ H) := by
 have h := find_s n f m he ho x hx to
 rw [hf] at h
 exact h
theorem reachedE_s {w0 : World} {H : List (Nat × Obj)} (n : Nn) (f : Flr) (m : Mc) (he : Env w0 H n f m) (ho : EnvOk n f m) (x : Nat) (hx : x < n.nodes.length) :
  FSpec Tryz.prog w0 35 #[.agg (encNn n).toArray, .agg (encFl f).toArray, .agg (encMc m).toArray, .int .i64 (x : Int)] H (fun v H' => ∃ (d : Sl) (l : List Pl), (v = slV d l.length ∧ SlOk d l.length 2 ∧ Reach n f m.pl x l) ∧ H' = slH d (l.flatMap encPl) 74 ++ H) :=
 (reached_s n f m he ho x hx).mono fun v H' ⟨y, h1, h2⟩ => ⟨y.1, y.2, h1, h2⟩
theorem arrUI {w0 : World} {H : List (Nat × Obj)} {q : Option Addr} {l : List Nat} (h : Arr w0 H q 1 encU l) : Arr w0 H q 1 encI (l.map fun k : Nat => (k : Int)) := fun i x hi => by
 rw [List.getElem?_map] at hi
 cases hl : l[i]? with
 | none => rw [hl] at hi; cases hi
 | some k =>
  rw [hl] at hi
  have : (k : Int) = x := by simpa using hi
  subst this
  exact h i k hl
theorem arrPP {w0 : World} {H : List (Nat × Obj)} {q : Option Addr} {l : List Pl} (h : Arr w0 H q 2 encPl l) : Arr w0 H q 2 encPI (l.map toI) := fun i x hi => by
 rw [List.getElem?_map] at hi
 cases hl : l[i]? with
 | none => rw [hl] at hi; cases hi
 | some k =>
  rw [hl] at hi
  have : toI k = x := by simpa using hi
  subst this
  exact h i k hl
def miOf (m : Mc) : Mi := ⟨m.names, m.rows.map fun r => ⟨r.q, r.c, r.l.map fun k : Nat => (k : Int)⟩, m.acc, m.q1, m.c1, m.q2, m.c2, m.q3, m.c3⟩
theorem miOf_enc (m : Mc) : encMi (miOf m) = encMc m := by simp [miOf]
theorem miOf_ok {w0 : World} {H : List (Nat × Obj)} {m : Mc} (h : McOk w0 H m) (hp : PMok m.pl) (hl : m.names.length ≤ 100) : MiOk w0 H (miOf m) := by
 have hrl : m.pl.next.length = m.rows.length := List.length_map ..
 refine ⟨h.a1, fun i x hi => ?_, h.a3, fun r hr => ?_, show m.names.length ≤ _ by omega, ?_, fun r hr => ?_⟩
 ·simp only [miOf, List.getElem?_map] at hi
  cases hl : m.rows[i]? with
  | none => rw [hl] at hi; cases hi
  | some r =>
   rw [hl] at hi
   have h1 := h.a2 i r hl
   have : (⟨r.q, r.c, r.l.map fun k : Nat => (k : Int)⟩ : RowI) = x := by simpa using hi
   subst this
   have e : encRI ⟨r.q, r.c, r.l.map fun k : Nat => (k : Int)⟩ = encRQ r := by simp [encRI, encRQ]
   rw [e]; exact h1
 ·simp only [miOf, List.mem_map] at hr
  obtain ⟨r0, h0, rfl⟩ := hr
  exact arrUI (h.r r0 h0)
 ·have := hp.few
  simp only [miOf, List.length_map]; omega
 ·simp only [miOf, List.mem_map] at hr
  obtain ⟨r0, h0, rfl⟩ := hr
  have := (hp.row r0.l (by simp only [Mc.pl, List.mem_map]; exact ⟨r0, h0, rfl⟩)).1
  simp only [List.length_map]
  rw [this]; show m.names.length + 1 ≤ _; omega
theorem compact_srt {names : List ByteArray} (h : Srt names) : (cptB names).length = names.length := by
 have h1 : (names.map toL).Pairwise (· < ·) := by rw [List.pairwise_map]; exact h
 have h2 := compact_incrU (names.map toL) (h1.imp fun h => Std.le_of_lt h)
 have h3 : Lib.compact (names.map toL) = names.map toL := by
  refine List.Perm.eq_of_pairwise (le := (· < ·)) (fun a b _ _ hab hba => absurd (ltU_trans hab hba) (List.lt_irrefl a)) h2.1 h1 ?_
  refine (List.perm_ext_iff_of_nodup (h2.1.imp fun hab e => by subst e; exact List.lt_irrefl _ hab) (h1.imp fun hab e => by subst e; exact List.lt_irrefl _ hab)).2 h2.2
 unfold cptB; rw [h3]; simp
theorem gd_lt_srt {names : List ByteArray} (h : Srt names) {i : Nat} (hi : i < names.length) (h0 : 0 < i) : toL (gd names (i - 1)) < toL (gd names i) := by
 rw [Bv hi, Bv (show i - 1 < names.length by omega)]
 exact List.pairwise_iff_getElem.1 h (i - 1) i (by omega) hi (by omega)
theorem chk_yes {m : Mc} (hp : PMok m.pl) (hs : Srt m.names) : chkI (miOf m) = true := by
 have hrl : m.pl.next.length = m.rows.length := List.length_map ..
 have e1 := hp.some'
 have e2 := hp.few
 have e3 : m.acc.length = m.pl.next.length := hp.acc
 have e4 : isSrt m.names = true := decide_eq_true fun i hi h0 h => absurd (ltU_trans h (gd_lt_srt hs hi h0)) (List.lt_irrefl _)
 have e5 : (m.rows.map fun r => (⟨r.q, r.c, r.l.map fun k : Nat => (k : Int)⟩ : RowI)).any (fun r => badRow m.names.length (m.rows.map fun r => (⟨r.q, r.c, r.l.map fun k : Nat => (k : Int)⟩ : RowI)).length r.l) = false := by
  rw [List.any_eq_false]
  intro r hr
  rw [List.mem_map] at hr
  obtain ⟨r0, h0, rfl⟩ := hr
  have h1 := hp.row r0.l (by simp only [Mc.pl, List.mem_map]; exact ⟨r0, h0, rfl⟩)
  have h2 : r0.l.length = m.names.length + 1 := h1.1
  simp only [badRow, List.length_map, Bool.or_eq_true, decide_eq_true_eq, List.any_eq_true, not_or, not_exists, not_and]
  refine ⟨by omega, fun x hx => ?_⟩
  rw [List.mem_map] at hx
  obtain ⟨s, h3, rfl⟩ := hx
  have := h1.2 s h3
  simp only [badTo, Bool.or_eq_true, decide_eq_true_eq]
  omega
 have hl : (miOf m).rows.length = m.rows.length := List.length_map ..
 have a1 : decide ((miOf m).rows.length = 0) = false := decide_eq_false (by omega)
 have a2 : decide (200 < (miOf m).rows.length) = false := decide_eq_false (by omega)
 have a3 : decide (¬ (miOf m).acc.length = (miOf m).rows.length) = false := decide_eq_false (by show ¬ ¬ m.acc.length = _; omega)
 have a4 : isSrt (miOf m).names = true := e4
 have a5 : decide (¬ (cptB (miOf m).names).length = (miOf m).names.length) = false := decide_eq_false (by show ¬ ¬ (cptB m.names).length = m.names.length; rw [compact_srt hs]; simp)
 have a6 : ((miOf m).rows.any fun r => badRow (miOf m).names.length (miOf m).rows.length r.l) = false := e5
 unfold chkI
 rw [a1, a2, a3, a4, a5, a6]
 rfl
theorem chkM_s {w0 : World} {H : List (Nat × Obj)} (m : Mc) (hm : McOk w0 H m) (hp : PMok m.pl) (hs : Srt m.names) (hl : m.names.length ≤ 100) :
  FSpec Tryz.prog w0 18 #[.agg (encMc m).toArray] H (Still (.bool true) H) := by
 have h := still_b (chk_yes hp hs) (pcheck_s (miOf m) (miOf_ok hm hp hl))
 rw [miOf_enc] at h
 exact h
theorem sM_ok : PMok sM := by
 have := (Db (e := sX) (by decide) (by rw [sX_build])).1
 rw [sX_build] at this; exact this
theorem sM_srt : Srt sM.names := by
 have := (Db (e := sX) (by decide) (by rw [sX_build])).2
 rw [sX_build] at this; exact this
end Go.Proofs.YtkdolgnpkjihpaaGreatDoor
namespace Go.Proofs.YtkdolgnpkjihpaaGreatDoor
open _root_.Go.Proofs.Tryz
open Go.RowKit
set_option linter.unusedVariables false
set_option linter.unusedSimpArgs false
theorem bd58_0_1 (a0 : Option Addr) (a0n a0c : Nat) (a1 : Int) (w : World) : (Instr.build 58 #[(0, .slice a0 a0n a0c), (1, .int .i64 a1)]).run Tryz.prog w = .ok (.agg #[.slice a0 a0n a0c, .int .i64 a1]) w := by kernel_rfl
theorem bd58_1 (a0 : Int) (w : World) : (Instr.build 58 #[(1, .int .i64 a0)]).run Tryz.prog w = .ok (.agg #[.slice none 0 0, .int .i64 a0]) w := by kernel_rfl
theorem B9 (a0 : Int) (a1 : ByteArray) (a2 : Option Addr) (a2n a2c : Nat) (w : World) : (Instr.buildSlice 22 1 #[(0, .agg #[.int .i64 a0, .string a1, .slice a2 a2n a2c])]).run Tryz.prog w = .ok (.slice (some ⟨w.heap.size, 0, none⟩) 1 1) (w.alloc (Cl [.int .i64 a0, .string a1, .slice a2 a2n a2c] 24)) := by kernel_rfl
theorem bs25_2_0_1 (a0 : ByteArray) (a1 : ByteArray) (w : World) : (Instr.buildSlice 25 2 #[(0, .string a0), (1, .string a1)]).run Tryz.prog w = .ok (.slice (some ⟨w.heap.size, 0, none⟩) 2 2) (w.alloc (Cl [.string a0, .string a1] 9)) := by kernel_rfl
theorem bs25_3_0_1_2 (a0 : ByteArray) (a1 : ByteArray) (a2 : ByteArray) (w : World) : (Instr.buildSlice 25 3 #[(0, .string a0), (1, .string a1), (2, .string a2)]).run Tryz.prog w = .ok (.slice (some ⟨w.heap.size, 0, none⟩) 3 3) (w.alloc (Cl [.string a0, .string a1, .string a2] 9)) := by kernel_rfl
theorem bs42_3_0_1_2 (a0 : Int) (a1 : Int) (a2 : Int) (w : World) : (Instr.buildSlice 42 3 #[(0, .int .i64 a0), (1, .int .i64 a1), (2, .int .i64 a2)]).run Tryz.prog w = .ok (.slice (some ⟨w.heap.size, 0, none⟩) 3 3) (w.alloc (Cl [.int .i64 a0, .int .i64 a1, .int .i64 a2] 3)) := by kernel_rfl
theorem still_v {P : Program} {w0 : World} {f : FuncId} {args : Array Value} {H : List (Nat × Obj)} {b c : Value} (e : b = c) (h : FSpec P w0 f args H (Still b H)) : FSpec P w0 f args H (Still c H) := e ▸ h
theorem rxx_own {w0 : World} {H H' : List (Nat × Obj)} {n27 n31 n34 n37 : Nat} (h1 : Fnd H n27 (Cl (encRx (.mk 3 ⟨#[]⟩ none 0 [])) 24)) (h2 : Fnd H n31 (Cl (encRx (.mk 2 ⟨#[97]⟩ none 0 []) ++ encRx (.mk 6 ⟨#[]⟩ (some ⟨n27, 0, none⟩) 1 [(.mk 3 ⟨#[]⟩ none 0 [])])) 24)) (h3 : Fnd H n34 (Cl (encRx (.mk 4 ⟨#[]⟩ (some ⟨n31, 0, none⟩) 2 [(.mk 2 ⟨#[97]⟩ none 0 []), (.mk 6 ⟨#[]⟩ (some ⟨n27, 0, none⟩) 1 [(.mk 3 ⟨#[]⟩ none 0 [])])]) ++ encRx (.mk 2 ⟨#[99]⟩ none 0 [])) 24)) (h4 : Fnd H n37 (Cl (encRx (.mk 4 ⟨#[]⟩ (some ⟨n34, 0, none⟩) 2 [(.mk 4 ⟨#[]⟩ (some ⟨n31, 0, none⟩) 2 [(.mk 2 ⟨#[97]⟩ none 0 []), (.mk 6 ⟨#[]⟩ (some ⟨n27, 0, none⟩) 1 [(.mk 3 ⟨#[]⟩ none 0 [])])]), (.mk 2 ⟨#[99]⟩ none 0 [])]) ++ encRx (.mk 6 ⟨#[]⟩ (some ⟨n27, 0, none⟩) 1 [(.mk 3 ⟨#[]⟩ none 0 [])])) 24)) (hs : H.Sublist H') : RxM w0 H' (.mk 4 ⟨#[]⟩ (some ⟨n37, 0, none⟩) 2 [(.mk 4 ⟨#[]⟩ (some ⟨n34, 0, none⟩) 2 [(.mk 4 ⟨#[]⟩ (some ⟨n31, 0, none⟩) 2 [(.mk 2 ⟨#[97]⟩ none 0 []), (.mk 6 ⟨#[]⟩ (some ⟨n27, 0, none⟩) 1 [(.mk 3 ⟨#[]⟩ none 0 [])])]), (.mk 2 ⟨#[99]⟩ none 0 [])]), (.mk 6 ⟨#[]⟩ (some ⟨n27, 0, none⟩) 1 [(.mk 3 ⟨#[]⟩ none 0 [])])]) :=
 (rx2 (rx2 (rx2 rx0 (rx1 rx0 h1) h2) rx0 h3) (rx1 rx0 h1) h4).mono hs
theorem sRe' {m : Mc} (h : m.pl = sM) (n1 n2 n3 : Nat) : decide (RefOk (exN n1 n2 n3) ⟨none, 0, [], -1⟩ m.pl 1 3 ([(0, 2), (1, 2), (2, 2), (3, 2)].map toI)) = true := by rw [h]; exact sRe n1 n2 n3 _ _
set_option maxHeartbeats 2000000 in
theorem sanity_s {w0 : World} {H : List (Nat × Obj)}  :
  FSpec Tryz.prog w0 11 #[] H (Still (.bool true) H) := by
 refine A9 Tryz.func11 E ntmps11 E (Ag (Ab (y_ (Ad Aj) (Af (Ae (Ag (Ab (e_ (A1 .nil call43 (example_s)) ?_ E))))) E)))
 rintro _ _ ⟨⟨x1, x2, x3⟩, rfl, rfl⟩
 refine e_ (A5 zeroValue56 cs_) ?_ E
 rintro _ _ ⟨n1, rfl, rfl⟩
 first | refine Bk (A7 (T E) (T E) sizeOf56) E Ah ?_
 rintro _ _ ⟨rfl, rfl⟩
 refine Af (Ae (Ag (Ab (y_ (Av .nil call44 (fun H' hs => some_s)) (e_ (Ap (.cons (T E) .nil) (B9 _ _ _ _ _)) ?_ E) E))))
 rintro _ _ ⟨n27, rfl, rfl⟩
 refine y_ (Av (.cons Aj (.cons (T E) .nil)) call26 (fun H' hs => Cr 6 (some ⟨n27, 0, none⟩) [(.mk 3 ⟨#[]⟩ none 0 [])] 1)) (e_ (A5 zeroValue24 cs_) ?_ E) E
 rintro _ _ ⟨n2, rfl, rfl⟩
 first | refine Bk (A7 (T E) (T E) sizeOf24) E Ah ?_
 rintro _ _ ⟨rfl, rfl⟩
 refine Af (Ae ?_)
 refine j_cutC (X := Nat × Nat × Nat × Nat) (V := fun ⟨n3, n31, n34, n37⟩ => [(3, .pointer (some ⟨n3, 0, none⟩))]) (C := [(1, _), (2, _)]) (G := fun ⟨n3, n31, n34, n37⟩ => (n3, Cl (encRx (.mk 4 ⟨#[]⟩ (some ⟨n37, 0, none⟩) 2 [(.mk 4 ⟨#[]⟩ (some ⟨n34, 0, none⟩) 2 [(.mk 4 ⟨#[]⟩ (some ⟨n31, 0, none⟩) 2 [(.mk 2 ⟨#[97]⟩ none 0 []), (.mk 6 ⟨#[]⟩ (some ⟨n27, 0, none⟩) 1 [(.mk 3 ⟨#[]⟩ none 0 [])])]), (.mk 2 ⟨#[99]⟩ none 0 [])]), (.mk 6 ⟨#[]⟩ (some ⟨n27, 0, none⟩) 1 [(.mk 3 ⟨#[]⟩ none 0 [])])])) 24) :: (n37, Cl (encRx (.mk 4 ⟨#[]⟩ (some ⟨n34, 0, none⟩) 2 [(.mk 4 ⟨#[]⟩ (some ⟨n31, 0, none⟩) 2 [(.mk 2 ⟨#[97]⟩ none 0 []), (.mk 6 ⟨#[]⟩ (some ⟨n27, 0, none⟩) 1 [(.mk 3 ⟨#[]⟩ none 0 [])])]), (.mk 2 ⟨#[99]⟩ none 0 [])]) ++ encRx (.mk 6 ⟨#[]⟩ (some ⟨n27, 0, none⟩) 1 [(.mk 3 ⟨#[]⟩ none 0 [])])) 24) :: (n34, Cl (encRx (.mk 4 ⟨#[]⟩ (some ⟨n31, 0, none⟩) 2 [(.mk 2 ⟨#[97]⟩ none 0 []), (.mk 6 ⟨#[]⟩ (some ⟨n27, 0, none⟩) 1 [(.mk 3 ⟨#[]⟩ none 0 [])])]) ++ encRx (.mk 2 ⟨#[99]⟩ none 0 [])) 24) :: (n31, Cl (encRx (.mk 2 ⟨#[97]⟩ none 0 []) ++ encRx (.mk 6 ⟨#[]⟩ (some ⟨n27, 0, none⟩) 1 [(.mk 3 ⟨#[]⟩ none 0 [])])) 24) :: (n2, Cl (encRx (.mk 6 ⟨#[]⟩ (some ⟨n27, 0, none⟩) 1 [(.mk 3 ⟨#[]⟩ none 0 [])])) 24) :: (n27, Cl (encRx (.mk 3 ⟨#[]⟩ none 0 [])) 24) :: (n1, Cl (encNn (exN x1 x2 x3)) 56) :: (x3, Cl (exEdges.flatMap encE) 154) :: (x2, Cl (exLinks.flatMap encLn) 71) :: (x1, Cl (exK 4) 138) :: H) (φ := fun ⟨n3, n31, n34, n37⟩ => True) ⟨Aa rfl, Aa rfl, trivial⟩ ?_ ?_
 ·refine j_anyX 11 _ mixd (by kernel_rfl) sb0 ?_
  refine x_y (i := 0) E (by kernel_rfl) (Av (.cons Aj .nil) call45 (fun H' hs => node_s ⟨#[97]⟩)) ?_ E Ah
  refine x_y (i := 1) E (by kernel_rfl) (Am (T E) isAgg24 sizeOf24 E (by first | exact Bb)) ?_ E Ah
  refine x_y (i := 7) E (by kernel_rfl) (Am (T E) isAgg24 sizeOf24 E (by first | exact Bb)) ?_ E Ah
  refine C4 (i := 2) (j := 10) (by kernel_rfl) (by kernel_rfl) ?_ ?_
  ·refine B3 E (Ap (.cons (T E) (.cons (T E) .nil)) (Ce _ _ _ _ _ _ _ _ _ _)) ?_ E Ah
   rintro _ _ ⟨n31, rfl, rfl⟩
   refine ⟨sbt, (x_y (i := 3) E (by kernel_rfl) (Av (.cons Aj (.cons (T E) .nil)) call26 (fun H' hs => Cr 4 (some ⟨n31, 0, none⟩) [(.mk 2 ⟨#[97]⟩ none 0 []), (.mk 6 ⟨#[]⟩ (some ⟨n27, 0, none⟩) 1 [(.mk 3 ⟨#[]⟩ none 0 [])])] 2)) ?_ E Ah)⟩
   refine x_y (i := 4) E (by kernel_rfl) (Av (.cons Aj .nil) call45 (fun H' hs => node_s ⟨#[99]⟩)) ?_ E Ah
   refine C4 (i := 5) (j := 10) (by kernel_rfl) (by kernel_rfl) ?_ ?_
   ·refine B3 E (Ap (.cons (T E) (.cons (T E) .nil)) (Ce _ _ _ _ _ _ _ _ _ _)) ?_ E Ah
    rintro _ _ ⟨n34, rfl, rfl⟩
    refine ⟨sbt, (x_y (i := 6) E (by kernel_rfl) (Av (.cons Aj (.cons (T E) .nil)) call26 (fun H' hs => Cr 4 (some ⟨n34, 0, none⟩) [(.mk 4 ⟨#[]⟩ (some ⟨n31, 0, none⟩) 2 [(.mk 2 ⟨#[97]⟩ none 0 []), (.mk 6 ⟨#[]⟩ (some ⟨n27, 0, none⟩) 1 [(.mk 3 ⟨#[]⟩ none 0 [])])]), (.mk 2 ⟨#[99]⟩ none 0 [])] 2)) ?_ E Ah)⟩
    refine C4 (i := 8) (j := 10) (by kernel_rfl) (by kernel_rfl) ?_ ?_
    ·refine B3 E (Ap (.cons (T E) (.cons (T E) .nil)) (Ce _ _ _ _ _ _ _ _ _ _)) ?_ E Ah
     rintro _ _ ⟨n37, rfl, rfl⟩
     refine ⟨sbt, (x_y (i := 9) E (by kernel_rfl) (Av (.cons Aj (.cons (T E) .nil)) call26 (fun H' hs => Cr 4 (some ⟨n37, 0, none⟩) [(.mk 4 ⟨#[]⟩ (some ⟨n34, 0, none⟩) 2 [(.mk 4 ⟨#[]⟩ (some ⟨n31, 0, none⟩) 2 [(.mk 2 ⟨#[97]⟩ none 0 []), (.mk 6 ⟨#[]⟩ (some ⟨n27, 0, none⟩) 1 [(.mk 3 ⟨#[]⟩ none 0 [])])]), (.mk 2 ⟨#[99]⟩ none 0 [])]), (.mk 6 ⟨#[]⟩ (some ⟨n27, 0, none⟩) 1 [(.mk 3 ⟨#[]⟩ none 0 [])])] 2)) ?_ E Ah)⟩
     refine B6 (i := 10) (by kernel_rfl) (by kernel_rfl) ?_
     refine B3 E (A5 zeroValue24 cs_) ?_ E Ah
     rintro _ _ ⟨n3, rfl, rfl⟩
     refine ⟨sbt, (Cq (by kernel_rfl) E ?_)⟩
     first | refine Bk (A7 (T E) (T E) sizeOf24) E Ah ?_
     rintro _ _ ⟨rfl, rfl⟩
     refine Af ?_
     first | (refine Bw ((n3, n31, n34, n37)) ?_ ⟨(by first | exact Aa E | (refine Ak (Aa E) (vint ?_); omega) | (refine Ak (Aa E) ?_; simp; done)), trivial⟩ ⟨Aa E, Aa E, trivial⟩ (List.Sublist.refl _)) | (refine Cn (List.Perm.swap _ _ _) ?_; refine Bw ((n3, n31, n34, n37)) ?_ ⟨(by first | exact Aa E | (refine Ak (Aa E) (vint ?_); omega) | (refine Ak (Aa E) ?_; simp; done)), trivial⟩ ⟨Aa E, Aa E, trivial⟩ (List.Sublist.refl _)) | (refine Cn ((List.Perm.cons _ (List.Perm.swap _ _ _)).trans (List.Perm.swap _ _ _)) ?_; refine Bw ((n3, n31, n34, n37)) ?_ ⟨(by first | exact Aa E | (refine Ak (Aa E) (vint ?_); omega) | (refine Ak (Aa E) ?_; simp; done)), trivial⟩ ⟨Aa E, Aa E, trivial⟩ (List.Sublist.refl _)) | (refine Cn ((List.Perm.cons _ (List.Perm.cons _ (List.Perm.swap _ _ _))).trans ((List.Perm.cons _ (List.Perm.swap _ _ _)).trans (List.Perm.swap _ _ _))) ?_; refine Bw ((n3, n31, n34, n37)) ?_ ⟨(by first | exact Aa E | (refine Ak (Aa E) (vint ?_); omega) | (refine Ak (Aa E) ?_; simp; done)), trivial⟩ ⟨Aa E, Aa E, trivial⟩ (List.Sublist.refl _))
     trivial
    ·refine B3 E (A5 zeroValue24 cs_) ?_ E Ah
     rintro _ _ ⟨n3, rfl, rfl⟩
     refine ⟨sbt, (B6 (i := 8) (by kernel_rfl) (by kernel_rfl) ?_)⟩
     refine B3 E (Ap (.cons (T E) (.cons (T E) .nil)) (Ce _ _ _ _ _ _ _ _ _ _)) ?_ E Ah
     rintro _ _ ⟨n37, rfl, rfl⟩
     refine ⟨sbt, (x_y (i := 9) E (by kernel_rfl) (Av (.cons Aj (.cons (T E) .nil)) call26 (fun H' hs => Cr 4 (some ⟨n37, 0, none⟩) [(.mk 4 ⟨#[]⟩ (some ⟨n34, 0, none⟩) 2 [(.mk 4 ⟨#[]⟩ (some ⟨n31, 0, none⟩) 2 [(.mk 2 ⟨#[97]⟩ none 0 []), (.mk 6 ⟨#[]⟩ (some ⟨n27, 0, none⟩) 1 [(.mk 3 ⟨#[]⟩ none 0 [])])]), (.mk 2 ⟨#[99]⟩ none 0 [])]), (.mk 6 ⟨#[]⟩ (some ⟨n27, 0, none⟩) 1 [(.mk 3 ⟨#[]⟩ none 0 [])])] 2)) ?_ E Ah)⟩
     refine Cq (by kernel_rfl) E ?_
     first | refine Bk (A7 (T E) (T E) sizeOf24) E Ah ?_
     rintro _ _ ⟨rfl, rfl⟩
     refine Af ?_
     first | (refine Bw ((n3, n31, n34, n37)) ?_ ⟨(by first | exact Aa E | (refine Ak (Aa E) (vint ?_); omega) | (refine Ak (Aa E) ?_; simp; done)), trivial⟩ ⟨Aa E, Aa E, trivial⟩ (List.Sublist.refl _)) | (refine Cn (List.Perm.swap _ _ _) ?_; refine Bw ((n3, n31, n34, n37)) ?_ ⟨(by first | exact Aa E | (refine Ak (Aa E) (vint ?_); omega) | (refine Ak (Aa E) ?_; simp; done)), trivial⟩ ⟨Aa E, Aa E, trivial⟩ (List.Sublist.refl _)) | (refine Cn ((List.Perm.cons _ (List.Perm.swap _ _ _)).trans (List.Perm.swap _ _ _)) ?_; refine Bw ((n3, n31, n34, n37)) ?_ ⟨(by first | exact Aa E | (refine Ak (Aa E) (vint ?_); omega) | (refine Ak (Aa E) ?_; simp; done)), trivial⟩ ⟨Aa E, Aa E, trivial⟩ (List.Sublist.refl _)) | (refine Cn ((List.Perm.cons _ (List.Perm.cons _ (List.Perm.swap _ _ _))).trans ((List.Perm.cons _ (List.Perm.swap _ _ _)).trans (List.Perm.swap _ _ _))) ?_; refine Bw ((n3, n31, n34, n37)) ?_ ⟨(by first | exact Aa E | (refine Ak (Aa E) (vint ?_); omega) | (refine Ak (Aa E) ?_; simp; done)), trivial⟩ ⟨Aa E, Aa E, trivial⟩ (List.Sublist.refl _))
     trivial
   ·refine B3 E (A5 zeroValue24 cs_) ?_ E Ah
    rintro _ _ ⟨n3, rfl, rfl⟩
    refine ⟨sbt, (B6 (i := 5) (by kernel_rfl) (by kernel_rfl) ?_)⟩
    refine B3 E (Ap (.cons (T E) (.cons (T E) .nil)) (Ce _ _ _ _ _ _ _ _ _ _)) ?_ E Ah
    rintro _ _ ⟨n34, rfl, rfl⟩
    refine ⟨sbt, (x_y (i := 6) E (by kernel_rfl) (Av (.cons Aj (.cons (T E) .nil)) call26 (fun H' hs => Cr 4 (some ⟨n34, 0, none⟩) [(.mk 4 ⟨#[]⟩ (some ⟨n31, 0, none⟩) 2 [(.mk 2 ⟨#[97]⟩ none 0 []), (.mk 6 ⟨#[]⟩ (some ⟨n27, 0, none⟩) 1 [(.mk 3 ⟨#[]⟩ none 0 [])])]), (.mk 2 ⟨#[99]⟩ none 0 [])] 2)) ?_ E Ah)⟩
    refine B6 (i := 8) (by kernel_rfl) (by kernel_rfl) ?_
    refine B3 E (Ap (.cons (T E) (.cons (T E) .nil)) (Ce _ _ _ _ _ _ _ _ _ _)) ?_ E Ah
    rintro _ _ ⟨n37, rfl, rfl⟩
    refine ⟨sbt, (x_y (i := 9) E (by kernel_rfl) (Av (.cons Aj (.cons (T E) .nil)) call26 (fun H' hs => Cr 4 (some ⟨n37, 0, none⟩) [(.mk 4 ⟨#[]⟩ (some ⟨n34, 0, none⟩) 2 [(.mk 4 ⟨#[]⟩ (some ⟨n31, 0, none⟩) 2 [(.mk 2 ⟨#[97]⟩ none 0 []), (.mk 6 ⟨#[]⟩ (some ⟨n27, 0, none⟩) 1 [(.mk 3 ⟨#[]⟩ none 0 [])])]), (.mk 2 ⟨#[99]⟩ none 0 [])]), (.mk 6 ⟨#[]⟩ (some ⟨n27, 0, none⟩) 1 [(.mk 3 ⟨#[]⟩ none 0 [])])] 2)) ?_ E Ah)⟩
    refine Cq (by kernel_rfl) E ?_
    first | refine Bk (A7 (T E) (T E) sizeOf24) E Ah ?_
    rintro _ _ ⟨rfl, rfl⟩
    refine Af ?_
    first | (refine Bw ((n3, n31, n34, n37)) ?_ ⟨(by first | exact Aa E | (refine Ak (Aa E) (vint ?_); omega) | (refine Ak (Aa E) ?_; simp; done)), trivial⟩ ⟨Aa E, Aa E, trivial⟩ (List.Sublist.refl _)) | (refine Cn (List.Perm.swap _ _ _) ?_; refine Bw ((n3, n31, n34, n37)) ?_ ⟨(by first | exact Aa E | (refine Ak (Aa E) (vint ?_); omega) | (refine Ak (Aa E) ?_; simp; done)), trivial⟩ ⟨Aa E, Aa E, trivial⟩ (List.Sublist.refl _)) | (refine Cn ((List.Perm.cons _ (List.Perm.swap _ _ _)).trans (List.Perm.swap _ _ _)) ?_; refine Bw ((n3, n31, n34, n37)) ?_ ⟨(by first | exact Aa E | (refine Ak (Aa E) (vint ?_); omega) | (refine Ak (Aa E) ?_; simp; done)), trivial⟩ ⟨Aa E, Aa E, trivial⟩ (List.Sublist.refl _)) | (refine Cn ((List.Perm.cons _ (List.Perm.cons _ (List.Perm.swap _ _ _))).trans ((List.Perm.cons _ (List.Perm.swap _ _ _)).trans (List.Perm.swap _ _ _))) ?_; refine Bw ((n3, n31, n34, n37)) ?_ ⟨(by first | exact Aa E | (refine Ak (Aa E) (vint ?_); omega) | (refine Ak (Aa E) ?_; simp; done)), trivial⟩ ⟨Aa E, Aa E, trivial⟩ (List.Sublist.refl _))
    trivial
  ·refine B3 E (A5 zeroValue24 cs_) ?_ E Ah
   rintro _ _ ⟨n3, rfl, rfl⟩
   refine ⟨sbt, (B6 (i := 2) (by kernel_rfl) (by kernel_rfl) ?_)⟩
   refine B3 E (Ap (.cons (T E) (.cons (T E) .nil)) (Ce _ _ _ _ _ _ _ _ _ _)) ?_ E Ah
   rintro _ _ ⟨n31, rfl, rfl⟩
   refine ⟨sbt, (x_y (i := 3) E (by kernel_rfl) (Av (.cons Aj (.cons (T E) .nil)) call26 (fun H' hs => Cr 4 (some ⟨n31, 0, none⟩) [(.mk 2 ⟨#[97]⟩ none 0 []), (.mk 6 ⟨#[]⟩ (some ⟨n27, 0, none⟩) 1 [(.mk 3 ⟨#[]⟩ none 0 [])])] 2)) ?_ E Ah)⟩
   refine x_y (i := 4) E (by kernel_rfl) (Av (.cons Aj .nil) call45 (fun H' hs => node_s ⟨#[99]⟩)) ?_ E Ah
   refine B6 (i := 5) (by kernel_rfl) (by kernel_rfl) ?_
   refine B3 E (Ap (.cons (T E) (.cons (T E) .nil)) (Ce _ _ _ _ _ _ _ _ _ _)) ?_ E Ah
   rintro _ _ ⟨n34, rfl, rfl⟩
   refine ⟨sbt, (x_y (i := 6) E (by kernel_rfl) (Av (.cons Aj (.cons (T E) .nil)) call26 (fun H' hs => Cr 4 (some ⟨n34, 0, none⟩) [(.mk 4 ⟨#[]⟩ (some ⟨n31, 0, none⟩) 2 [(.mk 2 ⟨#[97]⟩ none 0 []), (.mk 6 ⟨#[]⟩ (some ⟨n27, 0, none⟩) 1 [(.mk 3 ⟨#[]⟩ none 0 [])])]), (.mk 2 ⟨#[99]⟩ none 0 [])] 2)) ?_ E Ah)⟩
   refine B6 (i := 8) (by kernel_rfl) (by kernel_rfl) ?_
   refine B3 E (Ap (.cons (T E) (.cons (T E) .nil)) (Ce _ _ _ _ _ _ _ _ _ _)) ?_ E Ah
   rintro _ _ ⟨n37, rfl, rfl⟩
   refine ⟨sbt, (x_y (i := 9) E (by kernel_rfl) (Av (.cons Aj (.cons (T E) .nil)) call26 (fun H' hs => Cr 4 (some ⟨n37, 0, none⟩) [(.mk 4 ⟨#[]⟩ (some ⟨n34, 0, none⟩) 2 [(.mk 4 ⟨#[]⟩ (some ⟨n31, 0, none⟩) 2 [(.mk 2 ⟨#[97]⟩ none 0 []), (.mk 6 ⟨#[]⟩ (some ⟨n27, 0, none⟩) 1 [(.mk 3 ⟨#[]⟩ none 0 [])])]), (.mk 2 ⟨#[99]⟩ none 0 [])]), (.mk 6 ⟨#[]⟩ (some ⟨n27, 0, none⟩) 1 [(.mk 3 ⟨#[]⟩ none 0 [])])] 2)) ?_ E Ah)⟩
   refine Cq (by kernel_rfl) E ?_
   first | refine Bk (A7 (T E) (T E) sizeOf24) E Ah ?_
   rintro _ _ ⟨rfl, rfl⟩
   refine Af ?_
   first | (refine Bw ((n3, n31, n34, n37)) ?_ ⟨(by first | exact Aa E | (refine Ak (Aa E) (vint ?_); omega) | (refine Ak (Aa E) ?_; simp; done)), trivial⟩ ⟨Aa E, Aa E, trivial⟩ (List.Sublist.refl _)) | (refine Cn (List.Perm.swap _ _ _) ?_; refine Bw ((n3, n31, n34, n37)) ?_ ⟨(by first | exact Aa E | (refine Ak (Aa E) (vint ?_); omega) | (refine Ak (Aa E) ?_; simp; done)), trivial⟩ ⟨Aa E, Aa E, trivial⟩ (List.Sublist.refl _)) | (refine Cn ((List.Perm.cons _ (List.Perm.swap _ _ _)).trans (List.Perm.swap _ _ _)) ?_; refine Bw ((n3, n31, n34, n37)) ?_ ⟨(by first | exact Aa E | (refine Ak (Aa E) (vint ?_); omega) | (refine Ak (Aa E) ?_; simp; done)), trivial⟩ ⟨Aa E, Aa E, trivial⟩ (List.Sublist.refl _)) | (refine Cn ((List.Perm.cons _ (List.Perm.cons _ (List.Perm.swap _ _ _))).trans ((List.Perm.cons _ (List.Perm.swap _ _ _)).trans (List.Perm.swap _ _ _))) ?_; refine Bw ((n3, n31, n34, n37)) ?_ ⟨(by first | exact Aa E | (refine Ak (Aa E) (vint ?_); omega) | (refine Ak (Aa E) ?_; simp; done)), trivial⟩ ⟨Aa E, Aa E, trivial⟩ (List.Sublist.refl _))
   trivial
 rintro ⟨n3, n31, n34, n37⟩ _
 refine Ag (Ab (y_ (Am (T E) isAgg24 sizeOf24 E (by first | exact Bb)) ?_ E))
 refine e_ (A1 (.cons (T E) .nil) call12 (buildM_s (e := sX) (.mk 4 ⟨#[]⟩ (some ⟨n37, 0, none⟩) 2 [(.mk 4 ⟨#[]⟩ (some ⟨n34, 0, none⟩) 2 [(.mk 4 ⟨#[]⟩ (some ⟨n31, 0, none⟩) 2 [(.mk 2 ⟨#[97]⟩ none 0 []), (.mk 6 ⟨#[]⟩ (some ⟨n27, 0, none⟩) 1 [(.mk 3 ⟨#[]⟩ none 0 [])])]), (.mk 2 ⟨#[99]⟩ none 0 [])]), (.mk 6 ⟨#[]⟩ (some ⟨n27, 0, none⟩) 1 [(.mk 3 ⟨#[]⟩ none 0 [])])]) (.seq (.seq (.seq (.nod (by decide)) (.star .any)) (.nod (by decide))) (.star .any)) (rx2 (rx2 (rx2 rx0 (rx1 rx0)) rx0) (rx1 rx0)) (by decide) sX_build)) ?_ E
 rintro _ _ ⟨m1, M1, ⟨rfl, hp1, hm1⟩, rfl⟩
 have hr1 : m1.rows.length = 4 := by have := congrArg (fun p => p.next.length) hp1; simpa [Mc.pl, sM] using this
 have hk1 : PMok m1.pl := by rw [hp1]; exact sM_ok
 have hs1 : Srt m1.names := by have := congrArg PM.names hp1; simp only [Mc.pl] at this; rw [this]; exact sM_srt
 have hn1 : m1.names.length = 2 := by have := congrArg (fun p => p.names.length) hp1; simpa [Mc.pl, sM] using this
 refine y_ (Ac (T E)) (y_ (Bf (T E) E) (y_ (Bf (T E) E) (e_ (A5 zeroValue29 cs_) ?_ E) E) E) E
 rintro _ _ ⟨n4, rfl, rfl⟩
 first | refine Bk (A7 (T E) (T E) sizeOf29) E Ah ?_
 rintro _ _ ⟨rfl, rfl⟩
 refine y_ (Ad (T E)) (Af (Ae (Ag (Ab (y_ (Am (T E) isAgg24 sizeOf24 E (by first | exact Bb)) ?_ E))))) E
 refine e_ (A1 (.cons (T E) .nil) call12 (buildM_s (e := sany) (.mk 6 ⟨#[]⟩ (some ⟨n27, 0, none⟩) 1 [(.mk 3 ⟨#[]⟩ none 0 [])]) (.star .any) (rx1 rx0) (by decide) sA_build)) ?_ E
 rintro _ _ ⟨m2, M2, ⟨rfl, hp2, hm2⟩, rfl⟩
 have hr2 : m2.rows.length = 1 := by have := congrArg (fun p => p.next.length) hp2; simpa [Mc.pl] using this
 refine y_ (Ac (T E)) (y_ (Bf (T E) E) (y_ (Bf (T E) E) (e_ (A5 zeroValue29 cs_) ?_ E) E) E) E
 rintro _ _ ⟨n6, rfl, rfl⟩
 first | refine Bk (A7 (T E) (T E) sizeOf29) E Ah ?_
 rintro _ _ ⟨rfl, rfl⟩
 refine y_ (Ad (T E)) (Af (Ae (Ag (Ag (Ab (y_ (Ac (T E)) (y_ (Cu (T E) Aj) (y_ (Ac (T E)) (Ax (Ac (T E)) E (Ao E E (Aa E)) (Ax (Cu (T E) Aj) E (Ao E E (Aa E)) (y_ (Au (T E) (T E)) (y_ (Ac (T E)) (Ax (Bi (T E) Cv) E (Ao E E (Aa E)) (Ax (Ai (T E) isAgg26 (by first | exact c_o)) E (Ao E E (Aa E)) ?_)) E) E))) E) E) E)))))) E
 refine Ax (Bp (T E) runUnderlying26) E (Ao E E (Aa E)) (Ax (Cu (T E) Aj) E (Ao E E (Aa E)) (y_ (Au (T E) (T E)) (y_ (Ac (T E)) ?_ E) E))
 first | refine Bz (s := 61) (Aa E) (fun c61 => ?_) (fun c61 => ?_) | refine Cf (s := 61) (Aa E) (fun c61 => ?_) (fun c61 => ?_)
 ·exfalso; omega
 ·refine Ax (Bi (T E) Cv) E (Ao E E (Aa E)) (Ax (Ai (T E) isAgg26 (by first | exact c_o)) E (Ao E E (Aa E)) ?_)
  refine Ax (Bp (T E) runUnderlying26) E (Ao E E (Aa E)) (Ax (Cu (T E) Aj) E (Ao E E (Aa E)) (y_ (Au (T E) (T E)) (y_ (Ac (T E)) ?_ E) E))
  first | refine Bz (s := 67) (Aa E) (fun c67 => ?_) (fun c67 => ?_) | refine Cf (s := 67) (Aa E) (fun c67 => ?_) (fun c67 => ?_)
  ·exfalso; omega
  ·refine Ax (Am (T E) isAgg29 sizeOf29 E (by first | exact Bb)) E (Ao E E (Aa E)) ?_
   refine Ax (Av (.cons (T E) .nil) call18 (fun H' hs => chkM_s m1 (hm1.mono (List.Sublist.trans sbt hs)) hk1 hs1 (by omega))) E (Ao E E (Aa E)) ?_
   refine Ax (Co (T E)) E (Ao E E (Aa E)) (y_ (Au (T E) (T E)) (y_ (Ac (T E)) (Ax (B1 .nil (bd29_z)) E (Ao E E (Aa E)) (Ax (Av (.cons (T E) .nil) call18 (fun H' hs => still_b (c := false) (b := chkI ⟨[], [], [], none, 0, none, 0, none, 0⟩) (by decide) (pcheck_s ⟨[], [], [], none, 0, none, 0, none, 0⟩ ⟨fun i x hi => (by cases hi), fun i x hi => (by cases hi), fun i x hi => (by cases hi), fun r hr => (by cases hr), by decide, by decide, fun r hr => (by cases hr)⟩))) E (Ao E E (Aa E)) ?_)) E) E)
   refine y_ (Au (T E) (T E)) (y_ (Ac (T E)) (Ax (Am (T E) isAgg24 sizeOf24 E (by first | exact Bb)) E (Ao E E (Aa E)) ?_) E) E
   refine Bk (Ap (.cons Aj (.cons Aj .nil)) (bs25_2_0_1 _ _)) E (Ao E E (Aa E)) ?_
   rintro _ _ ⟨n78, rfl, rfl⟩
   refine Ax (Av (.cons (T rfl) (.cons (T rfl) .nil)) call16 (fun H' hs => still_b sM1 (match_s (.mk 4 ⟨#[]⟩ (some ⟨n37, 0, none⟩) 2 [(.mk 4 ⟨#[]⟩ (some ⟨n34, 0, none⟩) 2 [(.mk 4 ⟨#[]⟩ (some ⟨n31, 0, none⟩) 2 [(.mk 2 ⟨#[97]⟩ none 0 []), (.mk 6 ⟨#[]⟩ (some ⟨n27, 0, none⟩) 1 [(.mk 3 ⟨#[]⟩ none 0 [])])]), (.mk 2 ⟨#[99]⟩ none 0 [])]), (.mk 6 ⟨#[]⟩ (some ⟨n27, 0, none⟩) 1 [(.mk 3 ⟨#[]⟩ none 0 [])])]) sX (some ⟨n78, 0, none⟩) 2 [(⟨#[97]⟩ : ByteArray), (⟨#[99]⟩ : ByteArray)] (.seq (.seq (.seq (.nod (by decide)) (.star .any)) (.nod (by decide))) (.star .any)) (rxx_own (by repeat (first | exact By | refine As ?_ | refine Bd ?_)) (by repeat (first | exact By | refine As ?_ | refine Bd ?_)) (by repeat (first | exact By | refine As ?_ | refine Bd ?_)) (by repeat (first | exact By | refine As ?_ | refine Bd ?_)) hs) (by decide) (Dp (l := [(⟨#[97]⟩ : ByteArray), (⟨#[99]⟩ : ByteArray)]) (cells := ([(⟨#[97]⟩ : ByteArray), (⟨#[99]⟩ : ByteArray)]).flatMap encS) (e := 9) (fun _ => rfl) rfl (Fnd.mono (by repeat (first | exact By | refine As ?_ | refine Bd ?_)) hs)) (by decide)))) rfl (Ao rfl rfl (Aa rfl)) ?_
   refine Ax (Co (T E)) E (Ao E E (Aa E)) (y_ (Au (T E) (T E)) (y_ (Ac (T E)) (Ax (Am (T E) isAgg24 sizeOf24 E (by first | exact Bb)) E (Ao E E (Aa E)) ?_) E) E)
   refine Bk (Ap (.cons Aj (.cons Aj (.cons Aj .nil))) (bs25_3_0_1_2 _ _ _)) E (Ao E E (Aa E)) ?_
   rintro _ _ ⟨n84, rfl, rfl⟩
   refine Ax (Av (.cons (T rfl) (.cons (T rfl) .nil)) call16 (fun H' hs => still_b sM2 (match_s (.mk 4 ⟨#[]⟩ (some ⟨n37, 0, none⟩) 2 [(.mk 4 ⟨#[]⟩ (some ⟨n34, 0, none⟩) 2 [(.mk 4 ⟨#[]⟩ (some ⟨n31, 0, none⟩) 2 [(.mk 2 ⟨#[97]⟩ none 0 []), (.mk 6 ⟨#[]⟩ (some ⟨n27, 0, none⟩) 1 [(.mk 3 ⟨#[]⟩ none 0 [])])]), (.mk 2 ⟨#[99]⟩ none 0 [])]), (.mk 6 ⟨#[]⟩ (some ⟨n27, 0, none⟩) 1 [(.mk 3 ⟨#[]⟩ none 0 [])])]) sX (some ⟨n84, 0, none⟩) 3 [(⟨#[97]⟩ : ByteArray), (⟨#[98]⟩ : ByteArray), (⟨#[100]⟩ : ByteArray)] (.seq (.seq (.seq (.nod (by decide)) (.star .any)) (.nod (by decide))) (.star .any)) (rxx_own (by repeat (first | exact By | refine As ?_ | refine Bd ?_)) (by repeat (first | exact By | refine As ?_ | refine Bd ?_)) (by repeat (first | exact By | refine As ?_ | refine Bd ?_)) (by repeat (first | exact By | refine As ?_ | refine Bd ?_)) hs) (by decide) (Dp (l := [(⟨#[97]⟩ : ByteArray), (⟨#[98]⟩ : ByteArray), (⟨#[100]⟩ : ByteArray)]) (cells := ([(⟨#[97]⟩ : ByteArray), (⟨#[98]⟩ : ByteArray), (⟨#[100]⟩ : ByteArray)]).flatMap encS) (e := 9) (fun _ => rfl) rfl (Fnd.mono (by repeat (first | exact By | refine As ?_ | refine Bd ?_)) hs)) (by decide)))) rfl (Ao rfl rfl (Aa rfl)) ?_
   refine y_ (Au (T E) (T E)) (Af (Ae (Bh [(1, _), (3, _), (4, _), (86, _)] ⟨Aa E, Aa E, Aa E, Aa E, trivial⟩ ?_))) E
   first | refine Br (Aa E) ?_ | refine Br (Ak (Aa E) (vbool (decide_eq_false c86))) ?_
   refine A2 (Ae (Ag (Ab (y_ (Av (.cons Aj .nil) call45 (fun H' hs => node_s ⟨#[97]⟩)) (y_ (Av (.cons Aj .nil) call45 (fun H' hs => node_s ⟨#[98]⟩)) (e_ (A5 zeroValue24 cs_) ?_ E) E) E))))
   rintro _ _ ⟨n8, rfl, rfl⟩
   refine e_ (A5 zeroValue24 cs_) ?_ E
   rintro _ _ ⟨n9, rfl, rfl⟩
   first | refine Bk (A7 (T E) (T E) sizeOf24) E Ah ?_
   rintro _ _ ⟨rfl, rfl⟩
   first | refine Bk (A7 (T E) (T E) sizeOf24) E Ah ?_
   rintro _ _ ⟨rfl, rfl⟩
   refine Af (Ae ?_)
   refine j_cutH (X := Unit) (V := fun _ => [(11, .bool true), (12, .int .i64 0)]) (C := [(1, _), (3, _), (4, _), (8, _)]) (φ := fun _ => True) ⟨Aa E, Aa E, Aa E, Aa E, trivial⟩ ?_ ?_
   ·refine j_anyX 24 _ mixd (by kernel_rfl) sb0 ?_
    refine x_y (i := 0) E (by kernel_rfl) (Am (T E) isAgg24 sizeOf24 E (by first | exact Bb)) ?_ E Ah
    refine x_y (i := 1) E (by kernel_rfl) (Am (T E) isAgg24 sizeOf24 E (by first | exact Bb)) ?_ E Ah
    refine x_y (i := 6) E (by kernel_rfl) (Am (T E) isAgg24 sizeOf24 E (by first | exact Bb)) ?_ E Ah
    refine x_y (i := 9) E (by kernel_rfl) (Am (T E) isAgg24 sizeOf24 E (by first | exact Bb)) ?_ E Ah
    refine x_three (i := 2) (j := 7) (k := 10) (by kernel_rfl) (by kernel_rfl) ?_ ?_ ?_
    ·refine B3 E (Ap (.cons (T E) (.cons (T E) .nil)) (Ce _ _ _ _ _ _ _ _ _ _)) ?_ E Ah
     rintro _ _ ⟨n92, rfl, rfl⟩
     refine ⟨sbt, (x_y (i := 3) E (by kernel_rfl) (Av (.cons Aj (.cons (T E) .nil)) call26 (fun H' hs => Cr 5 (some ⟨n92, 0, none⟩) [(.mk 2 ⟨#[97]⟩ none 0 []), (.mk 2 ⟨#[98]⟩ none 0 [])] 2)) ?_ E Ah)⟩
     refine x_three (i := 4) (j := 7) (k := 10) (by kernel_rfl) (by kernel_rfl) ?_ ?_ ?_
     ·refine B3 E (Ap (.cons (T E) .nil) (B9 _ _ _ _ _)) ?_ E Ah
      rintro _ _ ⟨n94, rfl, rfl⟩
      refine ⟨sbt, (x_y (i := 5) E (by kernel_rfl) (Av (.cons Aj (.cons (T E) .nil)) call26 (fun H' hs => Cr 6 (some ⟨n94, 0, none⟩) [(.mk 5 ⟨#[]⟩ (some ⟨n92, 0, none⟩) 2 [(.mk 2 ⟨#[97]⟩ none 0 []), (.mk 2 ⟨#[98]⟩ none 0 [])])] 1)) ?_ E Ah)⟩
      refine C4 (i := 7) (j := 10) (by kernel_rfl) (by kernel_rfl) ?_ ?_
      ·refine B3 E (Ap (.cons (T E) .nil) (B9 _ _ _ _ _)) ?_ E Ah
       rintro _ _ ⟨n97, rfl, rfl⟩
       refine ⟨sbt, (x_y (i := 8) E (by kernel_rfl) (Av (.cons Aj (.cons (T E) .nil)) call26 (fun H' hs => Cr 6 (some ⟨n97, 0, none⟩) [(.mk 2 ⟨#[97]⟩ none 0 [])] 1)) ?_ E Ah)⟩
       refine B6 (i := 10) (by kernel_rfl) (by kernel_rfl) ?_
       refine B3 E (Ap (.cons (T E) .nil) (B9 _ _ _ _ _)) ?_ E Ah
       rintro _ _ ⟨n100, rfl, rfl⟩
       refine ⟨sbt, (x_y (i := 11) E (by kernel_rfl) (Av (.cons Aj (.cons (T E) .nil)) call26 (fun H' hs => Cr 6 (some ⟨n100, 0, none⟩) [(.mk 2 ⟨#[98]⟩ none 0 [])] 1)) ?_ E Ah)⟩
       refine B6 (i := 12) (by kernel_rfl) (by kernel_rfl) ?_
       refine B3 E (Ap (.cons (T E) (.cons (T E) .nil)) (Ce _ _ _ _ _ _ _ _ _ _)) ?_ E Ah
       rintro _ _ ⟨n102, rfl, rfl⟩
       refine ⟨sbt, (x_y (i := 13) E (by kernel_rfl) (Av (.cons Aj (.cons (T E) .nil)) call26 (fun H' hs => Cr 4 (some ⟨n102, 0, none⟩) [(.mk 6 ⟨#[]⟩ (some ⟨n97, 0, none⟩) 1 [(.mk 2 ⟨#[97]⟩ none 0 [])]), (.mk 6 ⟨#[]⟩ (some ⟨n100, 0, none⟩) 1 [(.mk 2 ⟨#[98]⟩ none 0 [])])] 2)) ?_ E Ah)⟩
       refine B6 (i := 14) (by kernel_rfl) (by kernel_rfl) ?_
       refine B3 E (Ap (.cons (T E) .nil) (B9 _ _ _ _ _)) ?_ E Ah
       rintro _ _ ⟨n104, rfl, rfl⟩
       refine ⟨sbt, (x_y (i := 15) E (by kernel_rfl) (Av (.cons Aj (.cons (T E) .nil)) call26 (fun H' hs => Cr 6 (some ⟨n104, 0, none⟩) [(.mk 4 ⟨#[]⟩ (some ⟨n102, 0, none⟩) 2 [(.mk 6 ⟨#[]⟩ (some ⟨n97, 0, none⟩) 1 [(.mk 2 ⟨#[97]⟩ none 0 [])]), (.mk 6 ⟨#[]⟩ (some ⟨n100, 0, none⟩) 1 [(.mk 2 ⟨#[98]⟩ none 0 [])])])] 1)) ?_ E Ah)⟩
       refine B6 (i := 16) (by kernel_rfl) (by kernel_rfl) ?_
       refine B3 E (A1 (.cons (T E) (.cons (T E) .nil)) call23 (Dg (.mk 6 ⟨#[]⟩ (some ⟨n94, 0, none⟩) 1 [(.mk 5 ⟨#[]⟩ (some ⟨n92, 0, none⟩) 2 [(.mk 2 ⟨#[97]⟩ none 0 []), (.mk 2 ⟨#[98]⟩ none 0 [])])]) (.mk 6 ⟨#[]⟩ (some ⟨n104, 0, none⟩) 1 [(.mk 4 ⟨#[]⟩ (some ⟨n102, 0, none⟩) 2 [(.mk 6 ⟨#[]⟩ (some ⟨n97, 0, none⟩) 1 [(.mk 2 ⟨#[97]⟩ none 0 [])]), (.mk 6 ⟨#[]⟩ (some ⟨n100, 0, none⟩) 1 [(.mk 2 ⟨#[98]⟩ none 0 [])])])]) (.star (.alt (.nod sa) (.nod sb'))) (.star (.seq (.star (.nod sa)) (.star (.nod sb')))) (.star (.alt (.nod (by decide)) (.nod (by decide)))) (.star (.seq (.star (.nod (by decide))) (.star (.nod (by decide))))) (rx1 (rx2 rx0 rx0)) (rx1 (rx2 (rx1 rx0) (rx1 rx0))) (by decide) (by decide) sE1)) ?_ E Ah
       rintro _ _ ⟨d1, ⟨rfl, hd1⟩, rfl⟩
       refine ⟨sbt, (x_y (i := 17) E (by kernel_rfl) (Ac (T E)) ?_ E Ah)⟩
       refine x_y (i := 18) E (by kernel_rfl) (Bf (T E) E) ?_ E Ah
       refine x_y (i := 19) E (by kernel_rfl) (Bf (T E) E) ?_ E Ah
       refine x_y (i := 20) E (by kernel_rfl) (Bf (T E) E) ?_ E Ah
       refine x_y (i := 21) E (by kernel_rfl) (Ad (T E)) ?_ E Ah
       refine x_y (i := 22) E (by kernel_rfl) (Ad (T E)) ?_ E Ah
       refine x_y (i := 23) E (by kernel_rfl) (Ad (T E)) ?_ E Ah
       refine Cq (by kernel_rfl) E ?_
       refine Af ?_
       refine Bw (()) ?_ ⟨(by first | exact Aa E | (refine Ak (Aa E) (vint ?_); omega) | (refine Ak (Aa E) ?_; simp; done)), (by first | exact Aa E | (refine Ak (Aa E) (vint ?_); omega) | (refine Ak (Aa E) ?_; simp; done)), trivial⟩ ⟨Aa E, Aa E, Aa E, Aa E, trivial⟩ sbt
       trivial
      ·refine B3 E (Ap (.cons (T E) .nil) (B9 _ _ _ _ _)) ?_ E Ah
       rintro _ _ ⟨n100, rfl, rfl⟩
       refine ⟨sbt, (B6 (i := 7) (by kernel_rfl) (by kernel_rfl) ?_)⟩
       refine B3 E (Ap (.cons (T E) .nil) (B9 _ _ _ _ _)) ?_ E Ah
       rintro _ _ ⟨n97, rfl, rfl⟩
       refine ⟨sbt, (x_y (i := 8) E (by kernel_rfl) (Av (.cons Aj (.cons (T E) .nil)) call26 (fun H' hs => Cr 6 (some ⟨n97, 0, none⟩) [(.mk 2 ⟨#[97]⟩ none 0 [])] 1)) ?_ E Ah)⟩
       refine x_y (i := 11) E (by kernel_rfl) (Av (.cons Aj (.cons (T E) .nil)) call26 (fun H' hs => Cr 6 (some ⟨n100, 0, none⟩) [(.mk 2 ⟨#[98]⟩ none 0 [])] 1)) ?_ E Ah
       refine B6 (i := 12) (by kernel_rfl) (by kernel_rfl) ?_
       refine B3 E (Ap (.cons (T E) (.cons (T E) .nil)) (Ce _ _ _ _ _ _ _ _ _ _)) ?_ E Ah
       rintro _ _ ⟨n102, rfl, rfl⟩
       refine ⟨sbt, (x_y (i := 13) E (by kernel_rfl) (Av (.cons Aj (.cons (T E) .nil)) call26 (fun H' hs => Cr 4 (some ⟨n102, 0, none⟩) [(.mk 6 ⟨#[]⟩ (some ⟨n97, 0, none⟩) 1 [(.mk 2 ⟨#[97]⟩ none 0 [])]), (.mk 6 ⟨#[]⟩ (some ⟨n100, 0, none⟩) 1 [(.mk 2 ⟨#[98]⟩ none 0 [])])] 2)) ?_ E Ah)⟩
       refine B6 (i := 14) (by kernel_rfl) (by kernel_rfl) ?_
       refine B3 E (Ap (.cons (T E) .nil) (B9 _ _ _ _ _)) ?_ E Ah
       rintro _ _ ⟨n104, rfl, rfl⟩
       refine ⟨sbt, (x_y (i := 15) E (by kernel_rfl) (Av (.cons Aj (.cons (T E) .nil)) call26 (fun H' hs => Cr 6 (some ⟨n104, 0, none⟩) [(.mk 4 ⟨#[]⟩ (some ⟨n102, 0, none⟩) 2 [(.mk 6 ⟨#[]⟩ (some ⟨n97, 0, none⟩) 1 [(.mk 2 ⟨#[97]⟩ none 0 [])]), (.mk 6 ⟨#[]⟩ (some ⟨n100, 0, none⟩) 1 [(.mk 2 ⟨#[98]⟩ none 0 [])])])] 1)) ?_ E Ah)⟩
       refine B6 (i := 16) (by kernel_rfl) (by kernel_rfl) ?_
       refine B3 E (A1 (.cons (T E) (.cons (T E) .nil)) call23 (Dg (.mk 6 ⟨#[]⟩ (some ⟨n94, 0, none⟩) 1 [(.mk 5 ⟨#[]⟩ (some ⟨n92, 0, none⟩) 2 [(.mk 2 ⟨#[97]⟩ none 0 []), (.mk 2 ⟨#[98]⟩ none 0 [])])]) (.mk 6 ⟨#[]⟩ (some ⟨n104, 0, none⟩) 1 [(.mk 4 ⟨#[]⟩ (some ⟨n102, 0, none⟩) 2 [(.mk 6 ⟨#[]⟩ (some ⟨n97, 0, none⟩) 1 [(.mk 2 ⟨#[97]⟩ none 0 [])]), (.mk 6 ⟨#[]⟩ (some ⟨n100, 0, none⟩) 1 [(.mk 2 ⟨#[98]⟩ none 0 [])])])]) (.star (.alt (.nod sa) (.nod sb'))) (.star (.seq (.star (.nod sa)) (.star (.nod sb')))) (.star (.alt (.nod (by decide)) (.nod (by decide)))) (.star (.seq (.star (.nod (by decide))) (.star (.nod (by decide))))) (rx1 (rx2 rx0 rx0)) (rx1 (rx2 (rx1 rx0) (rx1 rx0))) (by decide) (by decide) sE1)) ?_ E Ah
       rintro _ _ ⟨d1, ⟨rfl, hd1⟩, rfl⟩
       refine ⟨sbt, (x_y (i := 17) E (by kernel_rfl) (Ac (T E)) ?_ E Ah)⟩
       refine x_y (i := 18) E (by kernel_rfl) (Bf (T E) E) ?_ E Ah
       refine x_y (i := 19) E (by kernel_rfl) (Bf (T E) E) ?_ E Ah
       refine x_y (i := 20) E (by kernel_rfl) (Bf (T E) E) ?_ E Ah
       refine x_y (i := 21) E (by kernel_rfl) (Ad (T E)) ?_ E Ah
       refine x_y (i := 22) E (by kernel_rfl) (Ad (T E)) ?_ E Ah
       refine x_y (i := 23) E (by kernel_rfl) (Ad (T E)) ?_ E Ah
       refine Cq (by kernel_rfl) E ?_
       refine Af ?_
       refine Bw (()) ?_ ⟨(by first | exact Aa E | (refine Ak (Aa E) (vint ?_); omega) | (refine Ak (Aa E) ?_; simp; done)), (by first | exact Aa E | (refine Ak (Aa E) (vint ?_); omega) | (refine Ak (Aa E) ?_; simp; done)), trivial⟩ ⟨Aa E, Aa E, Aa E, Aa E, trivial⟩ sbt
       trivial
     ·refine B3 E (Ap (.cons (T E) .nil) (B9 _ _ _ _ _)) ?_ E Ah
      rintro _ _ ⟨n97, rfl, rfl⟩
      refine ⟨sbt, ?_⟩
      refine C4 (i := 4) (j := 10) (by kernel_rfl) (by kernel_rfl) ?_ ?_
      ·refine B3 E (Ap (.cons (T E) .nil) (B9 _ _ _ _ _)) ?_ E Ah
       rintro _ _ ⟨n94, rfl, rfl⟩
       refine ⟨sbt, (x_y (i := 5) E (by kernel_rfl) (Av (.cons Aj (.cons (T E) .nil)) call26 (fun H' hs => Cr 6 (some ⟨n94, 0, none⟩) [(.mk 5 ⟨#[]⟩ (some ⟨n92, 0, none⟩) 2 [(.mk 2 ⟨#[97]⟩ none 0 []), (.mk 2 ⟨#[98]⟩ none 0 [])])] 1)) ?_ E Ah)⟩
       refine x_y (i := 8) E (by kernel_rfl) (Av (.cons Aj (.cons (T E) .nil)) call26 (fun H' hs => Cr 6 (some ⟨n97, 0, none⟩) [(.mk 2 ⟨#[97]⟩ none 0 [])] 1)) ?_ E Ah
       refine B6 (i := 10) (by kernel_rfl) (by kernel_rfl) ?_
       refine B3 E (Ap (.cons (T E) .nil) (B9 _ _ _ _ _)) ?_ E Ah
       rintro _ _ ⟨n100, rfl, rfl⟩
       refine ⟨sbt, (x_y (i := 11) E (by kernel_rfl) (Av (.cons Aj (.cons (T E) .nil)) call26 (fun H' hs => Cr 6 (some ⟨n100, 0, none⟩) [(.mk 2 ⟨#[98]⟩ none 0 [])] 1)) ?_ E Ah)⟩
       refine B6 (i := 12) (by kernel_rfl) (by kernel_rfl) ?_
       refine B3 E (Ap (.cons (T E) (.cons (T E) .nil)) (Ce _ _ _ _ _ _ _ _ _ _)) ?_ E Ah
       rintro _ _ ⟨n102, rfl, rfl⟩
       refine ⟨sbt, (x_y (i := 13) E (by kernel_rfl) (Av (.cons Aj (.cons (T E) .nil)) call26 (fun H' hs => Cr 4 (some ⟨n102, 0, none⟩) [(.mk 6 ⟨#[]⟩ (some ⟨n97, 0, none⟩) 1 [(.mk 2 ⟨#[97]⟩ none 0 [])]), (.mk 6 ⟨#[]⟩ (some ⟨n100, 0, none⟩) 1 [(.mk 2 ⟨#[98]⟩ none 0 [])])] 2)) ?_ E Ah)⟩
       refine B6 (i := 14) (by kernel_rfl) (by kernel_rfl) ?_
       refine B3 E (Ap (.cons (T E) .nil) (B9 _ _ _ _ _)) ?_ E Ah
       rintro _ _ ⟨n104, rfl, rfl⟩
       refine ⟨sbt, (x_y (i := 15) E (by kernel_rfl) (Av (.cons Aj (.cons (T E) .nil)) call26 (fun H' hs => Cr 6 (some ⟨n104, 0, none⟩) [(.mk 4 ⟨#[]⟩ (some ⟨n102, 0, none⟩) 2 [(.mk 6 ⟨#[]⟩ (some ⟨n97, 0, none⟩) 1 [(.mk 2 ⟨#[97]⟩ none 0 [])]), (.mk 6 ⟨#[]⟩ (some ⟨n100, 0, none⟩) 1 [(.mk 2 ⟨#[98]⟩ none 0 [])])])] 1)) ?_ E Ah)⟩
       refine B6 (i := 16) (by kernel_rfl) (by kernel_rfl) ?_
       refine B3 E (A1 (.cons (T E) (.cons (T E) .nil)) call23 (Dg (.mk 6 ⟨#[]⟩ (some ⟨n94, 0, none⟩) 1 [(.mk 5 ⟨#[]⟩ (some ⟨n92, 0, none⟩) 2 [(.mk 2 ⟨#[97]⟩ none 0 []), (.mk 2 ⟨#[98]⟩ none 0 [])])]) (.mk 6 ⟨#[]⟩ (some ⟨n104, 0, none⟩) 1 [(.mk 4 ⟨#[]⟩ (some ⟨n102, 0, none⟩) 2 [(.mk 6 ⟨#[]⟩ (some ⟨n97, 0, none⟩) 1 [(.mk 2 ⟨#[97]⟩ none 0 [])]), (.mk 6 ⟨#[]⟩ (some ⟨n100, 0, none⟩) 1 [(.mk 2 ⟨#[98]⟩ none 0 [])])])]) (.star (.alt (.nod sa) (.nod sb'))) (.star (.seq (.star (.nod sa)) (.star (.nod sb')))) (.star (.alt (.nod (by decide)) (.nod (by decide)))) (.star (.seq (.star (.nod (by decide))) (.star (.nod (by decide))))) (rx1 (rx2 rx0 rx0)) (rx1 (rx2 (rx1 rx0) (rx1 rx0))) (by decide) (by decide) sE1)) ?_ E Ah
       rintro _ _ ⟨d1, ⟨rfl, hd1⟩, rfl⟩
       refine ⟨sbt, (x_y (i := 17) E (by kernel_rfl) (Ac (T E)) ?_ E Ah)⟩
       refine x_y (i := 18) E (by kernel_rfl) (Bf (T E) E) ?_ E Ah
       refine x_y (i := 19) E (by kernel_rfl) (Bf (T E) E) ?_ E Ah
       refine x_y (i := 20) E (by kernel_rfl) (Bf (T E) E) ?_ E Ah
       refine x_y (i := 21) E (by kernel_rfl) (Ad (T E)) ?_ E Ah
       refine x_y (i := 22) E (by kernel_rfl) (Ad (T E)) ?_ E Ah
       refine x_y (i := 23) E (by kernel_rfl) (Ad (T E)) ?_ E Ah
       refine Cq (by kernel_rfl) E ?_
       refine Af ?_
       refine Bw (()) ?_ ⟨(by first | exact Aa E | (refine Ak (Aa E) (vint ?_); omega) | (refine Ak (Aa E) ?_; simp; done)), (by first | exact Aa E | (refine Ak (Aa E) (vint ?_); omega) | (refine Ak (Aa E) ?_; simp; done)), trivial⟩ ⟨Aa E, Aa E, Aa E, Aa E, trivial⟩ sbt
       trivial
      ·refine B3 E (Ap (.cons (T E) .nil) (B9 _ _ _ _ _)) ?_ E Ah
       rintro _ _ ⟨n100, rfl, rfl⟩
       refine ⟨sbt, (B6 (i := 4) (by kernel_rfl) (by kernel_rfl) ?_)⟩
       refine B3 E (Ap (.cons (T E) .nil) (B9 _ _ _ _ _)) ?_ E Ah
       rintro _ _ ⟨n94, rfl, rfl⟩
       refine ⟨sbt, (x_y (i := 5) E (by kernel_rfl) (Av (.cons Aj (.cons (T E) .nil)) call26 (fun H' hs => Cr 6 (some ⟨n94, 0, none⟩) [(.mk 5 ⟨#[]⟩ (some ⟨n92, 0, none⟩) 2 [(.mk 2 ⟨#[97]⟩ none 0 []), (.mk 2 ⟨#[98]⟩ none 0 [])])] 1)) ?_ E Ah)⟩
       refine x_y (i := 8) E (by kernel_rfl) (Av (.cons Aj (.cons (T E) .nil)) call26 (fun H' hs => Cr 6 (some ⟨n97, 0, none⟩) [(.mk 2 ⟨#[97]⟩ none 0 [])] 1)) ?_ E Ah
       refine x_y (i := 11) E (by kernel_rfl) (Av (.cons Aj (.cons (T E) .nil)) call26 (fun H' hs => Cr 6 (some ⟨n100, 0, none⟩) [(.mk 2 ⟨#[98]⟩ none 0 [])] 1)) ?_ E Ah
       refine B6 (i := 12) (by kernel_rfl) (by kernel_rfl) ?_
       refine B3 E (Ap (.cons (T E) (.cons (T E) .nil)) (Ce _ _ _ _ _ _ _ _ _ _)) ?_ E Ah
       rintro _ _ ⟨n102, rfl, rfl⟩
       refine ⟨sbt, (x_y (i := 13) E (by kernel_rfl) (Av (.cons Aj (.cons (T E) .nil)) call26 (fun H' hs => Cr 4 (some ⟨n102, 0, none⟩) [(.mk 6 ⟨#[]⟩ (some ⟨n97, 0, none⟩) 1 [(.mk 2 ⟨#[97]⟩ none 0 [])]), (.mk 6 ⟨#[]⟩ (some ⟨n100, 0, none⟩) 1 [(.mk 2 ⟨#[98]⟩ none 0 [])])] 2)) ?_ E Ah)⟩
       refine B6 (i := 14) (by kernel_rfl) (by kernel_rfl) ?_
       refine B3 E (Ap (.cons (T E) .nil) (B9 _ _ _ _ _)) ?_ E Ah
       rintro _ _ ⟨n104, rfl, rfl⟩
       refine ⟨sbt, (x_y (i := 15) E (by kernel_rfl) (Av (.cons Aj (.cons (T E) .nil)) call26 (fun H' hs => Cr 6 (some ⟨n104, 0, none⟩) [(.mk 4 ⟨#[]⟩ (some ⟨n102, 0, none⟩) 2 [(.mk 6 ⟨#[]⟩ (some ⟨n97, 0, none⟩) 1 [(.mk 2 ⟨#[97]⟩ none 0 [])]), (.mk 6 ⟨#[]⟩ (some ⟨n100, 0, none⟩) 1 [(.mk 2 ⟨#[98]⟩ none 0 [])])])] 1)) ?_ E Ah)⟩
       refine B6 (i := 16) (by kernel_rfl) (by kernel_rfl) ?_
       refine B3 E (A1 (.cons (T E) (.cons (T E) .nil)) call23 (Dg (.mk 6 ⟨#[]⟩ (some ⟨n94, 0, none⟩) 1 [(.mk 5 ⟨#[]⟩ (some ⟨n92, 0, none⟩) 2 [(.mk 2 ⟨#[97]⟩ none 0 []), (.mk 2 ⟨#[98]⟩ none 0 [])])]) (.mk 6 ⟨#[]⟩ (some ⟨n104, 0, none⟩) 1 [(.mk 4 ⟨#[]⟩ (some ⟨n102, 0, none⟩) 2 [(.mk 6 ⟨#[]⟩ (some ⟨n97, 0, none⟩) 1 [(.mk 2 ⟨#[97]⟩ none 0 [])]), (.mk 6 ⟨#[]⟩ (some ⟨n100, 0, none⟩) 1 [(.mk 2 ⟨#[98]⟩ none 0 [])])])]) (.star (.alt (.nod sa) (.nod sb'))) (.star (.seq (.star (.nod sa)) (.star (.nod sb')))) (.star (.alt (.nod (by decide)) (.nod (by decide)))) (.star (.seq (.star (.nod (by decide))) (.star (.nod (by decide))))) (rx1 (rx2 rx0 rx0)) (rx1 (rx2 (rx1 rx0) (rx1 rx0))) (by decide) (by decide) sE1)) ?_ E Ah
       rintro _ _ ⟨d1, ⟨rfl, hd1⟩, rfl⟩
       refine ⟨sbt, (x_y (i := 17) E (by kernel_rfl) (Ac (T E)) ?_ E Ah)⟩
       refine x_y (i := 18) E (by kernel_rfl) (Bf (T E) E) ?_ E Ah
       refine x_y (i := 19) E (by kernel_rfl) (Bf (T E) E) ?_ E Ah
       refine x_y (i := 20) E (by kernel_rfl) (Bf (T E) E) ?_ E Ah
       refine x_y (i := 21) E (by kernel_rfl) (Ad (T E)) ?_ E Ah
       refine x_y (i := 22) E (by kernel_rfl) (Ad (T E)) ?_ E Ah
       refine x_y (i := 23) E (by kernel_rfl) (Ad (T E)) ?_ E Ah
       refine Cq (by kernel_rfl) E ?_
       refine Af ?_
       refine Bw (()) ?_ ⟨(by first | exact Aa E | (refine Ak (Aa E) (vint ?_); omega) | (refine Ak (Aa E) ?_; simp; done)), (by first | exact Aa E | (refine Ak (Aa E) (vint ?_); omega) | (refine Ak (Aa E) ?_; simp; done)), trivial⟩ ⟨Aa E, Aa E, Aa E, Aa E, trivial⟩ sbt
       trivial
     ·refine B3 E (Ap (.cons (T E) .nil) (B9 _ _ _ _ _)) ?_ E Ah
      rintro _ _ ⟨n100, rfl, rfl⟩
      refine ⟨sbt, ?_⟩
      refine C4 (i := 4) (j := 7) (by kernel_rfl) (by kernel_rfl) ?_ ?_
      ·refine B3 E (Ap (.cons (T E) .nil) (B9 _ _ _ _ _)) ?_ E Ah
       rintro _ _ ⟨n94, rfl, rfl⟩
       refine ⟨sbt, (x_y (i := 5) E (by kernel_rfl) (Av (.cons Aj (.cons (T E) .nil)) call26 (fun H' hs => Cr 6 (some ⟨n94, 0, none⟩) [(.mk 5 ⟨#[]⟩ (some ⟨n92, 0, none⟩) 2 [(.mk 2 ⟨#[97]⟩ none 0 []), (.mk 2 ⟨#[98]⟩ none 0 [])])] 1)) ?_ E Ah)⟩
       refine B6 (i := 7) (by kernel_rfl) (by kernel_rfl) ?_
       refine B3 E (Ap (.cons (T E) .nil) (B9 _ _ _ _ _)) ?_ E Ah
       rintro _ _ ⟨n97, rfl, rfl⟩
       refine ⟨sbt, (x_y (i := 8) E (by kernel_rfl) (Av (.cons Aj (.cons (T E) .nil)) call26 (fun H' hs => Cr 6 (some ⟨n97, 0, none⟩) [(.mk 2 ⟨#[97]⟩ none 0 [])] 1)) ?_ E Ah)⟩
       refine x_y (i := 11) E (by kernel_rfl) (Av (.cons Aj (.cons (T E) .nil)) call26 (fun H' hs => Cr 6 (some ⟨n100, 0, none⟩) [(.mk 2 ⟨#[98]⟩ none 0 [])] 1)) ?_ E Ah
       refine B6 (i := 12) (by kernel_rfl) (by kernel_rfl) ?_
       refine B3 E (Ap (.cons (T E) (.cons (T E) .nil)) (Ce _ _ _ _ _ _ _ _ _ _)) ?_ E Ah
       rintro _ _ ⟨n102, rfl, rfl⟩
       refine ⟨sbt, (x_y (i := 13) E (by kernel_rfl) (Av (.cons Aj (.cons (T E) .nil)) call26 (fun H' hs => Cr 4 (some ⟨n102, 0, none⟩) [(.mk 6 ⟨#[]⟩ (some ⟨n97, 0, none⟩) 1 [(.mk 2 ⟨#[97]⟩ none 0 [])]), (.mk 6 ⟨#[]⟩ (some ⟨n100, 0, none⟩) 1 [(.mk 2 ⟨#[98]⟩ none 0 [])])] 2)) ?_ E Ah)⟩
       refine B6 (i := 14) (by kernel_rfl) (by kernel_rfl) ?_
       refine B3 E (Ap (.cons (T E) .nil) (B9 _ _ _ _ _)) ?_ E Ah
       rintro _ _ ⟨n104, rfl, rfl⟩
       refine ⟨sbt, (x_y (i := 15) E (by kernel_rfl) (Av (.cons Aj (.cons (T E) .nil)) call26 (fun H' hs => Cr 6 (some ⟨n104, 0, none⟩) [(.mk 4 ⟨#[]⟩ (some ⟨n102, 0, none⟩) 2 [(.mk 6 ⟨#[]⟩ (some ⟨n97, 0, none⟩) 1 [(.mk 2 ⟨#[97]⟩ none 0 [])]), (.mk 6 ⟨#[]⟩ (some ⟨n100, 0, none⟩) 1 [(.mk 2 ⟨#[98]⟩ none 0 [])])])] 1)) ?_ E Ah)⟩
       refine B6 (i := 16) (by kernel_rfl) (by kernel_rfl) ?_
       refine B3 E (A1 (.cons (T E) (.cons (T E) .nil)) call23 (Dg (.mk 6 ⟨#[]⟩ (some ⟨n94, 0, none⟩) 1 [(.mk 5 ⟨#[]⟩ (some ⟨n92, 0, none⟩) 2 [(.mk 2 ⟨#[97]⟩ none 0 []), (.mk 2 ⟨#[98]⟩ none 0 [])])]) (.mk 6 ⟨#[]⟩ (some ⟨n104, 0, none⟩) 1 [(.mk 4 ⟨#[]⟩ (some ⟨n102, 0, none⟩) 2 [(.mk 6 ⟨#[]⟩ (some ⟨n97, 0, none⟩) 1 [(.mk 2 ⟨#[97]⟩ none 0 [])]), (.mk 6 ⟨#[]⟩ (some ⟨n100, 0, none⟩) 1 [(.mk 2 ⟨#[98]⟩ none 0 [])])])]) (.star (.alt (.nod sa) (.nod sb'))) (.star (.seq (.star (.nod sa)) (.star (.nod sb')))) (.star (.alt (.nod (by decide)) (.nod (by decide)))) (.star (.seq (.star (.nod (by decide))) (.star (.nod (by decide))))) (rx1 (rx2 rx0 rx0)) (rx1 (rx2 (rx1 rx0) (rx1 rx0))) (by decide) (by decide) sE1)) ?_ E Ah
       rintro _ _ ⟨d1, ⟨rfl, hd1⟩, rfl⟩
       refine ⟨sbt, (x_y (i := 17) E (by kernel_rfl) (Ac (T E)) ?_ E Ah)⟩
       refine x_y (i := 18) E (by kernel_rfl) (Bf (T E) E) ?_ E Ah
       refine x_y (i := 19) E (by kernel_rfl) (Bf (T E) E) ?_ E Ah
       refine x_y (i := 20) E (by kernel_rfl) (Bf (T E) E) ?_ E Ah
       refine x_y (i := 21) E (by kernel_rfl) (Ad (T E)) ?_ E Ah
       refine x_y (i := 22) E (by kernel_rfl) (Ad (T E)) ?_ E Ah
       refine x_y (i := 23) E (by kernel_rfl) (Ad (T E)) ?_ E Ah
       refine Cq (by kernel_rfl) E ?_
       refine Af ?_
       refine Bw (()) ?_ ⟨(by first | exact Aa E | (refine Ak (Aa E) (vint ?_); omega) | (refine Ak (Aa E) ?_; simp; done)), (by first | exact Aa E | (refine Ak (Aa E) (vint ?_); omega) | (refine Ak (Aa E) ?_; simp; done)), trivial⟩ ⟨Aa E, Aa E, Aa E, Aa E, trivial⟩ sbt
       trivial
      ·refine B3 E (Ap (.cons (T E) .nil) (B9 _ _ _ _ _)) ?_ E Ah
       rintro _ _ ⟨n97, rfl, rfl⟩
       refine ⟨sbt, (B6 (i := 4) (by kernel_rfl) (by kernel_rfl) ?_)⟩
       refine B3 E (Ap (.cons (T E) .nil) (B9 _ _ _ _ _)) ?_ E Ah
       rintro _ _ ⟨n94, rfl, rfl⟩
       refine ⟨sbt, (x_y (i := 5) E (by kernel_rfl) (Av (.cons Aj (.cons (T E) .nil)) call26 (fun H' hs => Cr 6 (some ⟨n94, 0, none⟩) [(.mk 5 ⟨#[]⟩ (some ⟨n92, 0, none⟩) 2 [(.mk 2 ⟨#[97]⟩ none 0 []), (.mk 2 ⟨#[98]⟩ none 0 [])])] 1)) ?_ E Ah)⟩
       refine x_y (i := 8) E (by kernel_rfl) (Av (.cons Aj (.cons (T E) .nil)) call26 (fun H' hs => Cr 6 (some ⟨n97, 0, none⟩) [(.mk 2 ⟨#[97]⟩ none 0 [])] 1)) ?_ E Ah
       refine x_y (i := 11) E (by kernel_rfl) (Av (.cons Aj (.cons (T E) .nil)) call26 (fun H' hs => Cr 6 (some ⟨n100, 0, none⟩) [(.mk 2 ⟨#[98]⟩ none 0 [])] 1)) ?_ E Ah
       refine B6 (i := 12) (by kernel_rfl) (by kernel_rfl) ?_
       refine B3 E (Ap (.cons (T E) (.cons (T E) .nil)) (Ce _ _ _ _ _ _ _ _ _ _)) ?_ E Ah
       rintro _ _ ⟨n102, rfl, rfl⟩
       refine ⟨sbt, (x_y (i := 13) E (by kernel_rfl) (Av (.cons Aj (.cons (T E) .nil)) call26 (fun H' hs => Cr 4 (some ⟨n102, 0, none⟩) [(.mk 6 ⟨#[]⟩ (some ⟨n97, 0, none⟩) 1 [(.mk 2 ⟨#[97]⟩ none 0 [])]), (.mk 6 ⟨#[]⟩ (some ⟨n100, 0, none⟩) 1 [(.mk 2 ⟨#[98]⟩ none 0 [])])] 2)) ?_ E Ah)⟩
       refine B6 (i := 14) (by kernel_rfl) (by kernel_rfl) ?_
       refine B3 E (Ap (.cons (T E) .nil) (B9 _ _ _ _ _)) ?_ E Ah
       rintro _ _ ⟨n104, rfl, rfl⟩
       refine ⟨sbt, (x_y (i := 15) E (by kernel_rfl) (Av (.cons Aj (.cons (T E) .nil)) call26 (fun H' hs => Cr 6 (some ⟨n104, 0, none⟩) [(.mk 4 ⟨#[]⟩ (some ⟨n102, 0, none⟩) 2 [(.mk 6 ⟨#[]⟩ (some ⟨n97, 0, none⟩) 1 [(.mk 2 ⟨#[97]⟩ none 0 [])]), (.mk 6 ⟨#[]⟩ (some ⟨n100, 0, none⟩) 1 [(.mk 2 ⟨#[98]⟩ none 0 [])])])] 1)) ?_ E Ah)⟩
       refine B6 (i := 16) (by kernel_rfl) (by kernel_rfl) ?_
       refine B3 E (A1 (.cons (T E) (.cons (T E) .nil)) call23 (Dg (.mk 6 ⟨#[]⟩ (some ⟨n94, 0, none⟩) 1 [(.mk 5 ⟨#[]⟩ (some ⟨n92, 0, none⟩) 2 [(.mk 2 ⟨#[97]⟩ none 0 []), (.mk 2 ⟨#[98]⟩ none 0 [])])]) (.mk 6 ⟨#[]⟩ (some ⟨n104, 0, none⟩) 1 [(.mk 4 ⟨#[]⟩ (some ⟨n102, 0, none⟩) 2 [(.mk 6 ⟨#[]⟩ (some ⟨n97, 0, none⟩) 1 [(.mk 2 ⟨#[97]⟩ none 0 [])]), (.mk 6 ⟨#[]⟩ (some ⟨n100, 0, none⟩) 1 [(.mk 2 ⟨#[98]⟩ none 0 [])])])]) (.star (.alt (.nod sa) (.nod sb'))) (.star (.seq (.star (.nod sa)) (.star (.nod sb')))) (.star (.alt (.nod (by decide)) (.nod (by decide)))) (.star (.seq (.star (.nod (by decide))) (.star (.nod (by decide))))) (rx1 (rx2 rx0 rx0)) (rx1 (rx2 (rx1 rx0) (rx1 rx0))) (by decide) (by decide) sE1)) ?_ E Ah
       rintro _ _ ⟨d1, ⟨rfl, hd1⟩, rfl⟩
       refine ⟨sbt, (x_y (i := 17) E (by kernel_rfl) (Ac (T E)) ?_ E Ah)⟩
       refine x_y (i := 18) E (by kernel_rfl) (Bf (T E) E) ?_ E Ah
       refine x_y (i := 19) E (by kernel_rfl) (Bf (T E) E) ?_ E Ah
       refine x_y (i := 20) E (by kernel_rfl) (Bf (T E) E) ?_ E Ah
       refine x_y (i := 21) E (by kernel_rfl) (Ad (T E)) ?_ E Ah
       refine x_y (i := 22) E (by kernel_rfl) (Ad (T E)) ?_ E Ah
       refine x_y (i := 23) E (by kernel_rfl) (Ad (T E)) ?_ E Ah
       refine Cq (by kernel_rfl) E ?_
       refine Af ?_
       refine Bw (()) ?_ ⟨(by first | exact Aa E | (refine Ak (Aa E) (vint ?_); omega) | (refine Ak (Aa E) ?_; simp; done)), (by first | exact Aa E | (refine Ak (Aa E) (vint ?_); omega) | (refine Ak (Aa E) ?_; simp; done)), trivial⟩ ⟨Aa E, Aa E, Aa E, Aa E, trivial⟩ sbt
       trivial
    ·refine B3 E (Ap (.cons (T E) .nil) (B9 _ _ _ _ _)) ?_ E Ah
     rintro _ _ ⟨n97, rfl, rfl⟩
     refine ⟨sbt, ?_⟩
     refine C4 (i := 2) (j := 10) (by kernel_rfl) (by kernel_rfl) ?_ ?_
     ·refine B3 E (Ap (.cons (T E) (.cons (T E) .nil)) (Ce _ _ _ _ _ _ _ _ _ _)) ?_ E Ah
      rintro _ _ ⟨n92, rfl, rfl⟩
      refine ⟨sbt, (x_y (i := 3) E (by kernel_rfl) (Av (.cons Aj (.cons (T E) .nil)) call26 (fun H' hs => Cr 5 (some ⟨n92, 0, none⟩) [(.mk 2 ⟨#[97]⟩ none 0 []), (.mk 2 ⟨#[98]⟩ none 0 [])] 2)) ?_ E Ah)⟩
      refine C4 (i := 4) (j := 10) (by kernel_rfl) (by kernel_rfl) ?_ ?_
      ·refine B3 E (Ap (.cons (T E) .nil) (B9 _ _ _ _ _)) ?_ E Ah
       rintro _ _ ⟨n94, rfl, rfl⟩
       refine ⟨sbt, (x_y (i := 5) E (by kernel_rfl) (Av (.cons Aj (.cons (T E) .nil)) call26 (fun H' hs => Cr 6 (some ⟨n94, 0, none⟩) [(.mk 5 ⟨#[]⟩ (some ⟨n92, 0, none⟩) 2 [(.mk 2 ⟨#[97]⟩ none 0 []), (.mk 2 ⟨#[98]⟩ none 0 [])])] 1)) ?_ E Ah)⟩
       refine x_y (i := 8) E (by kernel_rfl) (Av (.cons Aj (.cons (T E) .nil)) call26 (fun H' hs => Cr 6 (some ⟨n97, 0, none⟩) [(.mk 2 ⟨#[97]⟩ none 0 [])] 1)) ?_ E Ah
       refine B6 (i := 10) (by kernel_rfl) (by kernel_rfl) ?_
       refine B3 E (Ap (.cons (T E) .nil) (B9 _ _ _ _ _)) ?_ E Ah
       rintro _ _ ⟨n100, rfl, rfl⟩
       refine ⟨sbt, (x_y (i := 11) E (by kernel_rfl) (Av (.cons Aj (.cons (T E) .nil)) call26 (fun H' hs => Cr 6 (some ⟨n100, 0, none⟩) [(.mk 2 ⟨#[98]⟩ none 0 [])] 1)) ?_ E Ah)⟩
       refine B6 (i := 12) (by kernel_rfl) (by kernel_rfl) ?_
       refine B3 E (Ap (.cons (T E) (.cons (T E) .nil)) (Ce _ _ _ _ _ _ _ _ _ _)) ?_ E Ah
       rintro _ _ ⟨n102, rfl, rfl⟩
       refine ⟨sbt, (x_y (i := 13) E (by kernel_rfl) (Av (.cons Aj (.cons (T E) .nil)) call26 (fun H' hs => Cr 4 (some ⟨n102, 0, none⟩) [(.mk 6 ⟨#[]⟩ (some ⟨n97, 0, none⟩) 1 [(.mk 2 ⟨#[97]⟩ none 0 [])]), (.mk 6 ⟨#[]⟩ (some ⟨n100, 0, none⟩) 1 [(.mk 2 ⟨#[98]⟩ none 0 [])])] 2)) ?_ E Ah)⟩
       refine B6 (i := 14) (by kernel_rfl) (by kernel_rfl) ?_
       refine B3 E (Ap (.cons (T E) .nil) (B9 _ _ _ _ _)) ?_ E Ah
       rintro _ _ ⟨n104, rfl, rfl⟩
       refine ⟨sbt, (x_y (i := 15) E (by kernel_rfl) (Av (.cons Aj (.cons (T E) .nil)) call26 (fun H' hs => Cr 6 (some ⟨n104, 0, none⟩) [(.mk 4 ⟨#[]⟩ (some ⟨n102, 0, none⟩) 2 [(.mk 6 ⟨#[]⟩ (some ⟨n97, 0, none⟩) 1 [(.mk 2 ⟨#[97]⟩ none 0 [])]), (.mk 6 ⟨#[]⟩ (some ⟨n100, 0, none⟩) 1 [(.mk 2 ⟨#[98]⟩ none 0 [])])])] 1)) ?_ E Ah)⟩
       refine B6 (i := 16) (by kernel_rfl) (by kernel_rfl) ?_
       refine B3 E (A1 (.cons (T E) (.cons (T E) .nil)) call23 (Dg (.mk 6 ⟨#[]⟩ (some ⟨n94, 0, none⟩) 1 [(.mk 5 ⟨#[]⟩ (some ⟨n92, 0, none⟩) 2 [(.mk 2 ⟨#[97]⟩ none 0 []), (.mk 2 ⟨#[98]⟩ none 0 [])])]) (.mk 6 ⟨#[]⟩ (some ⟨n104, 0, none⟩) 1 [(.mk 4 ⟨#[]⟩ (some ⟨n102, 0, none⟩) 2 [(.mk 6 ⟨#[]⟩ (some ⟨n97, 0, none⟩) 1 [(.mk 2 ⟨#[97]⟩ none 0 [])]), (.mk 6 ⟨#[]⟩ (some ⟨n100, 0, none⟩) 1 [(.mk 2 ⟨#[98]⟩ none 0 [])])])]) (.star (.alt (.nod sa) (.nod sb'))) (.star (.seq (.star (.nod sa)) (.star (.nod sb')))) (.star (.alt (.nod (by decide)) (.nod (by decide)))) (.star (.seq (.star (.nod (by decide))) (.star (.nod (by decide))))) (rx1 (rx2 rx0 rx0)) (rx1 (rx2 (rx1 rx0) (rx1 rx0))) (by decide) (by decide) sE1)) ?_ E Ah
       rintro _ _ ⟨d1, ⟨rfl, hd1⟩, rfl⟩
       refine ⟨sbt, (x_y (i := 17) E (by kernel_rfl) (Ac (T E)) ?_ E Ah)⟩
       refine x_y (i := 18) E (by kernel_rfl) (Bf (T E) E) ?_ E Ah
       refine x_y (i := 19) E (by kernel_rfl) (Bf (T E) E) ?_ E Ah
       refine x_y (i := 20) E (by kernel_rfl) (Bf (T E) E) ?_ E Ah
       refine x_y (i := 21) E (by kernel_rfl) (Ad (T E)) ?_ E Ah
       refine x_y (i := 22) E (by kernel_rfl) (Ad (T E)) ?_ E Ah
       refine x_y (i := 23) E (by kernel_rfl) (Ad (T E)) ?_ E Ah
       refine Cq (by kernel_rfl) E ?_
       refine Af ?_
       refine Bw (()) ?_ ⟨(by first | exact Aa E | (refine Ak (Aa E) (vint ?_); omega) | (refine Ak (Aa E) ?_; simp; done)), (by first | exact Aa E | (refine Ak (Aa E) (vint ?_); omega) | (refine Ak (Aa E) ?_; simp; done)), trivial⟩ ⟨Aa E, Aa E, Aa E, Aa E, trivial⟩ sbt
       trivial
      ·refine B3 E (Ap (.cons (T E) .nil) (B9 _ _ _ _ _)) ?_ E Ah
       rintro _ _ ⟨n100, rfl, rfl⟩
       refine ⟨sbt, (B6 (i := 4) (by kernel_rfl) (by kernel_rfl) ?_)⟩
       refine B3 E (Ap (.cons (T E) .nil) (B9 _ _ _ _ _)) ?_ E Ah
       rintro _ _ ⟨n94, rfl, rfl⟩
       refine ⟨sbt, (x_y (i := 5) E (by kernel_rfl) (Av (.cons Aj (.cons (T E) .nil)) call26 (fun H' hs => Cr 6 (some ⟨n94, 0, none⟩) [(.mk 5 ⟨#[]⟩ (some ⟨n92, 0, none⟩) 2 [(.mk 2 ⟨#[97]⟩ none 0 []), (.mk 2 ⟨#[98]⟩ none 0 [])])] 1)) ?_ E Ah)⟩
       refine x_y (i := 8) E (by kernel_rfl) (Av (.cons Aj (.cons (T E) .nil)) call26 (fun H' hs => Cr 6 (some ⟨n97, 0, none⟩) [(.mk 2 ⟨#[97]⟩ none 0 [])] 1)) ?_ E Ah
       refine x_y (i := 11) E (by kernel_rfl) (Av (.cons Aj (.cons (T E) .nil)) call26 (fun H' hs => Cr 6 (some ⟨n100, 0, none⟩) [(.mk 2 ⟨#[98]⟩ none 0 [])] 1)) ?_ E Ah
       refine B6 (i := 12) (by kernel_rfl) (by kernel_rfl) ?_
       refine B3 E (Ap (.cons (T E) (.cons (T E) .nil)) (Ce _ _ _ _ _ _ _ _ _ _)) ?_ E Ah
       rintro _ _ ⟨n102, rfl, rfl⟩
       refine ⟨sbt, (x_y (i := 13) E (by kernel_rfl) (Av (.cons Aj (.cons (T E) .nil)) call26 (fun H' hs => Cr 4 (some ⟨n102, 0, none⟩) [(.mk 6 ⟨#[]⟩ (some ⟨n97, 0, none⟩) 1 [(.mk 2 ⟨#[97]⟩ none 0 [])]), (.mk 6 ⟨#[]⟩ (some ⟨n100, 0, none⟩) 1 [(.mk 2 ⟨#[98]⟩ none 0 [])])] 2)) ?_ E Ah)⟩
       refine B6 (i := 14) (by kernel_rfl) (by kernel_rfl) ?_
       refine B3 E (Ap (.cons (T E) .nil) (B9 _ _ _ _ _)) ?_ E Ah
       rintro _ _ ⟨n104, rfl, rfl⟩
       refine ⟨sbt, (x_y (i := 15) E (by kernel_rfl) (Av (.cons Aj (.cons (T E) .nil)) call26 (fun H' hs => Cr 6 (some ⟨n104, 0, none⟩) [(.mk 4 ⟨#[]⟩ (some ⟨n102, 0, none⟩) 2 [(.mk 6 ⟨#[]⟩ (some ⟨n97, 0, none⟩) 1 [(.mk 2 ⟨#[97]⟩ none 0 [])]), (.mk 6 ⟨#[]⟩ (some ⟨n100, 0, none⟩) 1 [(.mk 2 ⟨#[98]⟩ none 0 [])])])] 1)) ?_ E Ah)⟩
       refine B6 (i := 16) (by kernel_rfl) (by kernel_rfl) ?_
       refine B3 E (A1 (.cons (T E) (.cons (T E) .nil)) call23 (Dg (.mk 6 ⟨#[]⟩ (some ⟨n94, 0, none⟩) 1 [(.mk 5 ⟨#[]⟩ (some ⟨n92, 0, none⟩) 2 [(.mk 2 ⟨#[97]⟩ none 0 []), (.mk 2 ⟨#[98]⟩ none 0 [])])]) (.mk 6 ⟨#[]⟩ (some ⟨n104, 0, none⟩) 1 [(.mk 4 ⟨#[]⟩ (some ⟨n102, 0, none⟩) 2 [(.mk 6 ⟨#[]⟩ (some ⟨n97, 0, none⟩) 1 [(.mk 2 ⟨#[97]⟩ none 0 [])]), (.mk 6 ⟨#[]⟩ (some ⟨n100, 0, none⟩) 1 [(.mk 2 ⟨#[98]⟩ none 0 [])])])]) (.star (.alt (.nod sa) (.nod sb'))) (.star (.seq (.star (.nod sa)) (.star (.nod sb')))) (.star (.alt (.nod (by decide)) (.nod (by decide)))) (.star (.seq (.star (.nod (by decide))) (.star (.nod (by decide))))) (rx1 (rx2 rx0 rx0)) (rx1 (rx2 (rx1 rx0) (rx1 rx0))) (by decide) (by decide) sE1)) ?_ E Ah
       rintro _ _ ⟨d1, ⟨rfl, hd1⟩, rfl⟩
       refine ⟨sbt, (x_y (i := 17) E (by kernel_rfl) (Ac (T E)) ?_ E Ah)⟩
       refine x_y (i := 18) E (by kernel_rfl) (Bf (T E) E) ?_ E Ah
       refine x_y (i := 19) E (by kernel_rfl) (Bf (T E) E) ?_ E Ah
       refine x_y (i := 20) E (by kernel_rfl) (Bf (T E) E) ?_ E Ah
       refine x_y (i := 21) E (by kernel_rfl) (Ad (T E)) ?_ E Ah
       refine x_y (i := 22) E (by kernel_rfl) (Ad (T E)) ?_ E Ah
       refine x_y (i := 23) E (by kernel_rfl) (Ad (T E)) ?_ E Ah
       refine Cq (by kernel_rfl) E ?_
       refine Af ?_
       refine Bw (()) ?_ ⟨(by first | exact Aa E | (refine Ak (Aa E) (vint ?_); omega) | (refine Ak (Aa E) ?_; simp; done)), (by first | exact Aa E | (refine Ak (Aa E) (vint ?_); omega) | (refine Ak (Aa E) ?_; simp; done)), trivial⟩ ⟨Aa E, Aa E, Aa E, Aa E, trivial⟩ sbt
       trivial
     ·refine B3 E (Ap (.cons (T E) .nil) (B9 _ _ _ _ _)) ?_ E Ah
      rintro _ _ ⟨n100, rfl, rfl⟩
      refine ⟨sbt, (B6 (i := 2) (by kernel_rfl) (by kernel_rfl) ?_)⟩
      refine B3 E (Ap (.cons (T E) (.cons (T E) .nil)) (Ce _ _ _ _ _ _ _ _ _ _)) ?_ E Ah
      rintro _ _ ⟨n92, rfl, rfl⟩
      refine ⟨sbt, (x_y (i := 3) E (by kernel_rfl) (Av (.cons Aj (.cons (T E) .nil)) call26 (fun H' hs => Cr 5 (some ⟨n92, 0, none⟩) [(.mk 2 ⟨#[97]⟩ none 0 []), (.mk 2 ⟨#[98]⟩ none 0 [])] 2)) ?_ E Ah)⟩
      refine B6 (i := 4) (by kernel_rfl) (by kernel_rfl) ?_
      refine B3 E (Ap (.cons (T E) .nil) (B9 _ _ _ _ _)) ?_ E Ah
      rintro _ _ ⟨n94, rfl, rfl⟩
      refine ⟨sbt, (x_y (i := 5) E (by kernel_rfl) (Av (.cons Aj (.cons (T E) .nil)) call26 (fun H' hs => Cr 6 (some ⟨n94, 0, none⟩) [(.mk 5 ⟨#[]⟩ (some ⟨n92, 0, none⟩) 2 [(.mk 2 ⟨#[97]⟩ none 0 []), (.mk 2 ⟨#[98]⟩ none 0 [])])] 1)) ?_ E Ah)⟩
      refine x_y (i := 8) E (by kernel_rfl) (Av (.cons Aj (.cons (T E) .nil)) call26 (fun H' hs => Cr 6 (some ⟨n97, 0, none⟩) [(.mk 2 ⟨#[97]⟩ none 0 [])] 1)) ?_ E Ah
      refine x_y (i := 11) E (by kernel_rfl) (Av (.cons Aj (.cons (T E) .nil)) call26 (fun H' hs => Cr 6 (some ⟨n100, 0, none⟩) [(.mk 2 ⟨#[98]⟩ none 0 [])] 1)) ?_ E Ah
      refine B6 (i := 12) (by kernel_rfl) (by kernel_rfl) ?_
      refine B3 E (Ap (.cons (T E) (.cons (T E) .nil)) (Ce _ _ _ _ _ _ _ _ _ _)) ?_ E Ah
      rintro _ _ ⟨n102, rfl, rfl⟩
      refine ⟨sbt, (x_y (i := 13) E (by kernel_rfl) (Av (.cons Aj (.cons (T E) .nil)) call26 (fun H' hs => Cr 4 (some ⟨n102, 0, none⟩) [(.mk 6 ⟨#[]⟩ (some ⟨n97, 0, none⟩) 1 [(.mk 2 ⟨#[97]⟩ none 0 [])]), (.mk 6 ⟨#[]⟩ (some ⟨n100, 0, none⟩) 1 [(.mk 2 ⟨#[98]⟩ none 0 [])])] 2)) ?_ E Ah)⟩
      refine B6 (i := 14) (by kernel_rfl) (by kernel_rfl) ?_
      refine B3 E (Ap (.cons (T E) .nil) (B9 _ _ _ _ _)) ?_ E Ah
      rintro _ _ ⟨n104, rfl, rfl⟩
      refine ⟨sbt, (x_y (i := 15) E (by kernel_rfl) (Av (.cons Aj (.cons (T E) .nil)) call26 (fun H' hs => Cr 6 (some ⟨n104, 0, none⟩) [(.mk 4 ⟨#[]⟩ (some ⟨n102, 0, none⟩) 2 [(.mk 6 ⟨#[]⟩ (some ⟨n97, 0, none⟩) 1 [(.mk 2 ⟨#[97]⟩ none 0 [])]), (.mk 6 ⟨#[]⟩ (some ⟨n100, 0, none⟩) 1 [(.mk 2 ⟨#[98]⟩ none 0 [])])])] 1)) ?_ E Ah)⟩
      refine B6 (i := 16) (by kernel_rfl) (by kernel_rfl) ?_
      refine B3 E (A1 (.cons (T E) (.cons (T E) .nil)) call23 (Dg (.mk 6 ⟨#[]⟩ (some ⟨n94, 0, none⟩) 1 [(.mk 5 ⟨#[]⟩ (some ⟨n92, 0, none⟩) 2 [(.mk 2 ⟨#[97]⟩ none 0 []), (.mk 2 ⟨#[98]⟩ none 0 [])])]) (.mk 6 ⟨#[]⟩ (some ⟨n104, 0, none⟩) 1 [(.mk 4 ⟨#[]⟩ (some ⟨n102, 0, none⟩) 2 [(.mk 6 ⟨#[]⟩ (some ⟨n97, 0, none⟩) 1 [(.mk 2 ⟨#[97]⟩ none 0 [])]), (.mk 6 ⟨#[]⟩ (some ⟨n100, 0, none⟩) 1 [(.mk 2 ⟨#[98]⟩ none 0 [])])])]) (.star (.alt (.nod sa) (.nod sb'))) (.star (.seq (.star (.nod sa)) (.star (.nod sb')))) (.star (.alt (.nod (by decide)) (.nod (by decide)))) (.star (.seq (.star (.nod (by decide))) (.star (.nod (by decide))))) (rx1 (rx2 rx0 rx0)) (rx1 (rx2 (rx1 rx0) (rx1 rx0))) (by decide) (by decide) sE1)) ?_ E Ah
      rintro _ _ ⟨d1, ⟨rfl, hd1⟩, rfl⟩
      refine ⟨sbt, (x_y (i := 17) E (by kernel_rfl) (Ac (T E)) ?_ E Ah)⟩
      refine x_y (i := 18) E (by kernel_rfl) (Bf (T E) E) ?_ E Ah
      refine x_y (i := 19) E (by kernel_rfl) (Bf (T E) E) ?_ E Ah
      refine x_y (i := 20) E (by kernel_rfl) (Bf (T E) E) ?_ E Ah
      refine x_y (i := 21) E (by kernel_rfl) (Ad (T E)) ?_ E Ah
      refine x_y (i := 22) E (by kernel_rfl) (Ad (T E)) ?_ E Ah
      refine x_y (i := 23) E (by kernel_rfl) (Ad (T E)) ?_ E Ah
      refine Cq (by kernel_rfl) E ?_
      refine Af ?_
      refine Bw (()) ?_ ⟨(by first | exact Aa E | (refine Ak (Aa E) (vint ?_); omega) | (refine Ak (Aa E) ?_; simp; done)), (by first | exact Aa E | (refine Ak (Aa E) (vint ?_); omega) | (refine Ak (Aa E) ?_; simp; done)), trivial⟩ ⟨Aa E, Aa E, Aa E, Aa E, trivial⟩ sbt
      trivial
    ·refine B3 E (Ap (.cons (T E) .nil) (B9 _ _ _ _ _)) ?_ E Ah
     rintro _ _ ⟨n100, rfl, rfl⟩
     refine ⟨sbt, ?_⟩
     refine C4 (i := 2) (j := 7) (by kernel_rfl) (by kernel_rfl) ?_ ?_
     ·refine B3 E (Ap (.cons (T E) (.cons (T E) .nil)) (Ce _ _ _ _ _ _ _ _ _ _)) ?_ E Ah
      rintro _ _ ⟨n92, rfl, rfl⟩
      refine ⟨sbt, (x_y (i := 3) E (by kernel_rfl) (Av (.cons Aj (.cons (T E) .nil)) call26 (fun H' hs => Cr 5 (some ⟨n92, 0, none⟩) [(.mk 2 ⟨#[97]⟩ none 0 []), (.mk 2 ⟨#[98]⟩ none 0 [])] 2)) ?_ E Ah)⟩
      refine C4 (i := 4) (j := 7) (by kernel_rfl) (by kernel_rfl) ?_ ?_
      ·refine B3 E (Ap (.cons (T E) .nil) (B9 _ _ _ _ _)) ?_ E Ah
       rintro _ _ ⟨n94, rfl, rfl⟩
       refine ⟨sbt, (x_y (i := 5) E (by kernel_rfl) (Av (.cons Aj (.cons (T E) .nil)) call26 (fun H' hs => Cr 6 (some ⟨n94, 0, none⟩) [(.mk 5 ⟨#[]⟩ (some ⟨n92, 0, none⟩) 2 [(.mk 2 ⟨#[97]⟩ none 0 []), (.mk 2 ⟨#[98]⟩ none 0 [])])] 1)) ?_ E Ah)⟩
       refine B6 (i := 7) (by kernel_rfl) (by kernel_rfl) ?_
       refine B3 E (Ap (.cons (T E) .nil) (B9 _ _ _ _ _)) ?_ E Ah
       rintro _ _ ⟨n97, rfl, rfl⟩
       refine ⟨sbt, (x_y (i := 8) E (by kernel_rfl) (Av (.cons Aj (.cons (T E) .nil)) call26 (fun H' hs => Cr 6 (some ⟨n97, 0, none⟩) [(.mk 2 ⟨#[97]⟩ none 0 [])] 1)) ?_ E Ah)⟩
       refine x_y (i := 11) E (by kernel_rfl) (Av (.cons Aj (.cons (T E) .nil)) call26 (fun H' hs => Cr 6 (some ⟨n100, 0, none⟩) [(.mk 2 ⟨#[98]⟩ none 0 [])] 1)) ?_ E Ah
       refine B6 (i := 12) (by kernel_rfl) (by kernel_rfl) ?_
       refine B3 E (Ap (.cons (T E) (.cons (T E) .nil)) (Ce _ _ _ _ _ _ _ _ _ _)) ?_ E Ah
       rintro _ _ ⟨n102, rfl, rfl⟩
       refine ⟨sbt, (x_y (i := 13) E (by kernel_rfl) (Av (.cons Aj (.cons (T E) .nil)) call26 (fun H' hs => Cr 4 (some ⟨n102, 0, none⟩) [(.mk 6 ⟨#[]⟩ (some ⟨n97, 0, none⟩) 1 [(.mk 2 ⟨#[97]⟩ none 0 [])]), (.mk 6 ⟨#[]⟩ (some ⟨n100, 0, none⟩) 1 [(.mk 2 ⟨#[98]⟩ none 0 [])])] 2)) ?_ E Ah)⟩
       refine B6 (i := 14) (by kernel_rfl) (by kernel_rfl) ?_
       refine B3 E (Ap (.cons (T E) .nil) (B9 _ _ _ _ _)) ?_ E Ah
       rintro _ _ ⟨n104, rfl, rfl⟩
       refine ⟨sbt, (x_y (i := 15) E (by kernel_rfl) (Av (.cons Aj (.cons (T E) .nil)) call26 (fun H' hs => Cr 6 (some ⟨n104, 0, none⟩) [(.mk 4 ⟨#[]⟩ (some ⟨n102, 0, none⟩) 2 [(.mk 6 ⟨#[]⟩ (some ⟨n97, 0, none⟩) 1 [(.mk 2 ⟨#[97]⟩ none 0 [])]), (.mk 6 ⟨#[]⟩ (some ⟨n100, 0, none⟩) 1 [(.mk 2 ⟨#[98]⟩ none 0 [])])])] 1)) ?_ E Ah)⟩
       refine B6 (i := 16) (by kernel_rfl) (by kernel_rfl) ?_
       refine B3 E (A1 (.cons (T E) (.cons (T E) .nil)) call23 (Dg (.mk 6 ⟨#[]⟩ (some ⟨n94, 0, none⟩) 1 [(.mk 5 ⟨#[]⟩ (some ⟨n92, 0, none⟩) 2 [(.mk 2 ⟨#[97]⟩ none 0 []), (.mk 2 ⟨#[98]⟩ none 0 [])])]) (.mk 6 ⟨#[]⟩ (some ⟨n104, 0, none⟩) 1 [(.mk 4 ⟨#[]⟩ (some ⟨n102, 0, none⟩) 2 [(.mk 6 ⟨#[]⟩ (some ⟨n97, 0, none⟩) 1 [(.mk 2 ⟨#[97]⟩ none 0 [])]), (.mk 6 ⟨#[]⟩ (some ⟨n100, 0, none⟩) 1 [(.mk 2 ⟨#[98]⟩ none 0 [])])])]) (.star (.alt (.nod sa) (.nod sb'))) (.star (.seq (.star (.nod sa)) (.star (.nod sb')))) (.star (.alt (.nod (by decide)) (.nod (by decide)))) (.star (.seq (.star (.nod (by decide))) (.star (.nod (by decide))))) (rx1 (rx2 rx0 rx0)) (rx1 (rx2 (rx1 rx0) (rx1 rx0))) (by decide) (by decide) sE1)) ?_ E Ah
       rintro _ _ ⟨d1, ⟨rfl, hd1⟩, rfl⟩
       refine ⟨sbt, (x_y (i := 17) E (by kernel_rfl) (Ac (T E)) ?_ E Ah)⟩
       refine x_y (i := 18) E (by kernel_rfl) (Bf (T E) E) ?_ E Ah
       refine x_y (i := 19) E (by kernel_rfl) (Bf (T E) E) ?_ E Ah
       refine x_y (i := 20) E (by kernel_rfl) (Bf (T E) E) ?_ E Ah
       refine x_y (i := 21) E (by kernel_rfl) (Ad (T E)) ?_ E Ah
       refine x_y (i := 22) E (by kernel_rfl) (Ad (T E)) ?_ E Ah
       refine x_y (i := 23) E (by kernel_rfl) (Ad (T E)) ?_ E Ah
       refine Cq (by kernel_rfl) E ?_
       refine Af ?_
       refine Bw (()) ?_ ⟨(by first | exact Aa E | (refine Ak (Aa E) (vint ?_); omega) | (refine Ak (Aa E) ?_; simp; done)), (by first | exact Aa E | (refine Ak (Aa E) (vint ?_); omega) | (refine Ak (Aa E) ?_; simp; done)), trivial⟩ ⟨Aa E, Aa E, Aa E, Aa E, trivial⟩ sbt
       trivial
      ·refine B3 E (Ap (.cons (T E) .nil) (B9 _ _ _ _ _)) ?_ E Ah
       rintro _ _ ⟨n97, rfl, rfl⟩
       refine ⟨sbt, (B6 (i := 4) (by kernel_rfl) (by kernel_rfl) ?_)⟩
       refine B3 E (Ap (.cons (T E) .nil) (B9 _ _ _ _ _)) ?_ E Ah
       rintro _ _ ⟨n94, rfl, rfl⟩
       refine ⟨sbt, (x_y (i := 5) E (by kernel_rfl) (Av (.cons Aj (.cons (T E) .nil)) call26 (fun H' hs => Cr 6 (some ⟨n94, 0, none⟩) [(.mk 5 ⟨#[]⟩ (some ⟨n92, 0, none⟩) 2 [(.mk 2 ⟨#[97]⟩ none 0 []), (.mk 2 ⟨#[98]⟩ none 0 [])])] 1)) ?_ E Ah)⟩
       refine x_y (i := 8) E (by kernel_rfl) (Av (.cons Aj (.cons (T E) .nil)) call26 (fun H' hs => Cr 6 (some ⟨n97, 0, none⟩) [(.mk 2 ⟨#[97]⟩ none 0 [])] 1)) ?_ E Ah
       refine x_y (i := 11) E (by kernel_rfl) (Av (.cons Aj (.cons (T E) .nil)) call26 (fun H' hs => Cr 6 (some ⟨n100, 0, none⟩) [(.mk 2 ⟨#[98]⟩ none 0 [])] 1)) ?_ E Ah
       refine B6 (i := 12) (by kernel_rfl) (by kernel_rfl) ?_
       refine B3 E (Ap (.cons (T E) (.cons (T E) .nil)) (Ce _ _ _ _ _ _ _ _ _ _)) ?_ E Ah
       rintro _ _ ⟨n102, rfl, rfl⟩
       refine ⟨sbt, (x_y (i := 13) E (by kernel_rfl) (Av (.cons Aj (.cons (T E) .nil)) call26 (fun H' hs => Cr 4 (some ⟨n102, 0, none⟩) [(.mk 6 ⟨#[]⟩ (some ⟨n97, 0, none⟩) 1 [(.mk 2 ⟨#[97]⟩ none 0 [])]), (.mk 6 ⟨#[]⟩ (some ⟨n100, 0, none⟩) 1 [(.mk 2 ⟨#[98]⟩ none 0 [])])] 2)) ?_ E Ah)⟩
       refine B6 (i := 14) (by kernel_rfl) (by kernel_rfl) ?_
       refine B3 E (Ap (.cons (T E) .nil) (B9 _ _ _ _ _)) ?_ E Ah
       rintro _ _ ⟨n104, rfl, rfl⟩
       refine ⟨sbt, (x_y (i := 15) E (by kernel_rfl) (Av (.cons Aj (.cons (T E) .nil)) call26 (fun H' hs => Cr 6 (some ⟨n104, 0, none⟩) [(.mk 4 ⟨#[]⟩ (some ⟨n102, 0, none⟩) 2 [(.mk 6 ⟨#[]⟩ (some ⟨n97, 0, none⟩) 1 [(.mk 2 ⟨#[97]⟩ none 0 [])]), (.mk 6 ⟨#[]⟩ (some ⟨n100, 0, none⟩) 1 [(.mk 2 ⟨#[98]⟩ none 0 [])])])] 1)) ?_ E Ah)⟩
       refine B6 (i := 16) (by kernel_rfl) (by kernel_rfl) ?_
       refine B3 E (A1 (.cons (T E) (.cons (T E) .nil)) call23 (Dg (.mk 6 ⟨#[]⟩ (some ⟨n94, 0, none⟩) 1 [(.mk 5 ⟨#[]⟩ (some ⟨n92, 0, none⟩) 2 [(.mk 2 ⟨#[97]⟩ none 0 []), (.mk 2 ⟨#[98]⟩ none 0 [])])]) (.mk 6 ⟨#[]⟩ (some ⟨n104, 0, none⟩) 1 [(.mk 4 ⟨#[]⟩ (some ⟨n102, 0, none⟩) 2 [(.mk 6 ⟨#[]⟩ (some ⟨n97, 0, none⟩) 1 [(.mk 2 ⟨#[97]⟩ none 0 [])]), (.mk 6 ⟨#[]⟩ (some ⟨n100, 0, none⟩) 1 [(.mk 2 ⟨#[98]⟩ none 0 [])])])]) (.star (.alt (.nod sa) (.nod sb'))) (.star (.seq (.star (.nod sa)) (.star (.nod sb')))) (.star (.alt (.nod (by decide)) (.nod (by decide)))) (.star (.seq (.star (.nod (by decide))) (.star (.nod (by decide))))) (rx1 (rx2 rx0 rx0)) (rx1 (rx2 (rx1 rx0) (rx1 rx0))) (by decide) (by decide) sE1)) ?_ E Ah
       rintro _ _ ⟨d1, ⟨rfl, hd1⟩, rfl⟩
       refine ⟨sbt, (x_y (i := 17) E (by kernel_rfl) (Ac (T E)) ?_ E Ah)⟩
       refine x_y (i := 18) E (by kernel_rfl) (Bf (T E) E) ?_ E Ah
       refine x_y (i := 19) E (by kernel_rfl) (Bf (T E) E) ?_ E Ah
       refine x_y (i := 20) E (by kernel_rfl) (Bf (T E) E) ?_ E Ah
       refine x_y (i := 21) E (by kernel_rfl) (Ad (T E)) ?_ E Ah
       refine x_y (i := 22) E (by kernel_rfl) (Ad (T E)) ?_ E Ah
       refine x_y (i := 23) E (by kernel_rfl) (Ad (T E)) ?_ E Ah
       refine Cq (by kernel_rfl) E ?_
       refine Af ?_
       refine Bw (()) ?_ ⟨(by first | exact Aa E | (refine Ak (Aa E) (vint ?_); omega) | (refine Ak (Aa E) ?_; simp; done)), (by first | exact Aa E | (refine Ak (Aa E) (vint ?_); omega) | (refine Ak (Aa E) ?_; simp; done)), trivial⟩ ⟨Aa E, Aa E, Aa E, Aa E, trivial⟩ sbt
       trivial
     ·refine B3 E (Ap (.cons (T E) .nil) (B9 _ _ _ _ _)) ?_ E Ah
      rintro _ _ ⟨n97, rfl, rfl⟩
      refine ⟨sbt, (B6 (i := 2) (by kernel_rfl) (by kernel_rfl) ?_)⟩
      refine B3 E (Ap (.cons (T E) (.cons (T E) .nil)) (Ce _ _ _ _ _ _ _ _ _ _)) ?_ E Ah
      rintro _ _ ⟨n92, rfl, rfl⟩
      refine ⟨sbt, (x_y (i := 3) E (by kernel_rfl) (Av (.cons Aj (.cons (T E) .nil)) call26 (fun H' hs => Cr 5 (some ⟨n92, 0, none⟩) [(.mk 2 ⟨#[97]⟩ none 0 []), (.mk 2 ⟨#[98]⟩ none 0 [])] 2)) ?_ E Ah)⟩
      refine B6 (i := 4) (by kernel_rfl) (by kernel_rfl) ?_
      refine B3 E (Ap (.cons (T E) .nil) (B9 _ _ _ _ _)) ?_ E Ah
      rintro _ _ ⟨n94, rfl, rfl⟩
      refine ⟨sbt, (x_y (i := 5) E (by kernel_rfl) (Av (.cons Aj (.cons (T E) .nil)) call26 (fun H' hs => Cr 6 (some ⟨n94, 0, none⟩) [(.mk 5 ⟨#[]⟩ (some ⟨n92, 0, none⟩) 2 [(.mk 2 ⟨#[97]⟩ none 0 []), (.mk 2 ⟨#[98]⟩ none 0 [])])] 1)) ?_ E Ah)⟩
      refine x_y (i := 8) E (by kernel_rfl) (Av (.cons Aj (.cons (T E) .nil)) call26 (fun H' hs => Cr 6 (some ⟨n97, 0, none⟩) [(.mk 2 ⟨#[97]⟩ none 0 [])] 1)) ?_ E Ah
      refine x_y (i := 11) E (by kernel_rfl) (Av (.cons Aj (.cons (T E) .nil)) call26 (fun H' hs => Cr 6 (some ⟨n100, 0, none⟩) [(.mk 2 ⟨#[98]⟩ none 0 [])] 1)) ?_ E Ah
      refine B6 (i := 12) (by kernel_rfl) (by kernel_rfl) ?_
      refine B3 E (Ap (.cons (T E) (.cons (T E) .nil)) (Ce _ _ _ _ _ _ _ _ _ _)) ?_ E Ah
      rintro _ _ ⟨n102, rfl, rfl⟩
      refine ⟨sbt, (x_y (i := 13) E (by kernel_rfl) (Av (.cons Aj (.cons (T E) .nil)) call26 (fun H' hs => Cr 4 (some ⟨n102, 0, none⟩) [(.mk 6 ⟨#[]⟩ (some ⟨n97, 0, none⟩) 1 [(.mk 2 ⟨#[97]⟩ none 0 [])]), (.mk 6 ⟨#[]⟩ (some ⟨n100, 0, none⟩) 1 [(.mk 2 ⟨#[98]⟩ none 0 [])])] 2)) ?_ E Ah)⟩
      refine B6 (i := 14) (by kernel_rfl) (by kernel_rfl) ?_
      refine B3 E (Ap (.cons (T E) .nil) (B9 _ _ _ _ _)) ?_ E Ah
      rintro _ _ ⟨n104, rfl, rfl⟩
      refine ⟨sbt, (x_y (i := 15) E (by kernel_rfl) (Av (.cons Aj (.cons (T E) .nil)) call26 (fun H' hs => Cr 6 (some ⟨n104, 0, none⟩) [(.mk 4 ⟨#[]⟩ (some ⟨n102, 0, none⟩) 2 [(.mk 6 ⟨#[]⟩ (some ⟨n97, 0, none⟩) 1 [(.mk 2 ⟨#[97]⟩ none 0 [])]), (.mk 6 ⟨#[]⟩ (some ⟨n100, 0, none⟩) 1 [(.mk 2 ⟨#[98]⟩ none 0 [])])])] 1)) ?_ E Ah)⟩
      refine B6 (i := 16) (by kernel_rfl) (by kernel_rfl) ?_
      refine B3 E (A1 (.cons (T E) (.cons (T E) .nil)) call23 (Dg (.mk 6 ⟨#[]⟩ (some ⟨n94, 0, none⟩) 1 [(.mk 5 ⟨#[]⟩ (some ⟨n92, 0, none⟩) 2 [(.mk 2 ⟨#[97]⟩ none 0 []), (.mk 2 ⟨#[98]⟩ none 0 [])])]) (.mk 6 ⟨#[]⟩ (some ⟨n104, 0, none⟩) 1 [(.mk 4 ⟨#[]⟩ (some ⟨n102, 0, none⟩) 2 [(.mk 6 ⟨#[]⟩ (some ⟨n97, 0, none⟩) 1 [(.mk 2 ⟨#[97]⟩ none 0 [])]), (.mk 6 ⟨#[]⟩ (some ⟨n100, 0, none⟩) 1 [(.mk 2 ⟨#[98]⟩ none 0 [])])])]) (.star (.alt (.nod sa) (.nod sb'))) (.star (.seq (.star (.nod sa)) (.star (.nod sb')))) (.star (.alt (.nod (by decide)) (.nod (by decide)))) (.star (.seq (.star (.nod (by decide))) (.star (.nod (by decide))))) (rx1 (rx2 rx0 rx0)) (rx1 (rx2 (rx1 rx0) (rx1 rx0))) (by decide) (by decide) sE1)) ?_ E Ah
      rintro _ _ ⟨d1, ⟨rfl, hd1⟩, rfl⟩
      refine ⟨sbt, (x_y (i := 17) E (by kernel_rfl) (Ac (T E)) ?_ E Ah)⟩
      refine x_y (i := 18) E (by kernel_rfl) (Bf (T E) E) ?_ E Ah
      refine x_y (i := 19) E (by kernel_rfl) (Bf (T E) E) ?_ E Ah
      refine x_y (i := 20) E (by kernel_rfl) (Bf (T E) E) ?_ E Ah
      refine x_y (i := 21) E (by kernel_rfl) (Ad (T E)) ?_ E Ah
      refine x_y (i := 22) E (by kernel_rfl) (Ad (T E)) ?_ E Ah
      refine x_y (i := 23) E (by kernel_rfl) (Ad (T E)) ?_ E Ah
      refine Cq (by kernel_rfl) E ?_
      refine Af ?_
      refine Bw (()) ?_ ⟨(by first | exact Aa E | (refine Ak (Aa E) (vint ?_); omega) | (refine Ak (Aa E) ?_; simp; done)), (by first | exact Aa E | (refine Ak (Aa E) (vint ?_); omega) | (refine Ak (Aa E) ?_; simp; done)), trivial⟩ ⟨Aa E, Aa E, Aa E, Aa E, trivial⟩ sbt
      trivial
   rintro _ _
   refine Ag (Ch 16 [(0, true), (1, true), (5, true), (2, false), (3, true), (4, true), (6, false), (7, true), (8, false), (9, true), (10, true), (11, true), (12, true), (13, true), (14, true), (15, true)] _ mixd (by kernel_rfl) sb0 ?_)
   refine o_y E (Am (T E) isAgg24 sizeOf24 E (by first | exact Bb)) ?_ E Ah
   refine o_y E (Av .nil call44 (fun H' hs => some_s)) (o_y E (Am (T E) isAgg24 sizeOf24 E (by first | exact Bb)) ?_ E Ah) E Ah
   refine o_e E (Ap (.cons (T E) (.cons (T E) .nil)) (Ce _ _ _ _ _ _ _ _ _ _)) ?_ E Ah
   rintro _ _ ⟨n113, rfl, rfl⟩
   refine ⟨sbt, (o_y E (Av (.cons Aj (.cons (T E) .nil)) call26 (fun H' hs => Cr 4 (some ⟨n113, 0, none⟩) [(.mk 2 ⟨#[97]⟩ none 0 []), (.mk 3 ⟨#[]⟩ none 0 [])] 2)) (o_y E (Av .nil call44 (fun H' hs => some_s)) (o_e E (Ap (.cons (T E) (.cons (T E) .nil)) (Ce _ _ _ _ _ _ _ _ _ _)) ?_ E Ah) E Ah) E Ah)⟩
   rintro _ _ ⟨n117, rfl, rfl⟩
   refine ⟨sbt, (o_y E (Av (.cons Aj (.cons (T E) .nil)) call26 (fun H' hs => Cr 4 (some ⟨n117, 0, none⟩) [(.mk 3 ⟨#[]⟩ none 0 []), (.mk 2 ⟨#[97]⟩ none 0 [])] 2)) (o_e E (A1 (.cons (T E) (.cons (T E) .nil)) call23 (Dg (.mk 4 ⟨#[]⟩ (some ⟨n113, 0, none⟩) 2 [(.mk 2 ⟨#[97]⟩ none 0 []), (.mk 3 ⟨#[]⟩ none 0 [])]) (.mk 4 ⟨#[]⟩ (some ⟨n117, 0, none⟩) 2 [(.mk 3 ⟨#[]⟩ none 0 []), (.mk 2 ⟨#[97]⟩ none 0 [])]) (.seq (.nod sa) .any) (.seq .any (.nod sa)) (.seq (.nod (by decide)) .any) (.seq .any (.nod (by decide))) (rx2 rx0 rx0) (rx2 rx0 rx0) (by decide) (by decide) sE2)) ?_ E Ah) E Ah)⟩
   rintro _ _ ⟨d2, ⟨rfl, hd2⟩, rfl⟩
   refine ⟨sbt, (o_y E (Ac (T E)) (o_y E (Bf (T E) E) (o_y E (Bf (T E) E) (o_y E (Bf (T E) E) (o_y E (Ad (T E)) (o_y E (Ad (T E)) (o_y E (Ad (T E)) (Bx E (Af (Ae (Ag (Ab (y_ (B1 (.cons Aj .nil) (bd58_1 _)) (e_ (Ap (.cons Aj .nil) (Cw _)) ?_ E) E)))))) E Ah) E Ah) E Ah) E Ah) E Ah) E Ah) E Ah)⟩
   rintro _ _ ⟨n124, rfl, rfl⟩
   refine y_ (B1 (.cons (T E) (.cons Aj .nil)) (bd58_0_1 _ _ _ _)) (e_ (A5 zeroValue58 cs_) ?_ E) E
   rintro _ _ ⟨n16, rfl, rfl⟩
   refine e_ (A5 zeroValue58 cs_) ?_ E
   rintro _ _ ⟨n17, rfl, rfl⟩
   first | refine Bk (A7 (T E) (T E) sizeOf58) E Ah ?_
   rintro _ _ ⟨rfl, rfl⟩
   first | refine Bk (A7 (T E) (T E) sizeOf58) E Ah ?_
   rintro _ _ ⟨rfl, rfl⟩
   refine Af (Ae (Bh [(1, _), (3, _), (4, _), (11, _), (12, _), (13, _), (14, _), (15, _), (16, _), (17, _)] ⟨Aa E, Aa E, Aa E, Aa E, Aa E, Aa E, Aa E, Aa E, Aa E, Aa E, trivial⟩ (Ag (Ab (y_ (Am (T E) isAgg56 sizeOf56 E (by first | exact Bb)) ?_ E)))))
   refine y_ (Am (T E) isAgg58 sizeOf58 E (by first | exact Bb)) ?_ E
   refine y_ (Am (T E) isAgg29 sizeOf29 E (by first | exact Bb)) ?_ E
   refine e_ (A1 (.cons (T E) (.cons (T E) (.cons (T E) (.cons Aj (.cons Aj .nil))))) call29 (findE_s (l := [2, 3]) (c := 0) (exN x1 x2 x3) ⟨none, 0, [], -1⟩ m1 ⟨(ex_net (by repeat (first | exact By | refine As ?_ | refine Bd ?_)) (by repeat (first | exact By | refine As ?_ | refine Bd ?_))), (fun i x hi => by cases hi), hm1.mono sbt⟩ ⟨ex_ok x1 x2 x3, (by first | exact Nat.zero_le _ | (show 1 ≤ 4611686018427387903; omega)), hk1, hs1, by omega⟩ 0 (show _ < 4 by omega) 3 (by rw [hp1]; exact sF1 x1 x2 x3 _ _))) ?_ E
   rintro _ _ ⟨d3, ⟨rfl, hd3⟩, rfl⟩
   refine y_ (Ac (T E)) (y_ (Bf (T E) E) (y_ (Bf (T E) E) (y_ (Ad (T E)) (y_ (Ad (T E)) (Af (Ae (Ag (Ab (y_ (Am (T E) isAgg56 sizeOf56 E (by first | exact Bb)) ?_ E))))) E) E) E) E) E
   refine y_ (Am (T E) isAgg58 sizeOf58 E (by first | exact Bb)) ?_ E
   refine y_ (Am (T E) isAgg29 sizeOf29 E (by first | exact Bb)) ?_ E
   refine e_ (A1 (.cons (T E) (.cons (T E) (.cons (T E) (.cons Aj (.cons Aj .nil))))) call29 (findE_s (l := [0, 4, 3]) (c := 0) (exN x1 x2 x3) ⟨some ⟨n124, 0, none⟩, 1, [2], -1⟩ m1 ⟨(ex_net (by repeat (first | exact By | refine As ?_ | refine Bd ?_)) (by repeat (first | exact By | refine As ?_ | refine Bd ?_))), (Dp (l := [(2 : Int)]) (cells := [(2 : Int)].flatMap encI) (e := 3) (fun _ => rfl) E (by repeat (first | exact By | refine As ?_ | refine Bd ?_))), hm1.mono sbt⟩ ⟨ex_ok x1 x2 x3, (by first | exact Nat.zero_le _ | (show 1 ≤ 4611686018427387903; omega)), hk1, hs1, by omega⟩ 0 (show _ < 4 by omega) 3 (by rw [hp1]; exact sF2 x1 x2 x3 _ _))) ?_ E
   rintro _ _ ⟨d4, ⟨rfl, hd4⟩, rfl⟩
   refine y_ (Ac (T E)) (y_ (Bf (T E) E) (y_ (Bf (T E) E) (y_ (Ad (T E)) (y_ (Ad (T E)) (Af (Ae (Bh [(1, _), (3, _), (4, _), (11, _), (12, _), (13, _), (14, _), (15, _), (16, _), (18, _), (19, _), (20, _), (21, _)] ⟨Aa E, Aa E, Aa E, Aa E, Aa E, Aa E, Aa E, Aa E, Aa E, Aa E, Aa E, Aa E, Aa E, trivial⟩ (Ag (Ab (y_ (Am (T E) isAgg56 sizeOf56 E (by first | exact Bb)) ?_ E)))))) E) E) E) E) E
   refine y_ (Am (T E) isAgg58 sizeOf58 E (by first | exact Bb)) ?_ E
   refine y_ (Am (T E) isAgg29 sizeOf29 E (by first | exact Bb)) ?_ E
   refine e_ (A1 (.cons (T E) (.cons (T E) (.cons (T E) (.cons Aj (.cons Aj .nil))))) call29 (findE_s (l := []) (c := 18) (exN x1 x2 x3) ⟨none, 0, [], -1⟩ m1 ⟨(ex_net (by repeat (first | exact By | refine As ?_ | refine Bd ?_)) (by repeat (first | exact By | refine As ?_ | refine Bd ?_))), (fun i x hi => by cases hi), hm1.mono sbt⟩ ⟨ex_ok x1 x2 x3, (by first | exact Nat.zero_le _ | (show 1 ≤ 4611686018427387903; omega)), hk1, hs1, by omega⟩ 1 (show _ < 4 by omega) 3 (by rw [hp1]; exact sF3 x1 x2 x3 _ _))) ?_ E
   rintro _ _ ⟨d5, ⟨rfl, hd5⟩, rfl⟩
   refine y_ (Ac (T E)) (y_ (Bf (T E) E) (y_ (Bf (T E) E) (y_ (Ad (T E)) (y_ (Ad (T E)) (Af (Ae (Ag (Ab (y_ (Am (T E) isAgg56 sizeOf56 E (by first | exact Bb)) ?_ E))))) E) E) E) E) E
   refine y_ (Am (T E) isAgg58 sizeOf58 E (by first | exact Bb)) ?_ E
   refine y_ (Am (T E) isAgg29 sizeOf29 E (by first | exact Bb)) ?_ E
   refine e_ (A1 (.cons (T E) (.cons (T E) (.cons (T E) (.cons Aj .nil)))) call35 (reachedE_s (exN x1 x2 x3) ⟨none, 0, [], -1⟩ m1 ⟨(ex_net (by repeat (first | exact By | refine As ?_ | refine Bd ?_)) (by repeat (first | exact By | refine As ?_ | refine Bd ?_))), (fun i x hi => by cases hi), hm1.mono sbt⟩ ⟨ex_ok x1 x2 x3, (by first | exact Nat.zero_le _ | (show 1 ≤ 4611686018427387903; omega)), hk1, hs1, by omega⟩ 1 (show _ < 4 by omega))) ?_ E
   rintro _ _ ⟨d6, ks, ⟨rfl, hd6, hreach⟩, rfl⟩
   rw [hp1] at hreach
   obtain rfl := sReach hreach
   clear hreach
   refine y_ (Ad (T E)) (Af (Ae (Bh [(1, _), (3, _), (4, _), (11, _), (12, _), (13, _), (14, _), (15, _), (16, _), (18, _), (19, _), (20, _), (21, _), (23, _), (24, _)] ⟨Aa E, Aa E, Aa E, Aa E, Aa E, Aa E, Aa E, Aa E, Aa E, Aa E, Aa E, Aa E, Aa E, Aa E, Aa E, trivial⟩ (Ag (Ab (y_ (Ac (T E)) (y_ (Ac (T E)) (Ax (Ac (T E)) E (Ao E E (Aa E)) (Ax (B2 (T E) Aj) E (Ao E E (Aa E)) (y_ (Aq (T E) (T E)) (y_ (Ac (T E)) (Ax (Ac (T E)) E (Ao E E (Aa E)) (Ax (Co (T E)) E (Ao E E (Aa E)) (y_ (Aq (T E) (T E)) (y_ (Ac (T E)) (Ax (Ac (T E)) E (Ao E E (Aa E)) (Ax (B2 (T E) Aj) E (Ao E E (Aa E)) (y_ (Aq (T E) (T E)) (y_ (Ac (T E)) (Ax (Ac (T E)) E (Ao E E (Aa E)) (Bk (Ap (.cons Aj (.cons Aj .nil)) (bs25_2_0_1 _ _)) E (Ao E E (Aa E)) ?_)) E) E))) E) E))) E) E))) E) E)))))) E
   rintro _ _ ⟨n166, rfl, rfl⟩
   refine Ax (Av (.cons (T E) (.cons (T E) .nil)) call25 (fun H' hs => still_b (decide_eq_true E) (sameNames_s (slQ d2) (some ⟨n166, 0, none⟩) (slC d2) 2 [sa, soth] [sa, soth] ((Bq (X := H) (enc := encS) (sz := 1) (e := 9) (l := [sa, soth]) (fun _ => rfl) hd2).mono (List.Sublist.trans sbt hs)) (Dp (l := [sa, soth]) (cells := ([sa, soth]).flatMap encS) (e := 9) (fun _ => rfl) E (Fnd.mono (by repeat (first | exact By | refine As ?_ | refine Bd ?_)) hs)) (by decide)))) E (Ao E E (Aa E)) ?_
   refine y_ (Aq (T E) (T E)) (y_ (Ac (T E)) (Ax (Ac (T E)) E (Ao E E (Aa E)) (Ax (B2 (T E) Aj) E (Ao E E (Aa E)) (y_ (Aq (T E) (T E)) (y_ (Ac (T E)) (Ax (Ac (T E)) E (Ao E E (Aa E)) (Bk (Ap (.cons Aj (.cons Aj .nil)) (bs42_2_0_1 _ _)) E (Ao E E (Aa E)) ?_)) E) E))) E) E
   rintro _ _ ⟨n175, rfl, rfl⟩
   refine Ax (Av (.cons (T E) (.cons (T E) .nil)) call31 (fun H' hs => still_b (decide_eq_true (show [2, 3].map (fun k : Nat => (k : Int)) = [2, 3] from rfl)) (sameInts_s (slQ d3) (some ⟨n175, 0, none⟩) (slC d3) 2 ([2, 3].map (fun k : Nat => (k : Int))) [2, 3] (arrUI ((Bq (X := H) (enc := encU) (sz := 1) (e := 3) (l := [2, 3]) (fun _ => rfl) hd3).mono (List.Sublist.trans sbt hs))) (Dp (l := [2, 3]) (cells := ([2, 3] : List Int).flatMap encI) (e := 3) (fun _ => rfl) E (Fnd.mono (by repeat (first | exact By | refine As ?_ | refine Bd ?_)) hs)) (by decide)))) E (Ao E E (Aa E)) ?_
   refine y_ (Aq (T E) (T E)) (y_ (Ac (T E)) (Ax (Ac (T E)) E (Ao E E (Aa E)) (Ax (B2 (T E) Aj) E (Ao E E (Aa E)) (y_ (Aq (T E) (T E)) (y_ (Ac (T E)) (Ax (Ac (T E)) E (Ao E E (Aa E)) (Bk (Ap (.cons Aj (.cons Aj (.cons Aj .nil))) (bs42_3_0_1_2 _ _ _)) E (Ao E E (Aa E)) ?_)) E) E))) E) E
   rintro _ _ ⟨n184, rfl, rfl⟩
   refine Ax (Av (.cons (T E) (.cons (T E) .nil)) call31 (fun H' hs => still_b (decide_eq_true (show [0, 4, 3].map (fun k : Nat => (k : Int)) = [0, 4, 3] from rfl)) (sameInts_s (slQ d4) (some ⟨n184, 0, none⟩) (slC d4) 3 ([0, 4, 3].map (fun k : Nat => (k : Int))) [0, 4, 3] (arrUI ((Bq (X := H) (enc := encU) (sz := 1) (e := 3) (l := [0, 4, 3]) (fun _ => rfl) hd4).mono (List.Sublist.trans sbt hs))) (Dp (l := [0, 4, 3]) (cells := ([0, 4, 3] : List Int).flatMap encI) (e := 3) (fun _ => rfl) E (Fnd.mono (by repeat (first | exact By | refine As ?_ | refine Bd ?_)) hs)) (by decide)))) E (Ao E E (Aa E)) ?_
   refine y_ (Aq (T E) (T E)) (y_ (Ac (T E)) (Ax (Ac (T E)) E (Ao E E (Aa E)) (Ax (B2 (T E) Aj) E (Ao E E (Aa E)) (y_ (Aq (T E) (T E)) (y_ (Ac (T E)) (Ax (Ac (T E)) E (Ao E E (Aa E)) (Ax (Bp (T E) runUnderlying59) E (Ao E E (Aa E)) (Ax (B2 (T E) Aj) E (Ao E E (Aa E)) (y_ (Aq (T E) (T E)) (y_ (Ac (T E)) (Ax (Am (T E) isAgg56 sizeOf56 E (by first | exact Bb)) E (Ao E E (Aa E)) ?_) E) E)))) E) E))) E) E
   refine Ax (Am (T E) isAgg58 sizeOf58 E (by first | exact Bb)) E (Ao E E (Aa E)) ?_
   refine Ax (Am (T E) isAgg29 sizeOf29 E (by first | exact Bb)) E (Ao E E (Aa E)) ?_
   refine Ax (Ac (T E)) E (Ao E E (Aa E)) ?_
   refine Ax (Av (.cons (T E) (.cons (T E) (.cons (T E) (.cons Aj (.cons Aj (.cons (T E) .nil)))))) call37 (fun H' hs => still_b (sRe' hp1 x1 x2 x3) (refutes_s (exN x1 x2 x3) ⟨none, 0, [], -1⟩ m1 ⟨(ex_net (Fnd.mono (by repeat (first | exact By | refine As ?_ | refine Bd ?_)) hs) (Fnd.mono (by repeat (first | exact By | refine As ?_ | refine Bd ?_)) hs)), (fun i x hi => by cases hi), hm1.mono (List.Sublist.trans sbt hs)⟩ ⟨ex_ok x1 x2 x3, (by first | exact Nat.zero_le _ | (show 1 ≤ 4611686018427387903; omega)), hk1, hs1, by omega⟩ 1 (show _ < 4 by omega) 3 ([(0, 2), (1, 2), (2, 2), (3, 2)].map toI) (slQ d6) (slC d6) (arrPP ((Bq (X := H) (enc := encPl) (sz := 2) (e := 74) (l := [(0, 2), (1, 2), (2, 2), (3, 2)]) (fun _ => rfl) hd6).mono (List.Sublist.trans sbt hs))) (by decide)))) E (Ao E E (Aa E)) ?_
   refine y_ (Aq (T E) (T E)) (y_ (Ac (T E)) (Ax (Am (T E) isAgg56 sizeOf56 E (by first | exact Bb)) E (Ao E E (Aa E)) ?_) E) E
   refine Ax (Am (T E) isAgg58 sizeOf58 E (by first | exact Bb)) E (Ao E E (Aa E)) ?_
   refine Ax (Am (T E) isAgg24 sizeOf24 E (by first | exact Bb)) E (Ao E E (Aa E)) ?_
   refine Ax (Ac (T E)) E (Ao E E (Aa E)) ?_
   refine Ax (Av (.cons (T E) (.cons (T E) (.cons (T E) (.cons Aj (.cons Aj (.cons (T E) .nil)))))) call32 (fun H' hs => still_b (sHo x1 x2 x3 _ _) (holds_s (exN x1 x2 x3) (ex_net (Fnd.mono (by repeat (first | exact By | refine As ?_ | refine Bd ?_)) hs) (Fnd.mono (by repeat (first | exact By | refine As ?_ | refine Bd ?_)) hs)) (ex_ok x1 x2 x3) ⟨none, 0, [], -1⟩ (fun i x hi => by cases hi) (Nat.zero_le _) (.mk 4 ⟨#[]⟩ (some ⟨n37, 0, none⟩) 2 [(.mk 4 ⟨#[]⟩ (some ⟨n34, 0, none⟩) 2 [(.mk 4 ⟨#[]⟩ (some ⟨n31, 0, none⟩) 2 [(.mk 2 ⟨#[97]⟩ none 0 []), (.mk 6 ⟨#[]⟩ (some ⟨n27, 0, none⟩) 1 [(.mk 3 ⟨#[]⟩ none 0 [])])]), (.mk 2 ⟨#[99]⟩ none 0 [])]), (.mk 6 ⟨#[]⟩ (some ⟨n27, 0, none⟩) 1 [(.mk 3 ⟨#[]⟩ none 0 [])])]) sX (.seq (.seq (.seq (.nod (by decide)) (.star .any)) (.nod (by decide))) (.star .any)) (rxx_own (by repeat (first | exact By | refine As ?_ | refine Bd ?_)) (by repeat (first | exact By | refine As ?_ | refine Bd ?_)) (by repeat (first | exact By | refine As ?_ | refine Bd ?_)) (by repeat (first | exact By | refine As ?_ | refine Bd ?_)) hs) (by decide) 0 3 (show _ < 4 by omega) ([2, 3].map (fun k : Nat => (k : Int))) (slQ d3) (slC d3) (arrUI ((Bq (X := H) (enc := encU) (sz := 1) (e := 3) (l := [2, 3]) (fun _ => rfl) hd3).mono (List.Sublist.trans sbt hs))) (by decide)))) E (Ao E E (Aa E)) ?_
   refine y_ (Aq (T E) (T E)) (y_ (Ac (T E)) (Bk (Ap (.cons Aj (.cons Aj .nil)) (bs25_2_0_1 _ _)) E (Ao E E (Aa E)) ?_) E) E
   rintro _ _ ⟨n211, rfl, rfl⟩
   refine Ax (Av (.cons (T E) .nil) call19 (fun H' hs => sO ▸ other_s [sa, soth] (some ⟨n211, 0, none⟩) 2 (Dp (l := [sa, soth]) (cells := ([sa, soth]).flatMap encS) (e := 9) (fun _ => rfl) E (Fnd.mono (by repeat (first | exact By | refine As ?_ | refine Bd ?_)) hs)) (by decide))) E (Ao E E (Aa E)) ?_
   refine Ax (yl_eqSD (T E) Aj) E (Ao E E (Aa E)) (y_ (Aq (T E) (T E)) (y_ (Ac (T E)) (Ax (Am (T E) isAgg29 sizeOf29 E (by first | exact Bb)) E (Ao E E (Aa E)) ?_) E) E)
   refine Bk (Ap (.cons Aj (.cons Aj .nil)) (bs25_2_0_1 _ _)) E (Ao E E (Aa E)) ?_
   rintro _ _ ⟨n217, rfl, rfl⟩
   refine Ax (Av (.cons (T E) (.cons (T E) .nil)) call21 (fun H' hs => still_v (c := .int .i64 ((3 : Nat) : Int)) (congrArg (fun k : Nat => Value.int .i64 (k : Int)) (hp1.symm ▸ sR)) (run_s m1 (hm1.mono (List.Sublist.trans sbt hs)) hk1 hs1 (by omega) [sa, sc] (some ⟨n217, 0, none⟩) 2 (Dp (l := [sa, sc]) (cells := ([sa, sc]).flatMap encS) (e := 9) (fun _ => rfl) E (Fnd.mono (by repeat (first | exact By | refine As ?_ | refine Bd ?_)) hs)) (by decide)))) E (Ao E E (Aa E)) ?_
   refine Ax (B2 (T E) Aj) E (Ao E E (Aa E)) (y_ (Aq (T E) (T E)) (y_ (Ad (T E)) (Af (Ae (Bh [(0, _)] ⟨Aa E, trivial⟩ (Ay (Az E (.tmp (Aa E) .nil) ?_))))) E) E)
   exact ⟨_, ⟨rfl, rfl⟩, sbt⟩
end Go.Proofs.YtkdolgnpkjihpaaGreatDoor
namespace Go.Proofs.YtkdolgnpkjihpaaGreatDoor
open _root_.Go.Proofs.Tryz
open Go.RowKit
set_option linter.unusedVariables false
set_option linter.unusedSimpArgs false
theorem bs25_49_0_1_2_3_4_5_6_7_8_9_10_11_12_13_14_15_16_17_18_19_20_21_22_23_24_25_26_27_28_29_30_31_32_33_34_35_36_37_38_39_40_41_42_43_44_45_46_47_48 (a0 : ByteArray) (a1 : ByteArray) (a2 : ByteArray) (a3 : ByteArray) (a4 : ByteArray) (a5 : ByteArray) (a6 : ByteArray) (a7 : ByteArray) (a8 : ByteArray) (a9 : ByteArray) (a10 : ByteArray) (a11 : ByteArray) (a12 : ByteArray) (a13 : ByteArray) (a14 : ByteArray) (a15 : ByteArray) (a16 : ByteArray) (a17 : ByteArray) (a18 : ByteArray) (a19 : ByteArray) (a20 : ByteArray) (a21 : ByteArray) (a22 : ByteArray) (a23 : ByteArray) (a24 : ByteArray) (a25 : ByteArray) (a26 : ByteArray) (a27 : ByteArray) (a28 : ByteArray) (a29 : ByteArray) (a30 : ByteArray) (a31 : ByteArray) (a32 : ByteArray) (a33 : ByteArray) (a34 : ByteArray) (a35 : ByteArray) (a36 : ByteArray) (a37 : ByteArray) (a38 : ByteArray) (a39 : ByteArray) (a40 : ByteArray) (a41 : ByteArray) (a42 : ByteArray) (a43 : ByteArray) (a44 : ByteArray) (a45 : ByteArray) (a46 : ByteArray) (a47 : ByteArray) (a48 : ByteArray) (w : World) : (Instr.buildSlice 25 49 #[(0, .string a0), (1, .string a1), (2, .string a2), (3, .string a3), (4, .string a4), (5, .string a5), (6, .string a6), (7, .string a7), (8, .string a8), (9, .string a9), (10, .string a10), (11, .string a11), (12, .string a12), (13, .string a13), (14, .string a14), (15, .string a15), (16, .string a16), (17, .string a17), (18, .string a18), (19, .string a19), (20, .string a20), (21, .string a21), (22, .string a22), (23, .string a23), (24, .string a24), (25, .string a25), (26, .string a26), (27, .string a27), (28, .string a28), (29, .string a29), (30, .string a30), (31, .string a31), (32, .string a32), (33, .string a33), (34, .string a34), (35, .string a35), (36, .string a36), (37, .string a37), (38, .string a38), (39, .string a39), (40, .string a40), (41, .string a41), (42, .string a42), (43, .string a43), (44, .string a44), (45, .string a45), (46, .string a46), (47, .string a47), (48, .string a48)]).run Tryz.prog w = .ok (.slice (some ⟨w.heap.size, 0, none⟩) 49 49) (w.alloc (Cl [.string a0, .string a1, .string a2, .string a3, .string a4, .string a5, .string a6, .string a7, .string a8, .string a9, .string a10, .string a11, .string a12, .string a13, .string a14, .string a15, .string a16, .string a17, .string a18, .string a19, .string a20, .string a21, .string a22, .string a23, .string a24, .string a25, .string a26, .string a27, .string a28, .string a29, .string a30, .string a31, .string a32, .string a33, .string a34, .string a35, .string a36, .string a37, .string a38, .string a39, .string a40, .string a41, .string a42, .string a43, .string a44, .string a45, .string a46, .string a47, .string a48] 9)) := by kernel_rfl
theorem ch10_s {w0 : World} {H : List (Nat × Obj)} (c : Int) :
  FSpec Tryz.prog w0 176 #[.int .u8 c] H (fun v H' => (∃ t : Bool, v = .bool t) ∧ H' = H) := by
 refine A9 Tryz.func176 E ntmps176 E (Ag (Ab (y_ (Ad Aj) (Af (Ae (Ag (Ab (y_ (Ac (T E)) (y_ (C2 (T E) Aj) (y_ (Ac (T E)) ?_ E) E) E))))) E)))
 first | refine Bz (s := 5) (Aa E) (fun c5 => ?_) (fun c5 => ?_) | refine Cf (s := 5) (Aa E) (fun c5 => ?_) (fun c5 => ?_)
 ·refine Ax (Ac (T E)) E (Ao E E (Aa E)) (Ax (D0 (T E) Aj) E (Ao E E (Aa E)) (y_ (Aq (T E) (T E)) (y_ (Ad (T E)) (Af (Ae (Ay (Az E (.tmp (Aa E) .nil) ?_)))) E) E))
  exact ⟨_, ⟨⟨_, rfl⟩, rfl⟩, sbt⟩
 ·refine Bs (Bs (y_ (Au (T E) Aj) (y_ (Ad (T E)) (Af (Ae (Ay (Az E (.tmp (Aa E) .nil) ?_)))) E) E) E E E E) E E E E
  exact ⟨_, ⟨⟨_, rfl⟩, rfl⟩, sbt⟩
theorem dg10_s {w0 : World} {H : List (Nat × Obj)} (c : Int) :
  FSpec Tryz.prog w0 192 #[.int .u8 c] H (fun v H' => (∃ t : Bool, v = .bool t) ∧ H' = H) := by
 refine A9 Tryz.func192 E ntmps192 E (Ag (Ab (y_ (Ad Aj) (Af (Ae (Ag (Ab (y_ (Ac (T E)) (y_ (C2 (T E) Aj) (y_ (Ac (T E)) ?_ E) E) E))))) E)))
 first | refine Bz (s := 5) (Aa E) (fun c5 => ?_) (fun c5 => ?_) | refine Cf (s := 5) (Aa E) (fun c5 => ?_) (fun c5 => ?_)
 ·refine Ax (Ac (T E)) E (Ao E E (Aa E)) (Ax (D0 (T E) Aj) E (Ao E E (Aa E)) (y_ (Aq (T E) (T E)) (y_ (Ad (T E)) (Af (Ae (Ay (Az E (.tmp (Aa E) .nil) ?_)))) E) E))
  exact ⟨_, ⟨⟨_, rfl⟩, rfl⟩, sbt⟩
 ·refine Bs (Bs (y_ (Au (T E) Aj) (y_ (Ad (T E)) (Af (Ae (Ay (Az E (.tmp (Aa E) .nil) ?_)))) E) E) E E E E) E E E E
  exact ⟨_, ⟨⟨_, rfl⟩, rfl⟩, sbt⟩
theorem wb10_s {w0 : World} {H : List (Nat × Obj)} (c : Int) :
  FSpec Tryz.prog w0 188 #[.int .u8 c] H (fun v H' => (∃ t : Bool, v = .bool t) ∧ H' = H) := by
 refine A9 Tryz.func188 E ntmps188 E (Ag (Ab (y_ (Ad Aj) (Af (Ae (Ag (Ab (y_ (Ac (T E)) (e_ (A1 (.cons (T E) .nil) call176 (ch10_s _)) ?_ E) E))))) E)))
 rintro _ _ ⟨⟨t1, rfl⟩, rfl⟩
 refine y_ (Ad (T E)) (Af (Ae (Ag (Ab (y_ (Ac (T E)) (e_ (A1 (.cons (T E) .nil) call192 (dg10_s _)) ?_ E) E))))) E
 rintro _ _ ⟨⟨t2, rfl⟩, rfl⟩
 refine y_ (Ad (T E)) (Af (Ae (Ag (Ab (y_ (Ac (T E)) (y_ (Ac (T E)) ?_ E) E))))) E
 first | refine Bz (s := 10) (Aa E) (fun c10 => ?_) (fun c10 => ?_) | refine Cf (s := 10) (Aa E) (fun c10 => ?_) (fun c10 => ?_)
 ·refine Bm (y_ (Aq (T E) Aj) (y_ (Ac (T E)) (Bm (Bm (y_ (Aq (T E) Aj) (y_ (Ad (T E)) (Af (Ae (Ay (Az E (.tmp (Aa E) .nil) ?_)))) E) E) E E E E) E E E E) E) E) E E E E
  exact ⟨_, ⟨⟨_, rfl⟩, rfl⟩, sbt⟩
 ·refine Ax (Ac (T E)) E (Ao E E (Aa E)) (y_ (Au (T E) (T E)) (y_ (Ac (T E)) ?_ E) E)
  first | refine Bz (s := 13) (Aa E) (fun c13 => ?_) (fun c13 => ?_) | refine Cf (s := 13) (Aa E) (fun c13 => ?_) (fun c13 => ?_)
  ·refine Bm (Bm (y_ (Aq (T E) Aj) (y_ (Ad (T E)) (Af (Ae (Ay (Az E (.tmp (Aa E) .nil) ?_)))) E) E) E E E E) E E E E
   exact ⟨_, ⟨⟨_, rfl⟩, rfl⟩, sbt⟩
  ·refine Ax (Ac (T E)) E (Ao E E (Aa E)) (Ax (B2 (T E) Aj) E (Ao E E (Aa E)) (y_ (Au (T E) (T E)) (y_ (Ad (T E)) (Af (Ae (Ay (Az E (.tmp (Aa E) .nil) ?_)))) E) E))
   exact ⟨_, ⟨⟨_, rfl⟩, rfl⟩, sbt⟩
theorem run10_s {w0 : World} {H : List (Nat × Obj)} (s : ByteArray) (hs : s.size ≤ 9223372036854775807) :
  FSpec Tryz.prog w0 178 #[.string s] H (fun v H' => (∃ t : Int, v = .int .i64 t) ∧ H' = H) := by
 refine A9 Tryz.func178 E ntmps178 E (Ag (Ab (y_ (Ad Aj) (Af (Ae (Ag (Ab (y_ (Ad Aj) (Af (Ae (Ag (Aw ?_)))) E))))) E)))
 refine Cc (X := Nat) (V := fun k => [(3, .int .i64 (k : Nat))]) (C := [(0, _)]) (φ := fun k => k ≤ s.size) (μ := fun k => s.size - k) (x0 := 0) ?_ ⟨Aa E, trivial⟩ ⟨(by first | exact Aa E | (refine Ak (Aa E) (vint ?_); omega) | (refine Ak (Aa E) ?_; simp; done)), trivial⟩ ?_
 ·exact Nat.zero_le _
 rintro k hk
 refine Ag (Ag (Ab (y_ (Ac (T E)) (y_ (Ac (T E)) (y_ (yl_len_s (T E) runUnderlying9) (y_ (Bu (T E) (T E)) (Af (Ae ?_)) E) E) E) E)))
 first | refine Ar (Aa E) (fun c8 => ?_) (fun c8 => ?_) | refine A6 (Aa E) (fun c8 => ?_) (fun c8 => ?_)
 ·refine A2 (Ae (Aw (Ag (Ab (y_ (Ac (T E)) (y_ (Ac (T E)) (y_ (yl_sidx (T E) (T E) runUnderlying9 (by omega)) ?_ E) E) E)))))
  refine e_ (A1 (.cons (T E) .nil) call188 (wb10_s _)) ?_ E
  rintro _ _ ⟨⟨t, rfl⟩, rfl⟩
  refine y_ (Ad (T E)) (Af (Ae (Ag (Ag (Ab (y_ (Ac (T E)) ?_ E)))))) E
  first | refine Ax (Ca (T E)) E Ah ?_ | refine Ax (Co (T E)) E Ah ?_
  refine Af (Ae ?_)
  first | refine Ar (Aa E) (fun c14 => ?_) (fun c14 => ?_) | refine A6 (Aa E) (fun c14 => ?_) (fun c14 => ?_)
  ·refine B4 (A0 (q_block_miss E (A4 (A3 (Ae (Ag (Ab (y_ (Ac (T E)) (y_ (Ad (T E)) (Af (Ae (Ay (Az E (.tmp (Aa E) .nil) ?_)))) E) E))))))))
   exact ⟨_, ⟨⟨_, rfl⟩, rfl⟩, sbt⟩
  ·refine A2 (Ae (Ab (y_ (Ac (T E)) (y_ (Bt (T E) Aj (by omega)) ?_ E) E)))
   refine y_ (Ad (T E)) (Af (Bl ?_)) E
   refine Bn (k + 1) ?_ ?_ ⟨(by first | exact Aa E | (refine Ak (Aa E) (vint ?_); omega) | (refine Ak (Aa E) ?_; simp; done)), trivial⟩ ⟨Aa E, trivial⟩ ?_
   ·show k + 1 ≤ _; omega
   ·first | omega | (simp only []; omega)
   ·exact sbt
 ·refine B4 (A0 (A4 (A3 (Ae (Ag (Ab (y_ (Ac (T E)) (y_ (Ad (T E)) (Af (Ae (Ay (Az E (.tmp (Aa E) .nil) ?_)))) E) E)))))))
  exact ⟨_, ⟨⟨_, rfl⟩, rfl⟩, sbt⟩
def wordsL : List ByteArray := [⟨#[97,110,100]⟩, ⟨#[97,110,121]⟩, ⟨#[97,116]⟩, ⟨#[98,97,99,107]⟩, ⟨#[98,111,120]⟩, ⟨#[98,117,114,115,116]⟩, ⟨#[98,121]⟩, ⟨#[99,97,112,97,99,105,116,121]⟩, ⟨#[99,101,105,108,105,110,103]⟩, ⟨#[99,104,101,99,107]⟩, ⟨#[99,111,110,116,114,97,99,116]⟩, ⟨#[99,111,117,110,116]⟩, ⟨#[100,101,109,97,110,100]⟩, ⟨#[100,114,111,112]⟩, ⟨#[101,97,99,104]⟩, ⟨#[101,100,103,101]⟩, ⟨#[101,110,116,114,105,101,115]⟩, ⟨#[102,97,108,115,101]⟩, ⟨#[102,105,101,108,100]⟩, ⟨#[102,108,111,111,114]⟩, ⟨#[102,114,111,109]⟩, ⟨#[105,100]⟩, ⟨#[105,110]⟩, ⟨#[105,110,110,101,114]⟩, ⟨#[105,110,116,111]⟩, ⟨#[108,105,110,107]⟩, ⟨#[110,101,116,119,111,114,107]⟩, ⟨#[110,111,100,101]⟩, ⟨#[110,111,116]⟩, ⟨#[111,112,101,110]⟩, ⟨#[111,114]⟩, ⟨#[112,97,116,104]⟩, ⟨#[112,111,114,116]⟩, ⟨#[112,114,105,99,101]⟩, ⟨#[114,111,117,116,101]⟩, ⟨#[114,117,108,101,115]⟩, ⟨#[115,116,97,103,101]⟩, ⟨#[116,97,107,101]⟩, ⟨#[116,101,110,97,110,116]⟩, ⟨#[116,104,101,110]⟩, ⟨#[116,105,109,101]⟩, ⟨#[116,111]⟩, ⟨#[116,111,107,101,110]⟩, ⟨#[116,114,97,110,115,108,97,116,101]⟩, ⟨#[116,114,117,101]⟩, ⟨#[118,105,97]⟩, ⟨#[119,105,100,116,104]⟩, ⟨#[119,105,114,101]⟩, ⟨#[119,105,116,104,105,110]⟩]
theorem words_s {w0 : World} {H : List (Nat × Obj)}  :
  FSpec Tryz.prog w0 187 #[] H (fun v H' => (∃ n : Nat, v = .slice (some ⟨n, 0, none⟩) 49 49 ∧ H' = (n, Cl (wordsL.flatMap encS) 9) :: H)) := by
 refine A9 Tryz.func187 E ntmps187 E (Ag (Ab (y_ (Ad Aj) (Af (Ae (Ag (Ab (e_ (Ap (.cons Aj (.cons Aj (.cons Aj (.cons Aj (.cons Aj (.cons Aj (.cons Aj (.cons Aj (.cons Aj (.cons Aj (.cons Aj (.cons Aj (.cons Aj (.cons Aj (.cons Aj (.cons Aj (.cons Aj (.cons Aj (.cons Aj (.cons Aj (.cons Aj (.cons Aj (.cons Aj (.cons Aj (.cons Aj (.cons Aj (.cons Aj (.cons Aj (.cons Aj (.cons Aj (.cons Aj (.cons Aj (.cons Aj (.cons Aj (.cons Aj (.cons Aj (.cons Aj (.cons Aj (.cons Aj (.cons Aj (.cons Aj (.cons Aj (.cons Aj (.cons Aj (.cons Aj (.cons Aj (.cons Aj (.cons Aj (.cons Aj .nil))))))))))))))))))))))))))))))))))))))))))))))))) (bs25_49_0_1_2_3_4_5_6_7_8_9_10_11_12_13_14_15_16_17_18_19_20_21_22_23_24_25_26_27_28_29_30_31_32_33_34_35_36_37_38_39_40_41_42_43_44_45_46_47_48 _ _ _ _ _ _ _ _ _ _ _ _ _ _ _ _ _ _ _ _ _ _ _ _ _ _ _ _ _ _ _ _ _ _ _ _ _ _ _ _ _ _ _ _ _ _ _ _ _)) ?_ E))))) E)))
 rintro _ _ ⟨n1, rfl, rfl⟩
 refine y_ (Ad (T E)) (Af (Ae (Ay (Az E (.tmp (Aa E) .nil) ?_)))) E
 exact ⟨_, ⟨_, rfl, rfl⟩, sbt⟩
theorem isw_s {w0 : World} {H : List (Nat × Obj)} (s : ByteArray) :
  FSpec Tryz.prog w0 177 #[.string s] H (fun v H' => (∃ t : Bool, v = .bool t) ∧ H' = H) := by
 refine A9 Tryz.func177 E ntmps177 E (Ag (Ab (y_ (Ad Aj) (Af (Ae (Ag (Ab (e_ (A1 .nil call187 (words_s)) ?_ E))))) E)))
 rintro _ _ ⟨n5, rfl, rfl⟩
 refine y_ (Ad (T E)) (Af (Ae (Ag (Ag (Ab (y_ (Ad Aj) (Af (Ae (Aw ?_))) E)))))) E
 refine Cc (X := Nat) (V := fun k => [(4, .int .i64 (k : Nat))]) (C := [(0, _), (3, _)]) (φ := fun k => k ≤ 49) (μ := fun k => 49 - k) (x0 := 0) ?_ ⟨Aa E, Aa E, trivial⟩ ⟨(by first | exact Aa E | (refine Ak (Aa E) (vint ?_); omega) | (refine Ak (Aa E) ?_; simp; done)), trivial⟩ ?_
 ·exact Nat.zero_le _
 rintro k hk
 refine Ag (Ag (Ab (y_ (Ac (T E)) (y_ (Ac (T E)) (y_ (Bp (T E) runUnderlying25) (y_ (Bu (T E) (T E)) (Af (Ae ?_)) E) E) E) E)))
 first | refine Ar (Aa E) (fun c9 => ?_) (fun c9 => ?_) | refine A6 (Aa E) (fun c9 => ?_) (fun c9 => ?_)
 ·refine A2 (Ae (Ag (Aw (Ag (Ab (y_ (Ac (T E)) (y_ (Ac (T E)) (y_ (Be (T E) (T E) runUnderlying25 sizeOf9 (by omega) (by first | exact rfl | exact (by rfl))) ?_ E) E) E))))))
  refine y_ (Ai (T E) isAgg9 (by first | exact c_o | exact cell1 ((Dp (l := wordsL) (sz := 1) (enc := encS) (fun _ => rfl) E (by repeat (first | exact By | refine As ?_ | refine Bd ?_))).cs (i := k) (show k < 49 by omega)))) ?_ E
  refine y_ (Ac (T E)) (y_ (yl_eqSD (T E) (T E)) (Af (Ae ?_)) E) E
  first | refine Ar (Aa E) (fun c17 => ?_) (fun c17 => ?_) | refine A6 (Aa E) (fun c17 => ?_) (fun c17 => ?_)
  ·refine Ag (Ab (y_ (Ad Aj) (Af (Ae (Ay (An (Al (Bo (An (Al (Az E (.tmp (Aa E) .nil) ?_))))))))) E))
   exact ⟨_, ⟨⟨_, rfl⟩, rfl⟩, sbt⟩
  ·refine A2 (Bl (Ae (Ab (y_ (Ac (T E)) (y_ (Bt (T E) Aj (by omega)) ?_ E) E))))
   refine y_ (Ad (T E)) (Af ?_) E
   refine Bn (k + 1) ?_ ?_ ⟨(by first | exact Aa E | (refine Ak (Aa E) (vint ?_); omega) | (refine Ak (Aa E) ?_; simp; done)), trivial⟩ ⟨Aa E, Aa E, trivial⟩ ?_
   ·show k + 1 ≤ _; omega
   ·first | omega | (simp only []; omega)
   ·exact sbt
 ·refine B4 (A0 (A4 (A3 (Ae (Ag (Ab (y_ (Ad Aj) (Af (Ae (Ay (Az E (.tmp (Aa E) .nil) ?_)))) E)))))))
  exact ⟨_, ⟨⟨_, rfl⟩, rfl⟩, sbt⟩
theorem name10_s {w0 : World} {H : List (Nat × Obj)} (s : ByteArray) (hs : s.size ≤ 9223372036854775807) :
  FSpec Tryz.prog w0 158 #[.string s] H (fun v H' => (∃ t : Bool, v = .bool t ∧ (t = true → s.size ≠ 0)) ∧ H' = H) := by
 refine A9 Tryz.func158 E ntmps158 E (Ag (Ab (y_ (Ad Aj) (Af (Ae (Ag (Ag (Ab (y_ (Ac (T E)) (y_ (yl_len_s (T E) runUnderlying9) (y_ (B2 (T E) Aj) (y_ (Ac (T E)) ?_ E) E) E) E)))))) E)))
 first | refine Bz (s := 8) (Aa E) (fun c8 => ?_) (fun c8 => ?_) | refine Cf (s := 8) (Aa E) (fun c8 => ?_) (fun c8 => ?_)
 ·refine Bm (Bm (Bm (y_ (Aq (T E) Aj) (Af (Ae ?_)) E) E E E E) E E E E) E E E E
  first | refine A8 (Aa E) ?_ | refine A8 (Ak (Aa E) (vbool (decide_eq_true c12))) ?_
  refine Ag (Ab (y_ (Ad Aj) (Af (Ae (Ay (Al (Az E (.tmp (Aa E) .nil) ?_))))) E))
  exact ⟨_, ⟨⟨_, rfl, fun h => (by first | omega | cases h)⟩, rfl⟩, sbt⟩
 ·refine Ax (Ac (T E)) E (Ao E E (Aa E)) (Ax (yl_len_s (T E) runUnderlying9) E (Ao E E (Aa E)) (Ax (C7 (T E) Aj) E (Ao E E (Aa E)) (y_ (Au (T E) (T E)) (Af (Ae ?_)) E)))
  first | refine Ar (Aa E) (fun c12 => ?_) (fun c12 => ?_) | refine A6 (Aa E) (fun c12 => ?_) (fun c12 => ?_)
  ·refine Ag (Ab (y_ (Ad Aj) (Af (Ae (Ay (Al (Az E (.tmp (Aa E) .nil) ?_))))) E))
   exact ⟨_, ⟨⟨_, rfl, fun h => (by first | omega | cases h)⟩, rfl⟩, sbt⟩
  ·refine A2 (Ae (Ag (Ab (y_ (Ac (T E)) (y_ (yl_sidx (T E) Aj runUnderlying9 (by show 0 < s.size; omega)) ?_ E) E))))
   refine e_ (A1 (.cons (T E) .nil) call176 (ch10_s _)) ?_ E
   rintro _ _ ⟨⟨t1, rfl⟩, rfl⟩
   refine y_ (Ad (T E)) (Af (Ae (Ag (Ab (y_ (Ac (T E)) (e_ (A1 (.cons (T E) .nil) call177 (isw_s s)) ?_ E) E))))) E
   rintro _ _ ⟨⟨t2, rfl⟩, rfl⟩
   refine y_ (Ad (T E)) (Af (Ae (Ag (Ab (y_ (Ac (T E)) (y_ (Ac (T E)) ?_ E) E))))) E
   first | refine Bz (s := 19) (Aa E) (fun c19 => ?_) (fun c19 => ?_) | refine Cf (s := 19) (Aa E) (fun c19 => ?_) (fun c19 => ?_)
   ·refine Ax (Ac (T E)) E (Ao E E (Aa E)) (Bk (A1 (.cons (T E) .nil) call178 (run10_s s hs)) E (Ao E E (Aa E)) ?_)
    rintro _ _ ⟨⟨t3, rfl⟩, rfl⟩
    refine Ax (Ac (T E)) E (Ao E E (Aa E)) (Ax (yl_len_s (T E) runUnderlying9) E (Ao E E (Aa E)) (Ax (B2 (T E) (T E)) E (Ao E E (Aa E)) (y_ (Aq (T E) (T E)) (y_ (Ac (T E)) ?_ E) E)))
    first | refine Bz (s := 26) (Aa E) (fun c26 => ?_) (fun c26 => ?_) | refine Cf (s := 26) (Aa E) (fun c26 => ?_) (fun c26 => ?_)
    ·refine Ax (Ac (T E)) E (Ao E E (Aa E)) ?_
     first | refine Ax (Ca (T E)) E (Ao E E (Aa E)) ?_ | refine Ax (Co (T E)) E (Ao E E (Aa E)) ?_
     refine y_ (Aq (T E) (T E)) (y_ (Ad (T E)) (Af (Ae (Bh [(2, _)] ⟨Aa E, trivial⟩ (Ay (Az E (.tmp (Aa E) .nil) ?_))))) E) E
     exact ⟨_, ⟨⟨_, rfl, fun h => (by first | omega | cases h)⟩, rfl⟩, sbt⟩
    ·refine Bs (Bs (y_ (Au (T E) Aj) (y_ (Ad (T E)) (Af (Ae (Bh [(2, _)] ⟨Aa E, trivial⟩ (Ay (Az E (.tmp (Aa E) .nil) ?_))))) E) E) E E E E) E E E E
     exact ⟨_, ⟨⟨_, rfl, fun h => (by first | omega | cases h)⟩, rfl⟩, sbt⟩
   ·refine Bs (Bs (Bs (Bs (Bs (y_ (Au (T E) Aj) (y_ (Ac (T E)) (Bs (Bs (y_ (Au (T E) Aj) (y_ (Ad (T E)) (Af (Ae (Bh [(2, _)] ⟨Aa E, trivial⟩ (Ay (Az E (.tmp (Aa E) .nil) ?_))))) E) E) E E E E) E E E E) E) E) E E E E) E E E E) E E E E) E E E E) E E E E
    exact ⟨_, ⟨⟨_, rfl, fun h => (by first | omega | cases h)⟩, rfl⟩, sbt⟩
theorem plain_s {w0 : World} {H : List (Nat × Obj)} (s : ByteArray) (hs : s.size ≤ 9223372036854775807) :
  FSpec Tryz.prog w0 137 #[.string s] H (fun v H' => (∃ t : Bool, v = .bool t ∧ (t = true → s.size ≠ 0)) ∧ H' = H) := by
 refine A9 Tryz.func137 E ntmps137 E (Ag (Ab (y_ (Ad Aj) (Af (Ae (Ag (Ab (y_ (Ac (T E)) (e_ (A1 (.cons (T E) .nil) call158 (name10_s s hs)) ?_ E) E))))) E)))
 rintro _ _ ⟨⟨t1, rfl, h1⟩, rfl⟩
 refine y_ (Ad (T E)) (Af (Ae (Ay (Az E (.tmp (Aa E) .nil) ?_)))) E
 exact ⟨_, ⟨⟨_, rfl, h1⟩, rfl⟩, sbt⟩
end Go.Proofs.YtkdolgnpkjihpaaGreatDoor
namespace Go.Proofs.YtkdolgnpkjihpaaGreatDoor
open _root_.Go.Proofs.Tryz
open Go.RowKit
set_option linter.unusedVariables false
set_option linter.unusedSimpArgs false
theorem bd150_0_1 (a0 : Int) (a1 : Int) (w : World) : (Instr.build 150 #[(0, .int .i64 a0), (1, .int .i64 a1)]).run Tryz.prog w = .ok (.agg #[.int .i64 a0, .int .i64 a1]) w := by kernel_rfl
theorem fa150_0 (b o : Nat) (w : World) : (Instr.fieldAt 150 (.pointer (some ⟨b, o, none⟩)) 0).run Tryz.prog w = .ok (.pointer (some ⟨b, o, none⟩)) w := by kernel_rfl
theorem fa150_1 (b o : Nat) (w : World) : (Instr.fieldAt 150 (.pointer (some ⟨b, o, none⟩)) 1).run Tryz.prog w = .ok (.pointer (some ⟨b, o + 1, none⟩)) w := by kernel_rfl
mutual
def Rxm.sz : Rxm → Nat
 | .mk _ _ _ _ xs => 1 + szL xs
def szL : List Rxm → Nat
 | [] => 0
 | x :: xs => x.sz + szL xs
end
theorem sz_eq (m : Rxm) : m.sz = 1 + szL m.args := by cases m; rfl
theorem szL_app : ∀ (a b : List Rxm), szL (a ++ b) = szL a + szL b
 | [], b => by simp [szL]
 | x :: a, b => by simp only [List.cons_append, szL, szL_app a b]; omega
theorem szL_take {l : List Rxm} {i : Nat} (h : i < l.length) : szL (l.take (i + 1)) = szL (l.take i) + (gd l i).sz := by
 rw [take_gd h, szL_app]; simp [szL]
theorem szL_le : ∀ (l : List Rxm) (i : Nat), szL (l.take i) ≤ szL l
 | [], i => by simp [szL]
 | x :: l, 0 => by simp [szL]
 | x :: l, i + 1 => by simp only [List.take_succ_cons, szL]; have := szL_le l i; omega
theorem szL_len : ∀ l : List Rxm, l.length ≤ szL l
 | [] => Nat.le_refl _
 | x :: l => by simp only [List.length_cons, szL]; have := szL_len l; have := sz_eq x; omega
theorem sz_mem {m a : Rxm} (h : a ∈ m.args) : a.sz < m.sz := by
 rw [sz_eq m]
 have : ∀ l : List Rxm, a ∈ l → a.sz ≤ szL l := fun l => by
  induction l with
  | nil => intro h; cases h
  | cons x l ih =>
   intro h
   rcases List.mem_cons.1 h with rfl | h
   ·simp only [szL]; omega
   ·have := ih h; simp only [szL]; omega
 have := this _ h; omega
theorem RxM.arr {w0 : World} {H : List (Nat × Obj)} {m : Rxm} (h : RxM w0 H m) : Arr w0 H m.q 3 encRx m.args := by cases h; assumption
theorem RxM.arg {w0 : World} {H : List (Nat × Obj)} {m a : Rxm} (h : RxM w0 H m) (ha : a ∈ m.args) : RxM w0 H a := by cases h; rename_i h1 h2 h3 h4; exact h2 _ ha
theorem RxM.nl {w0 : World} {H : List (Nat × Obj)} {m : Rxm} (h : RxM w0 H m) : m.node.size ≤ 9223372036854775807 := by cases h; assumption
theorem RxM.al {w0 : World} {H : List (Nat × Obj)} {m : Rxm} (h : RxM w0 H m) : m.args.length ≤ 9223372036854775807 := by cases h; assumption
theorem rx_ind {Q : Rxm → Prop} (h : ∀ m, (∀ a ∈ m.args, Q a) → Q m) : ∀ m, Q m := fun m => by
 have : ∀ n (m : Rxm), m.sz ≤ n → Q m := fun n => by
  induction n with
  | zero => intro m hm; rw [sz_eq] at hm; omega
  | succ n ih => intro m hm; exact h m fun a ha => ih a (by have := sz_mem ha; omega)
 exact this _ m (Nat.le_refl _)
def cntS (w0 : World) (m : Rxm) : Prop := ∀ H : List (Nat × Obj), RxM w0 H m → m.sz ≤ 1048576 → FSpec Tryz.prog w0 41 #[.agg (encRx m).toArray] H (Still (.int .i64 (m.sz : Nat)) H)
theorem cnt_step {w0 : World} {H : List (Nat × Obj)} (m : Rxm) (hM : RxM w0 H m) (hz : m.sz ≤ 1048576) (ih : ∀ a ∈ m.args, cntS w0 a) :
  FSpec Tryz.prog w0 41 #[.agg (encRx m).toArray] H (Still (.int .i64 (m.sz : Nat)) H) := by
 refine A9 Tryz.func41 E ntmps41 E ?_
 have hse := sz_eq m
 have hln := szL_len m.args
 have hA := hM.arr
 refine Ag (Ab (e_ (Ba (T E) cs_) ?_ E))
 rintro _ _ ⟨n1, rfl, rfl⟩
 refine y_ (Ad Aj) (Af (Ae (Ag (Ab (y_ (Ad Aj) (Af (Ae (Ag (Ag (Ab (y_ (Ad Aj) (Af (Ae (Aw ?_))) E)))))) E))))) E
 refine Cc (X := Nat) (V := fun i => [(4, .int .i64 (i : Nat)), (3, .int .i64 (1 + szL (m.args.take i) : Nat))]) (C := [(1, _)]) (φ := fun i => i ≤ m.args.length) (μ := fun i => m.args.length - i) (x0 := 0) ?_ ⟨Aa E, trivial⟩ ⟨(by first | exact Aa E | (refine Ak (Aa E) (vint ?_); omega) | (refine Ak (Aa E) ?_; simp; done)), (by first | exact Aa E | (refine Ak (Aa E) (vint ?_); omega) | (refine Ak (Aa E) ?_; simp; done)), trivial⟩ ?_
 ·exact Nat.zero_le _
 rintro i hi
 have htk : i < m.args.length → szL (m.args.take (i + 1)) = szL (m.args.take i) + (gd m.args i).sz := fun h => szL_take h
 have htl := szL_le m.args (i + 1)
 have htl0 := szL_le m.args i
 refine Ag (Ag (Ab (y_ (Ac (T E)) (y_ (Bi (T E) Df) (y_ (Ai (T E) isAgg22 (by first | exact c_o)) ?_ E) E) E)))
 refine y_ (Bp (T E) runUnderlying22) (y_ (Bu (T E) (T E)) (Af (Ae ?_)) E) E
 first | refine Ar (Aa E) (fun c9 => ?_) (fun c9 => ?_) | refine A6 (Aa E) (fun c9 => ?_) (fun c9 => ?_)
 ·refine A2 (Ae (Ag (Aw (Ab (y_ (Ac (T E)) (y_ (Bi (T E) Df) (y_ (Ai (T E) isAgg22 (by first | exact c_o)) ?_ E) E) E)))))
  refine y_ (Ac (T E)) (y_ (Be (T E) (T E) runUnderlying22 sizeOf24 (by omega) (by first | exact rfl | exact hA.b (i := i) (by omega))) ?_ E) E
  refine y_ (Am (T E) isAgg24 sizeOf24 E (by first | exact (hA.mono sbt).cs (i := i) (by omega) | exact Bb)) ?_ E
  refine y_ (Av (.cons (T E) .nil) call41 (fun H' hs => ih _ (Bg (i := i) (by omega)) _ ((hM.arg (Bg (i := i) (by omega))).mono (List.Sublist.trans sbt hs)) (by omega))) ?_ E
  refine y_ (Bt (T E) (T E) (by omega)) ?_ E
  refine y_ (Ad (T E)) (Af (Bl (Ae (Ab (y_ (Ac (T E)) (y_ (Bt (T E) Aj (by omega)) ?_ E) E))))) E
  refine y_ (Ad (T E)) (Af ?_) E
  refine Bn (i + 1) ?_ ?_ ⟨(by first | exact Aa E | (refine Ak (Aa E) (vint ?_); omega) | (refine Ak (Aa E) ?_; simp; done)), (by first | exact Aa E | (refine Ak (Aa E) (vint ?_); omega) | (refine Ak (Aa E) ?_; simp; done)), trivial⟩ ⟨Aa E, trivial⟩ ?_
  ·show i + 1 ≤ _; omega
  ·first | omega | (simp only []; omega)
  ·exact sbt
 ·refine B4 (A0 (A4 (A3 (Ae (Ag (Ab (y_ (Ac (T E)) (y_ (Ad (T E)) (Af (Ae (Ay (Az E (.tmp (Aa E) .nil) ?_)))) E) E)))))))
  exact ⟨_, ⟨vint (by rw [List.take_of_length_le (by omega)]; omega), rfl⟩, sbt⟩
theorem cnt_s {w0 : World} {H : List (Nat × Obj)} (m : Rxm) (hM : RxM w0 H m) (hz : m.sz ≤ 1048576) : FSpec Tryz.prog w0 41 #[.agg (encRx m).toArray] H (Still (.int .i64 (m.sz : Nat)) H) :=
 rx_ind (Q := cntS w0) (fun m ih H hM hz => cnt_step m hM hz ih) m H hM hz
def strS (w0 : World) (m : Rxm) : Prop := ∀ H : List (Nat × Obj), RxM w0 H m → m.sz ≤ 1048576 → FSpec Tryz.prog w0 42 #[.agg (encRx m).toArray] H (fun v H' => (∃ t : Nat, v = .int .i64 (t : Nat) ∧ t ≤ m.sz) ∧ H' = H)
theorem str_step {w0 : World} {H : List (Nat × Obj)} (m : Rxm) (hM : RxM w0 H m) (hz : m.sz ≤ 1048576) (ih : ∀ a ∈ m.args, strS w0 a) :
  FSpec Tryz.prog w0 42 #[.agg (encRx m).toArray] H (fun v H' => (∃ t : Nat, v = .int .i64 (t : Nat) ∧ t ≤ m.sz) ∧ H' = H) := by
 refine A9 Tryz.func42 E ntmps42 E ?_
 have hse := sz_eq m
 have hln := szL_len m.args
 have hA := hM.arr
 refine Ag (Ab (e_ (Ba (T E) cs_) ?_ E))
 rintro _ _ ⟨n1, rfl, rfl⟩
 refine y_ (Ad Aj) (Af (Ae (Ag (Ab (y_ (Ad Aj) (Af (Ae (Ag (Ag (Ab (y_ (Ad Aj) (Af (Ae (Aw ?_))) E)))))) E))))) E
 refine Cc (X := Nat × Nat) (V := fun ⟨i, r⟩ => [(4, .int .i64 (i : Nat)), (3, .int .i64 (r : Nat))]) (C := [(1, _)]) (φ := fun ⟨i, r⟩ => i ≤ m.args.length ∧ r ≤ szL m.args) (μ := fun ⟨i, r⟩ => m.args.length - i) (x0 := (0, 0)) ?_ ⟨Aa rfl, trivial⟩ ⟨(by first | exact Aa rfl | (refine Ak (Aa rfl) (vint ?_); omega) | (refine Ak (Aa rfl) ?_; simp; done)), (by first | exact Aa rfl | (refine Ak (Aa rfl) (vint ?_); omega) | (refine Ak (Aa rfl) ?_; simp; done)), trivial⟩ ?_
 ·exact ⟨Nat.zero_le _, Nat.zero_le _⟩
 rintro ⟨i, r⟩ ⟨hi, hr⟩
 have htk : i < m.args.length → szL (m.args.take (i + 1)) = szL (m.args.take i) + (gd m.args i).sz := fun h => szL_take h
 have htl := szL_le m.args (i + 1)
 have htl0 := szL_le m.args i
 refine Ag (Ag (Ab (y_ (Ac (T E)) (y_ (Bi (T E) Df) (y_ (Ai (T E) isAgg22 (by first | exact c_o)) ?_ E) E) E)))
 refine y_ (Bp (T E) runUnderlying22) (y_ (Bu (T E) (T E)) (Af (Ae ?_)) E) E
 first | refine Ar (Aa E) (fun c9 => ?_) (fun c9 => ?_) | refine A6 (Aa E) (fun c9 => ?_) (fun c9 => ?_)
 ·refine A2 (Ae (Ag (Aw (Ab (y_ (Ac (T E)) (y_ (Bi (T E) Df) (y_ (Ai (T E) isAgg22 (by first | exact c_o)) ?_ E) E) E)))))
  refine y_ (Ac (T E)) (y_ (Be (T E) (T E) runUnderlying22 sizeOf24 (by omega) (by first | exact rfl | exact hA.b (i := i) (by omega))) ?_ E) E
  refine y_ (Am (T E) isAgg24 sizeOf24 E (by first | exact (hA.mono sbt).cs (i := i) (by omega) | exact Bb)) ?_ E
  refine e_ (A1 (.cons (T E) .nil) call42 (ih _ (Bg (i := i) (by omega)) _ ((hM.arg (Bg (i := i) (by omega))).mono sbt) (by omega))) ?_ E
  rintro _ _ ⟨⟨t, rfl, ht⟩, rfl⟩
  refine y_ (yl_max (T E) (T E)) (y_ (Ad (T E)) (Af (Bl (Ae (Ab (y_ (Ac (T E)) (y_ (Bt (T E) Aj (by omega)) ?_ E) E))))) E) E
  refine y_ (Ad (T E)) (Af ?_) E
  refine Bn ((i + 1, max r t)) ?_ ?_ ⟨(by first | exact Aa E | (refine Ak (Aa E) (vint ?_); omega) | (refine Ak (Aa E) ?_; simp; done)), (by first | exact Aa E | (refine Ak (Aa E) (vint ?_); omega) | (refine Ak (Aa E) ?_; simp; done)), trivial⟩ ⟨Aa E, trivial⟩ ?_
  ·exact ⟨by omega, by omega⟩
  ·first | omega | (simp only []; omega)
  ·exact sbt
 ·refine B4 (A0 (A4 (A3 (Ae (Ag (Ag (Ab (y_ (Bc (T E) Dk) (y_ (Ai (T E) isAgg3 (by first | exact c_o)) ?_ E) E))))))))
  refine y_ (B2 (T E) Aj) (Af (Ae ?_)) E
  first | refine Ar (Aa E) (fun c22 => ?_) (fun c22 => ?_) | refine A6 (Aa E) (fun c22 => ?_) (fun c22 => ?_)
  ·refine Ab (y_ (Ac (T E)) (y_ (Bt (T E) Aj (by omega)) ?_ E) E)
   refine y_ (Ad (T E)) (Af (Ae (Ag (Ab (y_ (Ac (T E)) (y_ (Ad (T E)) (Af (Ae (Ay (Az E (.tmp (Aa E) .nil) ?_)))) E) E))))) E
   exact ⟨_, ⟨⟨r + 1, rfl, by omega⟩, rfl⟩, sbt⟩
  ·refine A2 (Ae (Ag (Ab (y_ (Ac (T E)) (y_ (Ad (T E)) (Af (Ae (Ay (Az E (.tmp (Aa E) .nil) ?_)))) E) E))))
   exact ⟨_, ⟨⟨r, rfl, by omega⟩, rfl⟩, sbt⟩
theorem str_s {w0 : World} {H : List (Nat × Obj)} (m : Rxm) (hM : RxM w0 H m) (hz : m.sz ≤ 1048576) : FSpec Tryz.prog w0 42 #[.agg (encRx m).toArray] H (fun v H' => (∃ t : Nat, v = .int .i64 (t : Nat) ∧ t ≤ m.sz) ∧ H' = H) :=
 rx_ind (Q := strS w0) (fun m ih H hM hz => str_step m hM hz ih) m H hM hz
theorem more_s {w0 : World} {H : List (Nat × Obj)} (a b c d : Nat) (h : a + b + c + d ≤ 1000000000) :
  FSpec Tryz.prog w0 136 #[.agg #[.int .i64 (a : Nat), .int .i64 (b : Nat)], .agg #[.int .i64 (c : Nat), .int .i64 (d : Nat)]] H (Still (.agg #[.int .i64 ((a + c : Nat) : Int), .int .i64 ((max b (d + 1) : Nat) : Int)]) H) := by
 refine A9 Tryz.func136 E ntmps136 E (Ag (Ab (e_ (Ba (T E) cs_) ?_ E)))
 rintro _ _ ⟨n2, rfl, rfl⟩
 refine e_ (Ba (T E) cs_) ?_ E
 rintro _ _ ⟨n3, rfl, rfl⟩
 refine e_ (A5 zeroValue150 cs_) ?_ E
 rintro _ _ ⟨n4, rfl, rfl⟩
 refine Af (Ae (Ag (Ab (y_ (Bc (T E) fa150_0) (y_ (Ai (T E) isAgg3 (by first | exact c_o)) ?_ E) E))))
 refine y_ (Bc (T E) fa150_0) (y_ (Ai (T E) isAgg3 (by first | exact c_o)) ?_ E) E
 refine y_ (Bt (T E) (T E) (by omega)) ?_ E
 refine y_ (Bi (T E) fa150_1) (y_ (Ai (T E) isAgg3 (by first | exact c_o)) ?_ E) E
 refine y_ (Bi (T E) fa150_1) (y_ (Ai (T E) isAgg3 (by first | exact c_o)) ?_ E) E
 refine y_ (Bt (T E) Aj (by omega)) ?_ E
 refine y_ (yl_max (T E) (T E)) (y_ (B1 (.cons (T E) (.cons (T E) .nil)) (bd150_0_1 _ _)) ?_ E) E
 first | refine Bk (A7 (T E) (T E) sizeOf150) E Ah ?_
 rintro _ _ ⟨rfl, rfl⟩
 refine Af (Ae (Ay (Az E (.cellA (Aa E) isAgg150 sizeOf150 E (by first | exact Bb) .nil) ?_)))
 exact ⟨_, ⟨by rw [show ((a + c : Nat) : Int) = a + c by omega, show ((max b (d + 1) : Nat) : Int) = max (b : Int) ((d : Int) + 1) by omega]; rfl, rfl⟩, sbt⟩
def sizS (w0 : World) (m : Rxm) : Prop := ∀ H : List (Nat × Obj), RxM w0 H m → m.sz ≤ 1048576 → FSpec Tryz.prog w0 98 #[.agg (encRx m).toArray] H (fun v H' => (∃ d : Nat, v = .agg #[.int .i64 (m.sz : Nat), .int .i64 (d : Nat)] ∧ d ≤ m.sz) ∧ H' = H)
theorem siz_step {w0 : World} {H : List (Nat × Obj)} (m : Rxm) (hM : RxM w0 H m) (hz : m.sz ≤ 1048576) (ih : ∀ a ∈ m.args, sizS w0 a) :
  FSpec Tryz.prog w0 98 #[.agg (encRx m).toArray] H (fun v H' => (∃ d : Nat, v = .agg #[.int .i64 (m.sz : Nat), .int .i64 (d : Nat)] ∧ d ≤ m.sz) ∧ H' = H) := by
 refine A9 Tryz.func98 E ntmps98 E ?_
 have hse := sz_eq m
 have hln := szL_len m.args
 have hA := hM.arr
 refine Ag (Ab (e_ (Ba (T E) cs_) ?_ E))
 rintro _ _ ⟨n1, rfl, rfl⟩
 refine e_ (A5 zeroValue150 cs_) ?_ E
 rintro _ _ ⟨n2, rfl, rfl⟩
 refine Af (Ae (Ag (Ab (y_ (B1 (.cons Aj (.cons Aj .nil)) (bd150_0_1 _ _)) (e_ (A5 zeroValue150 cs_) ?_ E) E))))
 rintro _ _ ⟨n3, rfl, rfl⟩
 first | refine Bk (A7 (T E) (T E) sizeOf150) E Ah ?_
 rintro _ _ ⟨rfl, rfl⟩
 refine Af (Ae (Ag (Ag (Ab (y_ (Ad Aj) (Af (Ae (Aw ?_))) E)))))
 refine Cm (X := Nat × Nat) (V := fun ⟨i, d⟩ => [(4, .int .i64 (i : Nat))]) (C := [(1, _), (2, _), (3, _)]) (G := fun ⟨i, d⟩ => (n3, Cl [.int .i64 ((1 + szL (m.args.take i) : Nat) : Int), .int .i64 (d : Nat)] 150) :: (n2, Cl [.int .i64 0, .int .i64 0] 150) :: (n1, Cl (encRx m) 24) :: H) (φ := fun ⟨i, d⟩ => i ≤ m.args.length ∧ d ≤ 1 + szL (m.args.take i)) (μ := fun ⟨i, d⟩ => m.args.length - i) (x0 := (0, 1)) ?_ ⟨Aa rfl, Aa rfl, Aa rfl, trivial⟩ ⟨(by first | exact Aa rfl | (refine Ak (Aa rfl) (vint ?_); omega) | (refine Ak (Aa rfl) ?_; simp; done)), trivial⟩ sb0 ?_
 ·exact ⟨Nat.zero_le _, by omega⟩
 rintro ⟨i, d⟩ ⟨hi, hd⟩
 have htk : i < m.args.length → szL (m.args.take (i + 1)) = szL (m.args.take i) + (gd m.args i).sz := fun h => szL_take h
 have htl := szL_le m.args (i + 1)
 have htl0 := szL_le m.args i
 refine Ag (Ag (Ab (y_ (Ac (T E)) (y_ (Bi (T E) Df) (y_ (Ai (T E) isAgg22 (by first | exact c_o)) ?_ E) E) E)))
 refine y_ (Bp (T E) runUnderlying22) (y_ (Bu (T E) (T E)) (Af (Ae ?_)) E) E
 first | refine Ar (Aa E) (fun c10 => ?_) (fun c10 => ?_) | refine A6 (Aa E) (fun c10 => ?_) (fun c10 => ?_)
 ·refine A2 (Ae (Ag (Aw (Ch 8 [(0, true), (1, true), (2, true), (3, true), (4, true), (5, true), (6, false), (7, true)] _ mixd (by kernel_rfl) sb0 ?_))))
  refine o_y E (Am (T E) isAgg150 sizeOf150 E (by first | exact Bb)) ?_ E Ah
  refine o_y E (Bi (T E) Df) (o_y E (Ai (T E) isAgg22 (by first | exact c_o)) ?_ E Ah) E Ah
  refine o_y E (Ac (T E)) (o_y E (Be (T E) (T E) runUnderlying22 sizeOf24 (by omega) (by first | exact rfl | exact hA.b (i := i) (by omega))) ?_ E Ah) E Ah
  refine o_y E (Am (T E) isAgg24 sizeOf24 E (by first | exact (hA.mono sbt).cs (i := i) (by omega) | exact Bb)) ?_ E Ah
  refine o_e E (A1 (.cons (T E) .nil) call98 (ih _ (Bg (i := i) (by omega)) _ ((hM.arg (Bg (i := i) (by omega))).mono sbt) (by omega))) ?_ E Ah
  rintro _ _ ⟨⟨t, rfl, ht⟩, rfl⟩
  refine ⟨sbt, (o_y E (Av (.cons (T E) (.cons (T E) .nil)) call136 (fun H' hs => more_s (1 + szL (m.args.take i)) d (gd m.args i).sz t (by omega))) ?_ E Ah)⟩
  refine Bx E ?_
  first | refine Bk (A7 (T E) (T E) sizeOf150) E Ah ?_
  rintro _ _ ⟨rfl, rfl⟩
  refine Af (Bl (Ae (Ab (y_ (Ac (T E)) (y_ (Bt (T E) Aj (by omega)) ?_ E) E))))
  refine y_ (Ad (T E)) (Af ?_) E
  have htk := szL_take (l := m.args) (i := i) (by omega)
  have htl := szL_le m.args (i + 1)
  have hgm := sz_mem (Bg (l := m.args) (i := i) (by omega))
  rw [show 1 + szL (m.args.take i) + (gd m.args i).sz = 1 + szL (m.args.take (i + 1)) by omega]
  refine Bn ((i + 1, max d (t + 1))) ?_ ?_ ⟨(by first | exact Aa E | (refine Ak (Aa E) (vint ?_); omega) | (refine Ak (Aa E) ?_; simp; done)), trivial⟩ ⟨Aa E, Aa E, Aa E, trivial⟩ ?_
  ·exact ⟨by omega, by omega⟩
  ·first | omega | (simp only []; omega)
  ·exact sbt
 ·refine B4 (A0 (A4 (A3 (Ae (Ag (Ab (y_ (Am (T E) isAgg150 sizeOf150 E (by first | exact Bb)) ?_ E)))))))
  first | refine Bk (A7 (T E) (T E) sizeOf150) E Ah ?_
  rintro _ _ ⟨rfl, rfl⟩
  refine Af (Ae (Ay (Az E (.cellA (Aa E) isAgg150 sizeOf150 E (by first | exact Bb) .nil) ?_)))
  rw [List.take_of_length_le (by omega)] at *
  exact ⟨_, ⟨⟨d, by rw [hse]; rfl, by omega⟩, rfl⟩, sbt⟩
theorem siz_s {w0 : World} {H : List (Nat × Obj)} (m : Rxm) (hM : RxM w0 H m) (hz : m.sz ≤ 1048576) : FSpec Tryz.prog w0 98 #[.agg (encRx m).toArray] H (fun v H' => (∃ d : Nat, v = .agg #[.int .i64 (m.sz : Nat), .int .i64 (d : Nat)] ∧ d ≤ m.sz) ∧ H' = H) :=
 rx_ind (Q := sizS w0) (fun m ih H hM hz => siz_step m hM hz ih) m H hM hz
end Go.Proofs.YtkdolgnpkjihpaaGreatDoor
namespace Go.Proofs.YtkdolgnpkjihpaaGreatDoor
open _root_.Go.Proofs.Tryz
open Go.RowKit
set_option linter.unusedVariables false
set_option linter.unusedSimpArgs false
def WantOk (m : Rxm) (w : Nat) (ok : Bool) : Prop := ((m.kind = 1 ∨ m.kind = 3) ∧ w = 0 ∧ (ok = true → m.node = ⟨#[]⟩)) ∨ (m.kind = 2 ∧ w = 0 ∧ (ok = true → m.node.size ≠ 0)) ∨ ((m.kind = 4 ∨ m.kind = 5) ∧ w = 2 ∧ (ok = true → m.node = ⟨#[]⟩)) ∨ (m.kind = 6 ∧ w = 1 ∧ (ok = true → m.node = ⟨#[]⟩))
theorem WantOk.le {m : Rxm} {w : Nat} {ok : Bool} (h : WantOk m w ok) : w ≤ 2 := by unfold WantOk at h; omega
theorem want_is {m : Rxm} {w : Nat} (h : WantOk m w true) (hl : m.args.length = w) (hp : ∀ j, j < w → ∃ e, Is (gd m.args j) e) : ∃ e, Is m e := by
 obtain ⟨k, s, q, c, xs⟩ := m
 simp only [WantOk, Rxm.kind, Rxm.node, Rxm.args] at h hl hp
 rcases h with ⟨hk, rfl, hn⟩ | ⟨rfl, rfl, hn⟩ | ⟨hk, rfl, hn⟩ | ⟨rfl, rfl, hn⟩
 ·have := List.eq_nil_of_length_eq_zero hl; subst this
  have := hn trivial; subst this
  rcases hk with rfl | rfl
  ·exact ⟨_, .emp⟩
  ·exact ⟨_, .any⟩
 ·have := List.eq_nil_of_length_eq_zero hl; subst this
  exact ⟨_, .nod (hn trivial)⟩
 ·match xs, hl with
  | [a, b], _ =>
   have := hn trivial; subst this
   obtain ⟨e1, h1⟩ := hp 0 (by omega)
   obtain ⟨e2, h2⟩ := hp 1 (by omega)
   rcases hk with rfl | rfl
   ·exact ⟨_, .seq h1 h2⟩
   ·exact ⟨_, .alt h1 h2⟩
 ·match xs, hl with
  | [a], _ =>
   have := hn trivial; subst this
   obtain ⟨e1, h1⟩ := hp 0 (by omega)
   exact ⟨_, .star h1⟩
theorem Is.lvz {m : Rxm} {e : Re} (h : Is m e) : 2 * e.lv ≤ m.sz + 1 := by
 induction h with
 | emp => simp [Re.lv]
 | nod _ => simp [Re.lv, Rxm.sz, szL]
 | any => simp [Re.lv, Rxm.sz, szL]
 | seq h1 h2 i1 i2 => simp only [Re.lv, Rxm.sz, szL]; omega
 | alt h1 h2 i1 i2 => simp only [Re.lv, Rxm.sz, szL]; omega
 | star h1 i1 => simp only [Re.lv, Rxm.sz, szL]; omega
theorem Dn {s : ByteArray} {b : Bool} (e : b = decide (s.data.toList = (⟨#[]⟩ : ByteArray).data.toList)) (h : b = true) : s = ⟨#[]⟩ := by
 rw [h] at e
 exact ByteArray.ext (Array.ext' (of_decide_eq_true e.symm))
def fmdS (w0 : World) (m : Rxm) : Prop := ∀ H : List (Nat × Obj), RxM w0 H m → m.sz ≤ 1048576 → FSpec Tryz.prog w0 99 #[.agg (encRx m).toArray] H (fun v H' => (∃ t : Bool, v = .bool t ∧ (t = true → ∃ e, Is m e)) ∧ H' = H)
theorem fmd_step {w0 : World} {H : List (Nat × Obj)} (m : Rxm) (hM : RxM w0 H m) (hz : m.sz ≤ 1048576) (ih : ∀ a ∈ m.args, fmdS w0 a) :
  FSpec Tryz.prog w0 99 #[.agg (encRx m).toArray] H (fun v H' => (∃ t : Bool, v = .bool t ∧ (t = true → ∃ e, Is m e)) ∧ H' = H) := by
 refine A9 Tryz.func99 E ntmps99 E ?_
 have hse := sz_eq m
 have hln := szL_len m.args
 have hA := hM.arr
 refine Ag (Ab (e_ (Ba (T E) cs_) ?_ E))
 rintro _ _ ⟨n1, rfl, rfl⟩
 refine y_ (Ad Aj) (Af (Ae (Ag (Ab (y_ (Bi (T E) fa24_1) (y_ (Ai (T E) isAgg9 (by first | exact c_o)) ?_ E) E))))) E
 refine e_ (A1 (.cons (T E) .nil) call137 (plain_s m.node hM.nl)) ?_ E
 rintro _ _ ⟨⟨t1, rfl, ht1⟩, rfl⟩
 refine y_ (Ad (T E)) (Af (Ae (Ag (Ab (y_ (Ad Aj) (Af (Ae (Ag (Ab (y_ (Bi (T E) fa24_1) (y_ (Ai (T E) isAgg9 (by first | exact c_o)) ?_ E) E))))) E))))) E
 refine y_ (yl_eqSD (T E) Aj) (y_ (Ad (T E)) (Af (Ae ?_)) E) E
 refine j_cutH (X := Nat × Bool) (V := fun ⟨wn, ok⟩ => [(4, .int .i64 (wn : Nat)), (5, .bool ok)]) (C := [(1, _)]) (φ := fun ⟨wn, ok⟩ => WantOk m wn ok) ⟨Aa rfl, trivial⟩ ?_ ?_
 ·refine Ag (Ab (y_ (Bc (T E) Dk) (y_ (Ai (T E) isAgg3 (by first | exact c_o)) ?_ E) E))
  refine Af (Ae (Aw (Ag (Ag (Ab (y_ (B2 (T E) Aj) (y_ (Ad (T E)) (Af (Ae ?_)) E) E))))))
  first | refine Ar (Aa E) (fun c16 => ?_) (fun c16 => ?_) | refine A6 (Aa E) (fun c16 => ?_) (fun c16 => ?_)
  ·refine A2 (Ae ?_)
   first | refine A8 (Aa E) ?_ | refine A8 (Ak (Aa E) (vbool (decide_eq_true c16))) ?_
   refine Ab (y_ (Ad Aj) (Af (Bl ?_)) E)
   refine Bw ((0, _)) ?_ ⟨(by first | exact Aa E | (refine Ak (Aa E) (vint ?_); omega) | (refine Ak (Aa E) ?_; simp; done)), (by first | exact Aa E | (refine Ak (Aa E) (vint ?_); omega) | (refine Ak (Aa E) ?_; simp; done)), trivial⟩ ⟨Aa E, trivial⟩ sbt
   first | exact .inl ⟨by omega, rfl, fun h => Dn E h⟩ | exact .inr (.inl ⟨by omega, rfl, ht1⟩) | exact .inr (.inr (.inl ⟨by omega, rfl, fun h => Dn E h⟩)) | exact .inr (.inr (.inr ⟨by omega, rfl, fun h => Dn E h⟩))
  ·refine Ab (y_ (B2 (T E) Aj) (y_ (Ad (T E)) (Af (Ae ?_)) E) E)
   first | refine Ar (Aa E) (fun c16 => ?_) (fun c16 => ?_) | refine A6 (Aa E) (fun c16 => ?_) (fun c16 => ?_)
   ·refine Ab (y_ (Ad Aj) (Af (Bl ?_)) E)
    refine Bw ((0, _)) ?_ ⟨(by first | exact Aa E | (refine Ak (Aa E) (vint ?_); omega) | (refine Ak (Aa E) ?_; simp; done)), (by first | exact Aa E | (refine Ak (Aa E) (vint ?_); omega) | (refine Ak (Aa E) ?_; simp; done)), trivial⟩ ⟨Aa E, trivial⟩ sbt
    first | exact .inl ⟨by omega, rfl, fun h => Dn E h⟩ | exact .inr (.inl ⟨by omega, rfl, ht1⟩) | exact .inr (.inr (.inl ⟨by omega, rfl, fun h => Dn E h⟩)) | exact .inr (.inr (.inr ⟨by omega, rfl, fun h => Dn E h⟩))
   ·refine Ag (Ab (y_ (B2 (T E) Aj) (y_ (Ad (T E)) (Af (Ae ?_)) E) E))
    first | refine Ar (Aa E) (fun c19 => ?_) (fun c19 => ?_) | refine A6 (Aa E) (fun c19 => ?_) (fun c19 => ?_)
    ·refine Ab (y_ (Ac (T E)) (y_ (Ad (T E)) (Af (Bl ?_)) E) E)
     refine Bw ((0, _)) ?_ ⟨(by first | exact Aa E | (refine Ak (Aa E) (vint ?_); omega) | (refine Ak (Aa E) ?_; simp; done)), (by first | exact Aa E | (refine Ak (Aa E) (vint ?_); omega) | (refine Ak (Aa E) ?_; simp; done)), trivial⟩ ⟨Aa E, trivial⟩ sbt
     first | exact .inl ⟨by omega, rfl, fun h => Dn E h⟩ | exact .inr (.inl ⟨by omega, rfl, ht1⟩) | exact .inr (.inr (.inl ⟨by omega, rfl, fun h => Dn E h⟩)) | exact .inr (.inr (.inr ⟨by omega, rfl, fun h => Dn E h⟩))
    ·refine Ag (Ag (Ab (y_ (B2 (T E) Aj) (y_ (Ad (T E)) (Af (Ae ?_)) E) E)))
     first | refine Ar (Aa E) (fun c22 => ?_) (fun c22 => ?_) | refine A6 (Aa E) (fun c22 => ?_) (fun c22 => ?_)
     ·refine A2 (Ae ?_)
      first | refine A8 (Aa E) ?_ | refine A8 (Ak (Aa E) (vbool (decide_eq_true c22))) ?_
      refine Ab (y_ (Ad Aj) (Af (Bl ?_)) E)
      refine Bw ((2, _)) ?_ ⟨(by first | exact Aa E | (refine Ak (Aa E) (vint ?_); omega) | (refine Ak (Aa E) ?_; simp; done)), (by first | exact Aa E | (refine Ak (Aa E) (vint ?_); omega) | (refine Ak (Aa E) ?_; simp; done)), trivial⟩ ⟨Aa E, trivial⟩ sbt
      first | exact .inl ⟨by omega, rfl, fun h => Dn E h⟩ | exact .inr (.inl ⟨by omega, rfl, ht1⟩) | exact .inr (.inr (.inl ⟨by omega, rfl, fun h => Dn E h⟩)) | exact .inr (.inr (.inr ⟨by omega, rfl, fun h => Dn E h⟩))
     ·refine Ab (y_ (B2 (T E) Aj) (y_ (Ad (T E)) (Af (Ae ?_)) E) E)
      first | refine Ar (Aa E) (fun c22 => ?_) (fun c22 => ?_) | refine A6 (Aa E) (fun c22 => ?_) (fun c22 => ?_)
      ·refine Ab (y_ (Ad Aj) (Af (Bl ?_)) E)
       refine Bw ((2, _)) ?_ ⟨(by first | exact Aa E | (refine Ak (Aa E) (vint ?_); omega) | (refine Ak (Aa E) ?_; simp; done)), (by first | exact Aa E | (refine Ak (Aa E) (vint ?_); omega) | (refine Ak (Aa E) ?_; simp; done)), trivial⟩ ⟨Aa E, trivial⟩ sbt
       first | exact .inl ⟨by omega, rfl, fun h => Dn E h⟩ | exact .inr (.inl ⟨by omega, rfl, ht1⟩) | exact .inr (.inr (.inl ⟨by omega, rfl, fun h => Dn E h⟩)) | exact .inr (.inr (.inr ⟨by omega, rfl, fun h => Dn E h⟩))
      ·refine Ag (Ab (y_ (B2 (T E) Aj) (y_ (Ad (T E)) (Af (Ae (Bh [(1, _), (5, _), (25, _)] ⟨Aa E, Aa E, Aa E, trivial⟩ ?_))) E) E))
       first | refine Ar (Aa E) (fun c25 => ?_) (fun c25 => ?_) | refine A6 (Aa E) (fun c25 => ?_) (fun c25 => ?_)
       ·refine Ab (y_ (Ad Aj) (Af (Bl ?_)) E)
        refine Bw ((1, _)) ?_ ⟨(by first | exact Aa E | (refine Ak (Aa E) (vint ?_); omega) | (refine Ak (Aa E) ?_; simp; done)), (by first | exact Aa E | (refine Ak (Aa E) (vint ?_); omega) | (refine Ak (Aa E) ?_; simp; done)), trivial⟩ ⟨Aa E, trivial⟩ sbt
        first | exact .inl ⟨by omega, rfl, fun h => Dn E h⟩ | exact .inr (.inl ⟨by omega, rfl, ht1⟩) | exact .inr (.inr (.inl ⟨by omega, rfl, fun h => Dn E h⟩)) | exact .inr (.inr (.inr ⟨by omega, rfl, fun h => Dn E h⟩))
       ·refine Ag (Ab (y_ (Ad Aj) (Af (Ae (Ay (An (q_cut_ret (Az E (.tmp (Aa E) .nil) ?_)))))) E))
        exact ⟨_, ⟨⟨_, rfl, fun h => by cases h⟩, rfl⟩, sbt⟩
 rintro ⟨wn, ok⟩ hw
 have hwl := hw.le
 refine Ag (Ag (Ab (y_ (Ac (T E)) ?_ E)))
 first | refine Ax (Ca (T E)) E Ah ?_ | refine Ax (Co (T E)) E Ah ?_
 refine y_ (Ac (T E)) ?_ E
 first | refine Bz (s := 29) (Aa E) (fun c29 => ?_) (fun c29 => ?_) | refine Cf (s := 29) (Aa E) (fun c29 => ?_) (fun c29 => ?_)
 ·refine Bm (Bm (Bm (Bm (Bm (y_ (Aq (T E) Aj) (Af (Ae ?_)) E) E E E E) E E E E) E E E E) E E E E) E E E E
  first | refine A8 (Aa E) ?_ | refine A8 (Ak (Aa E) (vbool (decide_eq_true c35))) ?_
  refine Ag (Ab (y_ (Ad Aj) (Af (Ae (Ay (Al (Az E (.tmp (Aa E) .nil) ?_))))) E))
  exact ⟨_, ⟨⟨_, rfl, fun h => by cases h⟩, rfl⟩, sbt⟩
 ·refine Ax (Bi (T E) Df) E (Ao E E (Aa E)) (Ax (Ai (T E) isAgg22 (by first | exact c_o)) E (Ao E E (Aa E)) ?_)
  refine Ax (Bp (T E) runUnderlying22) E (Ao E E (Aa E)) (Ax (Ac (T E)) E (Ao E E (Aa E)) (Ax (Cu (T E) (T E)) E (Ao E E (Aa E)) (y_ (Au (T E) (T E)) (Af (Ae ?_)) E)))
  first | refine Ar (Aa E) (fun c35 => ?_) (fun c35 => ?_) | refine A6 (Aa E) (fun c35 => ?_) (fun c35 => ?_)
  ·refine Ag (Ab (y_ (Ad Aj) (Af (Ae (Ay (Al (Az E (.tmp (Aa E) .nil) ?_))))) E))
   exact ⟨_, ⟨⟨_, rfl, fun h => by cases h⟩, rfl⟩, sbt⟩
  ·refine A2 (Ae (Ag (Ag (Ab (y_ (Ad Aj) (Af (Ae (Aw ?_))) E)))))
   refine Cc (X := Nat) (V := fun i => [(6, .int .i64 (i : Nat))]) (C := [(1, _), (4, _)]) (φ := fun i => i ≤ wn ∧ m.args.length = wn ∧ ok = true ∧ ∀ j, j < i → ∃ e, Is (gd m.args j) e) (μ := fun i => wn - i) (x0 := 0) ?_ ⟨Aa E, Aa E, trivial⟩ ⟨(by first | exact Aa E | (refine Ak (Aa E) (vint ?_); omega) | (refine Ak (Aa E) ?_; simp; done)), trivial⟩ ?_
   ·exact ⟨Nat.zero_le _, by omega, by simpa using c29, fun j hj => absurd hj (Nat.not_lt_zero _)⟩
   rintro i ⟨hi, hal, hok, hall⟩
   have htk : i < m.args.length → szL (m.args.take (i + 1)) = szL (m.args.take i) + (gd m.args i).sz := fun h => szL_take h
   have htl := szL_le m.args (i + 1)
   have htl0 := szL_le m.args i
   refine Ag (Ag (Ab (y_ (Ac (T E)) (y_ (Ac (T E)) (y_ (Bu (T E) (T E)) (Af (Ae ?_)) E) E) E)))
   first | refine Ar (Aa E) (fun c38 => ?_) (fun c38 => ?_) | refine A6 (Aa E) (fun c38 => ?_) (fun c38 => ?_)
   ·refine A2 (Ae (Ag (Aw (Ag (Ab (y_ (Bi (T E) Df) (y_ (Ai (T E) isAgg22 (by first | exact c_o)) ?_ E) E))))))
    refine y_ (Ac (T E)) (y_ (Be (T E) (T E) runUnderlying22 sizeOf24 (by omega) (by first | exact rfl | exact hA.b (i := i) (by omega))) ?_ E) E
    refine y_ (Am (T E) isAgg24 sizeOf24 E (by first | exact (hA.mono sbt).cs (i := i) (by omega) | exact Bb)) ?_ E
    refine e_ (A1 (.cons (T E) .nil) call99 (ih _ (Bg (i := i) (by omega)) _ ((hM.arg (Bg (i := i) (by omega))).mono sbt) (by omega))) ?_ E
    rintro _ _ ⟨⟨t, rfl, ht⟩, rfl⟩
    refine y_ (Ad (T E)) (Af (Ae (Ag (Ab (y_ (Ac (T E)) ?_ E))))) E
    first | refine Ax (Ca (T E)) E Ah ?_ | refine Ax (Co (T E)) E Ah ?_
    refine Af (Ae ?_)
    first | refine Ar (Aa E) (fun c48 => ?_) (fun c48 => ?_) | refine A6 (Aa E) (fun c48 => ?_) (fun c48 => ?_)
    ·refine Ag (Ab (y_ (Ad Aj) (Af (Ae (Ay (An (Al (Bo (An (Al (Az E (.tmp (Aa E) .nil) ?_))))))))) E))
     exact ⟨_, ⟨⟨_, rfl, fun h => by cases h⟩, rfl⟩, sbt⟩
    ·refine A2 (Bl (Ae (Ab (y_ (Ac (T E)) (y_ (Bt (T E) Aj (by omega)) ?_ E) E))))
     refine y_ (Ad (T E)) (Af ?_) E
     refine Bn (i + 1) ?_ ?_ ⟨(by first | exact Aa E | (refine Ak (Aa E) (vint ?_); omega) | (refine Ak (Aa E) ?_; simp; done)), trivial⟩ ⟨Aa E, Aa E, trivial⟩ ?_
     ·refine ⟨by omega, hal, hok, fun j hj => ?_⟩
      by_cases e : j = i
      ·subst e; exact ht (by simpa using c48)
      ·exact hall j (by omega)
     ·first | omega | (simp only []; omega)
     ·exact sbt
   ·refine B4 (A0 (A4 (A3 (Ae (Ag (Ab (y_ (Ad Aj) (Af (Ae (Ay (Az E (.tmp (Aa E) .nil) ?_)))) E)))))))
    exact ⟨_, ⟨⟨_, rfl, fun _ => want_is (hok ▸ hw) hal (fun j hj => hall j (by omega))⟩, rfl⟩, sbt⟩
theorem fmd_s {w0 : World} {H : List (Nat × Obj)} (m : Rxm) (hM : RxM w0 H m) (hz : m.sz ≤ 1048576) : FSpec Tryz.prog w0 99 #[.agg (encRx m).toArray] H (fun v H' => (∃ t : Bool, v = .bool t ∧ (t = true → ∃ e, Is m e)) ∧ H' = H) :=
 rx_ind (Q := fmdS w0) (fun m ih H hM hz => fmd_step m hM hz ih) m H hM hz
theorem lim_s {w0 : World} {H : List (Nat × Obj)} (a b : Nat) :
  FSpec Tryz.prog w0 135 #[.agg #[.int .i64 (a : Nat), .int .i64 (b : Nat)]] H (fun v H' => (∃ t : Int, v = .int .i64 t) ∧ H' = H) := by
 refine A9 Tryz.func135 E ntmps135 E (Ag (Ab (e_ (Ba (T E) cs_) ?_ E)))
 rintro _ _ ⟨n1, rfl, rfl⟩
 refine y_ (Ad Aj) (Af (Ae (Ag (Ag (Ab (y_ (Bc (T E) fa150_0) (y_ (Ai (T E) isAgg3 (by first | exact c_o)) ?_ E) E)))))) E
 refine y_ (C7 (T E) Aj) (y_ (Ac (T E)) ?_ E) E
 first | refine Bz (s := 6) (Aa E) (fun c6 => ?_) (fun c6 => ?_) | refine Cf (s := 6) (Aa E) (fun c6 => ?_) (fun c6 => ?_)
 ·refine Bm (Bm (Bm (y_ (Aq (T E) Aj) (Af (Ae ?_)) E) E E E E) E E E E) E E E E
  first | refine A8 (Aa E) ?_ | refine A8 (Ak (Aa E) (vbool (decide_eq_true c10))) ?_
  refine Ag (Ab (y_ (Ad Aj) (Af (Ae (Ay (Al (Az E (.tmp (Aa E) .nil) ?_))))) E))
  exact ⟨_, ⟨⟨_, rfl⟩, rfl⟩, sbt⟩
 ·refine Ax (Bi (T E) fa150_1) E (Ao E E (Aa E)) (Ax (Ai (T E) isAgg3 (by first | exact c_o)) E (Ao E E (Aa E)) ?_)
  refine Ax (C7 (T E) Aj) E (Ao E E (Aa E)) (y_ (Au (T E) (T E)) (Af (Ae ?_)) E)
  first | refine Ar (Aa E) (fun c10 => ?_) (fun c10 => ?_) | refine A6 (Aa E) (fun c10 => ?_) (fun c10 => ?_)
  ·refine Ag (Ab (y_ (Ad Aj) (Af (Ae (Ay (Al (Az E (.tmp (Aa E) .nil) ?_))))) E))
   exact ⟨_, ⟨⟨_, rfl⟩, rfl⟩, sbt⟩
  ·refine A2 (Ae (Ag (Ab (y_ (Ad Aj) (Af (Ae (Ay (Az E (.tmp (Aa E) .nil) ?_)))) E))))
   exact ⟨_, ⟨⟨_, rfl⟩, rfl⟩, sbt⟩
theorem frm_s {w0 : World} {H : List (Nat × Obj)} (a b : Nat) (t : Bool) :
  FSpec Tryz.prog w0 97 #[.agg #[.int .i64 (a : Nat), .int .i64 (b : Nat)], .bool t] H (fun v H' => (∃ e : Int, v = .int .i64 e ∧ (e = 0 → t = true)) ∧ H' = H) := by
 refine A9 Tryz.func97 E ntmps97 E (Ag (Ab (e_ (Ba (T E) cs_) ?_ E)))
 rintro _ _ ⟨n2, rfl, rfl⟩
 refine y_ (Ad Aj) (Af (Ae (Ag (Ab (y_ (Am (T E) isAgg150 sizeOf150 E (by first | exact Bb)) ?_ E))))) E
 refine e_ (A1 (.cons (T E) .nil) call135 (lim_s a b)) ?_ E
 rintro _ _ ⟨⟨e0, rfl⟩, rfl⟩
 refine y_ (Ad (T E)) (Af (Ae (Ag (Ag (Ab (y_ (Ac (T E)) (y_ (B2 (T E) Aj) (y_ (Ac (T E)) ?_ E) E) E)))))) E
 first | refine Bz (s := 10) (Aa E) (fun c10 => ?_) (fun c10 => ?_) | refine Cf (s := 10) (Aa E) (fun c10 => ?_) (fun c10 => ?_)
 ·refine Ax (Ac (T E)) E (Ao E E (Aa E)) ?_
  first | refine Ax (Ca (T E)) E (Ao E E (Aa E)) ?_ | refine Ax (Co (T E)) E (Ao E E (Aa E)) ?_
  refine y_ (Aq (T E) (T E)) (Af (Ae ?_)) E
  first | refine Ar (Aa E) (fun c13 => ?_) (fun c13 => ?_) | refine A6 (Aa E) (fun c13 => ?_) (fun c13 => ?_)
  ·refine Ag (Ab (y_ (Ad Aj) (Af (Ae (Ay (Al (Az E (.tmp (Aa E) .nil) ?_))))) E))
   exact ⟨_, ⟨⟨_, rfl, fun h => (by first | (exfalso; omega) | (simp_all; done) | (cases t <;> simp_all; done))⟩, rfl⟩, sbt⟩
  ·refine A2 (Ae (Ag (Ab (y_ (Ac (T E)) (y_ (Ad (T E)) (Af (Ae (Ay (Az E (.tmp (Aa E) .nil) ?_)))) E) E))))
   exact ⟨_, ⟨⟨_, rfl, fun h => (by first | (exfalso; omega) | (simp_all; done) | (cases t <;> simp_all; done))⟩, rfl⟩, sbt⟩
 ·refine Bs (Bs (y_ (Au (T E) Aj) (Af (Ae ?_)) E) E E E E) E E E E
  first | refine Br (Aa E) ?_ | refine Br (Ak (Aa E) (vbool (decide_eq_false c13))) ?_
  refine A2 (Ae (Ag (Ab (y_ (Ac (T E)) (y_ (Ad (T E)) (Af (Ae (Ay (Az E (.tmp (Aa E) .nil) ?_)))) E) E))))
  exact ⟨_, ⟨⟨_, rfl, fun h => (by first | (exfalso; omega) | (simp_all; done) | (cases t <;> simp_all; done))⟩, rfl⟩, sbt⟩
theorem chkr_s {w0 : World} {H : List (Nat × Obj)} (m : Rxm) (hM : RxM w0 H m) (hz : m.sz ≤ 1048576) :
  FSpec Tryz.prog w0 40 #[.agg (encRx m).toArray] H (fun v H' => (∃ e : Int, v = .int .i64 e ∧ (e = 0 → ∃ x, Is m x)) ∧ H' = H) := by
 refine A9 Tryz.func40 E ntmps40 E (Ag (Ab (e_ (Ba (T E) cs_) ?_ E)))
 rintro _ _ ⟨n1, rfl, rfl⟩
 refine y_ (Ad Aj) (Af (Ae (Ag (Ch 3 [(0, true), (2, true), (1, false)] _ mixd (by kernel_rfl) sb0 ?_)))) E
 refine o_y E (Am (T E) isAgg24 sizeOf24 E (by first | exact Bb)) ?_ E Ah
 refine o_y E (Am (T E) isAgg24 sizeOf24 E (by first | exact Bb)) ?_ E Ah
 refine o_e E (A1 (.cons (T E) .nil) call98 (siz_s m (hM.mono sbt) hz)) ?_ E Ah
 rintro _ _ ⟨⟨d, rfl, hd⟩, rfl⟩
 refine ⟨sbt, (Bx E (e_ (A1 (.cons (T E) .nil) call99 (fmd_s m (hM.mono sbt) hz)) ?_ E))⟩
 rintro _ _ ⟨⟨t, rfl, ht⟩, rfl⟩
 refine e_ (A1 (.cons (T E) (.cons (T E) .nil)) call97 (frm_s m.sz d t)) ?_ E
 rintro _ _ ⟨⟨e, rfl, he⟩, rfl⟩
 refine y_ (Ad (T E)) (Af (Ae (Ay (Az E (.tmp (Aa E) .nil) ?_)))) E
 exact ⟨_, ⟨⟨_, rfl, fun h => ht (he h)⟩, rfl⟩, sbt⟩
theorem few_s {w0 : World} {H : List (Nat × Obj)} (m : Rxm) (hM : RxM w0 H m) (hz : m.sz ≤ 1048576) :
  FSpec Tryz.prog w0 10 #[.agg (encRx m).toArray] H (fun v H' => (∃ t : Bool, v = .bool t ∧ (t = true → ∃ x, Is m x ∧ m.sz ≤ 40)) ∧ H' = H) := by
 refine A9 Tryz.func10 E ntmps10 E (Ag (Ab (e_ (Ba (T E) cs_) ?_ E)))
 rintro _ _ ⟨n1, rfl, rfl⟩
 refine y_ (Ad Aj) (Af (Ae (Ag (Ab (y_ (Am (T E) isAgg24 sizeOf24 E (by first | exact Bb)) ?_ E))))) E
 refine e_ (A1 (.cons (T E) .nil) call40 (chkr_s m (hM.mono sbt) hz)) ?_ E
 rintro _ _ ⟨⟨e, rfl, he⟩, rfl⟩
 refine y_ (Ad (T E)) (Af (Ae (Ag (Ab (y_ (Ac (T E)) (y_ (B2 (T E) Aj) (y_ (Ac (T E)) ?_ E) E) E))))) E
 first | refine Bz (s := 8) (Aa E) (fun c8 => ?_) (fun c8 => ?_) | refine Cf (s := 8) (Aa E) (fun c8 => ?_) (fun c8 => ?_)
 ·refine Ax (Am (T E) isAgg24 sizeOf24 E (by first | exact Bb)) E (Ao E E (Aa E)) ?_
  refine Ax (Av (.cons (T E) .nil) call41 (fun H' hs => cnt_s m (hM.mono (List.Sublist.trans sbt hs)) hz)) E (Ao E E (Aa E)) (Ax (D0 (T E) Aj) E (Ao E E (Aa E)) (y_ (Aq (T E) (T E)) (y_ (Ac (T E)) ?_ E) E))
  first | refine Bz (s := 13) (Aa E) (fun c13 => ?_) (fun c13 => ?_) | refine Cf (s := 13) (Aa E) (fun c13 => ?_) (fun c13 => ?_)
  ·refine Ax (Am (T E) isAgg24 sizeOf24 E (by first | exact Bb)) E (Ao E E (Aa E)) ?_
   refine Bk (A1 (.cons (T E) .nil) call42 (str_s m (hM.mono sbt) hz)) E (Ao E E (Aa E)) ?_
   rintro _ _ ⟨⟨t, rfl, ht⟩, rfl⟩
   refine Ax (D0 (T E) Aj) E (Ao E E (Aa E)) (y_ (Aq (T E) (T E)) (y_ (Ad (T E)) (Af (Ae (Ay (Az E (.tmp (Aa E) .nil) ?_)))) E) E)
   exact ⟨_, ⟨⟨_, rfl, fun h => (by first | (obtain ⟨x, hx⟩ := he (by omega); exact ⟨x, hx, by omega⟩) | cases h)⟩, rfl⟩, sbt⟩
  ·refine Bs (Bs (Bs (y_ (Au (T E) Aj) (y_ (Ad (T E)) (Af (Ae (Ay (Az E (.tmp (Aa E) .nil) ?_)))) E) E) E E E E) E E E E) E E E E
   exact ⟨_, ⟨⟨_, rfl, fun h => (by first | (obtain ⟨x, hx⟩ := he (by omega); exact ⟨x, hx, by omega⟩) | cases h)⟩, rfl⟩, sbt⟩
 ·refine Bs (Bs (Bs (y_ (Au (T E) Aj) (y_ (Ac (T E)) (Bs (Bs (Bs (y_ (Au (T E) Aj) (y_ (Ad (T E)) (Af (Ae (Ay (Az E (.tmp (Aa E) .nil) ?_)))) E) E) E E E E) E E E E) E E E E) E) E) E E E E) E E E E) E E E E
  exact ⟨_, ⟨⟨_, rfl, fun h => (by first | (obtain ⟨x, hx⟩ := he (by omega); exact ⟨x, hx, by omega⟩) | cases h)⟩, rfl⟩, sbt⟩
end Go.Proofs.YtkdolgnpkjihpaaGreatDoor
namespace Go.Proofs.YtkdolgnpkjihpaaGreatDoor
open _root_.Go.Proofs.Tryz
open Go.RowKit
set_option linter.unusedVariables false
set_option linter.unusedSimpArgs false
theorem yl_eqB {w0 : World} {L : Fm} {H : List (Nat × Obj)} {ty yt : TypeId} {x y : Operand} {a b : Bool} (hx : Ev L x (.bool a)) (hy : Ev L y (.bool b)) : Yl Tryz.prog w0 (.binOp .eql 4 x y yt) ty L H (.bool (a == b)) := Cd E fun b' w => by
 have e : (Op.equal 4 (.bool a) (.bool b)).run Tryz.prog w = .ok (a == b) w := run_equalIn_bool w 9999 4 a b (by kernel_rfl)
 simp [exO, execOp, hx b', hy b', binOp, eqGuard, Sem.run_bind, Result.andThen, e]
end Go.Proofs.YtkdolgnpkjihpaaGreatDoor
