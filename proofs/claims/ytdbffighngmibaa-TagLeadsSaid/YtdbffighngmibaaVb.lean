/-
  Walks of the library: sorted keys of a map.
-/
import Derived.Test.YtdbffighngmibaaVa
import Derived.Shelf.SlSortCmp.NoneTotal
namespace Go.Proofs.Ytdbffighngmibaa
open Go.RowKit
set_option linter.unusedVariables false
set_option linter.unusedSimpArgs false
theorem bs102_1_0 (a0 : Int) (a1 : Int) (w : World) : (Instr.buildSlice 102 1 #[(0, .agg #[.int .i64 a0, .int .i64 a1])]).run Try.prog w = .ok (.slice (some ⟨w.heap.size, 0, none⟩) 1 1) (w.alloc (Cl [.int .i64 a0, .int .i64 a1] 100)) := by kernel_rfl
theorem appKeys_s {w0 : World} {H : List (Nat × Obj)} (n1 r : Nat) (pl : PlanL) (h1 : Fnd H n1 (Cl [.map (some r)] 87)) (h2 : Fnd H r (mapO encK2 encHv pl)) (hpl : pl.length ≤ 1000000) :
    FSpec Try.prog w0 86 #[.slice none 0 0, .func (.func 73) #[] #[.pointer (some ⟨n1, 0, none⟩)]] H (fun v H' => ∃ (d : Sl) (ks : List (Int × Int)), v = slV d ks.length ∧ SlOk d ks.length 2 ∧ KeysEn pl ks ∧ H' = slH d (ks.flatMap encPl) 100 ++ H) := by
  refine fn_spec Try.func86 rfl Try.ntmps86 rfl (j_seq (j_region (e_ (eff_box (T rfl) cs_) ?_ rfl)))
  rintro _ _ ⟨n2, rfl, rfl⟩
  refine y_ (yl_assign ev_c) (jl_nil (q_then (j_seq (j_seq (j_region (y_ (yl_move (T rfl)) (jl_nil (q_then (j_block ?_))) rfl)))))) rfl
  refine j_rangeD (Z := Sl × Nat × List (Int × Int)) (T rfl) Try.call73 (keys_it n1 r pl h1 h2) (fun _ => rfl) rfl (fun ⟨d, c, l⟩ => slH d (l.flatMap encPl) 100 ++ ((n2, Cl [slV d c] 102) :: H)) (fun k ⟨d, c, l⟩ => c = l.length ∧ l = k ∧ SlOk d l.length 2) (fun ⟨d, c, l⟩ => False) (fun _ ⟨d, c, l⟩ => False) ((.nil, 0, [])) ?_ sbt ?_ ?_ ?_ ?_ ?_
  · exact ⟨rfl, rfl, rfl⟩
  · rintro ⟨d, c, l⟩; exact sbt
  · rintro l lr Y X k x1 ⟨d, c, l⟩ hl hx ⟨rfl, hll, hok⟩
    have hlb : l.length < pl.length := by rw [hll]; exact hx
    refine j_keep [(2, _), (7, _)] ⟨at_f rfl, at_f rfl, trivial⟩ (j_region (e_ (eff_alloc Try.zeroValue100 cs_) ?_ rfl))
    rintro _ _ ⟨n5, rfl, rfl⟩
    first | refine jl_e (eff_sW (T rfl) (T rfl) Try.sizeOf100) rfl gd_n ?_
    rintro _ _ ⟨rfl, rfl⟩
    refine jl_nil (q_begin hl ?_)
    refine j_block (j_region (y_ (yl_load (T rfl) Try.isAgg102 (by first | exact c_o)) ?_ rfl))
    refine y_ (yl_loadA (T rfl) Try.isAgg100 Try.sizeOf100 rfl (by first | exact cs_o)) ?_ rfl
    refine e_ (eff_bslice (.cons (T rfl) .nil) (bs102_1_0 _ _)) ?_ rfl
    rintro _ _ ⟨n10, rfl, rfl⟩
    refine e_ (eff_app1_at (x1) (by' := 16) (by repeat (first | exact LocL.h | apply LocL.t | apply LocL.a)) (T rfl) (T rfl) Try.runUnderlying102 Try.runUnderlying102 Try.sizeOf100 Try.typeInfo100 rfl Try.zeroValue100 rfl (fun _ => rfl) rfl hok (by decide) (by omega)) ?_ rfl
    rintro _ _ ⟨d', rfl, hok', rfl⟩
    first | refine jl_e (eff_sW (T rfl) (T rfl) Try.sizeOf102) rfl gd_n ?_ | refine jl_e (eff_s1 (T rfl) (T rfl) rfl Try.sizeOf102) rfl gd_n ?_
    rintro _ _ ⟨rfl, rfl⟩
    refine jl_nil (q_block (q_round ((d', l.length + 1, l ++ [x1])) ?_ sbt))
    exact ⟨by simp, by rw [hll], by simpa using hok'⟩
  · rintro D0 ⟨d, c, l⟩ kk hEn ⟨rfl, hll, hok⟩
    refine q_block (q_then (j_seq (j_region (y_ (yl_load (T rfl) Try.isAgg102 (by first | exact c_o)) ?_ rfl))))
    refine y_ (yl_assign (T rfl)) (jl_nil (q_then (j_ret (q_mark_ret ?_)))) rfl
    refine q_ret rfl (.tmp (at_f rfl) .nil) ?_
    exact ⟨_, ⟨d, l, rfl, hok, hll ▸ hEn, rfl⟩, sbt⟩
  · exact fun _ _ h => h.elim
  · exact fun _ _ _ h => h.elim
theorem collectKeys_s {w0 : World} {H : List (Nat × Obj)} (n1 r : Nat) (pl : PlanL) (h1 : Fnd H n1 (Cl [.map (some r)] 87)) (h2 : Fnd H r (mapO encK2 encHv pl)) (hpl : pl.length ≤ 1000000) :
    FSpec Try.prog w0 71 #[.func (.func 73) #[] #[.pointer (some ⟨n1, 0, none⟩)]] H (fun v H' => ∃ (d : Sl) (ks : List (Int × Int)), v = slV d ks.length ∧ SlOk d ks.length 2 ∧ KeysEn pl ks ∧ H' = slH d (ks.flatMap encPl) 100 ++ H) := by
  refine fn_spec Try.func71 rfl Try.ntmps71 rfl (j_seq (j_region (y_ (yl_assign ev_c) (jl_nil (q_then (j_seq (j_region (y_ (yl_move (T rfl)) (e_ (eff_call (.cons ev_c (.cons (T rfl) .nil)) Try.call86 (appKeys_s _ r pl h1 h2 hpl)) ?_ rfl) rfl))))) rfl)))
  rintro _ _ ⟨d, ks, rfl, hok, hen, rfl⟩
  refine y_ (yl_assign (T rfl)) (jl_nil (q_then (j_ret (q_ret rfl (.tmp (at_f rfl) .nil) ?_)))) rfl
  exact ⟨_, ⟨d, ks, rfl, hok, hen, rfl⟩, sbt⟩
/-- a place whose tag is one -/
structure Plc where
  val : Int × Int
  ok : 1 ≤ val.1 ∧ val.1 ≤ 65535
instance : Inhabited Plc := ⟨⟨(1, 0), by decide⟩⟩
def encPc (x : Plc) : List Value := encPl x.1
def laysSF_ren : Go.Shelf.Ren := ⟨fun | 6 => 72 | 15 => 88 | 14 => 87 | 28 => 102 | 29 => 103 | 20 => 94 | 21 => 95 | 22 => 96 | 23 => 97 | 24 => 98 | 25 => 99 | 26 => 100 | 27 => 101 | 46 => 114 | 47 => 115 | 48 => 116 | 49 => 117 | 50 => 118 | 57 => 123 | n => n, fun | 22 => 102 | 24 => 100 | 25 => 101 | 3 => 3 | 39 => 149 | 0 => 0 | 53 => 161 | 55 => 163 | 4 => 4 | 46 => 155 | 45 => 154 | 50 => 69 | 5 => 5 | 9 => 9 | 66 => 169 | 70 => 173 | 76 => 177 | 77 => 178 | n => n, fun | n => n⟩
theorem laysSF : Go.Proofs.SlLaysF0.n6 Try.prog laysSF_ren := {
  mixed := by kernel_rfl,
  f6 := ⟨Try.f72.name, by decide, Try.func72.trans (congrArg some (by kernel_rfl))⟩,
  f14 := ⟨Try.f87.name, by decide, Try.func87.trans (congrArg some (by kernel_rfl))⟩,
  f15 := Try.func88.trans (congrArg some (by kernel_rfl)),
  f20 := ⟨Try.f94.name, by decide, Try.func94.trans (congrArg some (by kernel_rfl))⟩,
  f21 := ⟨Try.f95.name, by decide, Try.func95.trans (congrArg some (by kernel_rfl))⟩,
  f22 := ⟨Try.f96.name, by decide, Try.func96.trans (congrArg some (by kernel_rfl))⟩,
  f23 := ⟨Try.f97.name, by decide, Try.func97.trans (congrArg some (by kernel_rfl))⟩,
  f24 := ⟨Try.f98.name, by decide, Try.func98.trans (congrArg some (by kernel_rfl))⟩,
  f25 := ⟨Try.f99.name, by decide, Try.func99.trans (congrArg some (by kernel_rfl))⟩,
  f26 := ⟨Try.f100.name, by decide, Try.func100.trans (congrArg some (by kernel_rfl))⟩,
  f27 := ⟨Try.f101.name, by decide, Try.func101.trans (congrArg some (by kernel_rfl))⟩,
  f28 := Try.func102.trans (congrArg some (by kernel_rfl)),
  f29 := Try.func103.trans (congrArg some (by kernel_rfl)),
  f46 := ⟨Try.f114.name, by decide, Try.func114.trans (congrArg some (by kernel_rfl))⟩,
  f47 := Try.func115.trans (congrArg some (by kernel_rfl)),
  f48 := Try.func116.trans (congrArg some (by kernel_rfl)),
  f49 := ⟨Try.f117.name, by decide, Try.func117.trans (congrArg some (by kernel_rfl))⟩,
  f50 := ⟨Try.f118.name, by decide, Try.func118.trans (congrArg some (by kernel_rfl))⟩,
  f57 := ⟨Try.f123.name, by decide, Try.func123.trans (congrArg some (by kernel_rfl))⟩,
  t0 := Try.underlying0,
  a0 := Try.isAgg0,
  z0 := Try.sizeOf0,
  v0 := Try.zeroValue0,
  t3 := Try.underlying3,
  a3 := Try.isAgg3,
  z3 := Try.sizeOf3,
  v3 := Try.zeroValue3,
  t4 := Try.underlying4,
  a4 := Try.isAgg4,
  z4 := Try.sizeOf4,
  v4 := Try.zeroValue4,
  t5 := Try.underlying5,
  a5 := Try.isAgg5,
  z5 := Try.sizeOf5,
  v5 := Try.zeroValue5,
  t9 := Try.underlying9,
  a9 := Try.isAgg9,
  z9 := Try.sizeOf9,
  v9 := Try.zeroValue9,
  t22 := Try.underlying102,
  a22 := Try.isAgg102,
  z22 := Try.sizeOf102,
  v22 := Try.zeroValue102,
  t25 := Try.underlying101,
  a25 := Try.isAgg101,
  z25 := Try.sizeOf101,
  v25 := Try.zeroValue101,
  t39 := Try.underlying149,
  a39 := Try.isAgg149,
  z39 := Try.sizeOf149,
  v39 := Try.zeroValue149,
  t45 := Try.underlying154,
  a45 := Try.isAgg154,
  z45 := Try.sizeOf154,
  v45 := Try.zeroValue154,
  t46 := Try.underlying155,
  a46 := Try.isAgg155,
  z46 := Try.sizeOf155,
  v46 := Try.zeroValue155,
  t50 := Try.underlying69,
  a50 := Try.isAgg69,
  z50 := Try.sizeOf69,
  v50 := Try.zeroValue69,
  t53 := Try.underlying161,
  a53 := Try.isAgg161,
  z53 := Try.sizeOf161,
  v53 := Try.zeroValue161,
  t55 := Try.underlying163,
  a55 := Try.isAgg163,
  z55 := Try.sizeOf163,
  v55 := Try.zeroValue163,
  t66 := Try.underlying169,
  a66 := Try.isAgg169,
  z66 := Try.sizeOf169,
  v66 := Try.zeroValue169,
  t70 := Try.underlying173,
  a70 := Try.isAgg173,
  z70 := Try.sizeOf173,
  v70 := Try.zeroValue173,
  t76 := Try.underlying177,
  a76 := Try.isAgg177,
  z76 := Try.sizeOf177,
  v76 := Try.zeroValue177,
  t77 := Try.underlying178,
  a77 := Try.isAgg178,
  z77 := Try.sizeOf178,
  v77 := Try.zeroValue178 }

def cmpP (x y : Plc) : Int := x.1.1 - y.1.1
theorem ltP (x y : Plc) : ltOf cmpP x y = decide (x.1.1 < y.1.1) := by
  unfold ltOf cmpP; exact decide_eq_decide.2 (by omega)
theorem swoP : Go.Sort.SWO (ltOf cmpP) where
  irrefl x := by rw [ltP]; simp
  trans x y z h1 h2 := by rw [ltP, decide_eq_true_iff] at *; omega
  ntrans x y z h1 h2 := by rw [ltP, decide_eq_false_iff_not] at *; omega
set_option maxHeartbeats 1000000 in
theorem cmp50 (a b c d : Int) (hw : IntKind.i64.wrap (a - c) = a - c) (W : World) : Calls Try.prog 50 #[.agg #[.int .i64 a, .int .i64 b], .agg #[.int .i64 c, .int .i64 d]] W fun e w' => e = .returned (.int .i64 (a - c)) ∧ ∃ q os', w' = Go.Sort.grow (W.drewN q) os' := by
  go_enter Try.func50, Try.ntmps50
  go_wp2
  go_ret
  exact ⟨by simp [hw], 0, _, by rw [Go.Sort.alloc_eq_grow, Go.Sort.alloc_eq_grow, Go.Sort.grow_grow]; rfl⟩
theorem cmpLays50 (blk off size : Nat) (w : World) : Go.Proofs.CmpLays Try.prog 50 #[] encPc 2 cmpP blk off size w := fun _ _ _ _ x y => cmp50 x.1.1 x.1.2 y.1.1 y.1.2 (IntWalk.i64_in _ (by have := x.2; have := y.2; omega)) _
theorem pc_flat (l : List Plc) : l.flatMap encPc = (l.map (·.1)).flatMap encPl := by simp only [List.flatMap_map]; rfl
open Go.Sort Go.Proofs in
theorem sortF_none (p : Option Addr) (cap : Nat) (f : Value) (w : World) :
    Calls Try.prog 72 #[.slice p 0 cap, .func (.func 50) #[] #[]] w fun e w' => e = .returned (.tuple #[]) ∧ w' = w := AnyF.slices_SortFunc_none laysSF p cap _ w
open Go.Sort Go.Proofs in
theorem sortF_s {w0 : World} {H : List (Nat × Obj)} (d : Sl) (zs : List (Int × Int)) (hb : ∀ p ∈ zs, 1 ≤ p.1 ∧ p.1 ≤ 65535) (hok : SlOk d zs.length 2) (hsz : zs.length ≤ 1000000) :
    FSpec Try.prog w0 72 #[slV d zs.length, .func (.func 50) #[] #[]] (slH d (zs.flatMap encPl) 100 ++ H) (fun v H' => ∃ ks : List (Int × Int), v = .tuple #[] ∧ ks.Perm zs ∧ ks.Pairwise (fun a b => a.1 ≤ b.1) ∧ H' = slH d (ks.flatMap encPl) 100 ++ H) := fun w hO => by
  cases d with
  | nil =>
    have : zs = [] := List.eq_nil_of_length_eq_zero hok
    subst this
    exact (sortF_none none 0 .nilFunc w).mono fun e w' ⟨he, hw⟩ => ⟨_, _, he, hw ▸ hO, [], rfl, List.Perm.refl _, List.Pairwise.nil, by simp [slH]⟩
  | blk n cap junk =>
    obtain ⟨ps, rfl⟩ : ∃ ps : List Plc, zs = ps.map (·.1) := ⟨zs.attach.map fun p => ⟨p.1, hb _ p.2⟩, by rw [List.map_map]; exact (List.attach_map_subtype_val zs).symm⟩
    simp only [slH, ← pc_flat, List.singleton_append, List.cons_append, List.nil_append, List.length_map, slQ, slC] at hO hsz ⊢
    have hcon := AnyQ.slices_SortFunc laysSF 2 Try.isAgg100 Try.sizeOf100 encPc (fun _ => rfl) (fun x v hv => by simp [encPc] at hv; rcases hv with rfl | rfl <;> rfl) cmpP swoP 50 #[] n 0 cap ps.toArray w Try.call50 (cmpLays50 n 0 ps.toArray.size w) (own_holdsK (enc := encPc) (k := 2) (fun _ => rfl) hO) (own_lt hO) (by simp; omega)
    rw [List.size_toArray] at hcon
    change Calls Try.prog 72 _ _ _ at hcon
    refine hcon.mono fun e w' ⟨he, d', q, os, hp, hs, hw⟩ => ?_
    obtain ⟨h1, h2⟩ := sorted_list hp hs
    have hO' := own_rowK (enc := encPc) (k := 2) (l' := d'.toList) (fun _ => rfl) hO h1.length_eq.symm q os
    rw [show d'.toList.toArray = d' by simp] at hO'
    refine ⟨_, _, he, hw ▸ hO', d'.toList.map (·.1), rfl, h1.map _, ?_, by rw [pc_flat]⟩
    rw [List.pairwise_map]
    exact h2.imp fun {a b} h => by rw [ltP, decide_eq_false_iff_not] at h; omega
theorem keysEn_sub {pl : PlanL} {k : List (Int × Int)} (h : KeysEn pl k) : ∀ p ∈ k, ∃ e ∈ pl, e.1 = p := by
  obtain ⟨seen, _, h2, rfl⟩ := h
  intro p hp
  unfold keysAt at hp
  obtain ⟨i, hi, rfl⟩ := List.mem_map.1 hp
  exact ⟨_, gd_mem ((h2 i).1 hi), rfl⟩
theorem keysEn_len {pl : PlanL} {k : List (Int × Int)} (h : KeysEn pl k) : k.length ≤ pl.length := by
  obtain ⟨seen, h1, h2, rfl⟩ := h
  simpa [keysAt] using seen_le h1 (fun i hi => (h2 i).1 hi)
theorem sortedF_s {w0 : World} {H : List (Nat × Obj)} (n1 r : Nat) (pl : PlanL) (h1 : Fnd H n1 (Cl [.map (some r)] 87)) (h2 : Fnd H r (mapO encK2 encHv pl)) (hpl : pl.length ≤ 1000000) (hkb : ∀ e ∈ pl, 1 ≤ e.1.1 ∧ e.1.1 ≤ 65535) :
    FSpec Try.prog w0 51 #[.func (.func 73) #[] #[.pointer (some ⟨n1, 0, none⟩)], .func (.func 50) #[] #[]] H (fun v H' => ∃ (d : Sl) (ks : List (Int × Int)), v = slV d ks.length ∧ SlOk d ks.length 2 ∧ (∃ k, KeysEn pl k ∧ ks.Perm k) ∧ ks.Pairwise (fun a b => a.1 ≤ b.1) ∧ H' = slH d (ks.flatMap encPl) 100 ++ H) := by
  refine fn_spec Try.func51 rfl Try.ntmps51 rfl (j_seq (j_region (y_ (yl_assign ev_c) (jl_nil (q_then (j_seq (j_region (y_ (yl_move (T rfl)) (e_ (eff_call (.cons (T rfl) .nil) Try.call71 (collectKeys_s _ r pl h1 h2 hpl)) ?_ rfl) rfl))))) rfl)))
  rintro _ _ ⟨d, ks, rfl, hok, hen, rfl⟩
  refine y_ (yl_assign (T rfl)) (jl_nil (q_then (j_seq (j_region (y_ (yl_move (T rfl)) (y_ (yl_move (T rfl)) (e_ (eff_call (.cons (T rfl) (.cons (T rfl) .nil)) Try.call72 (sortF_s d ks (fun p hp => by obtain ⟨e, he, rfl⟩ := keysEn_sub hen p hp; exact hkb e he) hok (by have := keysEn_len hen; omega))) ?_ rfl) rfl) rfl))))) rfl
  rintro _ _ ⟨ks', rfl, hpm, hpw, rfl⟩
  refine jl_nil (q_then (j_seq (j_region (y_ (yl_move (T rfl)) (y_ (yl_assign (T rfl)) (jl_nil (q_then (j_ret (q_ret rfl (.tmp (at_f rfl) .nil) ?_)))) rfl) rfl))))
  exact ⟨_, ⟨d, ks', by rw [hpm.length_eq]; rfl, by rw [hpm.length_eq]; exact hok, ⟨ks, hen, hpm⟩, hpw, rfl⟩, sbt⟩
end Go.Proofs.Ytdbffighngmibaa
