/-
  The library's sort and its compaction, off the shelf.
-/
import Derived.Test.YtdbffighngmibaaUh
import Derived.Shelf.Sort.Plain
import Derived.Shelf.Slices.CompactI
import Derived.Shelf.Slices.In.SortNone
namespace Go.Proofs.Ytdbffighngmibaa
open Go.RowKit Go.Shelf Go.Sort Go.Proofs
set_option linter.unusedVariables false
set_option linter.unusedSimpArgs false
def laysSort_ren : Go.Shelf.Ren := ⟨fun | 189 => 84 | 125 => 88 | 257 => 93 | 128 => 102 | 129 => 103 | 294 => 105 | 295 => 106 | 296 => 107 | 297 => 108 | 298 => 109 | 299 => 110 | 216 => 111 | 300 => 112 | 301 => 113 | 328 => 119 | 329 => 115 | 330 => 116 | 331 => 120 | 332 => 121 | 215 => 122 | 343 => 124 | n => n, fun | 28 => 28 | 3 => 3 | 46 => 149 | 0 => 0 | 51 => 161 | 53 => 163 | 4 => 4 | 183 => 155 | 182 => 154 | 131 => 69 | 5 => 5 | 9 => 9 | 218 => 169 | 222 => 173 | 228 => 177 | 229 => 178 | n => n, fun | n => n⟩
theorem laysSort : Go.Proofs.Lays.n189 Try.prog laysSort_ren := {
  mixed := by kernel_rfl,
  f125 := Try.func88.trans (congrArg some (by kernel_rfl)),
  f128 := Try.func102.trans (congrArg some (by kernel_rfl)),
  f129 := Try.func103.trans (congrArg some (by kernel_rfl)),
  f189 := Try.func84.trans (congrArg some (by kernel_rfl)),
  f215 := Try.func122.trans (congrArg some (by kernel_rfl)),
  f216 := Try.func111.trans (congrArg some (by kernel_rfl)),
  f257 := Try.func93.trans (congrArg some (by kernel_rfl)),
  f294 := Try.func105.trans (congrArg some (by kernel_rfl)),
  f295 := Try.func106.trans (congrArg some (by kernel_rfl)),
  f296 := Try.func107.trans (congrArg some (by kernel_rfl)),
  f297 := Try.func108.trans (congrArg some (by kernel_rfl)),
  f298 := Try.func109.trans (congrArg some (by kernel_rfl)),
  f299 := Try.func110.trans (congrArg some (by kernel_rfl)),
  f300 := Try.func112.trans (congrArg some (by kernel_rfl)),
  f301 := Try.func113.trans (congrArg some (by kernel_rfl)),
  f328 := Try.func119.trans (congrArg some (by kernel_rfl)),
  f329 := Try.func115.trans (congrArg some (by kernel_rfl)),
  f330 := Try.func116.trans (congrArg some (by kernel_rfl)),
  f331 := Try.func120.trans (congrArg some (by kernel_rfl)),
  f332 := Try.func121.trans (congrArg some (by kernel_rfl)),
  f343 := Try.func124.trans (congrArg some (by kernel_rfl)),
  t0 := Try.underlying0,
  a0 := Try.isAgg0,
  z0 := Try.sizeOf0,
  v0 := Try.zeroValue0,
  t3 := Try.underlying3,
  a3 := Try.isAgg3,
  z3 := Try.sizeOf3,
  v3 := Try.zeroValue3,
  t4 := Try.underlying4,
  a4 := Try.isAgg4,
  z4 := Try.sizeOf4,
  v4 := Try.zeroValue4,
  t5 := Try.underlying5,
  a5 := Try.isAgg5,
  z5 := Try.sizeOf5,
  v5 := Try.zeroValue5,
  t9 := Try.underlying9,
  a9 := Try.isAgg9,
  z9 := Try.sizeOf9,
  v9 := Try.zeroValue9,
  t28 := Try.underlying28,
  a28 := Try.isAgg28,
  z28 := Try.sizeOf28,
  v28 := Try.zeroValue28,
  t46 := Try.underlying149,
  a46 := Try.isAgg149,
  z46 := Try.sizeOf149,
  v46 := Try.zeroValue149,
  t51 := Try.underlying161,
  a51 := Try.isAgg161,
  z51 := Try.sizeOf161,
  v51 := Try.zeroValue161,
  t53 := Try.underlying163,
  a53 := Try.isAgg163,
  z53 := Try.sizeOf163,
  v53 := Try.zeroValue163,
  t131 := Try.underlying69,
  a131 := Try.isAgg69,
  z131 := Try.sizeOf69,
  v131 := Try.zeroValue69,
  t182 := Try.underlying154,
  a182 := Try.isAgg154,
  z182 := Try.sizeOf154,
  v182 := Try.zeroValue154,
  t183 := Try.underlying155,
  a183 := Try.isAgg155,
  z183 := Try.sizeOf155,
  v183 := Try.zeroValue155,
  t218 := Try.underlying169,
  a218 := Try.isAgg169,
  z218 := Try.sizeOf169,
  v218 := Try.zeroValue169,
  t222 := Try.underlying173,
  a222 := Try.isAgg173,
  z222 := Try.sizeOf173,
  v222 := Try.zeroValue173,
  t228 := Try.underlying177,
  a228 := Try.isAgg177,
  z228 := Try.sizeOf177,
  v228 := Try.zeroValue177,
  t229 := Try.underlying178,
  a229 := Try.isAgg178,
  z229 := Try.sizeOf178,
  v229 := Try.zeroValue178 }
def laysCompact_ren : Go.Shelf.Ren := ⟨fun | 20 => 68 | n => n, fun | 22 => 28 | 3 => 3 | 4 => 4 | 0 => 0 | n => n, fun | n => n⟩
theorem laysCompact : Go.Proofs.Lays2.n20 Try.prog laysCompact_ren := {
  mixed := by kernel_rfl,
  f20 := Try.func68.trans (congrArg some (by kernel_rfl)),
  t0 := Try.underlying0,
  a0 := Try.isAgg0,
  z0 := Try.sizeOf0,
  v0 := Try.zeroValue0,
  t3 := Try.underlying3,
  a3 := Try.isAgg3,
  z3 := Try.sizeOf3,
  v3 := Try.zeroValue3,
  t4 := Try.underlying4,
  a4 := Try.isAgg4,
  z4 := Try.sizeOf4,
  v4 := Try.zeroValue4,
  t22 := Try.underlying28,
  a22 := Try.isAgg28,
  z22 := Try.sizeOf28,
  v22 := Try.zeroValue28,
  i3 := by kernel_rfl }
theorem sort_run (blk off cap : Nat) (zs : List Int) (w : World) (hH : Holds (Value.int .i64) w blk off zs.toArray) (hblk : blk < w.heap.size) (hsz : zs.length < 4611686018427387904) :
    Calls Try.prog 84 #[.slice (some ⟨blk, off, none⟩) zs.length cap] w fun e w' =>
      e = .returned (.tuple #[]) ∧ ∃ n os, w' = grow (putRow (Value.int .i64) (Sort.ahead w n) blk off (zs.mergeSort fun x y => decide (x ≤ y)).toArray) os := Any.slices_Sort_int laysSort blk off cap zs w hH hblk hsz
theorem sort_none (p : Option Addr) (cap : Nat) (w : World) :
    Calls Try.prog 84 #[.slice p 0 cap] w fun e w' => e = .returned (.tuple #[]) ∧ w' = w := Any.slices_Sort_int_none laysSort p cap w
theorem compact_run (blk off cap : Nat) (zs : List Int) (w : World) (hH : Holds (Value.int .i64) w blk off zs.toArray) (hsz : zs.length ≤ 9223372036854775807) (hcap : zs.length ≤ cap) :
    Calls Try.prog 68 #[.slice (some ⟨blk, off, none⟩) zs.length cap] w fun e w' => e = .returned (.slice (some ⟨blk, off, none⟩) (Lib.compact zs).length cap) ∧ ∃ q, w' = putRow (Value.int .i64) (Sort.ahead w q) blk off (Lib.compact zs ++ List.replicate (zs.length - (Lib.compact zs).length) 0).toArray := Any.slices_Compact_int laysCompact blk off cap zs w hH hsz hcap
theorem compact_none (a : Option Addr) (cap : Nat) (w : World) :
    Calls Try.prog 68 #[.slice a 0 cap] w fun e w' => e = .returned (.slice a 0 cap) ∧ w' = w := Any.slices_Compact_int_empty laysCompact a cap w
theorem compact_len (zs : List Int) : (Lib.compact zs).length ≤ zs.length := by
  unfold Lib.compact Lib.compactUpTo
  rw [List.length_map]
  exact Nat.le_trans (List.length_filter_le _ _) (by simp)
abbrev srt (zs : List Int) : List Int := zs.mergeSort fun x y => decide (x ≤ y)
theorem sort_s {w0 : World} {H : List (Nat × Obj)} (d : Sl) (zs : List Int) (hok : SlOk d zs.length 1) (hsz : zs.length ≤ 100000) :
    FSpec Try.prog w0 84 #[slV d zs.length] (slH d (zs.flatMap encI) 3 ++ H) (fun v H' => v = .tuple #[] ∧ H' = slH d ((srt zs).flatMap encI) 3 ++ H) := fun w hO => by
  have hlen : zs.length = (srt zs).length := by simp [srt]
  cases d with
  | nil =>
    have : zs = [] := List.eq_nil_of_length_eq_zero hok
    subst this
    exact (sort_none none 0 w).mono fun e w' ⟨he, hw⟩ => ⟨_, _, he, hw ▸ hO, rfl, by simp [slH]⟩
  | blk n cap junk =>
    simp only [slH, flat_one, encI, List.singleton_append] at hO ⊢
    exact (sort_run n 0 cap zs w (own_holds hO) (own_lt hO) (by omega)).mono fun e w' ⟨he, q, os, hw⟩ => ⟨_, _, he, hw ▸ own_row (l := zs) (l' := srt zs) hO hlen q os, rfl, rfl⟩
theorem compact_s {w0 : World} {H : List (Nat × Obj)} (d : Sl) (zs : List Int) (hok : SlOk d zs.length 1) (hsz : zs.length ≤ 100000) :
    FSpec Try.prog w0 68 #[slV d zs.length] (slH d (zs.flatMap encI) 3 ++ H) (fun v H' => ∃ d', v = slV d' (Lib.compact zs).length ∧ SlOk d' (Lib.compact zs).length 1 ∧ H' = slH d' ((Lib.compact zs).flatMap encI) 3 ++ H) := fun w hO => by
  cases d with
  | nil =>
    have : zs = [] := List.eq_nil_of_length_eq_zero hok
    subst this
    exact (compact_none none 0 w).mono fun e w' ⟨he, hw⟩ => ⟨_, _, he, hw ▸ hO, .nil, rfl, rfl, by simp [slH]⟩
  | blk n cap junk =>
    have hcl := compact_len zs
    obtain ⟨hk1, hk2⟩ := hok
    simp only [slH, flat_one, encI, List.singleton_append] at hO ⊢
    refine (compact_run n 0 cap zs w (own_holds hO) (by omega) hk1).mono fun e w' ⟨he, q, hw⟩ => ⟨_, (n, Cl ((Lib.compact zs).map (Value.int .i64) ++ (List.replicate (zs.length - (Lib.compact zs).length) (.int .i64 0) ++ junk)) 3) :: H, he, ?_, .blk n cap (List.replicate (zs.length - (Lib.compact zs).length) (.int .i64 0) ++ junk), rfl, ⟨by omega, ?_⟩, rfl⟩
    · have h1 := own_row (l := zs) (l' := Lib.compact zs ++ List.replicate (zs.length - (Lib.compact zs).length) 0) hO (by simp; omega) q #[]
      rw [grow_empty, ← hw] at h1
      simpa [List.append_assoc] using h1
    · simp [hk2]; omega
/-- the used tags: sorted, each once -/
theorem used_eq {tg : List Int} (h : ∀ t ∈ tg, 1 ≤ t ∧ t ≤ 65535) : Lib.compact (srt tg) = usedF tg := by
  have hs : (srt tg).Pairwise (· ≤ ·) := by
    have := List.pairwise_mergeSort (le := fun x y : Int => decide (x ≤ y)) (by intro a b c; simp; omega) (by intro a b; simp; omega) tg
    exact this.imp fun h => by simpa using h
  obtain ⟨h1, h2⟩ := compact_incr _ hs
  refine incr_same h1 (usedTo_incr tg 65535) fun x => ?_
  unfold usedF
  rw [h2, usedTo_mem]
  unfold srt
  rw [List.mem_mergeSort]
  exact ⟨fun hx => ⟨by have := h x hx; omega, hx⟩, fun hx => hx.2⟩
end Go.Proofs.Ytdbffighngmibaa
