/- The texts YtiiocpeeobjlgaaShelfA, YtiiocpeeobjlgaaSortC, YtiiocpeeobjlgaaGrpI, YtiiocpeeobjlgaaGrpF, YtiiocpeeobjlgaaWalkFnExactShareGroups, YtiiocpeeobjlgaaStFnExactShareGroups, YtiiocpeeobjlgaaPureFnExactShareGroups, YtiiocpeeobjlgaaRowFnExactShareGroups, without what the row does not need: words for rows in memory, contracts of functions, plain lemmas, the row. -/
import Derived.Test.YtiiocpeeobjlgaaZShareGroups4
import Derived.Shelf.Small.Bits
import Derived.Shelf.Small.Wraps
import Derived.Shelf.Strconv.Itoa0
import Derived.Shelf.Sort.Plain
import Derived.Ground.Names2Prog
import Derived.Shelf.Slices.SearchI
import Derived.Shelf.Slices.In.SortNone
import Derived.Test.YtiiocpeeobjlgaaProg
import Derived.Sort.OwnSortedInts
import Derived.StillTailTactics
import Derived.Shelf.Abstract
import Derived.Test.YtiiocpeeobjlgaaRows
import Derived.WalkKit
import Derived.ProofKit
import Derived.OpenShut
import Derived.ShutString
import Derived.ChangeOld
import Derived.Below
import Derived.SizedLaws
section
namespace Go.Proofs
open Go.Shelf
def Try.lays189_ren : Go.Shelf.Ren := ⟨fun | 189 => 37 | 125 => 58 | 257 => 57 | 128 => 76 | 129 => 77 | 294 => 67 | 295 => 68 | 296 => 69 | 297 => 70 | 298 => 71 | 299 => 72 | 216 => 73 | 300 => 74 | 301 => 75 | 328 => 79 | 329 => 80 | 330 => 81 | 331 => 82 | 332 => 83 | 215 => 84 | 343 => 85 | n => n, fun | 28 => 51 | 3 => 3 | 46 => 88 | 0 => 0 | 51 => 102 | 53 => 104 | 4 => 4 | 183 => 95 | 182 => 94 | 131 => 99 | 5 => 5 | 9 => 9 | 218 => 106 | 222 => 110 | 228 => 112 | 229 => 84 | n => n, fun | n => n⟩
theorem Try.lays189 : Go.Proofs.Lays.n189 Try.prog Try.lays189_ren := {
  mixed := by kernel_rfl
  f125 := Try.func58.trans (congrArg some (by kernel_rfl))
  f128 := Try.func76.trans (congrArg some (by kernel_rfl))
  f129 := Try.func77.trans (congrArg some (by kernel_rfl))
  f189 := Try.func37.trans (congrArg some (by kernel_rfl))
  f215 := Try.func84.trans (congrArg some (by kernel_rfl))
  f216 := Try.func73.trans (congrArg some (by kernel_rfl))
  f257 := Try.func57.trans (congrArg some (by kernel_rfl))
  f294 := Try.func67.trans (congrArg some (by kernel_rfl))
  f295 := Try.func68.trans (congrArg some (by kernel_rfl))
  f296 := Try.func69.trans (congrArg some (by kernel_rfl))
  f297 := Try.func70.trans (congrArg some (by kernel_rfl))
  f298 := Try.func71.trans (congrArg some (by kernel_rfl))
  f299 := Try.func72.trans (congrArg some (by kernel_rfl))
  f300 := Try.func74.trans (congrArg some (by kernel_rfl))
  f301 := Try.func75.trans (congrArg some (by kernel_rfl))
  f328 := Try.func79.trans (congrArg some (by kernel_rfl))
  f329 := Try.func80.trans (congrArg some (by kernel_rfl))
  f330 := Try.func81.trans (congrArg some (by kernel_rfl))
  f331 := Try.func82.trans (congrArg some (by kernel_rfl))
  f332 := Try.func83.trans (congrArg some (by kernel_rfl))
  f343 := Try.func85.trans (congrArg some (by kernel_rfl))
  t0 := Try.underlying0
  a0 := Try.isAgg0
  z0 := Try.sizeOf0
  v0 := Try.zeroValue0
  t3 := Try.underlying3
  a3 := Try.isAgg3
  z3 := Try.sizeOf3
  v3 := Try.zeroValue3
  t4 := Try.underlying4
  a4 := Try.isAgg4
  z4 := Try.sizeOf4
  v4 := Try.zeroValue4
  t5 := Try.underlying5
  a5 := Try.isAgg5
  z5 := Try.sizeOf5
  v5 := Try.zeroValue5
  t9 := Try.underlying9
  a9 := Try.isAgg9
  z9 := Try.sizeOf9
  v9 := Try.zeroValue9
  t28 := Try.underlying51
  a28 := Try.isAgg51
  z28 := Try.sizeOf51
  v28 := Try.zeroValue51
  t46 := Try.underlying88
  a46 := Try.isAgg88
  z46 := Try.sizeOf88
  v46 := Try.zeroValue88
  t51 := Try.underlying102
  a51 := Try.isAgg102
  z51 := Try.sizeOf102
  v51 := Try.zeroValue102
  t53 := Try.underlying104
  a53 := Try.isAgg104
  z53 := Try.sizeOf104
  v53 := Try.zeroValue104
  t131 := Try.underlying99
  a131 := Try.isAgg99
  z131 := Try.sizeOf99
  v131 := Try.zeroValue99
  t182 := Try.underlying94
  a182 := Try.isAgg94
  z182 := Try.sizeOf94
  v182 := Try.zeroValue94
  t183 := Try.underlying95
  a183 := Try.isAgg95
  z183 := Try.sizeOf95
  v183 := Try.zeroValue95
  t218 := Try.underlying106
  a218 := Try.isAgg106
  z218 := Try.sizeOf106
  v218 := Try.zeroValue106
  t222 := Try.underlying110
  a222 := Try.isAgg110
  z222 := Try.sizeOf110
  v222 := Try.zeroValue110
  t228 := Try.underlying112
  a228 := Try.isAgg112
  z228 := Try.sizeOf112
  v228 := Try.zeroValue112
  t229 := Try.underlying84
  a229 := Try.isAgg84
  z229 := Try.sizeOf84
  v229 := Try.zeroValue84 }
open Go.Sort Go.RowKit in
theorem Try.slices_Sort_int (blk off cap : Nat) (zs : List Int) (w : World) (hH : Holds (Value.int .i64) w blk off zs.toArray) (hblk : blk < w.heap.size) (hsz : zs.length < 4611686018427387904) :
    Calls Try.prog 37 #[.slice (some ⟨blk, off, none⟩) zs.length cap] w fun e w' =>
      e = .returned (.tuple #[]) ∧ ∃ n os, w' = grow (putRow (Value.int .i64) (Sort.ahead w n) blk off (zs.mergeSort fun x y => decide (x ≤ y)).toArray) os := Any.slices_Sort_int Try.lays189 blk off cap zs w hH hblk hsz
end Go.Proofs
end
section
namespace Go.Proofs.Ytiiocpeeobjlgaa.P
open Go.RowKit Go.Proofs.YtiiocpeeobjlgaaW.PrintWords Go.Proofs.YtiiocpeeobjlgaaW.PrintLast Go.Proofs.YtiiocpeeobjlgaaW.PrintMore
set_option linter.unusedVariables false
set_option linter.unusedSimpArgs false
def sortI (l : List Int) : List Int := l.mergeSort fun x y => decide (x ≤ y)
theorem sortI_len (l : List Int) : (sortI l).length = l.length := by simp [sortI]
theorem sort_row (base : Nat) (ok : Nat → Prop) (g cap : Nat) (l : List Int) (w : World) (h : Kd.R (Kd.int .i64) 3 w base ok (.slice (some ⟨g, 0, none⟩) l.length cap) l) (hl : l.length ≤ 1048576) :
    Calls Try.prog 37 #[.slice (some ⟨g, 0, none⟩) l.length cap] w fun e w' => e = .returned (.tuple #[]) ∧ Kd.R (Kd.int .i64) 3 w' base ok (.slice (some ⟨g, 0, none⟩) l.length cap) (sortI l) ∧ w.grownBy w' (some g) := by
  have ho := Kd.own_of_R h
  have hok := h.1
  rcases ho.2 with ⟨e, _⟩ | ⟨g', cap', cur, e, hb, hh, h1, h2, h3, h4⟩
  · cases e
  · injection e with e1 e2 e3
    injection e1 with e1
    injection e1 with e1
    subst e1
    subst e3
    rw [Nat.mul_one] at h4
    have hlt : g < w.heap.size := (Array.getElem?_eq_some_iff.1 hh).1
    refine (Try.slices_Sort_int g 0 cap l w (Go.holds_of_blockI hh h4) hlt (by omega)).mono fun e w' ⟨he, n, os, hw⟩ => ⟨he, ?_, ?_⟩
    · subst hw
      have h5 := Go.ownsRow_sortedI (w := w) (base := base) (g := g) (cap := cap) (n := n) (e := 3) (os := os) (cur := cur) (ss := l) (ts := sortI l) (sortI_len l) hb hh h1 h2 h3
      refine Kd.R_of_own (h1 := fun _ => rfl) ?_ hok
      rw [sortI_len]
      exact h5
    · subst hw
      exact Go.grownBy_sortedI _
theorem posL_take (n : Int) : ∀ (l : List Int), ∀ a ∈ l.take (posL n l), a < n
  | [], a, h => by simp at h
  | x :: xs, a, h => by
    simp only [posL] at h
    by_cases hx : x < n
    · rw [if_pos hx, List.take_succ_cons] at h
      rcases List.mem_cons.1 h with h | h
      · exact h ▸ hx
      · exact posL_take n xs a h
    · rw [if_neg hx] at h; simp at h
theorem posL_drop (n : Int) : ∀ (l : List Int), l.Pairwise (· ≤ ·) → ∀ a ∈ l.drop (posL n l), n ≤ a
  | [], _, a, h => by simp at h
  | x :: xs, hp, a, h => by
    obtain ⟨h1, h2⟩ := List.pairwise_cons.1 hp
    simp only [posL] at h
    by_cases hx : x < n
    · rw [if_pos hx, List.drop_succ_cons] at h
      exact posL_drop n xs h2 a h
    · rw [if_neg hx, List.drop_zero] at h
      rcases List.mem_cons.1 h with h | h
      · subst h; omega
      · have := h1 a h; omega
theorem insL_sorted {l : List Int} (n : Int) (h : l.Pairwise (· ≤ ·)) : (insL l n).Pairwise (· ≤ ·) := by
  unfold insL
  have ht : (l.take (posL n l)).Pairwise (· ≤ ·) := List.Pairwise.sublist (List.take_sublist _ _) h
  have hd : (l.drop (posL n l)).Pairwise (· ≤ ·) := List.Pairwise.sublist (List.drop_sublist _ _) h
  refine List.pairwise_append.2 ⟨ht, List.pairwise_cons.2 ⟨posL_drop n l h, hd⟩, fun a ha b hb => ?_⟩
  have h1 := posL_take n l a ha
  rcases List.mem_cons.1 hb with hb | hb
  · subst hb; omega
  · have := posL_drop n l h b hb; omega
theorem insL_perm (l : List Int) (n : Int) : (insL l n).Perm (n :: l) := by
  unfold insL
  refine (List.perm_middle).trans ?_
  rw [List.take_append_drop]
theorem foldl_ins_sorted : ∀ (l acc : List Int), acc.Pairwise (· ≤ ·) → (l.foldl insL acc).Pairwise (· ≤ ·) ∧ (l.foldl insL acc).Perm (l ++ acc)
  | [], acc, h => ⟨h, List.Perm.refl _⟩
  | x :: xs, acc, h => by
    obtain ⟨h1, h2⟩ := foldl_ins_sorted xs (insL acc x) (insL_sorted x h)
    refine ⟨h1, h2.trans ?_⟩
    refine (List.Perm.append_left xs (insL_perm acc x)).trans ?_
    rw [List.cons_append]
    exact List.perm_middle
theorem sortI_iz (q : List Nat) : sortI (iz q) = srt q := by
  obtain ⟨h1, h2⟩ := foldl_ins_sorted (iz q) [] List.Pairwise.nil
  rw [List.append_nil] at h2
  have h3 : (sortI (iz q)).Perm (iz q) := List.mergeSort_perm _ _
  have h4 : (sortI (iz q)).Pairwise (· ≤ ·) := by
    have := List.pairwise_mergeSort (le := fun x y : Int => decide (x ≤ y)) (fun a b c h1 h2 => by simp at *; omega) (fun a b => by simp; omega) (iz q)
    exact this.imp (fun h => by simpa using h)
  exact List.Perm.eq_of_pairwise (le := (· ≤ ·)) (fun a b _ _ h1 h2 => by omega) h4 h1 (h3.trans h2.symm)
end Go.Proofs.Ytiiocpeeobjlgaa.P
end
section
namespace Go.Proofs.Ytiiocpeeobjlgaa.P
open Go.RowKit Go.Proofs.YtiiocpeeobjlgaaW.PrintWords Go.Proofs.YtiiocpeeobjlgaaW.PrintLast Go.Proofs.YtiiocpeeobjlgaaW.PrintMore
set_option linter.unusedVariables false
set_option linter.unusedSimpArgs false
theorem infoB : (Try.prog.info? 4).map (fun i => (i.zero, i.size, i.bytes)) = some (some (.bool false), 1, 1) := by kernel_rfl
section
variable {W : World} {base n g cap k : Nat} {ok : Nat → Prop} {s : List Nat}
theorem mt_cell (h : Kd.R Kd.bool 4 W base ok (.slice (some ⟨g, 0, none⟩) n cap) (mtOf n s)) (hk : k < n) : W.cell? ⟨g, k, none⟩ = some (.bool (decide (k ∈ s))) ∧ W.frozen? ⟨g, k, none⟩ = false := by
  have h' : Kd.R Kd.bool 4 W base ok (.slice (some ⟨g, 0, none⟩) (mtOf n s).length cap) (mtOf n s) := by rw [mtOf_len]; exact h
  have h2 := Kd.R_cell false h' (k : Int) (by omega) (by rw [mtOf_len]; omega)
  rw [mtOf_at s hk, Int.toNat_natCast] at h2
  exact h2
theorem mt_set (h : Kd.R Kd.bool 4 W base ok (.slice (some ⟨g, 0, none⟩) n cap) (mtOf n s)) (hk : k < n) : Kd.R Kd.bool 4 (W.setCell ⟨g, k, none⟩ (.bool true)) base ok (.slice (some ⟨g, 0, none⟩) n cap) (mtOf n (s ++ [k])) := by
  obtain ⟨c, hcl, hM, hcc, hfr⟩ := Kd.R_elem h false (k : Int) (by omega) (by omega)
  have h2 := (Kd.R_seg h (k : Int) (by omega) (by omega) (seg := [.bool true]) (j := 0) hcl hcc (show 1 ≤ 1 from by decide) (x' := true) (okp := fun _ => False) (by
    have hc : c = [.bool ((mtOf n s).getD (k : Int).toNat false)] := hM
    subst hc
    rfl) (fun _ h => h.elim)).1
  rw [Int.toNat_natCast, mtOf_set s hk, show k * Kd.bool.sz + 0 = k from Nat.mul_one k] at h2
  exact h2
theorem mt_block (h : Kd.R Kd.bool 4 W base ok (.slice (some ⟨g, 0, none⟩) n cap) (mtOf n s)) : base ≤ g ∧ g < W.heap.size ∧ ∃ cells, W.heap[g]? = some (.cells cells 4 (0, 0)) := by
  obtain ⟨cells, hc⟩ := own_typed (Kd.own_of_R h) g rfl
  exact ⟨Kd.R_base h g rfl, Kd.R_lt h g rfl, cells, hc⟩
theorem mt_typed : ∀ q, q ∈ 4 :: Kd.bool.E → q ≠ 3 ∧ q ≠ 51 := by
  intro q hq
  have h_ : q = 4 := by simpa [Kd.bool, Kd.scalar] using hq
  subst h_
  decide
end
set_option maxHeartbeats 2000000 in
set_option maxRecDepth 100000 in
theorem groups_no (k : Nat) (A0 : Option Addr) (c0 : Nat) (m : List (List Int)) (A1 : Option Addr) (c1 : Nat) (l : List S56) (w : World) (hr0 : Kd.C (Kd.slice 5 (Kd.int .u8)) w A0 m.length m) (hc0 : m.length ≤ c0) (hr1 : Kd.C k56 w A1 l.length l) (hc1 : l.length ≤ c1) (h1 : impl_areWatched.f k m l = some false) :
    Calls Try.prog 19 #[.agg #[.slice A0 m.length c0], .slice A1 l.length c1] w fun e w' => e = .returned (.tuple #[.slice none 0 0, .bool false]) ∧ Below w.heap.size w w' := by
  have hu := Try.underlying31
  have HR0 := Aside0.mk hr0
  have HC0 := Aside0.mk hc0
  have HR := Aside0.mk hr1
  have HC := Aside0.mk hc1
  have HA1 := Aside0.mk h1
  have HB := Aside0.mk (Below.refl w.heap.size w)
  clear hr0 hc0 hr1 hc1 h1
  go_enter Try.func19, Try.ntmps19
  go_wp2_with (first | ((with_reducible refine gate_dst (N := 2) rfl ?_); refine box_event ?hg (N := 2) ?hd (cs := #[.slice A0 m.length c0]) (t := 31) ?hr ?_; (case hd => rfl); (case hg => rfl); (case hr => first | (go_simp; done) | (go_simp; rfl)); intro g2 hg w2 hbox hb; have n0_ := Aside0.mk (below_step HB.out hb); have n1_ := Aside0.mk hbox; clear HB; have HB := n0_; have BK2 := n1_; clear n0_ n1_ hb hbox hg; have hc2 : w2.cell? ⟨g2, 0, none⟩ = some (.slice A0 m.length c0) := (blk_cell BK2.out 0).trans rfl; have hf2 := blk_frozen BK2.out 0) | (go_at_call 35; (with_reducible refine (impl_areWatched.calls k _ _ m _ _ l false _ ?s1 ?s2 ?s3 ?s4 HA1.out).mono ?_); (case s1 => exact Kd.C_below HR0.out (by repeat (first | (with_reducible first | exact HB.out | apply below_alloc | apply pw_below_drewN | apply below_drew1) | exact HB.out))); (case s2 => exact HC0.out); (case s3 => exact Kd.C_below HR.out (by repeat (first | (with_reducible first | exact HB.out | apply below_alloc | apply pw_below_drewN | apply below_drew1) | exact HB.out))); (case s4 => exact HC.out); rintro e wa ⟨rfl, hb⟩; have n0_ := Aside0.mk (below_step (by repeat (first | (with_reducible first | exact HB.out | apply below_alloc | apply pw_below_drewN | apply below_drew1) | exact HB.out)) hb); clear HB; have HB := n0_; clear n0_ hb))
  go_ret2
  exact ⟨rfl, by repeat (first | (with_reducible first | exact HB.out | apply below_alloc | apply pw_below_drewN | apply below_drew1) | exact HB.out)⟩
set_option maxHeartbeats 16000000 in
set_option maxRecDepth 100000 in
theorem groups_yes (k : Nat) (A0 : Option Addr) (c0 : Nat) (m : List (List Int)) (A1 : Option Addr) (c1 : Nat) (l : List S56) (sh : Nat → Nat → Bool) (w : World) (hr0 : Kd.C (Kd.slice 5 (Kd.int .u8)) w A0 m.length m) (hc0 : m.length ≤ c0) (hr1 : Kd.C k56 w A1 l.length l) (hc1 : l.length ≤ c1) (h1 : impl_areWatched.f k m l = some true) (hl : l.length ≤ 12)
    (hov : ∀ a b : Nat, a < l.length → b < l.length → impl_areShared.f (rd_T56 l a).f0 (rd_T56 l a).f1 (rd_T56 l a).f2 (rd_T56 l a).f3 (rd_T56 l b).f0 (rd_T56 l b).f1 (rd_T56 l b).f2 (rd_T56 l b).f3 = some (sh a b)) (hlen : ∀ i, i ≤ l.length → (igr l.length sh i).1.length ≤ 12) :
    Calls Try.prog 19 #[.agg #[.slice A0 m.length c0], .slice A1 l.length c1] w fun e w' => ∃ v0_ : Value, e = .returned (.tuple #[v0_, .bool true]) ∧ Kd.S kII 51 w' w.heap.size (fun _ => True) v0_ (igr l.length sh l.length).1 ∧ Below w.heap.size w w' := by
  have hu := Try.underlying31
  have hu2 := Try.underlying56
  have HR0 := Aside0.mk hr0
  have HC0 := Aside0.mk hc0
  have HR := Aside0.mk hr1
  have HC := Aside0.mk hc1
  have HL := Aside0.mk hl
  have HOV := Aside0.mk hov
  have HLE := Aside0.mk hlen
  have HA1 := Aside0.mk h1
  have HB := Aside0.mk (Below.refl w.heap.size w)
  clear hr0 hc0 hr1 hc1 hov h1 hlen
  go_enter Try.func19, Try.ntmps19
  go_wp2_with (first | ((with_reducible refine gate_dst (N := 2) rfl ?_); refine box_event ?hg (N := 2) ?hd (cs := #[.slice A0 m.length c0]) (t := 31) ?hr ?_; (case hd => rfl); (case hg => rfl); (case hr => first | (go_simp; done) | (go_simp; rfl)); intro g2 hg w2 hbox hb; have n0_ := Aside0.mk (below_step HB.out hb); have n1_ := Aside0.mk hbox; clear HB; have HB := n0_; have BK2 := n1_; clear n0_ n1_ hb hbox hg; have hc2 : w2.cell? ⟨g2, 0, none⟩ = some (.slice A0 m.length c0) := (blk_cell BK2.out 0).trans rfl; have hf2 := blk_frozen BK2.out 0) | (go_at_call 35; (with_reducible refine (impl_areWatched.calls k _ _ m _ _ l true _ ?s1 ?s2 ?s3 ?s4 HA1.out).mono ?_); (case s1 => exact Kd.C_below HR0.out (by repeat (first | (with_reducible first | exact HB.out | apply below_alloc | apply pw_below_drewN | apply below_drew1) | exact HB.out))); (case s2 => exact HC0.out); (case s3 => exact Kd.C_below HR.out (by repeat (first | (with_reducible first | exact HB.out | apply below_alloc | apply pw_below_drewN | apply below_drew1) | exact HB.out))); (case s4 => exact HC.out); rintro e wa ⟨rfl, hb⟩; have n0_ := Aside0.mk (below_step (by repeat (first | (with_reducible first | exact HB.out | apply below_alloc | apply pw_below_drewN | apply below_drew1) | exact HB.out)) hb); clear HB; have HB := n0_; clear n0_ hb))
  have n0_ := Aside0.mk (below_drew1 (show Below w.heap.size w wa from HB.out))
  clear HB
  have HB := n0_
  clear n0_
  refine start_ (n := 6) (S := fun _ => True) (ds := []) #[false, false, false, false, false, false] (by kernel_rfl) rfl rfl trivial (fun hHeld => ?_)
  generalize wa.drew = wd at HB hHeld ⊢
  refine pure_ (i := 1) (N := some 18) (v := ?_) (a' := ?_) #[false, true, false, false, false, false] rfl rfl (by kernel_rfl) (fun _ _ _ h => h) (Or.inl ⟨by rfl, ?_⟩) ?_ ?_
  rotate_left
  · intro w'
    go_simp
    with_reducible rfl
  rotate_left
  · simp only [Act.put, List.setIfInBounds_toArray, List.set_cons_zero, List.set_cons_succ, i64_w, i32_w]
    rfl
  refine pure_ (i := 2) (N := some 19) (v := ?_) (a' := ?_) #[false, true, true, false, false, false] rfl rfl (by kernel_rfl) (fun _ _ _ h => h) (Or.inl ⟨by rfl, ?_⟩) ?_ ?_
  rotate_left
  · intro w'
    go_simp
    with_reducible rfl
  rotate_left
  · simp only [Act.put, List.setIfInBounds_toArray, List.set_cons_zero, List.set_cons_succ, i64_w, i32_w]
    rfl
  refine join_ (σ := Value × Value) 1 #[true, true, true, true, true, false] (fun s => [(17, s.1), (20, s.2), (6, s.1)]) (fun s W => Own W w.heap.size s.1 [] [] ∧ Kd.R Kd.bool 4 W w.heap.size (fun _ => True) s.2 (mtOf l.length []) ∧ Below w.heap.size w W) ?hcont (fun hcont => ?_)
  rotate_left
  refine two_ (i := 0) (j := 3) (Ni := some 17) (Nj := some 20) #[true, true, true, false, false, false] #[false, true, true, true, false, false] rfl rfl rfl rfl (by kernel_rfl) (by decide) (by decide) (fun K hK => ?_) (fun K hK => ?_)
  · refine Kd.S_lit_step kII _ 51 ?hg (N := 17) ?hd (xs := ([] : List (List Int))) (inner := []) (ok := fun _ => True) (okp := fun _ => True) ?hr ?hp (fun _ hk => hk) trivial (Below.refl _ _) (Nat.le_refl _) (by simp) ?_
    case hd => rfl
    case hg => rfl
    case hr => first | (go_simp; done) | (go_simp; rfl)
    case hp => exact (Reps.none _ _)
    intro v17 w17 ho hb hg_ hnew_
    clear hg_ hnew_
    have HS := Aside0.mk (Kd.S_lower ho (below_size HB.out))
    have n0_ := Aside0.mk (below_step HB.out hb)
    clear HB ho hb
    have HB := n0_
    clear n0_
    refine hK.out _ _ trivial (fun hHeld => ?_)
    clear hK K
    refine norm_ (a' := ?_) ?_ ?_
    rotate_left
    · show Act.put _ (some 17) _ = _
      simp only [Act.put, List.setIfInBounds_toArray, List.set_cons_zero, List.set_cons_succ, i64_w, i32_w]
      rfl
    refine pure_ (i := 4) (N := some 6) (v := ?_) (a' := ?_) #[true, true, true, false, true, false] rfl rfl (by kernel_rfl) (fun _ _ _ h => h) (Or.inl ⟨by rfl, ?_⟩) ?_ ?_
    rotate_left
    · intro w'
      go_simp
      with_reducible rfl
    rotate_left
    · simp only [Act.put, List.setIfInBounds_toArray, List.set_cons_zero, List.set_cons_succ, i64_w, i32_w]
      rfl
    refine one_ (i := 3) (N := some 20) #[true, true, true, true, true, false] rfl rfl (by kernel_rfl) (by decide) (fun K hK => ?_)
    refine Kd.R_make_step Kd.bool (w0 := w) w.heap.size 4 (by rfl) (N := 20) rfl 65 (.tmp 19) (.tmp 19) rfl (l.length : Int) rfl rfl Try.underlying65 (.bool false) 1 infoB rfl (by decide) (by omega) false (ok := fun _ => True) (okp := fun _ => False) rfl (fun _ h => h.elim) trivial (by omega) (by omega) HB.out (below_size HB.out) ?_
    intro v20 w20 ho20 hb20 hg20 hnew_
    clear hnew_
    have n1_ := Own.start (Kd.S_grown HS.out hg20 (fun _ _ e => by cases e))
    refine hK.out _ _ trivial (fun hHeld => ?_)
    clear hK K
    have h_ := hcont (v17, v20) w20 ⟨n1_, by rw [mtOf_nil]; exact ho20, hb20⟩
    simp only [putAll, Act.put, List.setIfInBounds_toArray, List.set_cons_zero, List.set_cons_succ] at h_ ⊢
    exact h_
  · refine Kd.R_make_step Kd.bool (w0 := w) w.heap.size 4 (by rfl) (N := 20) rfl 65 (.tmp 19) (.tmp 19) rfl (l.length : Int) rfl rfl Try.underlying65 (.bool false) 1 infoB rfl (by decide) (by omega) false (ok := fun _ => True) (okp := fun _ => False) rfl (fun _ h => h.elim) trivial (by omega) (by omega) HB.out (below_size HB.out) ?_
    intro v20 w20 ho20 hb20 hg20 hnew_
    clear hnew_
    have n0_ := Aside0.mk hb20
    have HM := Aside0.mk ho20
    clear HB ho20 hb20 hg20
    have HB := n0_
    clear n0_
    refine hK.out _ _ trivial (fun hHeld => ?_)
    clear hK K
    refine norm_ (a' := ?_) ?_ ?_
    rotate_left
    · show Act.put _ (some 20) _ = _
      simp only [Act.put, List.setIfInBounds_toArray, List.set_cons_zero, List.set_cons_succ, i64_w, i32_w]
      rfl
    refine one_ (i := 0) (N := some 17) #[true, true, true, true, false, false] rfl rfl (by kernel_rfl) (by decide) (fun K hK => ?_)
    refine Kd.S_lit_step kII _ 51 ?hg (N := 17) ?hd (xs := ([] : List (List Int))) (inner := []) (ok := fun _ => True) (okp := fun _ => True) ?hr ?hp (fun _ hk => hk) trivial (Below.refl _ _) (Nat.le_refl _) (by simp) ?_
    case hd => rfl
    case hg => rfl
    case hr => first | (go_simp; done) | (go_simp; rfl)
    case hp => exact (Reps.none _ _)
    intro v17 w17 ho hb hg_ hnew_
    clear hg_ hnew_
    have n1_ := Own.start (Kd.S_lower ho (below_size HB.out))
    have n2_ := below_step HB.out hb
    have n3_ := Kd.R_below HM.out hb
    refine hK.out _ _ trivial (fun hHeld => ?_)
    clear hK K
    refine norm_ (a' := ?_) ?_ ?_
    rotate_left
    · show Act.put _ (some 17) _ = _
      simp only [Act.put, List.setIfInBounds_toArray, List.set_cons_zero, List.set_cons_succ, i64_w, i32_w]
      rfl
    refine pure_ (i := 4) (N := some 6) (v := ?_) (a' := ?_) #[true, true, true, true, true, false] rfl rfl (by kernel_rfl) (fun _ _ _ h => h) (Or.inl ⟨by rfl, ?_⟩) ?_ ?_
    rotate_left
    · intro w'
      go_simp
      with_reducible rfl
    rotate_left
    · simp only [Act.put, List.setIfInBounds_toArray, List.set_cons_zero, List.set_cons_succ, i64_w, i32_w]
      rfl
    have h_ := hcont (v17, v20) w17 ⟨n1_, by rw [mtOf_nil]; exact n3_, n2_⟩
    simp only [putAll, Act.put, List.setIfInBounds_toArray, List.set_cons_zero, List.set_cons_succ] at h_ ⊢
    exact h_
  case hcont =>
    rintro ⟨v17, v20⟩ w17 ⟨h1_, h2_, h3_⟩
    have HO := Aside0.mk h1_
    have HM := Aside0.mk h2_
    clear HB
    have HB := Aside0.mk h3_
    clear h1_ h2_ h3_
    refine norm_ (a' := ?_) ?_ ?_
    rotate_left
    · show putAll _ [(17, v17), (20, v20), (6, v17)] = _
      simp only [putAll, Act.put, List.setIfInBounds_toArray, List.set_cons_zero, List.set_cons_succ, i64_w, i32_w]
      rfl
    refine pure_ (i := 5) (N := some 7) (v := ?_) (a' := ?_) #[true, true, true, true, true, true] rfl rfl (by kernel_rfl) (fun _ _ _ h => h) (Or.inl ⟨by rfl, ?_⟩) ?_ ?_
    rotate_left
    · intro w'
      go_simp
      with_reducible rfl
    rotate_left
    · simp only [Act.put, List.setIfInBounds_toArray, List.set_cons_zero, List.set_cons_succ, i64_w, i32_w]
      rfl
    refine done_ (by kernel_rfl) ?_
    obtain ⟨Am, cm, em⟩ : ∃ A c, v20 = .slice A l.length c := by
      obtain ⟨A, c, e⟩ := Kd.R_slice HM.out
      rw [mtOf_len] at e
      exact ⟨A, c, e⟩
    subst em
    go_wp2
    go_loopg [6, 23] l.length (fun kq v6 v23 wr => ∃ i : Nat, i ≤ l.length ∧ l.length - i ≤ kq ∧ v23 = .int .i64 (i : Int) ∧ Aside0 (Own wr w.heap.size v6 (igr l.length sh i).1 []) ∧ Aside0 (Kd.R Kd.bool 4 wr w.heap.size (fun _ => True) (.slice Am l.length cm) (mtOf l.length (igr l.length sh i).2)) ∧ Aside0 (Below w.heap.size w wr))
    case atStart => exact ⟨0, by omega, by omega, rfl, ⟨by repeat (first | (with_reducible first | exact HO.out | apply Own.alloc | apply Own.drewN | apply Own.drew) | exact HO.out)⟩, ⟨by ((with_reducible repeat (first | apply Kd.R_alloc | apply Kd.R_drewN | apply Kd.R_drew)); exact HM.out)⟩, ⟨by repeat (first | (with_reducible first | exact HB.out | apply below_alloc | apply pw_below_drewN | apply below_drew1) | exact HB.out)⟩⟩
    case round =>
      clear HO HB HM
      obtain ⟨i, hi, hkq, rfl, HO, HM, HB⟩ := hrel
      by_cases hlt : i < l.length
      · have c1b := decide_eq_true (show (i : Int) < (l.length : Int) by omega)
        obtain ⟨gm, rfl⟩ : ∃ g, Am = some ⟨g, 0, none⟩ := by
          obtain ⟨g, cap, e, _⟩ := Kd.R_form HM.out (by rw [mtOf_len]; omega)
          injection e with e1
          exact ⟨g, e1⟩
        obtain ⟨outs, hou⟩ : ∃ o, o = (igr l.length sh i).1 := ⟨_, rfl⟩
        obtain ⟨blk, hblk⟩ : ∃ o, o = (igr l.length sh i).2 := ⟨_, rfl⟩
        rw [← hou] at HO
        rw [← hblk] at HM
        have HLO := Aside0.mk (show outs.length ≤ 12 by rw [hou]; exact HLE.out i hi)
        have i0' : 0 ≤ (i : Int) := by omega
        have i1' : (i : Int) < (l.length : Int) := by omega
        have i0 := eq_true i0'
        have i1 := eq_true i1'
        obtain ⟨hm0, hf0⟩ := mt_cell HM.out hlt
        by_cases hin : i ∈ blk
        · have HSO := Aside0.mk (show igr l.length sh (i + 1) = (outs, blk) by rw [igr_in (by rw [← hblk]; exact hin), hou, hblk])
          clear hou hblk
          rw [decide_eq_true hin] at hm0
          go_wp2
          go_roundg (l.length - (i + 1))
          case measure => omega
          case rel => exact ⟨i + 1, by omega, by omega, by go_num, ⟨by rw [HSO.out]; repeat (first | (with_reducible first | exact HO.out | apply Own.alloc | apply Own.drewN | apply Own.drew) | exact HO.out)⟩, ⟨by rw [HSO.out]; ((with_reducible repeat (first | apply Kd.R_alloc | apply Kd.R_drewN | apply Kd.R_drew)); exact HM.out)⟩, ⟨by repeat (first | (with_reducible first | exact HB.out | apply below_alloc | apply pw_below_drewN | apply below_drew1) | exact HB.out)⟩⟩
        · obtain ⟨Q, hQ⟩ : ∃ Q, Q = bfs l.length sh blk l.length 0 [i] := ⟨_, rfl⟩
          have HSO := Aside0.mk (show igr l.length sh (i + 1) = (outs ++ [srt Q], blk ++ Q) by rw [igr_out (by rw [← hblk]; exact hin), ← hou, ← hblk, hQ])
          have HQE := Aside0.mk (show bfs l.length sh blk l.length 0 [i] = Q from hQ.symm)
          clear hou hblk hQ
          rw [decide_eq_false hin] at hm0
          go_wp2_with (first | ((with_reducible refine gate_dst (N := 31) rfl ?_); refine Kd.R_lit (Kd.int .i64) _ 3 ?hg (N := 31) ?hd (xs := [(i : Int)]) (inner := [.int .i64 (i : Int)]) (ok := fun _ => True) (okp := fun _ => True) ?hr ?hp (fun _ hk => hk) trivial (Below.refl _ _) (Nat.le_refl _) (by simp) ?_; (case hd => rfl); (case hg => rfl); (case hr => first | (go_simp; done) | (go_simp; rfl)); (case hp => exact R1_lit _ _ _ _); intro v31 w31 ho hb hg_ hnew_; clear hg_ hnew_; have n0_ := Aside0.mk (Own.push (by repeat (first | (with_reducible first | exact HO.out | apply Own.alloc | apply Own.drewN | apply Own.drew) | exact HO.out)) hb (below_size (by repeat (first | (with_reducible first | exact HB.out | apply below_alloc | apply pw_below_drewN | apply below_drew1) | exact HB.out))) ho); have n1_ := Aside0.mk (below_step (by repeat (first | (with_reducible first | exact HB.out | apply below_alloc | apply pw_below_drewN | apply below_drew1) | exact HB.out)) hb); have n2_ := Aside0.mk (Kd.R_below (by ((with_reducible repeat (first | apply Kd.R_alloc | apply Kd.R_drewN | apply Kd.R_drew)); exact HM.out)) hb); clear HO HB HM; have HO := n0_; have HB := n1_; have HM := n2_; clear n0_ n1_ n2_ hb ho; have HBK := Aside0.mk (mt_block HM.out); obtain ⟨hm8, hf8⟩ := mt_cell HM.out hlt))
          go_loopg [9, 10] l.length (fun kq v9 v10 wr => ∃ (t : Nat) (q : List Nat), t ≤ q.length ∧ l.length - t ≤ kq ∧ v10 = .int .i64 (t : Int) ∧ Aside0 (IsQ l.length blk q) ∧ Aside0 (bfs l.length sh blk (l.length - t) t q = Q) ∧ Aside0 (0 < q.length) ∧ Aside0 (Own wr w.heap.size u6 outs [(v9, iz q)]) ∧ Aside0 (Kd.R Kd.bool 4 wr w.heap.size (fun _ => True) (.slice (some ⟨gm, 0, none⟩) l.length cm) (mtOf l.length (blk ++ q))) ∧ Aside0 (Below w.heap.size w wr))
          case atStart =>
            obtain ⟨hge, hgl, cq, hcq⟩ := HBK.out
            exact ⟨0, [i], by simp, by omega, rfl, ⟨IsQ.one hlt hin⟩, ⟨HQE.out⟩, ⟨by simp⟩, ⟨HO.out.store hcq (by decide) (by decide) i (.bool true)⟩, ⟨mt_set HM.out hlt⟩, ⟨below_set HB.out hge⟩⟩
          case round =>
            clear HO HB HM HQE hm8 hf8 HBK hm0 hf0
            obtain ⟨t, q, ht, hkq2, rfl, HQ, HBF, HQP, HO, HM, HB⟩ := hrel
            have hqn := HQ.out.len
            have H9 := Aside0.mk (show Kd.R (Kd.int .i64) 3 wr w.heap.size (fun _ => True) u9 (iz q) from HO.out.row 0 rfl)
            obtain ⟨gs, cs, es, GES0, _⟩ := Kd.R_form H9.out (by rw [iz_len]; exact HQP.out)
            subst es
            have GES := Aside0.mk GES0
            clear GES0
            by_cases htl : t < q.length
            · have htz : t < (iz q).length := by rw [iz_len]; exact htl
              have c3b := decide_eq_true (show (t : Int) < ((iz q).length : Int) by rw [iz_len]; omega)
              obtain ⟨x, hx⟩ : ∃ x, q[t]? = some x := ⟨_, List.getElem?_eq_getElem htl⟩
              have HX := Aside0.mk hx
              have hxn : x < l.length := HQ.out.2.1 x (List.mem_of_getElem? hx)
              obtain ⟨q2, hq2⟩ : ∃ q2, q2 = kall l.length sh blk x q := ⟨_, rfl⟩
              have HQ2 := Aside0.mk (show kfrom sh blk x (l.length - 0) 0 q = q2 by rw [hq2]; rfl)
              have HBF2 := Aside0.mk (show bfs l.length sh blk (l.length - (t + 1)) (t + 1) q2 = Q by
                have h_ := HBF.out
                obtain ⟨f, hf⟩ : ∃ f, l.length - t = f + 1 := ⟨l.length - t - 1, by omega⟩
                rw [hf, bfs_go hx, ← hq2] at h_
                rw [show l.length - (t + 1) = f by omega]
                exact h_)
              clear hx hq2 HBF
              go_wp2
              go_loopg [9, 43] l.length (fun kq v9 v43 wr => ∃ (j : Nat) (q' : List Nat), j ≤ l.length ∧ l.length - j ≤ kq ∧ v43 = .int .i64 (j : Int) ∧ Aside0 (IsQ l.length blk q') ∧ Aside0 (q'[t]? = some x) ∧ Aside0 (kfrom sh blk x (l.length - j) j q' = q2) ∧ Aside0 (Own wr w.heap.size u6 outs [(v9, iz q')]) ∧ Aside0 (Kd.R Kd.bool 4 wr w.heap.size (fun _ => True) (.slice (some ⟨gm, 0, none⟩) l.length cm) (mtOf l.length (blk ++ q'))) ∧ Aside0 (Below w.heap.size w wr))
              case atStart => exact ⟨0, q, by omega, by omega, rfl, HQ, HX, HQ2, ⟨by repeat (first | (with_reducible first | exact HO.out | apply Own.alloc | apply Own.drewN | apply Own.drew) | exact HO.out)⟩, ⟨by ((with_reducible repeat (first | apply Kd.R_alloc | apply Kd.R_drewN | apply Kd.R_drew)); exact HM.out)⟩, ⟨by repeat (first | (with_reducible first | exact HB.out | apply below_alloc | apply pw_below_drewN | apply below_drew1) | exact HB.out)⟩⟩
              case round =>
                clear HO HB HM HQ HX HQ2 H9 GES HQP htl htz c3b ht hqn
                obtain ⟨j, q', hjl, hkq3, rfl, HQ, HT, HF, HO, HM, HB⟩ := hrel
                have htl : t < q'.length := (List.getElem?_eq_some_iff.1 HT.out).1
                have hqn := HQ.out.len
                by_cases hj : j < l.length
                · have c4b := decide_eq_true (show (j : Int) < (l.length : Int) by omega)
                  have H9 := Aside0.mk (show Kd.R (Kd.int .i64) 3 wr w.heap.size (fun _ => True) u9 (iz q') from HO.out.row 0 rfl)
                  obtain ⟨gg, cg, eg, _⟩ := Kd.R_form H9.out (by rw [iz_len]; omega)
                  subst eg
                  have t0 : 0 ≤ (t : Int) := by omega
                  have t1 : (t : Int) < ((iz q').length : Int) := by rw [iz_len]; omega
                  have htz : t < (iz q').length := by rw [iz_len]; exact htl
                  have j0 : 0 ≤ (x : Int) := by omega
                  have j1 : (x : Int) < (l.length : Int) := by omega
                  have k0 : 0 ≤ (j : Int) := by omega
                  have k1 : (j : Int) < (l.length : Int) := by omega
                  obtain ⟨hm0, _⟩ := mt_cell HM.out hj
                  have hT0 := (Kd.R_cell (0 : Int) H9.out (t : Int) t0 t1).1
                  rw [show rdOf (0 : Int) (iz q') (t : Int) = (x : Int) from iz_at HT.out, Int.toNat_natCast] at hT0
                  obtain ⟨ad, e0, hX0, hX1, hX2, hX3⟩ := at_T56 HR.out (x : Int) j0 j1
                  cases e0
                  obtain ⟨ad', e0, hK0, hK1, hK2, hK3⟩ := at_T56 HR.out (j : Int) k0 k1
                  cases e0
                  have hv := HOV.out x j hxn hj
                  simp only [Int.toNat_natCast] at hX0 hX1 hX2 hX3 hK0 hK1 hK2 hK3
                  obtain ⟨a0, h_⟩ : ∃ a, a = (rd_T56 l x).f0 := ⟨_, rfl⟩
                  rw [← h_] at hX0 hv; clear h_
                  obtain ⟨a1, h_⟩ : ∃ a, a = (rd_T56 l x).f1 := ⟨_, rfl⟩
                  rw [← h_] at hX1 hv; clear h_
                  obtain ⟨a2, h_⟩ : ∃ a, a = (rd_T56 l x).f2 := ⟨_, rfl⟩
                  rw [← h_] at hX2 hv; clear h_
                  obtain ⟨a3, h_⟩ : ∃ a, a = (rd_T56 l x).f3 := ⟨_, rfl⟩
                  rw [← h_] at hX3 hv; clear h_
                  obtain ⟨b0, h_⟩ : ∃ a, a = (rd_T56 l j).f0 := ⟨_, rfl⟩
                  try rw [← h_] at hv
                  rw [← h_] at hK0; clear h_
                  obtain ⟨b1, h_⟩ : ∃ a, a = (rd_T56 l j).f1 := ⟨_, rfl⟩
                  try rw [← h_] at hv
                  rw [← h_] at hK1; clear h_
                  obtain ⟨b2, h_⟩ : ∃ a, a = (rd_T56 l j).f2 := ⟨_, rfl⟩
                  try rw [← h_] at hv
                  rw [← h_] at hK2; clear h_
                  obtain ⟨b3, h_⟩ : ∃ a, a = (rd_T56 l j).f3 := ⟨_, rfl⟩
                  try rw [← h_] at hv
                  rw [← h_] at hK3; clear h_
                  have HV := Aside0.mk hv
                  have hK0' := pw_cell_below HB.out hK0
                  have hK1' := pw_cell_below HB.out hK1
                  have hK2' := pw_cell_below HB.out hK2
                  have hK3' := pw_cell_below HB.out hK3
                  have LX0 := Aside0.mk (pw_cell_below HB.out hX0)
                  have LX1 := Aside0.mk (pw_cell_below HB.out hX1)
                  have LX2 := Aside0.mk (pw_cell_below HB.out hX2)
                  have LX3 := Aside0.mk (pw_cell_below HB.out hX3)
                  have LT0 := Aside0.mk hT0
                  have LM0 := Aside0.mk hm0
                  clear hT0 hX0 hX1 hX2 hX3 hK0 hK1 hK2 hK3 hv hm0
                  replace t0 := eq_true t0
                  replace t1 := eq_true t1
                  replace j0 := eq_true j0
                  replace j1 := eq_true j1
                  have k0' := k0
                  have k1' := k1
                  replace k0 := eq_true k0
                  replace k1 := eq_true k1
                  go_upto_region 16 with (fail)
                  obtain ⟨ob, hob⟩ : ∃ ob : Obj, ob = .cells #[.int .i64 b0, .int .i64 b1, .int .i64 b2, .int .i64 b3] 56 (0, 0) := ⟨_, rfl⟩
                  have bn : (wr.alloc ob).heap[wr.heap.size]? = some (.cells #[.int .i64 b0, .int .i64 b1, .int .i64 b2, .int .i64 b3] 56 (0, 0)) := by rw [← hob]; exact heap_alloc_new wr ob
                  have HK0 := Aside0.mk ((blk_cell bn 0).trans rfl : (wr.alloc ob).cell? ⟨wr.heap.size, 0, none⟩ = some (.int .i64 b0))
                  have HK1 := Aside0.mk ((blk_cell bn 1).trans rfl : (wr.alloc ob).cell? ⟨wr.heap.size, 1, none⟩ = some (.int .i64 b1))
                  have HK2 := Aside0.mk ((blk_cell bn 2).trans rfl : (wr.alloc ob).cell? ⟨wr.heap.size, 2, none⟩ = some (.int .i64 b2))
                  have HK3 := Aside0.mk ((blk_cell bn 3).trans rfl : (wr.alloc ob).cell? ⟨wr.heap.size, 3, none⟩ = some (.int .i64 b3))
                  have HX0 := Aside0.mk (pw_cell_below (below_alloc (Below.refl _ wr) ob) LX0.out)
                  have HX1 := Aside0.mk (pw_cell_below (below_alloc (Below.refl _ wr) ob) LX1.out)
                  have HX2 := Aside0.mk (pw_cell_below (below_alloc (Below.refl _ wr) ob) LX2.out)
                  have HX3 := Aside0.mk (pw_cell_below (below_alloc (Below.refl _ wr) ob) LX3.out)
                  have HT0 := Aside0.mk (pw_cell_below (below_alloc (Below.refl _ wr) ob) LT0.out)
                  have hm0 := pw_cell_below (below_alloc (Below.refl _ wr) ob) LM0.out
                  have n0_ := Aside0.mk (HO.out.alloc ob)
                  have n1_ := Aside0.mk (below_alloc HB.out ob)
                  have n2_ := Aside0.mk (Kd.R_alloc HM.out ob)
                  clear HO HB HM LX0 LX1 LX2 LX3 LT0 LM0 bn hK0' hK1' hK2' hK3'
                  have HO := n0_
                  have HB := n1_
                  have HM := n2_
                  clear n0_ n1_ n2_
                  subst hob
                  by_cases hin : j ∈ blk ++ q'
                  · have ek := Aside0.mk (kstep_in (sh := sh) (blk := blk) (x := x) (q := q') (k := j) ((List.mem_append.1 hin).elim .inl (fun h => .inr (.inl h))))
                    have HM0 := Aside0.mk (show World.cell? _ ⟨gm, j, none⟩ = some (.bool true) from by rw [← decide_eq_true hin]; exact hm0)
                    clear hm0
                    try go_wp2
                    have n0_ := Aside0.mk (Own.drew HO.out)
                    have n1_ := Aside0.mk (below_drew1 HB.out)
                    have n2_ := Aside0.mk (Kd.R_drew HM.out)
                    refine start_ (n := 16) (S := fun w' => w'.cell? ⟨gm, j, none⟩ = some (.bool true) ∧ w'.cell? ⟨gg, t, none⟩ = some (.int .i64 (x : Int)) ∧ w'.cell? (ad.add (x * 4)) = some (.int .i64 a0) ∧ w'.cell? ⟨(ad.add (x * 4)).block, (ad.add (x * 4)).off + 1, none⟩ = some (.int .i64 a1) ∧ w'.cell? ⟨(ad.add (x * 4)).block, (ad.add (x * 4)).off + 2, none⟩ = some (.int .i64 a2) ∧ w'.cell? ⟨(ad.add (x * 4)).block, (ad.add (x * 4)).off + 3, none⟩ = some (.int .i64 a3) ∧ w'.cell? ⟨wr.heap.size, 0, none⟩ = some (.int .i64 b0) ∧ w'.cell? ⟨wr.heap.size, 1, none⟩ = some (.int .i64 b1) ∧ w'.cell? ⟨wr.heap.size, 2, none⟩ = some (.int .i64 b2) ∧ w'.cell? ⟨wr.heap.size, 3, none⟩ = some (.int .i64 b3)) (ds := []) #[false, false, false, false, false, false, false, false, false, false, false, false, false, false, false, false] (by kernel_rfl) rfl rfl ⟨HM0.out, HT0.out, HX0.out, HX1.out, HX2.out, HX3.out, HK0.out, HK1.out, HK2.out, HK3.out⟩ (fun hHeld => ?_)
                    clear HO HB HM
                    have HO := n0_
                    have HB := n1_
                    have HM := n2_
                    clear n0_ n1_ n2_
                    have mHM0 := Aside0.mk (show (wr.alloc (.cells #[.int .i64 b0, .int .i64 b1, .int .i64 b2, .int .i64 b3] 56 (0, 0))).drew.cell? _ = _ from HM0.out)
                    have mHT0 := Aside0.mk (show (wr.alloc (.cells #[.int .i64 b0, .int .i64 b1, .int .i64 b2, .int .i64 b3] 56 (0, 0))).drew.cell? _ = _ from HT0.out)
                    have mHX0 := Aside0.mk (show (wr.alloc (.cells #[.int .i64 b0, .int .i64 b1, .int .i64 b2, .int .i64 b3] 56 (0, 0))).drew.cell? _ = _ from HX0.out)
                    have mHX1 := Aside0.mk (show (wr.alloc (.cells #[.int .i64 b0, .int .i64 b1, .int .i64 b2, .int .i64 b3] 56 (0, 0))).drew.cell? _ = _ from HX1.out)
                    have mHX2 := Aside0.mk (show (wr.alloc (.cells #[.int .i64 b0, .int .i64 b1, .int .i64 b2, .int .i64 b3] 56 (0, 0))).drew.cell? _ = _ from HX2.out)
                    have mHX3 := Aside0.mk (show (wr.alloc (.cells #[.int .i64 b0, .int .i64 b1, .int .i64 b2, .int .i64 b3] 56 (0, 0))).drew.cell? _ = _ from HX3.out)
                    have mHK0 := Aside0.mk (show (wr.alloc (.cells #[.int .i64 b0, .int .i64 b1, .int .i64 b2, .int .i64 b3] 56 (0, 0))).drew.cell? _ = _ from HK0.out)
                    have mHK1 := Aside0.mk (show (wr.alloc (.cells #[.int .i64 b0, .int .i64 b1, .int .i64 b2, .int .i64 b3] 56 (0, 0))).drew.cell? _ = _ from HK1.out)
                    have mHK2 := Aside0.mk (show (wr.alloc (.cells #[.int .i64 b0, .int .i64 b1, .int .i64 b2, .int .i64 b3] 56 (0, 0))).drew.cell? _ = _ from HK2.out)
                    have mHK3 := Aside0.mk (show (wr.alloc (.cells #[.int .i64 b0, .int .i64 b1, .int .i64 b2, .int .i64 b3] 56 (0, 0))).drew.cell? _ = _ from HK3.out)
                    clear HM0 HT0 HX0 HX1 HX2 HX3 HK0 HK1 HK2 HK3
                    have HM0 := mHM0
                    have HT0 := mHT0
                    have HX0 := mHX0
                    have HX1 := mHX1
                    have HX2 := mHX2
                    have HX3 := mHX3
                    have HK0 := mHK0
                    have HK1 := mHK1
                    have HK2 := mHK2
                    have HK3 := mHK3
                    clear mHM0 mHT0 mHX0 mHX1 mHX2 mHX3 mHK0 mHK1 mHK2 mHK3
                    generalize (wr.alloc (.cells #[.int .i64 b0, .int .i64 b1, .int .i64 b2, .int .i64 b3] 56 (0, 0))).drew = wd at HO HB HM HM0 HT0 HX0 HX1 HX2 HX3 HK0 HK1 HK2 HK3 hHeld ⊢
                    refine pure_ (i := 0) (N := some 48) (v := ?_) (a' := ?_) #[true, false, false, false, false, false, false, false, false, false, false, false, false, false, false, false] rfl rfl (by kernel_rfl) (fun _ _ _ h => h) (Or.inl ⟨by rfl, ?_⟩) ?_ ?_
                    rotate_left
                    · intro w'
                      go_simp
                      with_reducible rfl
                    rotate_left
                    · simp only [Act.put, List.setIfInBounds_toArray, List.set_cons_zero, List.set_cons_succ, i64_w, i32_w]
                      rfl
                    refine pure_ (i := 1) (N := some 49) (v := ?_) (a' := ?_) #[true, true, false, false, false, false, false, false, false, false, false, false, false, false, false, false] rfl rfl (by kernel_rfl) (fun _ _ _ h => h) (Or.inl ⟨by rfl, ?_⟩) ?_ ?_
                    rotate_left
                    · intro w'
                      go_simp
                      with_reducible rfl
                    rotate_left
                    · simp only [Act.put, List.setIfInBounds_toArray, List.set_cons_zero, List.set_cons_succ, i64_w, i32_w]
                      rfl
                    refine pure_ (i := 2) (N := some 50) (v := ?_) (a' := ?_) #[true, true, true, false, false, false, false, false, false, false, false, false, false, false, false, false] rfl rfl (by kernel_rfl) (fun _ _ _ h => h) (Or.inl ⟨by rfl, ?_⟩) ?_ ?_
                    rotate_left
                    · intro w'
                      go_simp
                      with_reducible rfl
                    rotate_left
                    · simp only [Act.put, List.setIfInBounds_toArray, List.set_cons_zero, List.set_cons_succ, i64_w, i32_w]
                      rfl
                    refine take_ (i := 3) (N := some 51) (v := ?_) (a' := ?_) #[true, true, true, true, false, false, false, false, false, false, false, false, false, false, false, false] rfl rfl (by kernel_rfl) (fun _ _ _ h => h) (Or.inl ⟨by rfl, ?_⟩) hHeld ?_ ?_
                    rotate_left
                    · rintro w' ⟨s0_, s1_, s2_, s3_, s4_, s5_, s6_, s7_, s8_, s9_⟩
                      go_simp
                      with_reducible rfl
                    rotate_left
                    · simp only [Act.put, List.setIfInBounds_toArray, List.set_cons_zero, List.set_cons_succ, i64_w, i32_w]
                      rfl
                    refine pure_ (i := 4) (N := some 52) (v := ?_) (a' := ?_) #[true, true, true, true, true, false, false, false, false, false, false, false, false, false, false, false] rfl rfl (by kernel_rfl) (fun _ _ _ h => h) (Or.inl ⟨by rfl, ?_⟩) ?_ ?_
                    rotate_left
                    · intro w'
                      go_simp
                      with_reducible rfl
                    rotate_left
                    · simp only [Act.put, List.setIfInBounds_toArray, List.set_cons_zero, List.set_cons_succ, i64_w, i32_w]
                      rfl
                    refine pure_ (i := 5) (N := some 53) (v := ?_) (a' := ?_) #[true, true, true, true, true, true, false, false, false, false, false, false, false, false, false, false] rfl rfl (by kernel_rfl) (fun _ _ _ h => h) (Or.inl ⟨by rfl, ?_⟩) ?_ ?_
                    rotate_left
                    · intro w'
                      go_simp
                      with_reducible rfl
                    rotate_left
                    · simp only [Act.put, List.setIfInBounds_toArray, List.set_cons_zero, List.set_cons_succ, i64_w, i32_w]
                      rfl
                    refine pure_ (i := 6) (N := some 54) (v := undef) (a' := ?_) #[true, true, true, true, true, true, true, false, false, false, false, false, false, false, false, false] rfl rfl (by kernel_rfl) (fun _ _ _ h => h) (Or.inr ⟨by rfl, rfl⟩) (by simp only [Act.put, List.setIfInBounds_toArray, List.set_cons_zero, List.set_cons_succ, i64_w, i32_w]; rfl) ?_
                    refine pure_ (i := 7) (N := some 55) (v := undef) (a' := ?_) #[true, true, true, true, true, true, true, true, false, false, false, false, false, false, false, false] rfl rfl (by kernel_rfl) (fun _ _ _ h => h) (Or.inr ⟨by rfl, rfl⟩) (by simp only [Act.put, List.setIfInBounds_toArray, List.set_cons_zero, List.set_cons_succ, i64_w, i32_w]; rfl) ?_
                    refine pure_ (i := 8) (N := some 56) (v := undef) (a' := ?_) #[true, true, true, true, true, true, true, true, true, false, false, false, false, false, false, false] rfl rfl (by kernel_rfl) (fun _ _ _ h => h) (Or.inr ⟨by rfl, rfl⟩) (by simp only [Act.put, List.setIfInBounds_toArray, List.set_cons_zero, List.set_cons_succ, i64_w, i32_w]; rfl) ?_
                    refine pure_ (i := 9) (N := some 57) (v := undef) (a' := ?_) #[true, true, true, true, true, true, true, true, true, true, false, false, false, false, false, false] rfl rfl (by kernel_rfl) (fun _ _ _ h => h) (Or.inr ⟨by rfl, rfl⟩) (by simp only [Act.put, List.setIfInBounds_toArray, List.set_cons_zero, List.set_cons_succ, i64_w, i32_w]; rfl) ?_
                    refine pure_ (i := 10) (N := some 58) (v := undef) (a' := ?_) #[true, true, true, true, true, true, true, true, true, true, true, false, false, false, false, false] rfl rfl (by kernel_rfl) (fun _ _ _ h => h) (Or.inr ⟨by rfl, rfl⟩) (by simp only [Act.put, List.setIfInBounds_toArray, List.set_cons_zero, List.set_cons_succ, i64_w, i32_w]; rfl) ?_
                    refine pure_ (i := 11) (N := some 59) (v := undef) (a' := ?_) #[true, true, true, true, true, true, true, true, true, true, true, true, false, false, false, false] rfl rfl (by kernel_rfl) (fun _ _ _ h => h) (Or.inr ⟨by rfl, rfl⟩) (by simp only [Act.put, List.setIfInBounds_toArray, List.set_cons_zero, List.set_cons_succ, i64_w, i32_w]; rfl) ?_
                    refine pure_ (i := 12) (N := some 60) (v := undef) (a' := ?_) #[true, true, true, true, true, true, true, true, true, true, true, true, true, false, false, false] rfl rfl (by kernel_rfl) (fun _ _ _ h => h) (Or.inr ⟨by rfl, rfl⟩) (by simp only [Act.put, List.setIfInBounds_toArray, List.set_cons_zero, List.set_cons_succ, i64_w, i32_w]; rfl) ?_
                    refine pure_ (i := 13) (N := some 61) (v := undef) (a' := ?_) #[true, true, true, true, true, true, true, true, true, true, true, true, true, true, false, false] rfl rfl (by kernel_rfl) (fun _ _ _ h => h) (Or.inr ⟨by rfl, rfl⟩) (by simp only [Act.put, List.setIfInBounds_toArray, List.set_cons_zero, List.set_cons_succ, i64_w, i32_w]; rfl) ?_
                    refine pure_ (i := 14) (N := some 62) (v := undef) (a' := ?_) #[true, true, true, true, true, true, true, true, true, true, true, true, true, true, true, false] rfl rfl (by kernel_rfl) (fun _ _ _ h => h) (Or.inr ⟨by rfl, rfl⟩) (by simp only [Act.put, List.setIfInBounds_toArray, List.set_cons_zero, List.set_cons_succ, i64_w, i32_w]; rfl) ?_
                    refine pure_ (i := 15) (N := some 63) (v := ?_) (a' := ?_) #[true, true, true, true, true, true, true, true, true, true, true, true, true, true, true, true] rfl rfl (by kernel_rfl) (fun _ _ _ h => h) (Or.inl ⟨by rfl, ?_⟩) ?_ ?_
                    rotate_left
                    · intro w'
                      go_simp
                      with_reducible rfl
                    rotate_left
                    · simp only [Act.put, List.setIfInBounds_toArray, List.set_cons_zero, List.set_cons_succ, i64_w, i32_w]
                      rfl
                    refine done_ (by kernel_rfl) ?_
                    go_wp2
                    go_roundg (l.length - (j + 1))
                    case measure => omega
                    case rel => exact ⟨j + 1, q', by omega, by omega, by go_num, ⟨HQ.out⟩, ⟨HT.out⟩, ⟨by have h_ := HF.out; rw [kfrom_go hj, ek.out] at h_; exact h_⟩, ⟨by repeat (first | (with_reducible first | exact HO.out | apply Own.alloc | apply Own.drewN | apply Own.drew) | exact HO.out)⟩, ⟨by ((with_reducible repeat (first | apply Kd.R_alloc | apply Kd.R_drewN | apply Kd.R_drew)); exact HM.out)⟩, ⟨by repeat (first | (with_reducible first | exact HB.out | apply below_alloc | apply pw_below_drewN | apply below_drew1) | exact HB.out)⟩⟩
                  · cases hs : sh x j with
                    | true =>
                      have ek := Aside0.mk (kstep_out (sh := sh) (blk := blk) (x := x) (k := j) (q := q') (fun h => hin (List.mem_append.2 (.inl h))) (fun h => hin (List.mem_append.2 (.inr h))) hs)
                      rw [hs] at HV
                      have HM0 := Aside0.mk (show World.cell? _ ⟨gm, j, none⟩ = some (.bool false) from by rw [← decide_eq_false hin]; exact hm0)
                      clear hm0
                      try go_wp2
                      have n0_ := Aside0.mk (Own.drew HO.out)
                      have n1_ := Aside0.mk (below_drew1 HB.out)
                      have n2_ := Aside0.mk (Kd.R_drew HM.out)
                      refine start_ (n := 16) (S := fun w' => w'.cell? ⟨gm, j, none⟩ = some (.bool false) ∧ w'.cell? ⟨gg, t, none⟩ = some (.int .i64 (x : Int)) ∧ w'.cell? (ad.add (x * 4)) = some (.int .i64 a0) ∧ w'.cell? ⟨(ad.add (x * 4)).block, (ad.add (x * 4)).off + 1, none⟩ = some (.int .i64 a1) ∧ w'.cell? ⟨(ad.add (x * 4)).block, (ad.add (x * 4)).off + 2, none⟩ = some (.int .i64 a2) ∧ w'.cell? ⟨(ad.add (x * 4)).block, (ad.add (x * 4)).off + 3, none⟩ = some (.int .i64 a3) ∧ w'.cell? ⟨wr.heap.size, 0, none⟩ = some (.int .i64 b0) ∧ w'.cell? ⟨wr.heap.size, 1, none⟩ = some (.int .i64 b1) ∧ w'.cell? ⟨wr.heap.size, 2, none⟩ = some (.int .i64 b2) ∧ w'.cell? ⟨wr.heap.size, 3, none⟩ = some (.int .i64 b3)) (ds := []) #[false, false, false, false, false, false, false, false, false, false, false, false, false, false, false, false] (by kernel_rfl) rfl rfl ⟨HM0.out, HT0.out, HX0.out, HX1.out, HX2.out, HX3.out, HK0.out, HK1.out, HK2.out, HK3.out⟩ (fun hHeld => ?_)
                      clear HO HB HM
                      have HO := n0_
                      have HB := n1_
                      have HM := n2_
                      clear n0_ n1_ n2_
                      have mHM0 := Aside0.mk (show (wr.alloc (.cells #[.int .i64 b0, .int .i64 b1, .int .i64 b2, .int .i64 b3] 56 (0, 0))).drew.cell? _ = _ from HM0.out)
                      have mHT0 := Aside0.mk (show (wr.alloc (.cells #[.int .i64 b0, .int .i64 b1, .int .i64 b2, .int .i64 b3] 56 (0, 0))).drew.cell? _ = _ from HT0.out)
                      have mHX0 := Aside0.mk (show (wr.alloc (.cells #[.int .i64 b0, .int .i64 b1, .int .i64 b2, .int .i64 b3] 56 (0, 0))).drew.cell? _ = _ from HX0.out)
                      have mHX1 := Aside0.mk (show (wr.alloc (.cells #[.int .i64 b0, .int .i64 b1, .int .i64 b2, .int .i64 b3] 56 (0, 0))).drew.cell? _ = _ from HX1.out)
                      have mHX2 := Aside0.mk (show (wr.alloc (.cells #[.int .i64 b0, .int .i64 b1, .int .i64 b2, .int .i64 b3] 56 (0, 0))).drew.cell? _ = _ from HX2.out)
                      have mHX3 := Aside0.mk (show (wr.alloc (.cells #[.int .i64 b0, .int .i64 b1, .int .i64 b2, .int .i64 b3] 56 (0, 0))).drew.cell? _ = _ from HX3.out)
                      have mHK0 := Aside0.mk (show (wr.alloc (.cells #[.int .i64 b0, .int .i64 b1, .int .i64 b2, .int .i64 b3] 56 (0, 0))).drew.cell? _ = _ from HK0.out)
                      have mHK1 := Aside0.mk (show (wr.alloc (.cells #[.int .i64 b0, .int .i64 b1, .int .i64 b2, .int .i64 b3] 56 (0, 0))).drew.cell? _ = _ from HK1.out)
                      have mHK2 := Aside0.mk (show (wr.alloc (.cells #[.int .i64 b0, .int .i64 b1, .int .i64 b2, .int .i64 b3] 56 (0, 0))).drew.cell? _ = _ from HK2.out)
                      have mHK3 := Aside0.mk (show (wr.alloc (.cells #[.int .i64 b0, .int .i64 b1, .int .i64 b2, .int .i64 b3] 56 (0, 0))).drew.cell? _ = _ from HK3.out)
                      clear HM0 HT0 HX0 HX1 HX2 HX3 HK0 HK1 HK2 HK3
                      have HM0 := mHM0
                      have HT0 := mHT0
                      have HX0 := mHX0
                      have HX1 := mHX1
                      have HX2 := mHX2
                      have HX3 := mHX3
                      have HK0 := mHK0
                      have HK1 := mHK1
                      have HK2 := mHK2
                      have HK3 := mHK3
                      clear mHM0 mHT0 mHX0 mHX1 mHX2 mHX3 mHK0 mHK1 mHK2 mHK3
                      generalize (wr.alloc (.cells #[.int .i64 b0, .int .i64 b1, .int .i64 b2, .int .i64 b3] 56 (0, 0))).drew = wd at HO HB HM HM0 HT0 HX0 HX1 HX2 HX3 HK0 HK1 HK2 HK3 hHeld ⊢
                      refine pure_ (i := 0) (N := some 48) (v := ?_) (a' := ?_) #[true, false, false, false, false, false, false, false, false, false, false, false, false, false, false, false] rfl rfl (by kernel_rfl) (fun _ _ _ h => h) (Or.inl ⟨by rfl, ?_⟩) ?_ ?_
                      rotate_left
                      · intro w'
                        go_simp
                        with_reducible rfl
                      rotate_left
                      · simp only [Act.put, List.setIfInBounds_toArray, List.set_cons_zero, List.set_cons_succ, i64_w, i32_w]
                        rfl
                      refine pure_ (i := 1) (N := some 49) (v := ?_) (a' := ?_) #[true, true, false, false, false, false, false, false, false, false, false, false, false, false, false, false] rfl rfl (by kernel_rfl) (fun _ _ _ h => h) (Or.inl ⟨by rfl, ?_⟩) ?_ ?_
                      rotate_left
                      · intro w'
                        go_simp
                        with_reducible rfl
                      rotate_left
                      · simp only [Act.put, List.setIfInBounds_toArray, List.set_cons_zero, List.set_cons_succ, i64_w, i32_w]
                        rfl
                      refine pure_ (i := 2) (N := some 50) (v := ?_) (a' := ?_) #[true, true, true, false, false, false, false, false, false, false, false, false, false, false, false, false] rfl rfl (by kernel_rfl) (fun _ _ _ h => h) (Or.inl ⟨by rfl, ?_⟩) ?_ ?_
                      rotate_left
                      · intro w'
                        go_simp
                        with_reducible rfl
                      rotate_left
                      · simp only [Act.put, List.setIfInBounds_toArray, List.set_cons_zero, List.set_cons_succ, i64_w, i32_w]
                        rfl
                      refine take_ (i := 3) (N := some 51) (v := ?_) (a' := ?_) #[true, true, true, true, false, false, false, false, false, false, false, false, false, false, false, false] rfl rfl (by kernel_rfl) (fun _ _ _ h => h) (Or.inl ⟨by rfl, ?_⟩) hHeld ?_ ?_
                      rotate_left
                      · rintro w' ⟨s0_, s1_, s2_, s3_, s4_, s5_, s6_, s7_, s8_, s9_⟩
                        go_simp
                        with_reducible rfl
                      rotate_left
                      · simp only [Act.put, List.setIfInBounds_toArray, List.set_cons_zero, List.set_cons_succ, i64_w, i32_w]
                        rfl
                      refine pure_ (i := 4) (N := some 52) (v := ?_) (a' := ?_) #[true, true, true, true, true, false, false, false, false, false, false, false, false, false, false, false] rfl rfl (by kernel_rfl) (fun _ _ _ h => h) (Or.inl ⟨by rfl, ?_⟩) ?_ ?_
                      rotate_left
                      · intro w'
                        go_simp
                        with_reducible rfl
                      rotate_left
                      · simp only [Act.put, List.setIfInBounds_toArray, List.set_cons_zero, List.set_cons_succ, i64_w, i32_w]
                        rfl
                      refine pure_ (i := 5) (N := some 53) (v := ?_) (a' := ?_) #[true, true, true, true, true, true, false, false, false, false, false, false, false, false, false, false] rfl rfl (by kernel_rfl) (fun _ _ _ h => h) (Or.inl ⟨by rfl, ?_⟩) ?_ ?_
                      rotate_left
                      · intro w'
                        go_simp
                        with_reducible rfl
                      rotate_left
                      · simp only [Act.put, List.setIfInBounds_toArray, List.set_cons_zero, List.set_cons_succ, i64_w, i32_w]
                        rfl
                      refine pure_ (i := 6) (N := some 54) (v := ?_) (a' := ?_) #[true, true, true, true, true, true, true, false, false, false, false, false, false, false, false, false] rfl rfl (by kernel_rfl) (fun _ _ _ h => h) (Or.inl ⟨by rfl, ?_⟩) ?_ ?_
                      rotate_left
                      · intro w'
                        go_simp
                        with_reducible rfl
                      rotate_left
                      · simp only [Act.put, List.setIfInBounds_toArray, List.set_cons_zero, List.set_cons_succ, i64_w, i32_w]
                        rfl
                      refine pure_ (i := 7) (N := some 55) (v := ?_) (a' := ?_) #[true, true, true, true, true, true, true, true, false, false, false, false, false, false, false, false] rfl rfl (by kernel_rfl) (fun _ _ _ h => h) (Or.inl ⟨by rfl, ?_⟩) ?_ ?_
                      rotate_left
                      · intro w'
                        go_simp
                        with_reducible rfl
                      rotate_left
                      · simp only [Act.put, List.setIfInBounds_toArray, List.set_cons_zero, List.set_cons_succ, i64_w, i32_w]
                        rfl
                      refine pure_ (i := 8) (N := some 56) (v := ?_) (a' := ?_) #[true, true, true, true, true, true, true, true, true, false, false, false, false, false, false, false] rfl rfl (by kernel_rfl) (fun _ _ _ h => h) (Or.inl ⟨by rfl, ?_⟩) ?_ ?_
                      rotate_left
                      · intro w'
                        go_simp
                        with_reducible rfl
                      rotate_left
                      · simp only [Act.put, List.setIfInBounds_toArray, List.set_cons_zero, List.set_cons_succ, i64_w, i32_w]
                        rfl
                      refine pure_ (i := 9) (N := some 57) (v := ?_) (a' := ?_) #[true, true, true, true, true, true, true, true, true, true, false, false, false, false, false, false] rfl rfl (by kernel_rfl) (fun _ _ _ h => h) (Or.inl ⟨by rfl, ?_⟩) ?_ ?_
                      rotate_left
                      · intro w'
                        go_simp
                        with_reducible rfl
                      rotate_left
                      · simp only [Act.put, List.setIfInBounds_toArray, List.set_cons_zero, List.set_cons_succ, i64_w, i32_w]
                        rfl
                      refine take_ (i := 10) (N := some 58) (v := ?_) (a' := ?_) #[true, true, true, true, true, true, true, true, true, true, true, false, false, false, false, false] rfl rfl (by kernel_rfl) (fun _ _ _ h => h) (Or.inl ⟨by rfl, ?_⟩) hHeld ?_ ?_
                      rotate_left
                      · rintro w' ⟨s0_, s1_, s2_, s3_, s4_, s5_, s6_, s7_, s8_, s9_⟩
                        go_simp
                        with_reducible rfl
                      rotate_left
                      · simp only [Act.put, List.setIfInBounds_toArray, List.set_cons_zero, List.set_cons_succ, i64_w, i32_w]
                        rfl
                      refine pure_ (i := 11) (N := some 59) (v := ?_) (a' := ?_) #[true, true, true, true, true, true, true, true, true, true, true, true, false, false, false, false] rfl rfl (by kernel_rfl) (fun _ _ _ h => h) (Or.inl ⟨by rfl, ?_⟩) ?_ ?_
                      rotate_left
                      · intro w'
                        go_simp
                        with_reducible rfl
                      rotate_left
                      · simp only [Act.put, List.setIfInBounds_toArray, List.set_cons_zero, List.set_cons_succ, i64_w, i32_w]
                        rfl
                      refine take_ (i := 12) (N := some 60) (v := ?_) (a' := ?_) #[true, true, true, true, true, true, true, true, true, true, true, true, true, false, false, false] rfl rfl (by kernel_rfl) (fun _ _ _ h => h) (Or.inl ⟨by rfl, ?_⟩) hHeld ?_ ?_
                      rotate_left
                      · rintro w' ⟨s0_, s1_, s2_, s3_, s4_, s5_, s6_, s7_, s8_, s9_⟩
                        go_simp
                        with_reducible rfl
                      rotate_left
                      · simp only [Act.put, List.setIfInBounds_toArray, List.set_cons_zero, List.set_cons_succ, i64_w, i32_w]
                        rfl
                      refine take_ (i := 13) (N := some 61) (v := ?_) (a' := ?_) #[true, true, true, true, true, true, true, true, true, true, true, true, true, true, false, false] rfl rfl (by kernel_rfl) (fun _ _ _ h => h) (Or.inl ⟨by rfl, ?_⟩) hHeld ?_ ?_
                      rotate_left
                      · rintro w' ⟨s0_, s1_, s2_, s3_, s4_, s5_, s6_, s7_, s8_, s9_⟩
                        go_simp
                        with_reducible rfl
                      rotate_left
                      · simp only [Act.put, List.setIfInBounds_toArray, List.set_cons_zero, List.set_cons_succ, i64_w, i32_w]
                        rfl
                      refine one_ (i := 14) (N := some 62) #[true, true, true, true, true, true, true, true, true, true, true, true, true, true, true, false] rfl rfl (by kernel_rfl) (by decide) (fun K hK => ?_)
                      refine goes_ Try.func36 (by kernel_rfl) rfl #[.agg #[.int .i64 a0, .int .i64 a1, .int .i64 a2, .int .i64 a3], .agg #[.int .i64 b0, .int .i64 b1, .int .i64 b2, .int .i64 b3]] (by rfl) rfl rfl (by (try simp only [List.map_toArray, List.map_cons, List.map_nil]); first | done | rfl) ?_
                      with_reducible refine (impl_areShared.calls _ _ _ _ _ _ _ _ true _ HV.out).mono ?_
                      rintro e w3 ⟨rfl, hb⟩
                      refine ⟨_, rfl, ?_⟩
                      have n0_ := Aside0.mk (HO.out.below hb)
                      have n1_ := Aside0.mk (below_step HB.out hb)
                      have n2_ := Aside0.mk (Kd.R_below HM.out hb)
                      have mHM0 := Aside0.mk (pw_cell_below hb HM0.out)
                      have mHT0 := Aside0.mk (pw_cell_below hb HT0.out)
                      have mHX0 := Aside0.mk (pw_cell_below hb HX0.out)
                      have mHX1 := Aside0.mk (pw_cell_below hb HX1.out)
                      have mHX2 := Aside0.mk (pw_cell_below hb HX2.out)
                      have mHX3 := Aside0.mk (pw_cell_below hb HX3.out)
                      have mHK0 := Aside0.mk (pw_cell_below hb HK0.out)
                      have mHK1 := Aside0.mk (pw_cell_below hb HK1.out)
                      have mHK2 := Aside0.mk (pw_cell_below hb HK2.out)
                      have mHK3 := Aside0.mk (pw_cell_below hb HK3.out)
                      clear HM0 HT0 HX0 HX1 HX2 HX3 HK0 HK1 HK2 HK3
                      have HM0 := mHM0
                      have HT0 := mHT0
                      have HX0 := mHX0
                      have HX1 := mHX1
                      have HX2 := mHX2
                      have HX3 := mHX3
                      have HK0 := mHK0
                      have HK1 := mHK1
                      have HK2 := mHK2
                      have HK3 := mHK3
                      clear mHM0 mHT0 mHX0 mHX1 mHX2 mHX3 mHK0 mHK1 mHK2 mHK3
                      clear HO HB HM hb
                      have HO := n0_
                      have HB := n1_
                      have HM := n2_
                      clear n0_ n1_ n2_
                      refine hK.out _ _ ⟨HM0.out, HT0.out, HX0.out, HX1.out, HX2.out, HX3.out, HK0.out, HK1.out, HK2.out, HK3.out⟩ (fun hHeld => ?_)
                      clear hK K
                      refine norm_ (a' := ?_) ?_ ?_
                      rotate_left
                      · show Act.put _ (some 62) _ = _
                        simp only [Act.put, List.setIfInBounds_toArray, List.set_cons_zero, List.set_cons_succ, i64_w, i32_w]
                        rfl
                      refine pure_ (i := 15) (N := some 63) (v := ?_) (a' := ?_) #[true, true, true, true, true, true, true, true, true, true, true, true, true, true, true, true] rfl rfl (by kernel_rfl) (fun _ _ _ h => h) (Or.inl ⟨by rfl, ?_⟩) ?_ ?_
                      rotate_left
                      · intro w'
                        go_simp
                        with_reducible rfl
                      rotate_left
                      · simp only [Act.put, List.setIfInBounds_toArray, List.set_cons_zero, List.set_cons_succ, i64_w, i32_w]
                        rfl
                      refine done_ (by kernel_rfl) ?_
                      obtain ⟨hge, hgl, cq, hcq⟩ := mt_block HM.out
                      have HPM := Aside0.mk (mt_set HM.out hj)
                      have GEQ := Aside0.mk hge
                      have HST := Aside0.mk (HO.out.store hcq (by decide) (by decide) j (.bool true))
                      obtain ⟨hm9, hf9⟩ := mt_cell HM.out hj
                      clear hge hgl hcq
                      go_wp2_with (first | ((with_reducible refine gate_store (t := 4) (p := 66) rfl ?_); refine store_event (t := 4) (p := 66) (v := ?vo_) (w1 := (w3.setCell ⟨gm, j, none⟩ (.bool true))) ?hg ?ho ?hn ?hr ?_; (case ho => rfl); (case hg => rfl); (case hn => rfl); (case hr => first | (go_simp; done) | (go_simp; rfl)); intro w8 hw; have n0_ := Aside0.mk (show Own w8 w.heap.size u6 outs [(.slice (some ⟨gg, 0, none⟩) (iz q').length cg, iz q')] from by rw [hw]; exact HST.out); have n1_ := Aside0.mk (show Below w.heap.size w w8 from by rw [hw]; exact below_set HB.out GEQ.out); have n2_ := Aside0.mk (show Kd.R Kd.bool 4 w8 w.heap.size (fun _ => True) (.slice (some ⟨gm, 0, none⟩) l.length cm) (mtOf l.length ((blk ++ q') ++ [j])) from by rw [hw]; exact HPM.out); clear HO HB HM HPM HST hm9 hf9; have HO := n0_; have HB := n1_; have HM := n2_; clear n0_ n1_ n2_ hw; obtain ⟨okG, hfG, hRG, hAG⟩ := HO.out.app 0 rfl; have HfG := Aside0.mk hfG; have HRG := Aside0.mk hRG; have HAG := Aside0.mk hAG; clear hfG hRG hAG) | ((with_reducible refine gate_builtin (b := .append) (xs := #[.tmp 67, .tmp 69]) rfl ?_); at_builtin; refine Kd.R_append (Kd.int .i64) (w0 := w) w.heap.size rfl (.tmp 67) (.tmp 69) 51 3 (.int .i64 0) 8 rfl Try.underlying51 info3 rfl (by decide) (by omega) (.slice (some ⟨gg, 0, none⟩) (iz q').length cg) (iz q') (j : Int) [.int .i64 (j : Int)] okG (fun _ => False) rfl rfl ?aP (fun _ hk => hk.elim) ?aF ?aO ?aB ?aS ?aL ?_; (case aP => exact rfl); (case aF => exact fun k_ hk_ => HfG.out k_ hk_); (case aO => exact HRG.out); (case aB => repeat (first | (with_reducible first | exact HB.out | apply below_alloc | apply pw_below_drewN | apply below_drew1) | exact HB.out)); (case aS => exact (below_size (by repeat (first | (with_reducible first | exact HB.out | apply below_alloc | apply pw_below_drewN | apply below_drew1) | exact HB.out)))); (case aL => have h1_ := iz_len q'; have h2_ := HQ.out.len; have h3_ := HL.out; omega); intro v9' w9 ho hb hg hat; have n0_ := Aside0.mk (show Own w9 w.heap.size u6 outs [(v9', iz q' ++ [(j : Int)])] from HAG.out v9' w9 _ ho hg); have n1_ := Aside0.mk hb; have n2_ := Aside0.mk (Kd.R_over HM.out HRG.out (fun q hq => (mt_typed q hq).1) hg); clear HO HB HM HfG HRG HAG; have HO := n0_; have HB := n1_; have HM := n2_; clear n0_ n1_ n2_ ho hb hg hat))
                      go_roundg (l.length - (j + 1))
                      case measure => omega
                      case rel => exact ⟨j + 1, q' ++ [j], by omega, by omega, by go_num, ⟨by have h_ := HQ.out.step (sh := sh) x hj; rw [ek.out] at h_; exact h_⟩, ⟨by rw [List.getElem?_append_left (by obtain ⟨h_, _⟩ := List.getElem?_eq_some_iff.1 HT.out; exact h_)]; exact HT.out⟩, ⟨by have h_ := HF.out; rw [kfrom_go hj, ek.out] at h_; exact h_⟩, ⟨by rw [iz_snoc]; repeat (first | (with_reducible first | exact HO.out | apply Own.alloc | apply Own.drewN | apply Own.drew) | exact HO.out)⟩, ⟨by rw [← List.append_assoc]; ((with_reducible repeat (first | apply Kd.R_alloc | apply Kd.R_drewN | apply Kd.R_drew)); exact HM.out)⟩, ⟨by repeat (first | (with_reducible first | exact HB.out | apply below_alloc | apply pw_below_drewN | apply below_drew1) | exact HB.out)⟩⟩
                    | false =>
                      have ek := Aside0.mk (kstep_in (sh := sh) (blk := blk) (x := x) (q := q') (k := j) (.inr (.inr hs)))
                      rw [hs] at HV
                      have HM0 := Aside0.mk (show World.cell? _ ⟨gm, j, none⟩ = some (.bool false) from by rw [← decide_eq_false hin]; exact hm0)
                      clear hm0
                      try go_wp2
                      have n0_ := Aside0.mk (Own.drew HO.out)
                      have n1_ := Aside0.mk (below_drew1 HB.out)
                      have n2_ := Aside0.mk (Kd.R_drew HM.out)
                      refine start_ (n := 16) (S := fun w' => w'.cell? ⟨gm, j, none⟩ = some (.bool false) ∧ w'.cell? ⟨gg, t, none⟩ = some (.int .i64 (x : Int)) ∧ w'.cell? (ad.add (x * 4)) = some (.int .i64 a0) ∧ w'.cell? ⟨(ad.add (x * 4)).block, (ad.add (x * 4)).off + 1, none⟩ = some (.int .i64 a1) ∧ w'.cell? ⟨(ad.add (x * 4)).block, (ad.add (x * 4)).off + 2, none⟩ = some (.int .i64 a2) ∧ w'.cell? ⟨(ad.add (x * 4)).block, (ad.add (x * 4)).off + 3, none⟩ = some (.int .i64 a3) ∧ w'.cell? ⟨wr.heap.size, 0, none⟩ = some (.int .i64 b0) ∧ w'.cell? ⟨wr.heap.size, 1, none⟩ = some (.int .i64 b1) ∧ w'.cell? ⟨wr.heap.size, 2, none⟩ = some (.int .i64 b2) ∧ w'.cell? ⟨wr.heap.size, 3, none⟩ = some (.int .i64 b3)) (ds := []) #[false, false, false, false, false, false, false, false, false, false, false, false, false, false, false, false] (by kernel_rfl) rfl rfl ⟨HM0.out, HT0.out, HX0.out, HX1.out, HX2.out, HX3.out, HK0.out, HK1.out, HK2.out, HK3.out⟩ (fun hHeld => ?_)
                      clear HO HB HM
                      have HO := n0_
                      have HB := n1_
                      have HM := n2_
                      clear n0_ n1_ n2_
                      have mHM0 := Aside0.mk (show (wr.alloc (.cells #[.int .i64 b0, .int .i64 b1, .int .i64 b2, .int .i64 b3] 56 (0, 0))).drew.cell? _ = _ from HM0.out)
                      have mHT0 := Aside0.mk (show (wr.alloc (.cells #[.int .i64 b0, .int .i64 b1, .int .i64 b2, .int .i64 b3] 56 (0, 0))).drew.cell? _ = _ from HT0.out)
                      have mHX0 := Aside0.mk (show (wr.alloc (.cells #[.int .i64 b0, .int .i64 b1, .int .i64 b2, .int .i64 b3] 56 (0, 0))).drew.cell? _ = _ from HX0.out)
                      have mHX1 := Aside0.mk (show (wr.alloc (.cells #[.int .i64 b0, .int .i64 b1, .int .i64 b2, .int .i64 b3] 56 (0, 0))).drew.cell? _ = _ from HX1.out)
                      have mHX2 := Aside0.mk (show (wr.alloc (.cells #[.int .i64 b0, .int .i64 b1, .int .i64 b2, .int .i64 b3] 56 (0, 0))).drew.cell? _ = _ from HX2.out)
                      have mHX3 := Aside0.mk (show (wr.alloc (.cells #[.int .i64 b0, .int .i64 b1, .int .i64 b2, .int .i64 b3] 56 (0, 0))).drew.cell? _ = _ from HX3.out)
                      have mHK0 := Aside0.mk (show (wr.alloc (.cells #[.int .i64 b0, .int .i64 b1, .int .i64 b2, .int .i64 b3] 56 (0, 0))).drew.cell? _ = _ from HK0.out)
                      have mHK1 := Aside0.mk (show (wr.alloc (.cells #[.int .i64 b0, .int .i64 b1, .int .i64 b2, .int .i64 b3] 56 (0, 0))).drew.cell? _ = _ from HK1.out)
                      have mHK2 := Aside0.mk (show (wr.alloc (.cells #[.int .i64 b0, .int .i64 b1, .int .i64 b2, .int .i64 b3] 56 (0, 0))).drew.cell? _ = _ from HK2.out)
                      have mHK3 := Aside0.mk (show (wr.alloc (.cells #[.int .i64 b0, .int .i64 b1, .int .i64 b2, .int .i64 b3] 56 (0, 0))).drew.cell? _ = _ from HK3.out)
                      clear HM0 HT0 HX0 HX1 HX2 HX3 HK0 HK1 HK2 HK3
                      have HM0 := mHM0
                      have HT0 := mHT0
                      have HX0 := mHX0
                      have HX1 := mHX1
                      have HX2 := mHX2
                      have HX3 := mHX3
                      have HK0 := mHK0
                      have HK1 := mHK1
                      have HK2 := mHK2
                      have HK3 := mHK3
                      clear mHM0 mHT0 mHX0 mHX1 mHX2 mHX3 mHK0 mHK1 mHK2 mHK3
                      generalize (wr.alloc (.cells #[.int .i64 b0, .int .i64 b1, .int .i64 b2, .int .i64 b3] 56 (0, 0))).drew = wd at HO HB HM HM0 HT0 HX0 HX1 HX2 HX3 HK0 HK1 HK2 HK3 hHeld ⊢
                      refine pure_ (i := 0) (N := some 48) (v := ?_) (a' := ?_) #[true, false, false, false, false, false, false, false, false, false, false, false, false, false, false, false] rfl rfl (by kernel_rfl) (fun _ _ _ h => h) (Or.inl ⟨by rfl, ?_⟩) ?_ ?_
                      rotate_left
                      · intro w'
                        go_simp
                        with_reducible rfl
                      rotate_left
                      · simp only [Act.put, List.setIfInBounds_toArray, List.set_cons_zero, List.set_cons_succ, i64_w, i32_w]
                        rfl
                      refine pure_ (i := 1) (N := some 49) (v := ?_) (a' := ?_) #[true, true, false, false, false, false, false, false, false, false, false, false, false, false, false, false] rfl rfl (by kernel_rfl) (fun _ _ _ h => h) (Or.inl ⟨by rfl, ?_⟩) ?_ ?_
                      rotate_left
                      · intro w'
                        go_simp
                        with_reducible rfl
                      rotate_left
                      · simp only [Act.put, List.setIfInBounds_toArray, List.set_cons_zero, List.set_cons_succ, i64_w, i32_w]
                        rfl
                      refine pure_ (i := 2) (N := some 50) (v := ?_) (a' := ?_) #[true, true, true, false, false, false, false, false, false, false, false, false, false, false, false, false] rfl rfl (by kernel_rfl) (fun _ _ _ h => h) (Or.inl ⟨by rfl, ?_⟩) ?_ ?_
                      rotate_left
                      · intro w'
                        go_simp
                        with_reducible rfl
                      rotate_left
                      · simp only [Act.put, List.setIfInBounds_toArray, List.set_cons_zero, List.set_cons_succ, i64_w, i32_w]
                        rfl
                      refine take_ (i := 3) (N := some 51) (v := ?_) (a' := ?_) #[true, true, true, true, false, false, false, false, false, false, false, false, false, false, false, false] rfl rfl (by kernel_rfl) (fun _ _ _ h => h) (Or.inl ⟨by rfl, ?_⟩) hHeld ?_ ?_
                      rotate_left
                      · rintro w' ⟨s0_, s1_, s2_, s3_, s4_, s5_, s6_, s7_, s8_, s9_⟩
                        go_simp
                        with_reducible rfl
                      rotate_left
                      · simp only [Act.put, List.setIfInBounds_toArray, List.set_cons_zero, List.set_cons_succ, i64_w, i32_w]
                        rfl
                      refine pure_ (i := 4) (N := some 52) (v := ?_) (a' := ?_) #[true, true, true, true, true, false, false, false, false, false, false, false, false, false, false, false] rfl rfl (by kernel_rfl) (fun _ _ _ h => h) (Or.inl ⟨by rfl, ?_⟩) ?_ ?_
                      rotate_left
                      · intro w'
                        go_simp
                        with_reducible rfl
                      rotate_left
                      · simp only [Act.put, List.setIfInBounds_toArray, List.set_cons_zero, List.set_cons_succ, i64_w, i32_w]
                        rfl
                      refine pure_ (i := 5) (N := some 53) (v := ?_) (a' := ?_) #[true, true, true, true, true, true, false, false, false, false, false, false, false, false, false, false] rfl rfl (by kernel_rfl) (fun _ _ _ h => h) (Or.inl ⟨by rfl, ?_⟩) ?_ ?_
                      rotate_left
                      · intro w'
                        go_simp
                        with_reducible rfl
                      rotate_left
                      · simp only [Act.put, List.setIfInBounds_toArray, List.set_cons_zero, List.set_cons_succ, i64_w, i32_w]
                        rfl
                      refine pure_ (i := 6) (N := some 54) (v := ?_) (a' := ?_) #[true, true, true, true, true, true, true, false, false, false, false, false, false, false, false, false] rfl rfl (by kernel_rfl) (fun _ _ _ h => h) (Or.inl ⟨by rfl, ?_⟩) ?_ ?_
                      rotate_left
                      · intro w'
                        go_simp
                        with_reducible rfl
                      rotate_left
                      · simp only [Act.put, List.setIfInBounds_toArray, List.set_cons_zero, List.set_cons_succ, i64_w, i32_w]
                        rfl
                      refine pure_ (i := 7) (N := some 55) (v := ?_) (a' := ?_) #[true, true, true, true, true, true, true, true, false, false, false, false, false, false, false, false] rfl rfl (by kernel_rfl) (fun _ _ _ h => h) (Or.inl ⟨by rfl, ?_⟩) ?_ ?_
                      rotate_left
                      · intro w'
                        go_simp
                        with_reducible rfl
                      rotate_left
                      · simp only [Act.put, List.setIfInBounds_toArray, List.set_cons_zero, List.set_cons_succ, i64_w, i32_w]
                        rfl
                      refine pure_ (i := 8) (N := some 56) (v := ?_) (a' := ?_) #[true, true, true, true, true, true, true, true, true, false, false, false, false, false, false, false] rfl rfl (by kernel_rfl) (fun _ _ _ h => h) (Or.inl ⟨by rfl, ?_⟩) ?_ ?_
                      rotate_left
                      · intro w'
                        go_simp
                        with_reducible rfl
                      rotate_left
                      · simp only [Act.put, List.setIfInBounds_toArray, List.set_cons_zero, List.set_cons_succ, i64_w, i32_w]
                        rfl
                      refine pure_ (i := 9) (N := some 57) (v := ?_) (a' := ?_) #[true, true, true, true, true, true, true, true, true, true, false, false, false, false, false, false] rfl rfl (by kernel_rfl) (fun _ _ _ h => h) (Or.inl ⟨by rfl, ?_⟩) ?_ ?_
                      rotate_left
                      · intro w'
                        go_simp
                        with_reducible rfl
                      rotate_left
                      · simp only [Act.put, List.setIfInBounds_toArray, List.set_cons_zero, List.set_cons_succ, i64_w, i32_w]
                        rfl
                      refine take_ (i := 10) (N := some 58) (v := ?_) (a' := ?_) #[true, true, true, true, true, true, true, true, true, true, true, false, false, false, false, false] rfl rfl (by kernel_rfl) (fun _ _ _ h => h) (Or.inl ⟨by rfl, ?_⟩) hHeld ?_ ?_
                      rotate_left
                      · rintro w' ⟨s0_, s1_, s2_, s3_, s4_, s5_, s6_, s7_, s8_, s9_⟩
                        go_simp
                        with_reducible rfl
                      rotate_left
                      · simp only [Act.put, List.setIfInBounds_toArray, List.set_cons_zero, List.set_cons_succ, i64_w, i32_w]
                        rfl
                      refine pure_ (i := 11) (N := some 59) (v := ?_) (a' := ?_) #[true, true, true, true, true, true, true, true, true, true, true, true, false, false, false, false] rfl rfl (by kernel_rfl) (fun _ _ _ h => h) (Or.inl ⟨by rfl, ?_⟩) ?_ ?_
                      rotate_left
                      · intro w'
                        go_simp
                        with_reducible rfl
                      rotate_left
                      · simp only [Act.put, List.setIfInBounds_toArray, List.set_cons_zero, List.set_cons_succ, i64_w, i32_w]
                        rfl
                      refine take_ (i := 12) (N := some 60) (v := ?_) (a' := ?_) #[true, true, true, true, true, true, true, true, true, true, true, true, true, false, false, false] rfl rfl (by kernel_rfl) (fun _ _ _ h => h) (Or.inl ⟨by rfl, ?_⟩) hHeld ?_ ?_
                      rotate_left
                      · rintro w' ⟨s0_, s1_, s2_, s3_, s4_, s5_, s6_, s7_, s8_, s9_⟩
                        go_simp
                        with_reducible rfl
                      rotate_left
                      · simp only [Act.put, List.setIfInBounds_toArray, List.set_cons_zero, List.set_cons_succ, i64_w, i32_w]
                        rfl
                      refine take_ (i := 13) (N := some 61) (v := ?_) (a' := ?_) #[true, true, true, true, true, true, true, true, true, true, true, true, true, true, false, false] rfl rfl (by kernel_rfl) (fun _ _ _ h => h) (Or.inl ⟨by rfl, ?_⟩) hHeld ?_ ?_
                      rotate_left
                      · rintro w' ⟨s0_, s1_, s2_, s3_, s4_, s5_, s6_, s7_, s8_, s9_⟩
                        go_simp
                        with_reducible rfl
                      rotate_left
                      · simp only [Act.put, List.setIfInBounds_toArray, List.set_cons_zero, List.set_cons_succ, i64_w, i32_w]
                        rfl
                      refine one_ (i := 14) (N := some 62) #[true, true, true, true, true, true, true, true, true, true, true, true, true, true, true, false] rfl rfl (by kernel_rfl) (by decide) (fun K hK => ?_)
                      refine goes_ Try.func36 (by kernel_rfl) rfl #[.agg #[.int .i64 a0, .int .i64 a1, .int .i64 a2, .int .i64 a3], .agg #[.int .i64 b0, .int .i64 b1, .int .i64 b2, .int .i64 b3]] (by rfl) rfl rfl (by (try simp only [List.map_toArray, List.map_cons, List.map_nil]); first | done | rfl) ?_
                      with_reducible refine (impl_areShared.calls _ _ _ _ _ _ _ _ false _ HV.out).mono ?_
                      rintro e w3 ⟨rfl, hb⟩
                      refine ⟨_, rfl, ?_⟩
                      have n0_ := Aside0.mk (HO.out.below hb)
                      have n1_ := Aside0.mk (below_step HB.out hb)
                      have n2_ := Aside0.mk (Kd.R_below HM.out hb)
                      have mHM0 := Aside0.mk (pw_cell_below hb HM0.out)
                      have mHT0 := Aside0.mk (pw_cell_below hb HT0.out)
                      have mHX0 := Aside0.mk (pw_cell_below hb HX0.out)
                      have mHX1 := Aside0.mk (pw_cell_below hb HX1.out)
                      have mHX2 := Aside0.mk (pw_cell_below hb HX2.out)
                      have mHX3 := Aside0.mk (pw_cell_below hb HX3.out)
                      have mHK0 := Aside0.mk (pw_cell_below hb HK0.out)
                      have mHK1 := Aside0.mk (pw_cell_below hb HK1.out)
                      have mHK2 := Aside0.mk (pw_cell_below hb HK2.out)
                      have mHK3 := Aside0.mk (pw_cell_below hb HK3.out)
                      clear HM0 HT0 HX0 HX1 HX2 HX3 HK0 HK1 HK2 HK3
                      have HM0 := mHM0
                      have HT0 := mHT0
                      have HX0 := mHX0
                      have HX1 := mHX1
                      have HX2 := mHX2
                      have HX3 := mHX3
                      have HK0 := mHK0
                      have HK1 := mHK1
                      have HK2 := mHK2
                      have HK3 := mHK3
                      clear mHM0 mHT0 mHX0 mHX1 mHX2 mHX3 mHK0 mHK1 mHK2 mHK3
                      clear HO HB HM hb
                      have HO := n0_
                      have HB := n1_
                      have HM := n2_
                      clear n0_ n1_ n2_
                      refine hK.out _ _ ⟨HM0.out, HT0.out, HX0.out, HX1.out, HX2.out, HX3.out, HK0.out, HK1.out, HK2.out, HK3.out⟩ (fun hHeld => ?_)
                      clear hK K
                      refine norm_ (a' := ?_) ?_ ?_
                      rotate_left
                      · show Act.put _ (some 62) _ = _
                        simp only [Act.put, List.setIfInBounds_toArray, List.set_cons_zero, List.set_cons_succ, i64_w, i32_w]
                        rfl
                      refine pure_ (i := 15) (N := some 63) (v := ?_) (a' := ?_) #[true, true, true, true, true, true, true, true, true, true, true, true, true, true, true, true] rfl rfl (by kernel_rfl) (fun _ _ _ h => h) (Or.inl ⟨by rfl, ?_⟩) ?_ ?_
                      rotate_left
                      · intro w'
                        go_simp
                        with_reducible rfl
                      rotate_left
                      · simp only [Act.put, List.setIfInBounds_toArray, List.set_cons_zero, List.set_cons_succ, i64_w, i32_w]
                        rfl
                      refine done_ (by kernel_rfl) ?_
                      go_wp2
                      go_roundg (l.length - (j + 1))
                      case measure => omega
                      case rel => exact ⟨j + 1, q', by omega, by omega, by go_num, ⟨HQ.out⟩, ⟨HT.out⟩, ⟨by have h_ := HF.out; rw [kfrom_go hj, ek.out] at h_; exact h_⟩, ⟨by repeat (first | (with_reducible first | exact HO.out | apply Own.alloc | apply Own.drewN | apply Own.drew) | exact HO.out)⟩, ⟨by ((with_reducible repeat (first | apply Kd.R_alloc | apply Kd.R_drewN | apply Kd.R_drew)); exact HM.out)⟩, ⟨by repeat (first | (with_reducible first | exact HB.out | apply below_alloc | apply pw_below_drewN | apply below_drew1) | exact HB.out)⟩⟩
                · obtain rfl : j = l.length := by omega
                  have c4b : decide ((l.length : Int) < (l.length : Int)) = false := decide_eq_false (by omega)
                  have hq2 : q' = q2 := by have h_ := HF.out; rw [Nat.sub_self] at h_; exact h_
                  subst hq2
                  go_wp2
                  go_roundg (l.length - (t + 1))
                  case measure => omega
                  case rel => exact ⟨t + 1, q', by omega, by omega, by go_num, HQ, HBF2, ⟨by omega⟩, ⟨by repeat (first | (with_reducible first | exact HO.out | apply Own.alloc | apply Own.drewN | apply Own.drew) | exact HO.out)⟩, ⟨by ((with_reducible repeat (first | apply Kd.R_alloc | apply Kd.R_drewN | apply Kd.R_drew)); exact HM.out)⟩, ⟨by repeat (first | (with_reducible first | exact HB.out | apply below_alloc | apply pw_below_drewN | apply below_drew1) | exact HB.out)⟩⟩
            · have htz : ¬ t < (iz q).length := by rw [iz_len]; exact htl
              have c3b := decide_eq_false (show ¬ (t : Int) < ((iz q).length : Int) by rw [iz_len]; omega)
              have hQq : q = Q := by have h_ := HBF.out; rw [bfs_end htl] at h_; exact h_
              subst hQq
              obtain ⟨okS, hfS, hRS, hAS⟩ := HO.out.app 0 rfl
              have HfS := Aside0.mk hfS
              have HRS := Aside0.mk hRS
              have HAS := Aside0.mk hAS
              clear hfS hRS hAS
              go_wp2_with (first | (go_at_call 37; (with_reducible refine (sort_row w.heap.size okS gs cs (iz q) _ ?s1 ?s2).mono ?_); (case s1 => exact HRS.out); (case s2 => have h1_ := iz_len q; have h2_ := HQ.out.len; have h3_ := HL.out; omega); rintro e ws ⟨rfl, hr_, hg_⟩; have n0_ := Aside0.mk (show Own ws w.heap.size u6 outs [(.slice (some ⟨gs, 0, none⟩) (iz q).length cs, srt q)] from by rw [← sortI_iz]; exact HAS.out _ ws _ hr_ hg_); have n1_ := Aside0.mk (HB.out.grown hg_ (below_size HB.out) (fun k e => by injection e with e; subst e; exact GES.out)); have n2_ := Aside0.mk (Kd.R_over HM.out HRS.out (fun q hq => (mt_typed q hq).1) hg_); clear HO HB HM HfS HRS HAS; have HO := n0_; have HB := n1_; have HM := n2_; clear n0_ n1_ n2_ hr_ hg_; obtain ⟨okG, okp, hfG, hRG, hkG, hSG, hAG⟩ := HO.out.give 0 rfl; have HfG := Aside0.mk hfG; have HRG := Aside0.mk hRG; have HkG := Aside0.mk hkG; have HSG := Aside0.mk hSG; have HAG := Aside0.mk hAG; clear hfG hRG hkG hSG hAG) | ((with_reducible refine gate_builtin (b := .append) (xs := #[.tmp 74, .tmp 76]) rfl ?_); at_builtin; refine Kd.S_append kII (w0 := w) w.heap.size rfl (.tmp 74) (.tmp 76) 42 51 (.slice none 0 0) 24 rfl Try.underlying42 infoII rfl (by decide) (by omega) u6 outs (srt q) [.slice (some ⟨gs, 0, none⟩) (iz q).length cs] okG okp rfl rfl ?aP ?aK ?aF ?aO ?aB ?aS ?aL ?_; (case aP => exact ⟨_, rfl, HRG.out⟩); (case aK => exact HkG.out); (case aF => exact HfG.out); (case aO => exact HSG.out); (case aB => repeat (first | (with_reducible first | exact HB.out | apply below_alloc | apply pw_below_drewN | apply below_drew1) | exact HB.out)); (case aS => exact below_size (by repeat (first | (with_reducible first | exact HB.out | apply below_alloc | apply pw_below_drewN | apply below_drew1) | exact HB.out))); (case aL => have h3_ := HL.out; have h4_ := HLO.out; omega); intro v6' w6 ho hb hg hat; have n0_ := Aside0.mk (show Own w6 w.heap.size v6' (outs ++ [srt q]) [] from HAG.out v6' w6 ho hg); have n1_ := Aside0.mk hb; have n2_ := Aside0.mk (Kd.R_over HM.out (Kd.S_R HSG.out) (fun q hq => (mt_typed q hq).2) hg); clear HO HB HM HfG HRG HkG HSG HAG; have HO := n0_; have HB := n1_; have HM := n2_; clear n0_ n1_ n2_ ho hb hg hat))
              go_roundg (l.length - (i + 1))
              case measure => omega
              case rel => exact ⟨i + 1, by omega, by omega, by go_num, ⟨by rw [HSO.out]; repeat (first | (with_reducible first | exact HO.out | apply Own.alloc | apply Own.drewN | apply Own.drew) | exact HO.out)⟩, ⟨by rw [HSO.out]; ((with_reducible repeat (first | apply Kd.R_alloc | apply Kd.R_drewN | apply Kd.R_drew)); exact HM.out)⟩, ⟨by repeat (first | (with_reducible first | exact HB.out | apply below_alloc | apply pw_below_drewN | apply below_drew1) | exact HB.out)⟩⟩
      · obtain rfl : i = l.length := by omega
        have c1b : decide ((l.length : Int) < (l.length : Int)) = false := decide_eq_false (by omega)
        go_wp2
        go_ret2
        exact ⟨_, rfl, HO.out.outs_, HB.out⟩
end Go.Proofs.Ytiiocpeeobjlgaa.P
end
section
namespace Go.Proofs.Ytiiocpeeobjlgaa.P
open Go.RowKit Go.Proofs.YtiiocpeeobjlgaaW.PrintWords Go.Proofs.YtiiocpeeobjlgaaW.PrintLast Go.Proofs.YtiiocpeeobjlgaaW.PrintMore
set_option linter.unusedVariables false
set_option linter.unusedSimpArgs false
set_option maxHeartbeats 2000000 in
set_option maxRecDepth 100000 in
theorem sgroups_no (k : Nat) (A0 : Option Addr) (c0 : Nat) (m : List (List Int)) (A1 : Option Addr) (c1 : Nat) (l : List S56) (w : World) (hr0 : Kd.C (Kd.slice 5 (Kd.int .u8)) w A0 m.length m) (hc0 : m.length ≤ c0) (hr1 : Kd.C k56 w A1 l.length l) (hc1 : l.length ≤ c1) (h1 : spec_l3Watched.f k m l = some false) :
    Calls Try.prog 18 #[.agg #[.slice A0 m.length c0], .slice A1 l.length c1] w fun e w' => ∃ v0_ : Value, e = .returned (.tuple #[v0_, .bool false]) ∧ Kd.S kII 51 w' w.heap.size (fun _ => True) v0_ [] ∧ Below w.heap.size w w' := by
  have hu := Try.underlying31
  have HR0 := Aside0.mk hr0
  have HC0 := Aside0.mk hc0
  have HR := Aside0.mk hr1
  have HC := Aside0.mk hc1
  have HA1 := Aside0.mk h1
  have HB := Aside0.mk (Below.refl w.heap.size w)
  clear hr0 hc0 hr1 hc1 h1
  go_enter Try.func18, Try.ntmps18
  go_wp2_with (first | ((with_reducible refine gate_dst (N := 2) rfl ?_); refine box_event ?hg (N := 2) ?hd (cs := #[.slice A0 m.length c0]) (t := 31) ?hr ?_; (case hd => rfl); (case hg => rfl); (case hr => first | (go_simp; done) | (go_simp; rfl)); intro g2 hg w2 hbox hb; have n0_ := Aside0.mk (below_step HB.out hb); have n1_ := Aside0.mk hbox; clear HB; have HB := n0_; have BK2 := n1_; clear n0_ n1_ hb hbox hg; have hc2 : w2.cell? ⟨g2, 0, none⟩ = some (.slice A0 m.length c0) := (blk_cell BK2.out 0).trans rfl; have hf2 := blk_frozen BK2.out 0) | (go_at_call 24; (with_reducible refine (spec_l3Watched.calls k _ _ m _ _ l false _ ?s1 ?s2 ?s3 ?s4 HA1.out).mono ?_); (case s1 => exact Kd.C_below HR0.out (by repeat (first | (with_reducible first | exact HB.out | apply below_alloc | apply pw_below_drewN | apply below_drew1) | exact HB.out))); (case s2 => exact HC0.out); (case s3 => exact Kd.C_below HR.out (by repeat (first | (with_reducible first | exact HB.out | apply below_alloc | apply pw_below_drewN | apply below_drew1) | exact HB.out))); (case s4 => exact HC.out); rintro e wa ⟨rfl, hb⟩; have n0_ := Aside0.mk (below_step (by repeat (first | (with_reducible first | exact HB.out | apply below_alloc | apply pw_below_drewN | apply below_drew1) | exact HB.out)) hb); clear HB; have HB := n0_; clear n0_ hb) | ((with_reducible refine gate_dst (N := 10) rfl ?_); refine Kd.S_lit kII _ 51 ?hg (N := 10) ?hd (xs := ([] : List (List Int))) (inner := []) (ok := fun _ => True) (okp := fun _ => True) ?hr ?hp (fun _ hk => hk) trivial (Below.refl _ _) (Nat.le_refl _) (by simp) ?_; (case hd => rfl); (case hg => rfl); (case hr => first | (go_simp; done) | (go_simp; rfl)); (case hp => exact (Reps.none _ _)); intro v10 w10 ho hb hg_ hnew_; clear hg_ hnew_; have HO := Aside0.mk (Kd.S_lower ho (below_size (by repeat (first | (with_reducible first | exact HB.out | apply below_alloc | apply pw_below_drewN | apply below_drew1) | exact HB.out)))); have n1_ := Aside0.mk (below_step (by repeat (first | (with_reducible first | exact HB.out | apply below_alloc | apply pw_below_drewN | apply below_drew1) | exact HB.out)) hb); clear HB; have HB := n1_; clear n1_ hb ho))
  go_ret2
  exact ⟨_, rfl, by (with_reducible repeat (first | apply Kd.S_alloc | apply Kd.S_drewN | apply Kd.S_drew)); exact HO.out, by repeat (first | (with_reducible first | exact HB.out | apply below_alloc | apply pw_below_drewN | apply below_drew1) | exact HB.out)⟩
set_option maxHeartbeats 2000000 in
set_option maxRecDepth 100000 in
theorem sgroups_yes (k : Nat) (A0 : Option Addr) (c0 : Nat) (m : List (List Int)) (A1 : Option Addr) (c1 : Nat) (l : List S56) (sh : Nat → Nat → Bool) (w : World) (hr0 : Kd.C (Kd.slice 5 (Kd.int .u8)) w A0 m.length m) (hc0 : m.length ≤ c0) (hr1 : Kd.C k56 w A1 l.length l) (hc1 : l.length ≤ c1) (h1 : spec_l3Watched.f k m l = some true) (hl : l.length ≤ 12)
    (hov : ∀ a b : Nat, a < l.length → b < l.length → ∃ o, spec_l2Overlap.f (rd_T56 l a).f0 (rd_T56 l a).f1 (rd_T56 l a).f2 (rd_T56 l a).f3 (rd_T56 l b).f0 (rd_T56 l b).f1 (rd_T56 l b).f2 (rd_T56 l b).f3 = some o ∧ sh a b = decide (0 < o)) :
    Calls Try.prog 18 #[.agg #[.slice A0 m.length c0], .slice A1 l.length c1] w fun e w' => ∃ v0_ : Value, e = .returned (.tuple #[v0_, .bool true]) ∧ Kd.S kII 51 w' w.heap.size (fun _ => True) v0_ (sgr l.length sh l.length) ∧ Below w.heap.size w w' := by
  have hu := Try.underlying31
  have HR0 := Aside0.mk hr0
  have HC0 := Aside0.mk hc0
  have HR := Aside0.mk hr1
  have HC := Aside0.mk hc1
  have HA1 := Aside0.mk h1
  have HB := Aside0.mk (Below.refl w.heap.size w)
  clear hr0 hc0 hr1 hc1 h1
  have HOV := Aside0.mk hov
  clear hov
  go_enter Try.func18, Try.ntmps18
  go_wp2_with (first | ((with_reducible refine gate_dst (N := 2) rfl ?_); refine box_event ?hg (N := 2) ?hd (cs := #[.slice A0 m.length c0]) (t := 31) ?hr ?_; (case hd => rfl); (case hg => rfl); (case hr => first | (go_simp; done) | (go_simp; rfl)); intro g2 hg w2 hbox hb; have n0_ := Aside0.mk (below_step HB.out hb); have n1_ := Aside0.mk hbox; clear HB; have HB := n0_; have BK2 := n1_; clear n0_ n1_ hb hbox hg; have hc2 : w2.cell? ⟨g2, 0, none⟩ = some (.slice A0 m.length c0) := (blk_cell BK2.out 0).trans rfl; have hf2 := blk_frozen BK2.out 0) | (go_at_call 24; (with_reducible refine (spec_l3Watched.calls k _ _ m _ _ l true _ ?s1 ?s2 ?s3 ?s4 HA1.out).mono ?_); (case s1 => exact Kd.C_below HR0.out (by repeat (first | (with_reducible first | exact HB.out | apply below_alloc | apply pw_below_drewN | apply below_drew1) | exact HB.out))); (case s2 => exact HC0.out); (case s3 => exact Kd.C_below HR.out (by repeat (first | (with_reducible first | exact HB.out | apply below_alloc | apply pw_below_drewN | apply below_drew1) | exact HB.out))); (case s4 => exact HC.out); rintro e wa ⟨rfl, hb⟩; have n0_ := Aside0.mk (below_step (by repeat (first | (with_reducible first | exact HB.out | apply below_alloc | apply pw_below_drewN | apply below_drew1) | exact HB.out)) hb); clear HB; have HB := n0_; clear n0_ hb) | (go_at_call 34; (with_reducible refine (spec_groups _ _ l sh _ ?s1 ?s2 hl HOV.out).mono ?_); (case s1 => exact Kd.C_below HR.out (by repeat (first | (with_reducible first | exact HB.out | apply below_alloc | apply pw_below_drewN | apply below_drew1) | exact HB.out))); (case s2 => exact HC.out); rintro e wg ⟨vg, rfl, ho, hb⟩; have HO := Aside0.mk (Kd.S_lower ho (below_size (by repeat (first | (with_reducible first | exact HB.out | apply below_alloc | apply pw_below_drewN | apply below_drew1) | exact HB.out)))); have n1_ := Aside0.mk (below_step (by repeat (first | (with_reducible first | exact HB.out | apply below_alloc | apply pw_below_drewN | apply below_drew1) | exact HB.out)) hb); clear HB; have HB := n1_; clear n1_ hb ho))
  go_ret2
  exact ⟨_, rfl, by (with_reducible repeat (first | apply Kd.S_alloc | apply Kd.S_drewN | apply Kd.S_drew)); exact HO.out, by repeat (first | (with_reducible first | exact HB.out | apply below_alloc | apply pw_below_drewN | apply below_drew1) | exact HB.out)⟩
def smB (x : S56) : Bool := decide (-1000000 ≤ x.f1 ∧ x.f1 ≤ 1000000 ∧ -1000000 ≤ x.f2 ∧ x.f2 ≤ 1000000)
theorem smB_iff {x : S56} : smB x = true ↔ Sm x.f1 x.f2 := by unfold smB Sm; exact decide_eq_true_iff
def shW (l : List S56) (a b : Nat) : Bool := decide (0 < ov (rd_T56 l a).f0 (rd_T56 l a).f1 (rd_T56 l a).f2 (rd_T56 l b).f0 (rd_T56 l b).f1 (rd_T56 l b).f2)
theorem ov_comm (a s l b t u : Int) : ov a s l b t u = ov b t u a s l := by
  unfold ov mx mn
  by_cases h : a = b
  · subst h
    rw [if_pos rfl, if_pos rfl]
    repeat' split
    all_goals omega
  · rw [if_neg h, if_neg (fun e => h e.symm)]
theorem shW_comm (l : List S56) (a b : Nat) : shW l a b = shW l b a := by unfold shW; rw [ov_comm]
def grpOk (l : List S56) : Bool := decide (l.length ≤ 12) && l.all smB
theorem grpOk_at {l : List S56} (h : grpOk l = true) : l.length ≤ 12 ∧ ∀ a : Nat, a < l.length → Sm (rd_T56 l a).f1 (rd_T56 l a).f2 := by
  unfold grpOk at h
  simp only [Bool.and_eq_true, decide_eq_true_eq, List.all_eq_true] at h
  refine ⟨h.1, fun a ha => smB_iff.1 (h.2 _ ?_)⟩
  unfold rd_T56
  rw [Int.toNat_natCast, List.getD_eq_getElem?_getD, List.getElem?_eq_getElem ha]
  exact List.getElem_mem ha
def spec_ShareGroups.f (k : Nat) (m : List (List Int)) (l : List S56) : Option (List (List Int) × Bool) :=
  (spec_l3Watched.f k m l).bind fun t => if t = true then (if grpOk l = true then some (sgr l.length (shW l) l.length, true) else none) else some ([], false)
theorem spec_ShareGroups.calls (k : Nat) (A0 : Option Addr) (c0 : Nat) (m : List (List Int)) (A1 : Option Addr) (c1 : Nat) (l : List S56) (r1 : List (List Int)) (r2 : Bool) (w : World) (hr0 : Kd.C (Kd.slice 5 (Kd.int .u8)) w A0 m.length m) (hc0 : m.length ≤ c0) (hr1 : Kd.C k56 w A1 l.length l) (hc1 : l.length ≤ c1) (h : spec_ShareGroups.f k m l = some (r1, r2)) :
    Calls Try.prog 18 #[.agg #[.slice A0 m.length c0], .slice A1 l.length c1] w fun e w' => ∃ v0_ : Value, e = .returned (.tuple #[v0_, .bool r2]) ∧ Kd.S (Kd.slice 3 (Kd.int .i64)) 51 w' w.heap.size (fun _ => True) v0_ r1 ∧ Below w.heap.size w w' := by
  unfold spec_ShareGroups.f at h
  obtain ⟨t, h1, h⟩ := Option.bind_eq_some_iff.mp h
  cases t with
  | false =>
    rw [if_neg (by decide)] at h
    obtain ⟨rfl, rfl⟩ := Prod.mk.inj (Option.some.inj h)
    exact sgroups_no k A0 c0 m A1 c1 l w hr0 hc0 hr1 hc1 h1
  | true =>
    rw [if_pos rfl] at h
    by_cases h2 : grpOk l = true
    · rw [if_pos h2] at h
      obtain ⟨rfl, rfl⟩ := Prod.mk.inj (Option.some.inj h)
      obtain ⟨h3, h4⟩ := grpOk_at h2
      exact sgroups_yes k A0 c0 m A1 c1 l (shW l) w hr0 hc0 hr1 hc1 h1 h3 (fun a b ha hb => ⟨_, overlap_eq _ _ _ _ _ _ _ _ (h4 a ha) (h4 b hb), rfl⟩)
    · rw [if_neg h2] at h; cases h
def impl_ShareGroups.f (k : Nat) (m : List (List Int)) (l : List S56) : Option (List (List Int) × Bool) :=
  (impl_areWatched.f k m l).bind fun t => if t = true then (if grpOk l = true then some (sgr l.length (shW l) l.length, true) else none) else some ([], false)
theorem impl_ShareGroups.calls (k : Nat) (A0 : Option Addr) (c0 : Nat) (m : List (List Int)) (A1 : Option Addr) (c1 : Nat) (l : List S56) (r1 : List (List Int)) (r2 : Bool) (w : World) (hr0 : Kd.C (Kd.slice 5 (Kd.int .u8)) w A0 m.length m) (hc0 : m.length ≤ c0) (hr1 : Kd.C k56 w A1 l.length l) (hc1 : l.length ≤ c1) (h : impl_ShareGroups.f k m l = some (r1, r2)) :
    Calls Try.prog 19 #[.agg #[.slice A0 m.length c0], .slice A1 l.length c1] w fun e w' => ∃ v0_ : Value, e = .returned (.tuple #[v0_, .bool r2]) ∧ Kd.S (Kd.slice 3 (Kd.int .i64)) 51 w' w.heap.size (fun _ => True) v0_ r1 ∧ Below w.heap.size w w' := by
  unfold impl_ShareGroups.f at h
  obtain ⟨t, h1, h⟩ := Option.bind_eq_some_iff.mp h
  cases t with
  | false =>
    rw [if_neg (by decide)] at h
    obtain ⟨rfl, rfl⟩ := Prod.mk.inj (Option.some.inj h)
    exact (groups_no k A0 c0 m A1 c1 l w hr0 hc0 hr1 hc1 h1).mono fun e w' ⟨he, hb⟩ => ⟨_, he, Kd.S_nil _ _ _ _ _, hb⟩
  | true =>
    rw [if_pos rfl] at h
    by_cases h2 : grpOk l = true
    · rw [if_pos h2] at h
      obtain ⟨rfl, rfl⟩ := Prod.mk.inj (Option.some.inj h)
      obtain ⟨h3, h4⟩ := grpOk_at h2
      have he : ∀ i, i ≤ l.length → (igr l.length (shW l) i).1 = sgr l.length (shW l) i := fun i hi => (igr_eq (fun a b _ _ => shW_comm l a b) i hi).1
      have := groups_yes k A0 c0 m A1 c1 l (shW l) w hr0 hc0 hr1 hc1 h1 h3 (fun a b ha hb => shared_eq _ _ _ _ _ _ _ _ (h4 a ha) (h4 b hb)) (fun i hi => by rw [he i hi]; have := (sgr_len l.length (shW l) i hi).1; omega)
      rw [he _ (Nat.le_refl _)] at this
      exact this
    · rw [if_neg h2] at h; cases h
end Go.Proofs.Ytiiocpeeobjlgaa.P
end
section
namespace Go.Proofs.Ytiiocpeeobjlgaa.P
open Go.RowKit Go.Proofs.YtiiocpeeobjlgaaW.PrintWords Go.Proofs.YtiiocpeeobjlgaaW.PrintLast Go.Proofs.YtiiocpeeobjlgaaW.PrintMore
set_option linter.unusedVariables false
set_option linter.unusedSimpArgs false
set_option maxHeartbeats 8000000 in
set_option maxRecDepth 100000 in
theorem laws_FnExactShareGroups.exit1 (k : Nat) (A0_0 : Option Addr) (c0_0 : Nat) (l0_0 : List (List Int)) (A1 : Option Addr) (c1 : Nat) (l1 : List S58) (z3 : Int) (w : World) (hr0_0 : Kd.C (Kd.slice 5 (Kd.int .u8)) w A0_0 l0_0.length l0_0) (hc0_0 : l0_0.length ≤ c0_0) (hr1 : Kd.C k58 w A1 l1.length l1) (hc1 : l1.length ≤ c1) (hE1 : laws_szMemory.f k l0_0 1048576 = some z3) (hz3_no : z3 < 0) :
    Calls Try.prog 4 #[.agg #[.slice A0_0 l0_0.length c0_0], .slice A1 l1.length c1] w fun e w' => e = .returned (.bool true) ∧ Below w.heap.size w w' := by
  have hu24 := Try.underlying24
  have hu31 := Try.underlying31
  have HR0_0 := Aside0.mk hr0_0
  have HC0_0 := Aside0.mk hc0_0
  clear hr0_0 hc0_0
  have HR1 := Aside0.mk hr1
  have HC1 := Aside0.mk hc1
  clear hr1 hc1
  have E1 := Aside0.mk hE1
  clear hE1
  have d_z3 : decide (z3 < 0) = true := decide_eq_true hz3_no
  clear hz3_no
  have HB := Aside0.mk (Below.refl w.heap.size w)
  obtain ⟨n0, hn0⟩ : ∃ n_, n_ = w.heap.size := ⟨_, rfl⟩
  have HZ := Aside0.mk (Nat.le_of_eq hn0 : n0 ≤ w.heap.size)
  clear hn0
  go_enter Try.func4, Try.ntmps4
  go_wp2_with (first | ((with_reducible refine gate_dst (N := 2) rfl ?_); refine box_event ?hg (N := 2) ?hd (cs := #[.slice A0_0 l0_0.length c0_0]) (t := 24) ?hr ?_; (case hd => rfl); (case hg => rfl); (case hr => first | (go_simp; done) | (go_simp; rfl)); intro gb2 hg_ w3001 hbox hb; have mB_ := Aside0.mk (below_step (by (repeat (first | (with_reducible first | exact HB.out | apply below_alloc | apply pw_below_drewN | apply below_drew1) | exact HB.out))) hb); have mL_ := Aside0.mk (by (repeat (first | exact HZ.out | (with_reducible first | apply sz_alloc | apply sz_drewN | apply sz_drew | apply sz_set))) : n0 ≤ _); obtain ⟨n1, hn_⟩ : ∃ n_, n_ = w3001.heap.size := ⟨_, rfl⟩; have mN_ := Aside0.mk (by rw [hn_]; exact Nat.le_trans mL_.out hb.size : n0 ≤ n1); have mZ_ := Aside0.mk (Nat.le_of_eq hn_ : n1 ≤ w3001.heap.size); have xBK2_ := Aside0.mk (hbox); have xGE2_ := Aside0.mk (by rw [hg_]; exact below_size (by (repeat (first | (with_reducible first | exact HB.out | apply below_alloc | apply pw_below_drewN | apply below_drew1) | exact HB.out))) : w.heap.size ≤ gb2); have xHI2_ := Aside0.mk (⟨by rw [hg_]; exact mL_.out, by rw [hn_]; exact blk_lt hbox⟩ : n0 ≤ gb2 ∧ gb2 < n1); clear HB HZ; have HB := mB_; have HZ := mZ_; have HN1 := mN_; have BK2 := xBK2_; have GE2 := xGE2_; have HI2 := xHI2_; clear mB_ mN_ mZ_ mL_ xBK2_ xGE2_ xHI2_; (try clear hn_); clear hb hbox hg_; have hc2_0 := (blk_cell BK2.out 0).trans (show (#[.slice A0_0 l0_0.length c0_0] : Array Value)[0]? = some (.slice A0_0 l0_0.length c0_0) from rfl); have hf2_0 := blk_frozen BK2.out 0) | ((with_reducible refine gate_callee (f := 5) rfl ?_); refine goesL_ (some 19) rfl rfl Try.func5 (by kernel_rfl) rfl #[.agg #[.slice A0_0 l0_0.length c0_0], .int .i64 1048576] rfl (by (try simp only [List.map_toArray, List.map_cons, List.map_nil]); first | done | rfl) ?_; (with_reducible refine (laws_szMemory.calls k _ _ l0_0 1048576 z3 _ ?sr0 ?sc0 E1.out).mono ?_); (case sr0 => exact Kd.C_below HR0_0.out (by (repeat (first | (with_reducible first | exact HB.out | apply below_alloc | apply pw_below_drewN | apply below_drew1 | refine below_set ?_ GE2.out) | exact HB.out)))); (case sc0 => exact HC0_0.out); rintro e w1004 ⟨rfl, hb⟩; refine ⟨_, rfl, ?_⟩; have m0_ := Aside0.mk (blk_below (g := gb2) (o := .cells #[.slice A0_0 l0_0.length c0_0] 24 (0, 0)) (by ((with_reducible repeat (first | refine blk_drewN ?_ _ | refine blk_drew ?_ | refine blk_alloc ?_ _)); exact BK2.out)) hb); have mB_ := Aside0.mk (below_step (by (repeat (first | (with_reducible first | exact HB.out | apply below_alloc | apply pw_below_drewN | apply below_drew1 | refine below_set ?_ GE2.out) | exact HB.out))) hb); have mL_ := Aside0.mk (by (repeat (first | exact HZ.out | (with_reducible first | apply sz_alloc | apply sz_drewN | apply sz_drew | apply sz_set))) : n1 ≤ _); obtain ⟨n2, hn_⟩ : ∃ n_, n_ = w1004.heap.size := ⟨_, rfl⟩; have mN_ := Aside0.mk (by rw [hn_]; exact Nat.le_trans mL_.out hb.size : n1 ≤ n2); have mZ_ := Aside0.mk (Nat.le_of_eq hn_ : n2 ≤ w1004.heap.size); clear BK2 HB HZ; have BK2 := m0_; have HB := mB_; have HZ := mZ_; have HN2 := mN_; clear m0_ mB_ mN_ mZ_ mL_; (try clear hn_); clear hb))
  go_ret
  exact ⟨rfl, by (repeat (first | (with_reducible first | exact HB.out | apply below_alloc | apply pw_below_drewN | apply below_drew1 | refine below_set ?_ GE2.out) | exact HB.out))⟩
set_option maxHeartbeats 8000000 in
set_option maxRecDepth 100000 in
theorem laws_FnExactShareGroups.exit2 (k : Nat) (A0_0 : Option Addr) (c0_0 : Nat) (l0_0 : List (List Int)) (A1 : Option Addr) (c1 : Nat) (l1 : List S58) (z3 : Int) (z5 : Int) (w : World) (hr0_0 : Kd.C (Kd.slice 5 (Kd.int .u8)) w A0_0 l0_0.length l0_0) (hc0_0 : l0_0.length ≤ c0_0) (hr1 : Kd.C k58 w A1 l1.length l1) (hc1 : l1.length ≤ c1) (hE1 : laws_szMemory.f k l0_0 1048576 = some z3) (hE2 : laws_szWindowS.f l1 z3 = some z5) (hz3_no : ¬ z3 < 0) (hz5_no : z5 < 0) :
    Calls Try.prog 4 #[.agg #[.slice A0_0 l0_0.length c0_0], .slice A1 l1.length c1] w fun e w' => e = .returned (.bool true) ∧ Below w.heap.size w w' := by
  have hu24 := Try.underlying24
  have hu31 := Try.underlying31
  have HR0_0 := Aside0.mk hr0_0
  have HC0_0 := Aside0.mk hc0_0
  clear hr0_0 hc0_0
  have HR1 := Aside0.mk hr1
  have HC1 := Aside0.mk hc1
  clear hr1 hc1
  have E1 := Aside0.mk hE1
  clear hE1
  have E2 := Aside0.mk hE2
  clear hE2
  have d_z3 : decide (z3 < 0) = false := decide_eq_false hz3_no
  clear hz3_no
  have d_z5 : decide (z5 < 0) = true := decide_eq_true hz5_no
  clear hz5_no
  have HB := Aside0.mk (Below.refl w.heap.size w)
  obtain ⟨n0, hn0⟩ : ∃ n_, n_ = w.heap.size := ⟨_, rfl⟩
  have HZ := Aside0.mk (Nat.le_of_eq hn0 : n0 ≤ w.heap.size)
  clear hn0
  go_enter Try.func4, Try.ntmps4
  go_wp2_with (first | ((with_reducible refine gate_dst (N := 2) rfl ?_); refine box_event ?hg (N := 2) ?hd (cs := #[.slice A0_0 l0_0.length c0_0]) (t := 24) ?hr ?_; (case hd => rfl); (case hg => rfl); (case hr => first | (go_simp; done) | (go_simp; rfl)); intro gb2 hg_ w3001 hbox hb; have mB_ := Aside0.mk (below_step (by (repeat (first | (with_reducible first | exact HB.out | apply below_alloc | apply pw_below_drewN | apply below_drew1) | exact HB.out))) hb); have mL_ := Aside0.mk (by (repeat (first | exact HZ.out | (with_reducible first | apply sz_alloc | apply sz_drewN | apply sz_drew | apply sz_set))) : n0 ≤ _); obtain ⟨n1, hn_⟩ : ∃ n_, n_ = w3001.heap.size := ⟨_, rfl⟩; have mN_ := Aside0.mk (by rw [hn_]; exact Nat.le_trans mL_.out hb.size : n0 ≤ n1); have mZ_ := Aside0.mk (Nat.le_of_eq hn_ : n1 ≤ w3001.heap.size); have xBK2_ := Aside0.mk (hbox); have xGE2_ := Aside0.mk (by rw [hg_]; exact below_size (by (repeat (first | (with_reducible first | exact HB.out | apply below_alloc | apply pw_below_drewN | apply below_drew1) | exact HB.out))) : w.heap.size ≤ gb2); have xHI2_ := Aside0.mk (⟨by rw [hg_]; exact mL_.out, by rw [hn_]; exact blk_lt hbox⟩ : n0 ≤ gb2 ∧ gb2 < n1); clear HB HZ; have HB := mB_; have HZ := mZ_; have HN1 := mN_; have BK2 := xBK2_; have GE2 := xGE2_; have HI2 := xHI2_; clear mB_ mN_ mZ_ mL_ xBK2_ xGE2_ xHI2_; (try clear hn_); clear hb hbox hg_; have hc2_0 := (blk_cell BK2.out 0).trans (show (#[.slice A0_0 l0_0.length c0_0] : Array Value)[0]? = some (.slice A0_0 l0_0.length c0_0) from rfl); have hf2_0 := blk_frozen BK2.out 0) | ((with_reducible refine gate_callee (f := 5) rfl ?_); refine goesL_ (some 19) rfl rfl Try.func5 (by kernel_rfl) rfl #[.agg #[.slice A0_0 l0_0.length c0_0], .int .i64 1048576] rfl (by (try simp only [List.map_toArray, List.map_cons, List.map_nil]); first | done | rfl) ?_; (with_reducible refine (laws_szMemory.calls k _ _ l0_0 1048576 z3 _ ?sr0 ?sc0 E1.out).mono ?_); (case sr0 => exact Kd.C_below HR0_0.out (by (repeat (first | (with_reducible first | exact HB.out | apply below_alloc | apply pw_below_drewN | apply below_drew1 | refine below_set ?_ GE2.out) | exact HB.out)))); (case sc0 => exact HC0_0.out); rintro e w1004 ⟨rfl, hb⟩; refine ⟨_, rfl, ?_⟩; have m0_ := Aside0.mk (blk_below (g := gb2) (o := .cells #[.slice A0_0 l0_0.length c0_0] 24 (0, 0)) (by ((with_reducible repeat (first | refine blk_drewN ?_ _ | refine blk_drew ?_ | refine blk_alloc ?_ _)); exact BK2.out)) hb); have mB_ := Aside0.mk (below_step (by (repeat (first | (with_reducible first | exact HB.out | apply below_alloc | apply pw_below_drewN | apply below_drew1 | refine below_set ?_ GE2.out) | exact HB.out))) hb); have mL_ := Aside0.mk (by (repeat (first | exact HZ.out | (with_reducible first | apply sz_alloc | apply sz_drewN | apply sz_drew | apply sz_set))) : n1 ≤ _); obtain ⟨n2, hn_⟩ : ∃ n_, n_ = w1004.heap.size := ⟨_, rfl⟩; have mN_ := Aside0.mk (by rw [hn_]; exact Nat.le_trans mL_.out hb.size : n1 ≤ n2); have mZ_ := Aside0.mk (Nat.le_of_eq hn_ : n2 ≤ w1004.heap.size); clear BK2 HB HZ; have BK2 := m0_; have HB := mB_; have HZ := mZ_; have HN2 := mN_; clear m0_ mB_ mN_ mZ_ mL_; (try clear hn_); clear hb) | ((with_reducible refine gate_callee (f := 6) rfl ?_); refine goesL_ (some 24) rfl rfl Try.func6 (by kernel_rfl) rfl #[.slice A1 l1.length c1, .int .i64 z3] rfl (by (try simp only [List.map_toArray, List.map_cons, List.map_nil]); first | done | rfl) ?_; (with_reducible refine (laws_szWindowS.calls _ _ l1 z3 z5 _ ?sr0 ?sc0 E2.out).mono ?_); (case sr0 => exact Kd.C_below HR1.out (by (repeat (first | (with_reducible first | exact HB.out | apply below_alloc | apply pw_below_drewN | apply below_drew1 | refine below_set ?_ GE2.out) | exact HB.out)))); (case sc0 => exact HC1.out); rintro e w1007 ⟨rfl, hd_⟩; have hb := hd_.below; clear hd_; refine ⟨_, rfl, ?_⟩; have m0_ := Aside0.mk (blk_below (g := gb2) (o := .cells #[.slice A0_0 l0_0.length c0_0] 24 (0, 0)) (by ((with_reducible repeat (first | refine blk_drewN ?_ _ | refine blk_drew ?_ | refine blk_alloc ?_ _)); exact BK2.out)) hb); have mB_ := Aside0.mk (below_step (by (repeat (first | (with_reducible first | exact HB.out | apply below_alloc | apply pw_below_drewN | apply below_drew1 | refine below_set ?_ GE2.out) | exact HB.out))) hb); have mL_ := Aside0.mk (by (repeat (first | exact HZ.out | (with_reducible first | apply sz_alloc | apply sz_drewN | apply sz_drew | apply sz_set))) : n2 ≤ _); obtain ⟨n3, hn_⟩ : ∃ n_, n_ = w1007.heap.size := ⟨_, rfl⟩; have mN_ := Aside0.mk (by rw [hn_]; exact Nat.le_trans mL_.out hb.size : n2 ≤ n3); have mZ_ := Aside0.mk (Nat.le_of_eq hn_ : n3 ≤ w1007.heap.size); clear BK2 HB HZ; have BK2 := m0_; have HB := mB_; have HZ := mZ_; have HN3 := mN_; clear m0_ mB_ mN_ mZ_ mL_; (try clear hn_); clear hb; have hc7_0 := (blk_cell BK2.out 0).trans (show (#[.slice A0_0 l0_0.length c0_0] : Array Value)[0]? = some (.slice A0_0 l0_0.length c0_0) from rfl); have hf7_0 := blk_frozen BK2.out 0))
  go_ret
  exact ⟨rfl, by (repeat (first | (with_reducible first | exact HB.out | apply below_alloc | apply pw_below_drewN | apply below_drew1 | refine below_set ?_ GE2.out) | exact HB.out))⟩
set_option maxHeartbeats 8000000 in
set_option maxRecDepth 100000 in
theorem laws_FnExactShareGroups.walk (k : Nat) (A0_0 : Option Addr) (c0_0 : Nat) (l0_0 : List (List Int)) (A1 : Option Addr) (c1 : Nat) (l1 : List S58) (z3 : Int) (z5 : Int) (t9 : List (List Int)) (t13 : List (S56)) (g16 : List (List Int)) (ok17 : Bool) (s18 : List (List Int)) (m44 : Int) (y45 : List (List Int)) (m47 : Int) (y48 : List (S56)) (m51 : Int) (y52 : List (List Int)) (w : World) (hr0_0 : Kd.C (Kd.slice 5 (Kd.int .u8)) w A0_0 l0_0.length l0_0) (hc0_0 : l0_0.length ≤ c0_0) (hr1 : Kd.C k58 w A1 l1.length l1) (hc1 : l1.length ≤ c1) (hE1 : laws_szMemory.f k l0_0 1048576 = some z3) (hE2 : laws_szWindowS.f l1 z3 = some z5) (hE3 : laws_toMemory.f k l0_0 = some t9) (hE4 : laws_toWindowS.f k l1 = some t13) (hE5 : spec_ShareGroups.f k t9 t13 = some (s18, ok17)) (hE8 : impl_ShareGroups.f k t9 t13 = some (g16, ok17)) (hE9 : laws_eqIntSS.f k g16 s18 = some true) (hE11 : laws_eqMemory.f k t9 t9 = some true) (hE13 : laws_eqWindowS.f k t13 t13 = some true) (hE14 : laws_markMemory.f k t9 1 = some (m44, y45)) (hE15 : laws_markWindowS.f k t13 m44 = some (m47, y48)) (hE17 : laws_markIntSS.f k g16 1 = some (m51, y52)) (hE18 : laws_heldIntSS.f k y52 1 = some m51) (hz3_no : ¬ z3 < 0) (hz5_no : ¬ z5 < 0) (hm44_no : ¬ m44 < 0) (hm47_no : ¬ m47 < 0) (hm51_no : ¬ m51 < 0) :
    Calls Try.prog 4 #[.agg #[.slice A0_0 l0_0.length c0_0], .slice A1 l1.length c1] w fun e w' => e = .returned (.bool true) ∧ Below w.heap.size w w' := by
  have hu24 := Try.underlying24
  have hu31 := Try.underlying31
  have HR0_0 := Aside0.mk hr0_0
  have HC0_0 := Aside0.mk hc0_0
  clear hr0_0 hc0_0
  have HR1 := Aside0.mk hr1
  have HC1 := Aside0.mk hc1
  clear hr1 hc1
  have E1 := Aside0.mk hE1
  clear hE1
  have E2 := Aside0.mk hE2
  clear hE2
  have E3 := Aside0.mk hE3
  clear hE3
  have E4 := Aside0.mk hE4
  clear hE4
  have E5 := Aside0.mk hE5
  clear hE5
  have E8 := Aside0.mk hE8
  clear hE8
  have E9 := Aside0.mk hE9
  clear hE9
  have E11 := Aside0.mk hE11
  clear hE11
  have E13 := Aside0.mk hE13
  clear hE13
  have E14 := Aside0.mk hE14
  clear hE14
  have E15 := Aside0.mk hE15
  clear hE15
  have E17 := Aside0.mk hE17
  clear hE17
  have E18 := Aside0.mk hE18
  clear hE18
  have d_z3 : decide (z3 < 0) = false := decide_eq_false hz3_no
  clear hz3_no
  have d_z5 : decide (z5 < 0) = false := decide_eq_false hz5_no
  clear hz5_no
  have d_m44 : decide (m44 < 0) = false := decide_eq_false hm44_no
  clear hm44_no
  have d_m47 : decide (m47 < 0) = false := decide_eq_false hm47_no
  clear hm47_no
  have d_m51 : decide (m51 < 0) = false := decide_eq_false hm51_no
  clear hm51_no
  have b_ok17 : (ok17 != ok17) = false := by cases ok17 <;> rfl
  have HB := Aside0.mk (Below.refl w.heap.size w)
  obtain ⟨n0, hn0⟩ : ∃ n_, n_ = w.heap.size := ⟨_, rfl⟩
  have HZ := Aside0.mk (Nat.le_of_eq hn0 : n0 ≤ w.heap.size)
  clear hn0
  go_enter Try.func4, Try.ntmps4
  go_upto_region 14 with (first | ((with_reducible refine gate_dst (N := 2) rfl ?_); refine box_event ?hg (N := 2) ?hd (cs := #[.slice A0_0 l0_0.length c0_0]) (t := 24) ?hr ?_; (case hd => rfl); (case hg => rfl); (case hr => first | (go_simp; done) | (go_simp; rfl)); intro gb2 hg_ w3001 hbox hb; have mB_ := Aside0.mk (below_step (by (repeat (first | (with_reducible first | exact HB.out | apply below_alloc | apply pw_below_drewN | apply below_drew1) | exact HB.out))) hb); have mL_ := Aside0.mk (by (repeat (first | exact HZ.out | (with_reducible first | apply sz_alloc | apply sz_drewN | apply sz_drew | apply sz_set))) : n0 ≤ _); obtain ⟨n1, hn_⟩ : ∃ n_, n_ = w3001.heap.size := ⟨_, rfl⟩; have mN_ := Aside0.mk (by rw [hn_]; exact Nat.le_trans mL_.out hb.size : n0 ≤ n1); have mZ_ := Aside0.mk (Nat.le_of_eq hn_ : n1 ≤ w3001.heap.size); have xBK2_ := Aside0.mk (hbox); have xGE2_ := Aside0.mk (by rw [hg_]; exact below_size (by (repeat (first | (with_reducible first | exact HB.out | apply below_alloc | apply pw_below_drewN | apply below_drew1) | exact HB.out))) : w.heap.size ≤ gb2); have xHI2_ := Aside0.mk (⟨by rw [hg_]; exact mL_.out, by rw [hn_]; exact blk_lt hbox⟩ : n0 ≤ gb2 ∧ gb2 < n1); clear HB HZ; have HB := mB_; have HZ := mZ_; have HN1 := mN_; have BK2 := xBK2_; have GE2 := xGE2_; have HI2 := xHI2_; clear mB_ mN_ mZ_ mL_ xBK2_ xGE2_ xHI2_; (try clear hn_); clear hb hbox hg_; have hc2_0 := (blk_cell BK2.out 0).trans (show (#[.slice A0_0 l0_0.length c0_0] : Array Value)[0]? = some (.slice A0_0 l0_0.length c0_0) from rfl); have hf2_0 := blk_frozen BK2.out 0) | ((with_reducible refine gate_callee (f := 5) rfl ?_); refine goesL_ (some 19) rfl rfl Try.func5 (by kernel_rfl) rfl #[.agg #[.slice A0_0 l0_0.length c0_0], .int .i64 1048576] rfl (by (try simp only [List.map_toArray, List.map_cons, List.map_nil]); first | done | rfl) ?_; (with_reducible refine (laws_szMemory.calls k _ _ l0_0 1048576 z3 _ ?sr0 ?sc0 E1.out).mono ?_); (case sr0 => exact Kd.C_below HR0_0.out (by (repeat (first | (with_reducible first | exact HB.out | apply below_alloc | apply pw_below_drewN | apply below_drew1 | refine below_set ?_ GE2.out) | exact HB.out)))); (case sc0 => exact HC0_0.out); rintro e w1004 ⟨rfl, hb⟩; refine ⟨_, rfl, ?_⟩; have m0_ := Aside0.mk (blk_below (g := gb2) (o := .cells #[.slice A0_0 l0_0.length c0_0] 24 (0, 0)) (by ((with_reducible repeat (first | refine blk_drewN ?_ _ | refine blk_drew ?_ | refine blk_alloc ?_ _)); exact BK2.out)) hb); have mB_ := Aside0.mk (below_step (by (repeat (first | (with_reducible first | exact HB.out | apply below_alloc | apply pw_below_drewN | apply below_drew1 | refine below_set ?_ GE2.out) | exact HB.out))) hb); have mL_ := Aside0.mk (by (repeat (first | exact HZ.out | (with_reducible first | apply sz_alloc | apply sz_drewN | apply sz_drew | apply sz_set))) : n1 ≤ _); obtain ⟨n2, hn_⟩ : ∃ n_, n_ = w1004.heap.size := ⟨_, rfl⟩; have mN_ := Aside0.mk (by rw [hn_]; exact Nat.le_trans mL_.out hb.size : n1 ≤ n2); have mZ_ := Aside0.mk (Nat.le_of_eq hn_ : n2 ≤ w1004.heap.size); clear BK2 HB HZ; have BK2 := m0_; have HB := mB_; have HZ := mZ_; have HN2 := mN_; clear m0_ mB_ mN_ mZ_ mL_; (try clear hn_); clear hb) | ((with_reducible refine gate_callee (f := 6) rfl ?_); refine goesL_ (some 24) rfl rfl Try.func6 (by kernel_rfl) rfl #[.slice A1 l1.length c1, .int .i64 z3] rfl (by (try simp only [List.map_toArray, List.map_cons, List.map_nil]); first | done | rfl) ?_; (with_reducible refine (laws_szWindowS.calls _ _ l1 z3 z5 _ ?sr0 ?sc0 E2.out).mono ?_); (case sr0 => exact Kd.C_below HR1.out (by (repeat (first | (with_reducible first | exact HB.out | apply below_alloc | apply pw_below_drewN | apply below_drew1 | refine below_set ?_ GE2.out) | exact HB.out)))); (case sc0 => exact HC1.out); rintro e w1007 ⟨rfl, hd_⟩; have hb := hd_.below; clear hd_; refine ⟨_, rfl, ?_⟩; have m0_ := Aside0.mk (blk_below (g := gb2) (o := .cells #[.slice A0_0 l0_0.length c0_0] 24 (0, 0)) (by ((with_reducible repeat (first | refine blk_drewN ?_ _ | refine blk_drew ?_ | refine blk_alloc ?_ _)); exact BK2.out)) hb); have mB_ := Aside0.mk (below_step (by (repeat (first | (with_reducible first | exact HB.out | apply below_alloc | apply pw_below_drewN | apply below_drew1 | refine below_set ?_ GE2.out) | exact HB.out))) hb); have mL_ := Aside0.mk (by (repeat (first | exact HZ.out | (with_reducible first | apply sz_alloc | apply sz_drewN | apply sz_drew | apply sz_set))) : n2 ≤ _); obtain ⟨n3, hn_⟩ : ∃ n_, n_ = w1007.heap.size := ⟨_, rfl⟩; have mN_ := Aside0.mk (by rw [hn_]; exact Nat.le_trans mL_.out hb.size : n2 ≤ n3); have mZ_ := Aside0.mk (Nat.le_of_eq hn_ : n3 ≤ w1007.heap.size); clear BK2 HB HZ; have BK2 := m0_; have HB := mB_; have HZ := mZ_; have HN3 := mN_; clear m0_ mB_ mN_ mZ_ mL_; (try clear hn_); clear hb; have hc7_0 := (blk_cell BK2.out 0).trans (show (#[.slice A0_0 l0_0.length c0_0] : Array Value)[0]? = some (.slice A0_0 l0_0.length c0_0) from rfl); have hf7_0 := blk_frozen BK2.out 0) | ((with_reducible refine gate_callee (f := 8) rfl ?_); refine goesL_ (some 29) rfl rfl Try.func8 (by kernel_rfl) rfl #[.agg #[.slice A0_0 l0_0.length c0_0]] rfl (by (try simp only [List.map_toArray, List.map_cons, List.map_nil]); first | done | rfl) ?_; (with_reducible refine (laws_toMemory.calls k _ _ l0_0 t9 _ ?sr0 ?sc0 E3.out).mono ?_); (case sr0 => exact Kd.C_below HR0_0.out (by (repeat (first | (with_reducible first | exact HB.out | apply below_alloc | apply pw_below_drewN | apply below_drew1 | refine below_set ?_ GE2.out) | exact HB.out)))); (case sc0 => exact HC0_0.out); rintro e w1012 ⟨v3_0, rfl, ho0_, hb⟩; refine ⟨_, rfl, ?_⟩; have m0_ := Aside0.mk (blk_below (g := gb2) (o := .cells #[.slice A0_0 l0_0.length c0_0] 24 (0, 0)) (by ((with_reducible repeat (first | refine blk_drewN ?_ _ | refine blk_drew ?_ | refine blk_alloc ?_ _)); exact BK2.out)) hb); have mB_ := Aside0.mk (below_step (by (repeat (first | (with_reducible first | exact HB.out | apply below_alloc | apply pw_below_drewN | apply below_drew1 | refine below_set ?_ GE2.out) | exact HB.out))) hb); have mL_ := Aside0.mk (by (repeat (first | exact HZ.out | (with_reducible first | apply sz_alloc | apply sz_drewN | apply sz_drew | apply sz_set))) : n3 ≤ _); obtain ⟨n4, hn_⟩ : ∃ n_, n_ = w1012.heap.size := ⟨_, rfl⟩; have mN_ := Aside0.mk (by rw [hn_]; exact Nat.le_trans mL_.out hb.size : n3 ≤ n4); have mZ_ := Aside0.mk (Nat.le_of_eq hn_ : n4 ≤ w1012.heap.size); have xHO11_ := Aside0.mk (show Kd.S (Kd.slice 5 (Kd.int .u8)) 70 w1012 w.heap.size (fun k_ => n3 ≤ k_ ∧ k_ < n4) _ t9 from Kd.S_mono (Kd.S_lower (Kd.S_bound ho0_) (below_size (by (repeat (first | (with_reducible first | exact HB.out | apply below_alloc | apply pw_below_drewN | apply below_drew1 | refine below_set ?_ GE2.out) | exact HB.out))))) (fun k_ hk_ => ⟨Nat.le_trans mL_.out hk_.2.1, by rw [hn_]; exact hk_.2.2.1⟩)); clear BK2 HB HZ; have BK2 := m0_; have HB := mB_; have HZ := mZ_; have HN4 := mN_; have HO11 := xHO11_; clear m0_ mB_ mN_ mZ_ mL_ xHO11_; (try clear hn_); clear hb ho0_; obtain ⟨Ao11, co11, eo_⟩ := Kd.S_slice HO11.out; subst eo_) | ((with_reducible refine gate_callee (f := 9) rfl ?_); refine goesL_ (some 31) rfl rfl Try.func9 (by kernel_rfl) rfl #[.slice A1 l1.length c1] rfl (by (try simp only [List.map_toArray, List.map_cons, List.map_nil]); first | done | rfl) ?_; (with_reducible refine (laws_toWindowS.calls k _ _ l1 t13 _ ?sr0 ?sc0 E4.out).mono ?_); (case sr0 => exact Kd.C_below HR1.out (by (repeat (first | (with_reducible first | exact HB.out | apply below_alloc | apply pw_below_drewN | apply below_drew1 | refine below_set ?_ GE2.out) | exact HB.out)))); (case sc0 => exact HC1.out); rintro e w1017 ⟨v4_0, rfl, ho0_, hb⟩; refine ⟨_, rfl, ?_⟩; have m0_ := Aside0.mk (blk_below (g := gb2) (o := .cells #[.slice A0_0 l0_0.length c0_0] 24 (0, 0)) (by ((with_reducible repeat (first | refine blk_drewN ?_ _ | refine blk_drew ?_ | refine blk_alloc ?_ _)); exact BK2.out)) hb); have m1_ := Aside0.mk (Kd.S_below (by ((with_reducible repeat (first | apply Kd.S_alloc | apply Kd.S_drewN | apply Kd.S_drew)); exact HO11.out)) hb); have mB_ := Aside0.mk (below_step (by (repeat (first | (with_reducible first | exact HB.out | apply below_alloc | apply pw_below_drewN | apply below_drew1 | refine below_set ?_ GE2.out) | exact HB.out))) hb); have mL_ := Aside0.mk (by (repeat (first | exact HZ.out | (with_reducible first | apply sz_alloc | apply sz_drewN | apply sz_drew | apply sz_set))) : n4 ≤ _); obtain ⟨n5, hn_⟩ : ∃ n_, n_ = w1017.heap.size := ⟨_, rfl⟩; have mN_ := Aside0.mk (by rw [hn_]; exact Nat.le_trans mL_.out hb.size : n4 ≤ n5); have mZ_ := Aside0.mk (Nat.le_of_eq hn_ : n5 ≤ w1017.heap.size); have xHO15_ := Aside0.mk (show Kd.R k56 56 w1017 w.heap.size (fun k_ => n4 ≤ k_ ∧ k_ < n5) _ t13 from Kd.R_mono (Kd.R_lower (Kd.R_bound ho0_) (below_size (by (repeat (first | (with_reducible first | exact HB.out | apply below_alloc | apply pw_below_drewN | apply below_drew1 | refine below_set ?_ GE2.out) | exact HB.out))))) (fun k_ hk_ => ⟨Nat.le_trans mL_.out hk_.2.1, by rw [hn_]; exact hk_.2.2.1⟩)); clear BK2 HO11 HB HZ; have BK2 := m0_; have HO11 := m1_; have HB := mB_; have HZ := mZ_; have HN5 := mN_; have HO15 := xHO15_; clear m0_ m1_ mB_ mN_ mZ_ mL_ xHO15_; (try clear hn_); clear hb ho0_; obtain ⟨Ao15, co15, eo_⟩ := Kd.R_slice HO15.out; subst eo_) | ((with_reducible refine gate_callee (f := 18) rfl ?_); refine goesL_ (some 32) rfl rfl Try.func18 (by kernel_rfl) rfl #[.agg #[.slice Ao11 t9.length co11], .slice Ao15 t13.length co15] rfl (by (try simp only [List.map_toArray, List.map_cons, List.map_nil]); first | done | rfl) ?_; (with_reducible refine (spec_ShareGroups.calls k _ _ t9 _ _ t13 s18 ok17 _ ?sr0 ?sc0 ?sr1 ?sc1 E5.out).mono ?_); (case sr0 => repeat (first | exact (Kd.S_reads' HO11.out).2.2 | (with_reducible refine Kd.C_alloc ?_ _) | (with_reducible refine Kd.C_drewN ?_ _) | (with_reducible refine Kd.C_drew ?_))); (case sc0 => first | exact (Kd.S_reads' HO11.out).2.1 | exact Nat.le_trans (Nat.le_of_eq (Kd.S_reads' HO11.out).1.symm) (Kd.S_reads' HO11.out).2.1); (case sr1 => repeat (first | exact (Kd.R_reads' HO15.out).2.2 | (with_reducible refine Kd.C_alloc ?_ _) | (with_reducible refine Kd.C_drewN ?_ _) | (with_reducible refine Kd.C_drew ?_))); (case sc1 => first | exact (Kd.R_reads' HO15.out).2.1 | exact Nat.le_trans (Nat.le_of_eq (Kd.R_reads' HO15.out).1.symm) (Kd.R_reads' HO15.out).2.1); rintro e w1023 ⟨v5_0, rfl, ho0_, hb⟩; refine ⟨_, rfl, ?_⟩; have m0_ := Aside0.mk (blk_below (g := gb2) (o := .cells #[.slice A0_0 l0_0.length c0_0] 24 (0, 0)) (by ((with_reducible repeat (first | refine blk_drewN ?_ _ | refine blk_drew ?_ | refine blk_alloc ?_ _)); exact BK2.out)) hb); have m1_ := Aside0.mk (Kd.S_below (by ((with_reducible repeat (first | apply Kd.S_alloc | apply Kd.S_drewN | apply Kd.S_drew)); exact HO11.out)) hb); have m2_ := Aside0.mk (Kd.R_below (by ((with_reducible repeat (first | apply Kd.R_alloc | apply Kd.R_drewN | apply Kd.R_drew)); exact HO15.out)) hb); have mB_ := Aside0.mk (below_step (by (repeat (first | (with_reducible first | exact HB.out | apply below_alloc | apply pw_below_drewN | apply below_drew1 | refine below_set ?_ GE2.out) | exact HB.out))) hb); have mL_ := Aside0.mk (by (repeat (first | exact HZ.out | (with_reducible first | apply sz_alloc | apply sz_drewN | apply sz_drew | apply sz_set))) : n5 ≤ _); obtain ⟨n6, hn_⟩ : ∃ n_, n_ = w1023.heap.size := ⟨_, rfl⟩; have mN_ := Aside0.mk (by rw [hn_]; exact Nat.le_trans mL_.out hb.size : n5 ≤ n6); have mZ_ := Aside0.mk (Nat.le_of_eq hn_ : n6 ≤ w1023.heap.size); have xHO20_ := Aside0.mk (show Kd.S (Kd.slice 3 (Kd.int .i64)) 51 w1023 w.heap.size (fun k_ => n5 ≤ k_ ∧ k_ < n6) _ s18 from Kd.S_mono (Kd.S_lower (Kd.S_bound ho0_) (below_size (by (repeat (first | (with_reducible first | exact HB.out | apply below_alloc | apply pw_below_drewN | apply below_drew1 | refine below_set ?_ GE2.out) | exact HB.out))))) (fun k_ hk_ => ⟨Nat.le_trans mL_.out hk_.2.1, by rw [hn_]; exact hk_.2.2.1⟩)); clear BK2 HO11 HO15 HB HZ; have BK2 := m0_; have HO11 := m1_; have HO15 := m2_; have HB := mB_; have HZ := mZ_; have HN6 := mN_; have HO20 := xHO20_; clear m0_ m1_ m2_ mB_ mN_ mZ_ mL_ xHO20_; (try clear hn_); clear hb ho0_; obtain ⟨Ao20, co20, eo_⟩ := Kd.S_slice HO20.out; subst eo_; have hc21_0 := (blk_cell BK2.out 0).trans (show (#[.slice A0_0 l0_0.length c0_0] : Array Value)[0]? = some (.slice A0_0 l0_0.length c0_0) from rfl); have hf21_0 := blk_frozen BK2.out 0) | ((with_reducible refine gate_callee (f := 8) rfl ?_); refine goesL_ (some 36) rfl rfl Try.func8 (by kernel_rfl) rfl #[.agg #[.slice A0_0 l0_0.length c0_0]] rfl (by (try simp only [List.map_toArray, List.map_cons, List.map_nil]); first | done | rfl) ?_; (with_reducible refine (laws_toMemory.calls k _ _ l0_0 t9 _ ?sr0 ?sc0 E3.out).mono ?_); (case sr0 => exact Kd.C_below HR0_0.out (by (repeat (first | (with_reducible first | exact HB.out | apply below_alloc | apply pw_below_drewN | apply below_drew1 | refine below_set ?_ GE2.out) | exact HB.out)))); (case sc0 => exact HC0_0.out); rintro e w1028 ⟨v6_0, rfl, ho0_, hb⟩; refine ⟨_, rfl, ?_⟩; have m0_ := Aside0.mk (blk_below (g := gb2) (o := .cells #[.slice A0_0 l0_0.length c0_0] 24 (0, 0)) (by ((with_reducible repeat (first | refine blk_drewN ?_ _ | refine blk_drew ?_ | refine blk_alloc ?_ _)); exact BK2.out)) hb); have m1_ := Aside0.mk (Kd.S_below (by ((with_reducible repeat (first | apply Kd.S_alloc | apply Kd.S_drewN | apply Kd.S_drew)); exact HO11.out)) hb); have m2_ := Aside0.mk (Kd.R_below (by ((with_reducible repeat (first | apply Kd.R_alloc | apply Kd.R_drewN | apply Kd.R_drew)); exact HO15.out)) hb); have m3_ := Aside0.mk (Kd.S_below (by ((with_reducible repeat (first | apply Kd.S_alloc | apply Kd.S_drewN | apply Kd.S_drew)); exact HO20.out)) hb); have mB_ := Aside0.mk (below_step (by (repeat (first | (with_reducible first | exact HB.out | apply below_alloc | apply pw_below_drewN | apply below_drew1 | refine below_set ?_ GE2.out) | exact HB.out))) hb); have mL_ := Aside0.mk (by (repeat (first | exact HZ.out | (with_reducible first | apply sz_alloc | apply sz_drewN | apply sz_drew | apply sz_set))) : n6 ≤ _); obtain ⟨n7, hn_⟩ : ∃ n_, n_ = w1028.heap.size := ⟨_, rfl⟩; have mN_ := Aside0.mk (by rw [hn_]; exact Nat.le_trans mL_.out hb.size : n6 ≤ n7); have mZ_ := Aside0.mk (Nat.le_of_eq hn_ : n7 ≤ w1028.heap.size); have xHO24_ := Aside0.mk (show Kd.S (Kd.slice 5 (Kd.int .u8)) 70 w1028 w.heap.size (fun k_ => n6 ≤ k_ ∧ k_ < n7) _ t9 from Kd.S_mono (Kd.S_lower (Kd.S_bound ho0_) (below_size (by (repeat (first | (with_reducible first | exact HB.out | apply below_alloc | apply pw_below_drewN | apply below_drew1 | refine below_set ?_ GE2.out) | exact HB.out))))) (fun k_ hk_ => ⟨Nat.le_trans mL_.out hk_.2.1, by rw [hn_]; exact hk_.2.2.1⟩)); clear BK2 HO11 HO15 HO20 HB HZ; have BK2 := m0_; have HO11 := m1_; have HO15 := m2_; have HO20 := m3_; have HB := mB_; have HZ := mZ_; have HN7 := mN_; have HO24 := xHO24_; clear m0_ m1_ m2_ m3_ mB_ mN_ mZ_ mL_ xHO24_; (try clear hn_); clear hb ho0_; obtain ⟨Ao24, co24, eo_⟩ := Kd.S_slice HO24.out; subst eo_) | ((with_reducible refine gate_dst (N := 8) rfl ?_); refine box_event ?hg (N := 8) ?hd (cs := #[.slice none 0 0]) (t := 31) ?hr ?_; (case hd => rfl); (case hg => rfl); (case hr => first | (go_simp; done) | (go_simp; rfl)); intro gb8 hg_ w3025 hbox hb; have m0_ := Aside0.mk (blk_below (g := gb2) (o := .cells #[.slice A0_0 l0_0.length c0_0] 24 (0, 0)) (by ((with_reducible repeat (first | refine blk_drewN ?_ _ | refine blk_drew ?_ | refine blk_alloc ?_ _)); exact BK2.out)) hb); have m1_ := Aside0.mk (Kd.S_below (by ((with_reducible repeat (first | apply Kd.S_alloc | apply Kd.S_drewN | apply Kd.S_drew)); exact HO11.out)) hb); have m2_ := Aside0.mk (Kd.R_below (by ((with_reducible repeat (first | apply Kd.R_alloc | apply Kd.R_drewN | apply Kd.R_drew)); exact HO15.out)) hb); have m3_ := Aside0.mk (Kd.S_below (by ((with_reducible repeat (first | apply Kd.S_alloc | apply Kd.S_drewN | apply Kd.S_drew)); exact HO20.out)) hb); have m4_ := Aside0.mk (Kd.S_below (by ((with_reducible repeat (first | apply Kd.S_alloc | apply Kd.S_drewN | apply Kd.S_drew)); exact HO24.out)) hb); have mB_ := Aside0.mk (below_step (by (repeat (first | (with_reducible first | exact HB.out | apply below_alloc | apply pw_below_drewN | apply below_drew1 | refine below_set ?_ GE2.out) | exact HB.out))) hb); have mL_ := Aside0.mk (by (repeat (first | exact HZ.out | (with_reducible first | apply sz_alloc | apply sz_drewN | apply sz_drew | apply sz_set))) : n7 ≤ _); obtain ⟨n8, hn_⟩ : ∃ n_, n_ = w3025.heap.size := ⟨_, rfl⟩; have mN_ := Aside0.mk (by rw [hn_]; exact Nat.le_trans mL_.out hb.size : n7 ≤ n8); have mZ_ := Aside0.mk (Nat.le_of_eq hn_ : n8 ≤ w3025.heap.size); have xBK8_ := Aside0.mk (hbox); have xGE8_ := Aside0.mk (by rw [hg_]; exact below_size (by (repeat (first | (with_reducible first | exact HB.out | apply below_alloc | apply pw_below_drewN | apply below_drew1 | refine below_set ?_ GE2.out) | exact HB.out))) : w.heap.size ≤ gb8); have xHI8_ := Aside0.mk (⟨by rw [hg_]; exact mL_.out, by rw [hn_]; exact blk_lt hbox⟩ : n7 ≤ gb8 ∧ gb8 < n8); clear BK2 HO11 HO15 HO20 HO24 HB HZ; have BK2 := m0_; have HO11 := m1_; have HO15 := m2_; have HO20 := m3_; have HO24 := m4_; have HB := mB_; have HZ := mZ_; have HN8 := mN_; have BK8 := xBK8_; have GE8 := xGE8_; have HI8 := xHI8_; clear m0_ m1_ m2_ m3_ m4_ mB_ mN_ mZ_ mL_ xBK8_ xGE8_ xHI8_; (try clear hn_); clear hb hbox hg_; have hc26_0 := (blk_cell BK8.out 0).trans (show (#[.slice none 0 0] : Array Value)[0]? = some (.slice none 0 0) from rfl); have hf26_0 := blk_frozen BK8.out 0) | ((with_reducible refine gate_callee (f := 9) rfl ?_); refine goesL_ (some 38) rfl rfl Try.func9 (by kernel_rfl) rfl #[.slice A1 l1.length c1] rfl (by (try simp only [List.map_toArray, List.map_cons, List.map_nil]); first | done | rfl) ?_; (with_reducible refine (laws_toWindowS.calls k _ _ l1 t13 _ ?sr0 ?sc0 E4.out).mono ?_); (case sr0 => exact Kd.C_below HR1.out (by (repeat (first | (with_reducible first | exact HB.out | apply below_alloc | apply pw_below_drewN | apply below_drew1 | refine below_set ?_ GE2.out | refine below_set ?_ GE8.out) | exact HB.out)))); (case sc0 => exact HC1.out); rintro e w1034 ⟨v7_0, rfl, ho0_, hb⟩; refine ⟨_, rfl, ?_⟩; have m0_ := Aside0.mk (blk_below (g := gb2) (o := .cells #[.slice A0_0 l0_0.length c0_0] 24 (0, 0)) (by ((with_reducible repeat (first | refine blk_drewN ?_ _ | refine blk_drew ?_ | refine blk_alloc ?_ _)); refine blk_far ?_ (by show gb2 ≠ gb8; have h1_ := HI2.out; have h2_ := HI8.out; have q1_ := HN1.out; have q2_ := HN2.out; have q3_ := HN3.out; have q4_ := HN4.out; have q5_ := HN5.out; have q6_ := HN6.out; have q7_ := HN7.out; have q8_ := HN8.out; omega) _; (with_reducible repeat (first | refine blk_drewN ?_ _ | refine blk_drew ?_ | refine blk_alloc ?_ _)); exact BK2.out)) hb); have m1_ := Aside0.mk (blk_below (g := gb8) (o := .cells #[.slice Ao24 t9.length co24] 31 (0, 0)) (by ((with_reducible repeat (first | refine blk_drewN ?_ _ | refine blk_drew ?_ | refine blk_alloc ?_ _)); refine blk_put (cs := #[.slice none 0 0]) ?_ 0 _ rfl; (with_reducible repeat (first | refine blk_drewN ?_ _ | refine blk_drew ?_ | refine blk_alloc ?_ _)); exact BK8.out)) hb); have m2_ := Aside0.mk (Kd.S_below (by ((with_reducible repeat (first | apply Kd.S_alloc | apply Kd.S_drewN | apply Kd.S_drew)); exact Kd.S_far (p := ⟨gb8, 0, none⟩) HO11.out (fun k_ hk_ => by show k_ ≠ gb8; have h2_ := HI8.out; have h3_ : n3 ≤ k_ ∧ k_ < n4 := hk_; clear hk_; have q1_ := HN1.out; have q2_ := HN2.out; have q3_ := HN3.out; have q4_ := HN4.out; have q5_ := HN5.out; have q6_ := HN6.out; have q7_ := HN7.out; have q8_ := HN8.out; omega) _)) hb); have m3_ := Aside0.mk (Kd.R_below (by ((with_reducible repeat (first | apply Kd.R_alloc | apply Kd.R_drewN | apply Kd.R_drew)); exact Kd.R_far (p := ⟨gb8, 0, none⟩) HO15.out (fun k_ hk_ => by show k_ ≠ gb8; have h2_ := HI8.out; have h3_ : n4 ≤ k_ ∧ k_ < n5 := hk_; clear hk_; have q1_ := HN1.out; have q2_ := HN2.out; have q3_ := HN3.out; have q4_ := HN4.out; have q5_ := HN5.out; have q6_ := HN6.out; have q7_ := HN7.out; have q8_ := HN8.out; omega) _)) hb); have m4_ := Aside0.mk (Kd.S_below (by ((with_reducible repeat (first | apply Kd.S_alloc | apply Kd.S_drewN | apply Kd.S_drew)); exact Kd.S_far (p := ⟨gb8, 0, none⟩) HO20.out (fun k_ hk_ => by show k_ ≠ gb8; have h2_ := HI8.out; have h3_ : n5 ≤ k_ ∧ k_ < n6 := hk_; clear hk_; have q1_ := HN1.out; have q2_ := HN2.out; have q3_ := HN3.out; have q4_ := HN4.out; have q5_ := HN5.out; have q6_ := HN6.out; have q7_ := HN7.out; have q8_ := HN8.out; omega) _)) hb); have m5_ := Aside0.mk (Kd.S_below (by ((with_reducible repeat (first | apply Kd.S_alloc | apply Kd.S_drewN | apply Kd.S_drew)); exact Kd.S_far (p := ⟨gb8, 0, none⟩) HO24.out (fun k_ hk_ => by show k_ ≠ gb8; have h2_ := HI8.out; have h3_ : n6 ≤ k_ ∧ k_ < n7 := hk_; clear hk_; have q1_ := HN1.out; have q2_ := HN2.out; have q3_ := HN3.out; have q4_ := HN4.out; have q5_ := HN5.out; have q6_ := HN6.out; have q7_ := HN7.out; have q8_ := HN8.out; omega) _)) hb); have mB_ := Aside0.mk (below_step (by (repeat (first | (with_reducible first | exact HB.out | apply below_alloc | apply pw_below_drewN | apply below_drew1 | refine below_set ?_ GE2.out | refine below_set ?_ GE8.out) | exact HB.out))) hb); have mL_ := Aside0.mk (sz_set (p := ⟨gb8, 0, none⟩) (v := .slice Ao24 t9.length co24) HZ.out); obtain ⟨n9, hn_⟩ : ∃ n_, n_ = w1034.heap.size := ⟨_, rfl⟩; have mN_ := Aside0.mk (by rw [hn_]; exact Nat.le_trans mL_.out hb.size : n8 ≤ n9); have mZ_ := Aside0.mk (Nat.le_of_eq hn_ : n9 ≤ w1034.heap.size); have xHO29_ := Aside0.mk (show Kd.R k56 56 w1034 w.heap.size (fun k_ => n8 ≤ k_ ∧ k_ < n9) _ t13 from Kd.R_mono (Kd.R_lower (Kd.R_bound ho0_) (below_size (by (repeat (first | (with_reducible first | exact HB.out | apply below_alloc | apply pw_below_drewN | apply below_drew1 | refine below_set ?_ GE2.out | refine below_set ?_ GE8.out) | exact HB.out))))) (fun k_ hk_ => ⟨Nat.le_trans mL_.out hk_.2.1, by rw [hn_]; exact hk_.2.2.1⟩)); clear BK2 BK8 HO11 HO15 HO20 HO24 HB HZ; have BK2 := m0_; have BK8 := m1_; have HO11 := m2_; have HO15 := m3_; have HO20 := m4_; have HO24 := m5_; have HB := mB_; have HZ := mZ_; have HN9 := mN_; have HO29 := xHO29_; clear m0_ m1_ m2_ m3_ m4_ m5_ mB_ mN_ mZ_ mL_ xHO29_; (try clear hn_); clear hb ho0_; obtain ⟨Ao29, co29, eo_⟩ := Kd.R_slice HO29.out; subst eo_; have hc30_0 := (blk_cell BK8.out 0).trans (show (#[.slice Ao24 t9.length co24] : Array Value)[0]? = some (.slice Ao24 t9.length co24) from rfl); have hf30_0 := blk_frozen BK8.out 0) | ((with_reducible refine gate_callee (f := 19) rfl ?_); refine goesL_ (some 42) rfl rfl Try.func19 (by kernel_rfl) rfl #[.agg #[.slice Ao24 t9.length co24], .slice Ao29 t13.length co29] rfl (by (try simp only [List.map_toArray, List.map_cons, List.map_nil]); first | done | rfl) ?_; (with_reducible refine (impl_ShareGroups.calls k _ _ t9 _ _ t13 g16 ok17 _ ?sr0 ?sc0 ?sr1 ?sc1 E8.out).mono ?_); (case sr0 => repeat (first | exact (Kd.S_reads' HO24.out).2.2 | (with_reducible refine Kd.C_alloc ?_ _) | (with_reducible refine Kd.C_drewN ?_ _) | (with_reducible refine Kd.C_drew ?_))); (case sc0 => first | exact (Kd.S_reads' HO24.out).2.1 | exact Nat.le_trans (Nat.le_of_eq (Kd.S_reads' HO24.out).1.symm) (Kd.S_reads' HO24.out).2.1); (case sr1 => repeat (first | exact (Kd.R_reads' HO29.out).2.2 | (with_reducible refine Kd.C_alloc ?_ _) | (with_reducible refine Kd.C_drewN ?_ _) | (with_reducible refine Kd.C_drew ?_))); (case sc1 => first | exact (Kd.R_reads' HO29.out).2.1 | exact Nat.le_trans (Nat.le_of_eq (Kd.R_reads' HO29.out).1.symm) (Kd.R_reads' HO29.out).2.1); rintro e w1038 ⟨v8_0, rfl, ho0_, hb⟩; refine ⟨_, rfl, ?_⟩; have m0_ := Aside0.mk (blk_below (g := gb2) (o := .cells #[.slice A0_0 l0_0.length c0_0] 24 (0, 0)) (by ((with_reducible repeat (first | refine blk_drewN ?_ _ | refine blk_drew ?_ | refine blk_alloc ?_ _)); exact BK2.out)) hb); have m1_ := Aside0.mk (blk_below (g := gb8) (o := .cells #[.slice Ao24 t9.length co24] 31 (0, 0)) (by ((with_reducible repeat (first | refine blk_drewN ?_ _ | refine blk_drew ?_ | refine blk_alloc ?_ _)); exact BK8.out)) hb); have m2_ := Aside0.mk (Kd.S_below (by ((with_reducible repeat (first | apply Kd.S_alloc | apply Kd.S_drewN | apply Kd.S_drew)); exact HO11.out)) hb); have m3_ := Aside0.mk (Kd.R_below (by ((with_reducible repeat (first | apply Kd.R_alloc | apply Kd.R_drewN | apply Kd.R_drew)); exact HO15.out)) hb); have m4_ := Aside0.mk (Kd.S_below (by ((with_reducible repeat (first | apply Kd.S_alloc | apply Kd.S_drewN | apply Kd.S_drew)); exact HO20.out)) hb); have m5_ := Aside0.mk (Kd.S_below (by ((with_reducible repeat (first | apply Kd.S_alloc | apply Kd.S_drewN | apply Kd.S_drew)); exact HO24.out)) hb); have m6_ := Aside0.mk (Kd.R_below (by ((with_reducible repeat (first | apply Kd.R_alloc | apply Kd.R_drewN | apply Kd.R_drew)); exact HO29.out)) hb); have mB_ := Aside0.mk (below_step (by (repeat (first | (with_reducible first | exact HB.out | apply below_alloc | apply pw_below_drewN | apply below_drew1 | refine below_set ?_ GE2.out | refine below_set ?_ GE8.out) | exact HB.out))) hb); have mL_ := Aside0.mk (by (repeat (first | exact HZ.out | (with_reducible first | apply sz_alloc | apply sz_drewN | apply sz_drew | apply sz_set))) : n9 ≤ _); obtain ⟨n10, hn_⟩ : ∃ n_, n_ = w1038.heap.size := ⟨_, rfl⟩; have mN_ := Aside0.mk (by rw [hn_]; exact Nat.le_trans mL_.out hb.size : n9 ≤ n10); have mZ_ := Aside0.mk (Nat.le_of_eq hn_ : n10 ≤ w1038.heap.size); have xHO32_ := Aside0.mk (show Kd.S (Kd.slice 3 (Kd.int .i64)) 51 w1038 w.heap.size (fun k_ => n9 ≤ k_ ∧ k_ < n10) _ g16 from Kd.S_mono (Kd.S_lower (Kd.S_bound ho0_) (below_size (by (repeat (first | (with_reducible first | exact HB.out | apply below_alloc | apply pw_below_drewN | apply below_drew1 | refine below_set ?_ GE2.out | refine below_set ?_ GE8.out) | exact HB.out))))) (fun k_ hk_ => ⟨Nat.le_trans mL_.out hk_.2.1, by rw [hn_]; exact hk_.2.2.1⟩)); clear BK2 BK8 HO11 HO15 HO20 HO24 HO29 HB HZ; have BK2 := m0_; have BK8 := m1_; have HO11 := m2_; have HO15 := m3_; have HO20 := m4_; have HO24 := m5_; have HO29 := m6_; have HB := mB_; have HZ := mZ_; have HN10 := mN_; have HO32 := xHO32_; clear m0_ m1_ m2_ m3_ m4_ m5_ m6_ mB_ mN_ mZ_ mL_ xHO32_; (try clear hn_); clear hb ho0_; obtain ⟨Ao32, co32, eo_⟩ := Kd.S_slice HO32.out; subst eo_) | ((with_reducible refine gate_callee (f := 20) rfl ?_); refine goesL_ (some 47) rfl rfl Try.func20 (by kernel_rfl) rfl #[.slice Ao32 g16.length co32, .slice Ao20 s18.length co20] rfl (by (try simp only [List.map_toArray, List.map_cons, List.map_nil]); first | done | rfl) ?_; (with_reducible refine (laws_eqIntSS.calls k _ _ g16 _ _ s18 true _ ?sr0 ?sc0 ?sr1 ?sc1 E9.out).mono ?_); (case sr0 => repeat (first | exact (Kd.S_reads' HO32.out).2.2 | (with_reducible refine Kd.C_alloc ?_ _) | (with_reducible refine Kd.C_drewN ?_ _) | (with_reducible refine Kd.C_drew ?_))); (case sc0 => first | exact (Kd.S_reads' HO32.out).2.1 | exact Nat.le_trans (Nat.le_of_eq (Kd.S_reads' HO32.out).1.symm) (Kd.S_reads' HO32.out).2.1); (case sr1 => repeat (first | exact (Kd.S_reads' HO20.out).2.2 | (with_reducible refine Kd.C_alloc ?_ _) | (with_reducible refine Kd.C_drewN ?_ _) | (with_reducible refine Kd.C_drew ?_))); (case sc1 => first | exact (Kd.S_reads' HO20.out).2.1 | exact Nat.le_trans (Nat.le_of_eq (Kd.S_reads' HO20.out).1.symm) (Kd.S_reads' HO20.out).2.1); rintro e w1041 ⟨rfl, hd_⟩; have hb := hd_.below; clear hd_; refine ⟨_, rfl, ?_⟩; have m0_ := Aside0.mk (blk_below (g := gb2) (o := .cells #[.slice A0_0 l0_0.length c0_0] 24 (0, 0)) (by ((with_reducible repeat (first | refine blk_drewN ?_ _ | refine blk_drew ?_ | refine blk_alloc ?_ _)); exact BK2.out)) hb); have m1_ := Aside0.mk (blk_below (g := gb8) (o := .cells #[.slice Ao24 t9.length co24] 31 (0, 0)) (by ((with_reducible repeat (first | refine blk_drewN ?_ _ | refine blk_drew ?_ | refine blk_alloc ?_ _)); exact BK8.out)) hb); have m2_ := Aside0.mk (Kd.S_below (by ((with_reducible repeat (first | apply Kd.S_alloc | apply Kd.S_drewN | apply Kd.S_drew)); exact HO11.out)) hb); have m3_ := Aside0.mk (Kd.R_below (by ((with_reducible repeat (first | apply Kd.R_alloc | apply Kd.R_drewN | apply Kd.R_drew)); exact HO15.out)) hb); have m4_ := Aside0.mk (Kd.S_below (by ((with_reducible repeat (first | apply Kd.S_alloc | apply Kd.S_drewN | apply Kd.S_drew)); exact HO20.out)) hb); have m5_ := Aside0.mk (Kd.S_below (by ((with_reducible repeat (first | apply Kd.S_alloc | apply Kd.S_drewN | apply Kd.S_drew)); exact HO24.out)) hb); have m6_ := Aside0.mk (Kd.R_below (by ((with_reducible repeat (first | apply Kd.R_alloc | apply Kd.R_drewN | apply Kd.R_drew)); exact HO29.out)) hb); have m7_ := Aside0.mk (Kd.S_below (by ((with_reducible repeat (first | apply Kd.S_alloc | apply Kd.S_drewN | apply Kd.S_drew)); exact HO32.out)) hb); have mB_ := Aside0.mk (below_step (by (repeat (first | (with_reducible first | exact HB.out | apply below_alloc | apply pw_below_drewN | apply below_drew1 | refine below_set ?_ GE2.out | refine below_set ?_ GE8.out) | exact HB.out))) hb); have mL_ := Aside0.mk (by (repeat (first | exact HZ.out | (with_reducible first | apply sz_alloc | apply sz_drewN | apply sz_drew | apply sz_set))) : n10 ≤ _); obtain ⟨n11, hn_⟩ : ∃ n_, n_ = w1041.heap.size := ⟨_, rfl⟩; have mN_ := Aside0.mk (by rw [hn_]; exact Nat.le_trans mL_.out hb.size : n10 ≤ n11); have mZ_ := Aside0.mk (Nat.le_of_eq hn_ : n11 ≤ w1041.heap.size); clear BK2 BK8 HO11 HO15 HO20 HO24 HO29 HO32 HB HZ; have BK2 := m0_; have BK8 := m1_; have HO11 := m2_; have HO15 := m3_; have HO20 := m4_; have HO24 := m5_; have HO29 := m6_; have HO32 := m7_; have HB := mB_; have HZ := mZ_; have HN11 := mN_; clear m0_ m1_ m2_ m3_ m4_ m5_ m6_ m7_ mB_ mN_ mZ_ mL_; (try clear hn_); clear hb))
  try go_wp2
  have m0_ := Aside0.mk (show (World.drew w1041).heap[gb2]? = some (Obj.cells #[.slice A0_0 l0_0.length c0_0] 24 (0, 0)) from blk_drew (by ((with_reducible repeat (first | refine blk_drewN ?_ _ | refine blk_drew ?_ | refine blk_alloc ?_ _)); exact BK2.out)))
  have m1_ := Aside0.mk (show (World.drew w1041).heap[gb8]? = some (Obj.cells #[.slice Ao24 t9.length co24] 31 (0, 0)) from blk_drew (by ((with_reducible repeat (first | refine blk_drewN ?_ _ | refine blk_drew ?_ | refine blk_alloc ?_ _)); exact BK8.out)))
  have m2_ := Aside0.mk (show Kd.S (Kd.slice 5 (Kd.int .u8)) 70 w1041.drew w.heap.size (fun k_ => n3 ≤ k_ ∧ k_ < n4) (.slice Ao11 t9.length co11) t9 from Kd.S_drew (by ((with_reducible repeat (first | apply Kd.S_alloc | apply Kd.S_drewN | apply Kd.S_drew)); exact HO11.out)))
  have m3_ := Aside0.mk (show Kd.R k56 56 w1041.drew w.heap.size (fun k_ => n4 ≤ k_ ∧ k_ < n5) (.slice Ao15 t13.length co15) t13 from Kd.R_drew (by ((with_reducible repeat (first | apply Kd.R_alloc | apply Kd.R_drewN | apply Kd.R_drew)); exact HO15.out)))
  have m4_ := Aside0.mk (show Kd.S (Kd.slice 3 (Kd.int .i64)) 51 w1041.drew w.heap.size (fun k_ => n5 ≤ k_ ∧ k_ < n6) (.slice Ao20 s18.length co20) s18 from Kd.S_drew (by ((with_reducible repeat (first | apply Kd.S_alloc | apply Kd.S_drewN | apply Kd.S_drew)); exact HO20.out)))
  have m5_ := Aside0.mk (show Kd.S (Kd.slice 5 (Kd.int .u8)) 70 w1041.drew w.heap.size (fun k_ => n6 ≤ k_ ∧ k_ < n7) (.slice Ao24 t9.length co24) t9 from Kd.S_drew (by ((with_reducible repeat (first | apply Kd.S_alloc | apply Kd.S_drewN | apply Kd.S_drew)); exact HO24.out)))
  have m6_ := Aside0.mk (show Kd.R k56 56 w1041.drew w.heap.size (fun k_ => n8 ≤ k_ ∧ k_ < n9) (.slice Ao29 t13.length co29) t13 from Kd.R_drew (by ((with_reducible repeat (first | apply Kd.R_alloc | apply Kd.R_drewN | apply Kd.R_drew)); exact HO29.out)))
  have m7_ := Aside0.mk (show Kd.S (Kd.slice 3 (Kd.int .i64)) 51 w1041.drew w.heap.size (fun k_ => n9 ≤ k_ ∧ k_ < n10) (.slice Ao32 g16.length co32) g16 from Kd.S_drew (by ((with_reducible repeat (first | apply Kd.S_alloc | apply Kd.S_drewN | apply Kd.S_drew)); exact HO32.out)))
  have m8_ := Aside0.mk (show Below w.heap.size w w1041.drew from below_drew1 (by (repeat (first | (with_reducible first | exact HB.out | apply below_alloc | apply pw_below_drewN | apply below_drew1 | refine below_set ?_ GE2.out | refine below_set ?_ GE8.out) | exact HB.out))))
  have m9_ := Aside0.mk (show n11 ≤ w1041.drew.heap.size from sz_drew (by (repeat (first | exact HZ.out | (with_reducible first | apply sz_alloc | apply sz_drewN | apply sz_drew | apply sz_set)))))
  clear BK2 BK8 HO11 HO15 HO20 HO24 HO29 HO32 HB HZ
  have BK2 := m0_
  have BK8 := m1_
  have HO11 := m2_
  have HO15 := m3_
  have HO20 := m4_
  have HO24 := m5_
  have HO29 := m6_
  have HO32 := m7_
  have HB := m8_
  have HZ := m9_
  clear m0_ m1_ m2_ m3_ m4_ m5_ m6_ m7_ m8_ m9_
  refine start_ (n := 5) (S := fun w' => w'.cell? ⟨gb8, 0, none⟩ = some (.slice Ao24 t9.length co24) ∧ w'.cell? ⟨gb2, 0, none⟩ = some (.slice A0_0 l0_0.length c0_0)) (ds := []) #[false, false, false, false, false] (by kernel_rfl) rfl rfl ⟨(blk_cell BK8.out 0).trans rfl, (blk_cell BK2.out 0).trans rfl⟩ (fun hHeld => ?_)
  generalize w1041.drew = w2034 at BK2 BK8 HO11 HO15 HO20 HO24 HO29 HO32 HB HZ hHeld ⊢
  refine take_ (i := 0) (N := some 54) (v := ?_) (a' := ?_) #[true, false, false, false, false] rfl rfl (by kernel_rfl) (fun _ _ _ h => h) (Or.inl ⟨by rfl, ?_⟩) hHeld ?_ ?_
  rotate_left
  · rintro w' ⟨s0_, s1_⟩
    go_simp
    with_reducible rfl
  rotate_left
  · simp only [Act.put, List.setIfInBounds_toArray, List.set_cons_zero, List.set_cons_succ, i64_w, i32_w]
    rfl
  refine take_ (i := 1) (N := some 55) (v := ?_) (a' := ?_) #[true, true, false, false, false] rfl rfl (by kernel_rfl) (fun _ _ _ h => h) (Or.inl ⟨by rfl, ?_⟩) hHeld ?_ ?_
  rotate_left
  · rintro w' ⟨s0_, s1_⟩
    go_simp
    with_reducible rfl
  rotate_left
  · simp only [Act.put, List.setIfInBounds_toArray, List.set_cons_zero, List.set_cons_succ, i64_w, i32_w]
    rfl
  refine one_ (i := 2) (N := some 56) #[true, true, true, false, false] rfl rfl (by kernel_rfl) (by decide) (fun K hK => ?_)
  refine goes_ Try.func8 (by kernel_rfl) rfl #[.agg #[.slice A0_0 l0_0.length c0_0]] (by rfl) rfl rfl (by (try simp only [List.map_toArray, List.map_cons, List.map_nil]); first | done | rfl | (simp only [List.length_drop, List.length_take]; rfl)) ?_
  (with_reducible refine (laws_toMemory.calls k _ _ l0_0 t9 _ ?sr0 ?sc0 E3.out).mono ?_)
  (case sr0 => exact Kd.C_below HR0_0.out (by (repeat (first | (with_reducible first | exact HB.out | apply below_alloc | apply pw_below_drewN | apply below_drew1 | refine below_set ?_ GE2.out | refine below_set ?_ GE8.out) | exact HB.out))))
  (case sc0 => exact HC0_0.out)
  rintro e w1045 ⟨v10_0, rfl, ho0_, hb⟩
  refine ⟨_, rfl, ?_⟩
  have m0_ := Aside0.mk (blk_below (g := gb2) (o := .cells #[.slice A0_0 l0_0.length c0_0] 24 (0, 0)) (by ((with_reducible repeat (first | refine blk_drewN ?_ _ | refine blk_drew ?_ | refine blk_alloc ?_ _)); exact BK2.out)) hb)
  have m1_ := Aside0.mk (blk_below (g := gb8) (o := .cells #[.slice Ao24 t9.length co24] 31 (0, 0)) (by ((with_reducible repeat (first | refine blk_drewN ?_ _ | refine blk_drew ?_ | refine blk_alloc ?_ _)); exact BK8.out)) hb)
  have m2_ := Aside0.mk (Kd.S_below (by ((with_reducible repeat (first | apply Kd.S_alloc | apply Kd.S_drewN | apply Kd.S_drew)); exact HO11.out)) hb)
  have m3_ := Aside0.mk (Kd.R_below (by ((with_reducible repeat (first | apply Kd.R_alloc | apply Kd.R_drewN | apply Kd.R_drew)); exact HO15.out)) hb)
  have m4_ := Aside0.mk (Kd.S_below (by ((with_reducible repeat (first | apply Kd.S_alloc | apply Kd.S_drewN | apply Kd.S_drew)); exact HO20.out)) hb)
  have m5_ := Aside0.mk (Kd.S_below (by ((with_reducible repeat (first | apply Kd.S_alloc | apply Kd.S_drewN | apply Kd.S_drew)); exact HO24.out)) hb)
  have m6_ := Aside0.mk (Kd.R_below (by ((with_reducible repeat (first | apply Kd.R_alloc | apply Kd.R_drewN | apply Kd.R_drew)); exact HO29.out)) hb)
  have m7_ := Aside0.mk (Kd.S_below (by ((with_reducible repeat (first | apply Kd.S_alloc | apply Kd.S_drewN | apply Kd.S_drew)); exact HO32.out)) hb)
  have mB_ := Aside0.mk (below_step (by (repeat (first | (with_reducible first | exact HB.out | apply below_alloc | apply pw_below_drewN | apply below_drew1 | refine below_set ?_ GE2.out | refine below_set ?_ GE8.out) | exact HB.out))) hb)
  have mL_ := Aside0.mk (by (repeat (first | exact HZ.out | (with_reducible first | apply sz_alloc | apply sz_drewN | apply sz_drew | apply sz_set))) : n11 ≤ _)
  obtain ⟨n12, hn_⟩ : ∃ n_, n_ = w1045.heap.size := ⟨_, rfl⟩
  have mN_ := Aside0.mk (by rw [hn_]; exact Nat.le_trans mL_.out hb.size : n11 ≤ n12)
  have mZ_ := Aside0.mk (Nat.le_of_eq hn_ : n12 ≤ w1045.heap.size)
  have xHO37_ := Aside0.mk (show Kd.S (Kd.slice 5 (Kd.int .u8)) 70 w1045 w.heap.size (fun k_ => n11 ≤ k_ ∧ k_ < n12) _ t9 from Kd.S_mono (Kd.S_lower (Kd.S_bound ho0_) (below_size (by (repeat (first | (with_reducible first | exact HB.out | apply below_alloc | apply pw_below_drewN | apply below_drew1 | refine below_set ?_ GE2.out | refine below_set ?_ GE8.out) | exact HB.out))))) (fun k_ hk_ => ⟨Nat.le_trans mL_.out hk_.2.1, by rw [hn_]; exact hk_.2.2.1⟩))
  clear BK2 BK8 HO11 HO15 HO20 HO24 HO29 HO32 HB HZ
  have BK2 := m0_
  have BK8 := m1_
  have HO11 := m2_
  have HO15 := m3_
  have HO20 := m4_
  have HO24 := m5_
  have HO29 := m6_
  have HO32 := m7_
  have HB := mB_
  have HZ := mZ_
  have HN12 := mN_
  have HO37 := xHO37_
  clear m0_ m1_ m2_ m3_ m4_ m5_ m6_ m7_ mB_ mN_ mZ_ mL_ xHO37_
  (try clear hn_)
  clear hb ho0_
  obtain ⟨Ao37, co37, eo_⟩ := Kd.S_slice HO37.out; subst eo_
  refine hK.out _ _ ⟨(blk_cell BK8.out 0).trans rfl, (blk_cell BK2.out 0).trans rfl⟩ (fun hHeld => ?_)
  clear hK K
  refine norm_ (a' := ?_) ?_ ?_
  rotate_left
  · show Act.put _ (some 56) _ = _
    simp only [Act.put, List.setIfInBounds_toArray, List.set_cons_zero, List.set_cons_succ, i64_w, i32_w]
    rfl
  refine one_ (i := 3) (N := some 57) #[true, true, true, true, false] rfl rfl (by kernel_rfl) (by decide) (fun K hK => ?_)
  refine goes_ Try.func12 (by kernel_rfl) rfl #[.agg #[.slice Ao24 t9.length co24], .agg #[.slice Ao37 t9.length co37]] (by rfl) rfl rfl (by (try simp only [List.map_toArray, List.map_cons, List.map_nil]); first | done | rfl | (simp only [List.length_drop, List.length_take]; rfl)) ?_
  (with_reducible refine (laws_eqMemory.calls k _ _ t9 _ _ t9 true _ ?sr0 ?sc0 ?sr1 ?sc1 E11.out).mono ?_)
  (case sr0 => repeat (first | exact (Kd.S_reads' HO24.out).2.2 | (with_reducible refine Kd.C_alloc ?_ _) | (with_reducible refine Kd.C_drewN ?_ _) | (with_reducible refine Kd.C_drew ?_)))
  (case sc0 => first | exact (Kd.S_reads' HO24.out).2.1 | exact Nat.le_trans (Nat.le_of_eq (Kd.S_reads' HO24.out).1.symm) (Kd.S_reads' HO24.out).2.1)
  (case sr1 => repeat (first | exact (Kd.S_reads' HO37.out).2.2 | (with_reducible refine Kd.C_alloc ?_ _) | (with_reducible refine Kd.C_drewN ?_ _) | (with_reducible refine Kd.C_drew ?_)))
  (case sc1 => first | exact (Kd.S_reads' HO37.out).2.1 | exact Nat.le_trans (Nat.le_of_eq (Kd.S_reads' HO37.out).1.symm) (Kd.S_reads' HO37.out).2.1)
  rintro e w1048 ⟨rfl, hb⟩
  refine ⟨_, rfl, ?_⟩
  have m0_ := Aside0.mk (blk_below (g := gb2) (o := .cells #[.slice A0_0 l0_0.length c0_0] 24 (0, 0)) (by ((with_reducible repeat (first | refine blk_drewN ?_ _ | refine blk_drew ?_ | refine blk_alloc ?_ _)); exact BK2.out)) hb)
  have m1_ := Aside0.mk (blk_below (g := gb8) (o := .cells #[.slice Ao24 t9.length co24] 31 (0, 0)) (by ((with_reducible repeat (first | refine blk_drewN ?_ _ | refine blk_drew ?_ | refine blk_alloc ?_ _)); exact BK8.out)) hb)
  have m2_ := Aside0.mk (Kd.S_below (by ((with_reducible repeat (first | apply Kd.S_alloc | apply Kd.S_drewN | apply Kd.S_drew)); exact HO11.out)) hb)
  have m3_ := Aside0.mk (Kd.R_below (by ((with_reducible repeat (first | apply Kd.R_alloc | apply Kd.R_drewN | apply Kd.R_drew)); exact HO15.out)) hb)
  have m4_ := Aside0.mk (Kd.S_below (by ((with_reducible repeat (first | apply Kd.S_alloc | apply Kd.S_drewN | apply Kd.S_drew)); exact HO20.out)) hb)
  have m5_ := Aside0.mk (Kd.S_below (by ((with_reducible repeat (first | apply Kd.S_alloc | apply Kd.S_drewN | apply Kd.S_drew)); exact HO24.out)) hb)
  have m6_ := Aside0.mk (Kd.R_below (by ((with_reducible repeat (first | apply Kd.R_alloc | apply Kd.R_drewN | apply Kd.R_drew)); exact HO29.out)) hb)
  have m7_ := Aside0.mk (Kd.S_below (by ((with_reducible repeat (first | apply Kd.S_alloc | apply Kd.S_drewN | apply Kd.S_drew)); exact HO32.out)) hb)
  have m8_ := Aside0.mk (Kd.S_below (by ((with_reducible repeat (first | apply Kd.S_alloc | apply Kd.S_drewN | apply Kd.S_drew)); exact HO37.out)) hb)
  have mB_ := Aside0.mk (below_step (by (repeat (first | (with_reducible first | exact HB.out | apply below_alloc | apply pw_below_drewN | apply below_drew1 | refine below_set ?_ GE2.out | refine below_set ?_ GE8.out) | exact HB.out))) hb)
  have mL_ := Aside0.mk (by (repeat (first | exact HZ.out | (with_reducible first | apply sz_alloc | apply sz_drewN | apply sz_drew | apply sz_set))) : n12 ≤ _)
  obtain ⟨n13, hn_⟩ : ∃ n_, n_ = w1048.heap.size := ⟨_, rfl⟩
  have mN_ := Aside0.mk (by rw [hn_]; exact Nat.le_trans mL_.out hb.size : n12 ≤ n13)
  have mZ_ := Aside0.mk (Nat.le_of_eq hn_ : n13 ≤ w1048.heap.size)
  clear BK2 BK8 HO11 HO15 HO20 HO24 HO29 HO32 HO37 HB HZ
  have BK2 := m0_
  have BK8 := m1_
  have HO11 := m2_
  have HO15 := m3_
  have HO20 := m4_
  have HO24 := m5_
  have HO29 := m6_
  have HO32 := m7_
  have HO37 := m8_
  have HB := mB_
  have HZ := mZ_
  have HN13 := mN_
  clear m0_ m1_ m2_ m3_ m4_ m5_ m6_ m7_ m8_ mB_ mN_ mZ_ mL_
  (try clear hn_)
  clear hb
  refine hK.out _ _ ⟨(blk_cell BK8.out 0).trans rfl, (blk_cell BK2.out 0).trans rfl⟩ (fun hHeld => ?_)
  clear hK K
  refine norm_ (a' := ?_) ?_ ?_
  rotate_left
  · show Act.put _ (some 57) _ = _
    simp only [Act.put, List.setIfInBounds_toArray, List.set_cons_zero, List.set_cons_succ, i64_w, i32_w]
    rfl
  refine pure_ (i := 4) (N := some 58) (v := ?_) (a' := ?_) #[true, true, true, true, true] rfl rfl (by kernel_rfl) (fun _ _ _ h => h) (Or.inl ⟨by rfl, ?_⟩) ?_ ?_
  rotate_left
  · intro w'
    go_simp
    with_reducible rfl
  rotate_left
  · simp only [Act.put, List.setIfInBounds_toArray, List.set_cons_zero, List.set_cons_succ, i64_w, i32_w]
    rfl
  refine done_ (by kernel_rfl) ?_
  go_wp2_with (first | ((with_reducible refine gate_callee (f := 9) rfl ?_); refine goesL_ (some 61) rfl rfl Try.func9 (by kernel_rfl) rfl #[.slice A1 l1.length c1] rfl (by (try simp only [List.map_toArray, List.map_cons, List.map_nil]); first | done | rfl) ?_; (with_reducible refine (laws_toWindowS.calls k _ _ l1 t13 _ ?sr0 ?sc0 E4.out).mono ?_); (case sr0 => exact Kd.C_below HR1.out (by (repeat (first | (with_reducible first | exact HB.out | apply below_alloc | apply pw_below_drewN | apply below_drew1 | refine below_set ?_ GE2.out | refine below_set ?_ GE8.out) | exact HB.out)))); (case sc0 => exact HC1.out); rintro e w1051 ⟨v12_0, rfl, ho0_, hb⟩; refine ⟨_, rfl, ?_⟩; have m0_ := Aside0.mk (blk_below (g := gb2) (o := .cells #[.slice A0_0 l0_0.length c0_0] 24 (0, 0)) (by ((with_reducible repeat (first | refine blk_drewN ?_ _ | refine blk_drew ?_ | refine blk_alloc ?_ _)); exact BK2.out)) hb); have m1_ := Aside0.mk (blk_below (g := gb8) (o := .cells #[.slice Ao24 t9.length co24] 31 (0, 0)) (by ((with_reducible repeat (first | refine blk_drewN ?_ _ | refine blk_drew ?_ | refine blk_alloc ?_ _)); exact BK8.out)) hb); have m2_ := Aside0.mk (Kd.S_below (by ((with_reducible repeat (first | apply Kd.S_alloc | apply Kd.S_drewN | apply Kd.S_drew)); exact HO11.out)) hb); have m3_ := Aside0.mk (Kd.R_below (by ((with_reducible repeat (first | apply Kd.R_alloc | apply Kd.R_drewN | apply Kd.R_drew)); exact HO15.out)) hb); have m4_ := Aside0.mk (Kd.S_below (by ((with_reducible repeat (first | apply Kd.S_alloc | apply Kd.S_drewN | apply Kd.S_drew)); exact HO20.out)) hb); have m5_ := Aside0.mk (Kd.S_below (by ((with_reducible repeat (first | apply Kd.S_alloc | apply Kd.S_drewN | apply Kd.S_drew)); exact HO24.out)) hb); have m6_ := Aside0.mk (Kd.R_below (by ((with_reducible repeat (first | apply Kd.R_alloc | apply Kd.R_drewN | apply Kd.R_drew)); exact HO29.out)) hb); have m7_ := Aside0.mk (Kd.S_below (by ((with_reducible repeat (first | apply Kd.S_alloc | apply Kd.S_drewN | apply Kd.S_drew)); exact HO32.out)) hb); have m8_ := Aside0.mk (Kd.S_below (by ((with_reducible repeat (first | apply Kd.S_alloc | apply Kd.S_drewN | apply Kd.S_drew)); exact HO37.out)) hb); have mB_ := Aside0.mk (below_step (by (repeat (first | (with_reducible first | exact HB.out | apply below_alloc | apply pw_below_drewN | apply below_drew1 | refine below_set ?_ GE2.out | refine below_set ?_ GE8.out) | exact HB.out))) hb); have mL_ := Aside0.mk (by (repeat (first | exact HZ.out | (with_reducible first | apply sz_alloc | apply sz_drewN | apply sz_drew | apply sz_set))) : n13 ≤ _); obtain ⟨n14, hn_⟩ : ∃ n_, n_ = w1051.heap.size := ⟨_, rfl⟩; have mN_ := Aside0.mk (by rw [hn_]; exact Nat.le_trans mL_.out hb.size : n13 ≤ n14); have mZ_ := Aside0.mk (Nat.le_of_eq hn_ : n14 ≤ w1051.heap.size); have xHO41_ := Aside0.mk (show Kd.R k56 56 w1051 w.heap.size (fun k_ => n13 ≤ k_ ∧ k_ < n14) _ t13 from Kd.R_mono (Kd.R_lower (Kd.R_bound ho0_) (below_size (by (repeat (first | (with_reducible first | exact HB.out | apply below_alloc | apply pw_below_drewN | apply below_drew1 | refine below_set ?_ GE2.out | refine below_set ?_ GE8.out) | exact HB.out))))) (fun k_ hk_ => ⟨Nat.le_trans mL_.out hk_.2.1, by rw [hn_]; exact hk_.2.2.1⟩)); clear BK2 BK8 HO11 HO15 HO20 HO24 HO29 HO32 HO37 HB HZ; have BK2 := m0_; have BK8 := m1_; have HO11 := m2_; have HO15 := m3_; have HO20 := m4_; have HO24 := m5_; have HO29 := m6_; have HO32 := m7_; have HO37 := m8_; have HB := mB_; have HZ := mZ_; have HN14 := mN_; have HO41 := xHO41_; clear m0_ m1_ m2_ m3_ m4_ m5_ m6_ m7_ m8_ mB_ mN_ mZ_ mL_ xHO41_; (try clear hn_); clear hb ho0_; obtain ⟨Ao41, co41, eo_⟩ := Kd.R_slice HO41.out; subst eo_) | ((with_reducible refine gate_callee (f := 13) rfl ?_); refine goesL_ (some 62) rfl rfl Try.func13 (by kernel_rfl) rfl #[.slice Ao29 t13.length co29, .slice Ao41 t13.length co41] rfl (by (try simp only [List.map_toArray, List.map_cons, List.map_nil]); first | done | rfl) ?_; (with_reducible refine (laws_eqWindowS.calls k _ _ t13 _ _ t13 true _ ?sr0 ?sc0 ?sr1 ?sc1 E13.out).mono ?_); (case sr0 => repeat (first | exact (Kd.R_reads' HO29.out).2.2 | (with_reducible refine Kd.C_alloc ?_ _) | (with_reducible refine Kd.C_drewN ?_ _) | (with_reducible refine Kd.C_drew ?_))); (case sc0 => first | exact (Kd.R_reads' HO29.out).2.1 | exact Nat.le_trans (Nat.le_of_eq (Kd.R_reads' HO29.out).1.symm) (Kd.R_reads' HO29.out).2.1); (case sr1 => repeat (first | exact (Kd.R_reads' HO41.out).2.2 | (with_reducible refine Kd.C_alloc ?_ _) | (with_reducible refine Kd.C_drewN ?_ _) | (with_reducible refine Kd.C_drew ?_))); (case sc1 => first | exact (Kd.R_reads' HO41.out).2.1 | exact Nat.le_trans (Nat.le_of_eq (Kd.R_reads' HO41.out).1.symm) (Kd.R_reads' HO41.out).2.1); rintro e w1054 ⟨rfl, hb⟩; refine ⟨_, rfl, ?_⟩; have m0_ := Aside0.mk (blk_below (g := gb2) (o := .cells #[.slice A0_0 l0_0.length c0_0] 24 (0, 0)) (by ((with_reducible repeat (first | refine blk_drewN ?_ _ | refine blk_drew ?_ | refine blk_alloc ?_ _)); exact BK2.out)) hb); have m1_ := Aside0.mk (blk_below (g := gb8) (o := .cells #[.slice Ao24 t9.length co24] 31 (0, 0)) (by ((with_reducible repeat (first | refine blk_drewN ?_ _ | refine blk_drew ?_ | refine blk_alloc ?_ _)); exact BK8.out)) hb); have m2_ := Aside0.mk (Kd.S_below (by ((with_reducible repeat (first | apply Kd.S_alloc | apply Kd.S_drewN | apply Kd.S_drew)); exact HO11.out)) hb); have m3_ := Aside0.mk (Kd.R_below (by ((with_reducible repeat (first | apply Kd.R_alloc | apply Kd.R_drewN | apply Kd.R_drew)); exact HO15.out)) hb); have m4_ := Aside0.mk (Kd.S_below (by ((with_reducible repeat (first | apply Kd.S_alloc | apply Kd.S_drewN | apply Kd.S_drew)); exact HO20.out)) hb); have m5_ := Aside0.mk (Kd.S_below (by ((with_reducible repeat (first | apply Kd.S_alloc | apply Kd.S_drewN | apply Kd.S_drew)); exact HO24.out)) hb); have m6_ := Aside0.mk (Kd.R_below (by ((with_reducible repeat (first | apply Kd.R_alloc | apply Kd.R_drewN | apply Kd.R_drew)); exact HO29.out)) hb); have m7_ := Aside0.mk (Kd.S_below (by ((with_reducible repeat (first | apply Kd.S_alloc | apply Kd.S_drewN | apply Kd.S_drew)); exact HO32.out)) hb); have m8_ := Aside0.mk (Kd.S_below (by ((with_reducible repeat (first | apply Kd.S_alloc | apply Kd.S_drewN | apply Kd.S_drew)); exact HO37.out)) hb); have m9_ := Aside0.mk (Kd.R_below (by ((with_reducible repeat (first | apply Kd.R_alloc | apply Kd.R_drewN | apply Kd.R_drew)); exact HO41.out)) hb); have mB_ := Aside0.mk (below_step (by (repeat (first | (with_reducible first | exact HB.out | apply below_alloc | apply pw_below_drewN | apply below_drew1 | refine below_set ?_ GE2.out | refine below_set ?_ GE8.out) | exact HB.out))) hb); have mL_ := Aside0.mk (by (repeat (first | exact HZ.out | (with_reducible first | apply sz_alloc | apply sz_drewN | apply sz_drew | apply sz_set))) : n14 ≤ _); obtain ⟨n15, hn_⟩ : ∃ n_, n_ = w1054.heap.size := ⟨_, rfl⟩; have mN_ := Aside0.mk (by rw [hn_]; exact Nat.le_trans mL_.out hb.size : n14 ≤ n15); have mZ_ := Aside0.mk (Nat.le_of_eq hn_ : n15 ≤ w1054.heap.size); clear BK2 BK8 HO11 HO15 HO20 HO24 HO29 HO32 HO37 HO41 HB HZ; have BK2 := m0_; have BK8 := m1_; have HO11 := m2_; have HO15 := m3_; have HO20 := m4_; have HO24 := m5_; have HO29 := m6_; have HO32 := m7_; have HO37 := m8_; have HO41 := m9_; have HB := mB_; have HZ := mZ_; have HN15 := mN_; clear m0_ m1_ m2_ m3_ m4_ m5_ m6_ m7_ m8_ m9_ mB_ mN_ mZ_ mL_; (try clear hn_); clear hb; have hc43_0 := (blk_cell BK8.out 0).trans (show (#[.slice Ao24 t9.length co24] : Array Value)[0]? = some (.slice Ao24 t9.length co24) from rfl); have hf43_0 := blk_frozen BK8.out 0) | ((with_reducible refine gate_callee (f := 14) rfl ?_); refine goesL_ (some 66) rfl rfl Try.func14 (by kernel_rfl) rfl #[.agg #[.slice Ao24 t9.length co24], .int .i64 1] rfl (by (try simp only [List.map_toArray, List.map_cons, List.map_nil]); first | done | rfl) ?_; (with_reducible refine (laws_markMemory.calls k (fun k_ => n6 ≤ k_ ∧ k_ < n7) _ t9 1 m44 y45 w _ ?sideB ?sideO E14.out).mono ?_); (case sideB => exact (by (repeat (first | (with_reducible first | exact HB.out | apply below_alloc | apply pw_below_drewN | apply below_drew1 | refine below_set ?_ GE2.out | refine below_set ?_ GE8.out) | exact HB.out)))); (case sideO => exact (by ((with_reducible repeat (first | apply Kd.S_alloc | apply Kd.S_drewN | apply Kd.S_drew)); exact HO24.out))); rintro e w1059 ⟨rfl, ho_, hb2_, hk⟩; refine ⟨_, rfl, ?_⟩; have m0_ := Aside0.mk (blk_kept (g := gb2) (o := .cells #[.slice A0_0 l0_0.length c0_0] 24 (0, 0)) (by ((with_reducible repeat (first | refine blk_drewN ?_ _ | refine blk_drew ?_ | refine blk_alloc ?_ _)); exact BK2.out)) hk (fun h_ => by have h1_ := HI2.out; have q1_ := HN1.out; have q2_ := HN2.out; have q3_ := HN3.out; have q4_ := HN4.out; have q5_ := HN5.out; have q6_ := HN6.out; have q7_ := HN7.out; have q8_ := HN8.out; have q9_ := HN9.out; have q10_ := HN10.out; have q11_ := HN11.out; have q12_ := HN12.out; have q13_ := HN13.out; have q14_ := HN14.out; have q15_ := HN15.out; omega)); have m1_ := Aside0.mk (blk_kept (g := gb8) (o := .cells #[.slice Ao24 t9.length co24] 31 (0, 0)) (by ((with_reducible repeat (first | refine blk_drewN ?_ _ | refine blk_drew ?_ | refine blk_alloc ?_ _)); exact BK8.out)) hk (fun h_ => by have h1_ := HI8.out; have q1_ := HN1.out; have q2_ := HN2.out; have q3_ := HN3.out; have q4_ := HN4.out; have q5_ := HN5.out; have q6_ := HN6.out; have q7_ := HN7.out; have q8_ := HN8.out; have q9_ := HN9.out; have q10_ := HN10.out; have q11_ := HN11.out; have q12_ := HN12.out; have q13_ := HN13.out; have q14_ := HN14.out; have q15_ := HN15.out; omega)); have m2_ := Aside0.mk (Kd.S_kept (by ((with_reducible repeat (first | apply Kd.S_alloc | apply Kd.S_drewN | apply Kd.S_drew)); exact HO11.out)) hk (fun k_ h1_ h2_ => by have q1_ := HN1.out; have q2_ := HN2.out; have q3_ := HN3.out; have q4_ := HN4.out; have q5_ := HN5.out; have q6_ := HN6.out; have q7_ := HN7.out; have q8_ := HN8.out; have q9_ := HN9.out; have q10_ := HN10.out; have q11_ := HN11.out; have q12_ := HN12.out; have q13_ := HN13.out; have q14_ := HN14.out; have q15_ := HN15.out; omega)); have m3_ := Aside0.mk (Kd.R_kept (by ((with_reducible repeat (first | apply Kd.R_alloc | apply Kd.R_drewN | apply Kd.R_drew)); exact HO15.out)) hk (fun k_ h1_ h2_ => by have q1_ := HN1.out; have q2_ := HN2.out; have q3_ := HN3.out; have q4_ := HN4.out; have q5_ := HN5.out; have q6_ := HN6.out; have q7_ := HN7.out; have q8_ := HN8.out; have q9_ := HN9.out; have q10_ := HN10.out; have q11_ := HN11.out; have q12_ := HN12.out; have q13_ := HN13.out; have q14_ := HN14.out; have q15_ := HN15.out; omega)); have m4_ := Aside0.mk (Kd.S_kept (by ((with_reducible repeat (first | apply Kd.S_alloc | apply Kd.S_drewN | apply Kd.S_drew)); exact HO20.out)) hk (fun k_ h1_ h2_ => by have q1_ := HN1.out; have q2_ := HN2.out; have q3_ := HN3.out; have q4_ := HN4.out; have q5_ := HN5.out; have q6_ := HN6.out; have q7_ := HN7.out; have q8_ := HN8.out; have q9_ := HN9.out; have q10_ := HN10.out; have q11_ := HN11.out; have q12_ := HN12.out; have q13_ := HN13.out; have q14_ := HN14.out; have q15_ := HN15.out; omega)); have m5_ := Aside0.mk (Kd.R_kept (by ((with_reducible repeat (first | apply Kd.R_alloc | apply Kd.R_drewN | apply Kd.R_drew)); exact HO29.out)) hk (fun k_ h1_ h2_ => by have q1_ := HN1.out; have q2_ := HN2.out; have q3_ := HN3.out; have q4_ := HN4.out; have q5_ := HN5.out; have q6_ := HN6.out; have q7_ := HN7.out; have q8_ := HN8.out; have q9_ := HN9.out; have q10_ := HN10.out; have q11_ := HN11.out; have q12_ := HN12.out; have q13_ := HN13.out; have q14_ := HN14.out; have q15_ := HN15.out; omega)); have m6_ := Aside0.mk (Kd.S_kept (by ((with_reducible repeat (first | apply Kd.S_alloc | apply Kd.S_drewN | apply Kd.S_drew)); exact HO32.out)) hk (fun k_ h1_ h2_ => by have q1_ := HN1.out; have q2_ := HN2.out; have q3_ := HN3.out; have q4_ := HN4.out; have q5_ := HN5.out; have q6_ := HN6.out; have q7_ := HN7.out; have q8_ := HN8.out; have q9_ := HN9.out; have q10_ := HN10.out; have q11_ := HN11.out; have q12_ := HN12.out; have q13_ := HN13.out; have q14_ := HN14.out; have q15_ := HN15.out; omega)); have m7_ := Aside0.mk (Kd.S_kept (by ((with_reducible repeat (first | apply Kd.S_alloc | apply Kd.S_drewN | apply Kd.S_drew)); exact HO37.out)) hk (fun k_ h1_ h2_ => by have q1_ := HN1.out; have q2_ := HN2.out; have q3_ := HN3.out; have q4_ := HN4.out; have q5_ := HN5.out; have q6_ := HN6.out; have q7_ := HN7.out; have q8_ := HN8.out; have q9_ := HN9.out; have q10_ := HN10.out; have q11_ := HN11.out; have q12_ := HN12.out; have q13_ := HN13.out; have q14_ := HN14.out; have q15_ := HN15.out; omega)); have m8_ := Aside0.mk (Kd.R_kept (by ((with_reducible repeat (first | apply Kd.R_alloc | apply Kd.R_drewN | apply Kd.R_drew)); exact HO41.out)) hk (fun k_ h1_ h2_ => by have q1_ := HN1.out; have q2_ := HN2.out; have q3_ := HN3.out; have q4_ := HN4.out; have q5_ := HN5.out; have q6_ := HN6.out; have q7_ := HN7.out; have q8_ := HN8.out; have q9_ := HN9.out; have q10_ := HN10.out; have q11_ := HN11.out; have q12_ := HN12.out; have q13_ := HN13.out; have q14_ := HN14.out; have q15_ := HN15.out; omega)); have mO_ := Aside0.mk (show Kd.S (Kd.slice 5 (Kd.int .u8)) 70 w1059 w.heap.size (fun k_ => n6 ≤ k_ ∧ k_ < n7) (.slice Ao24 t9.length co24) y45 from ho_); have mL_ := Aside0.mk (by (repeat (first | exact HZ.out | (with_reducible first | apply sz_alloc | apply sz_drewN | apply sz_drew | apply sz_set))) : n15 ≤ _); have mZ_ := Aside0.mk (Nat.le_trans mL_.out hk.1 : n15 ≤ w1059.heap.size); have mB_ := Aside0.mk hb2_; clear BK2 BK8 HO11 HO15 HO20 HO29 HO32 HO37 HO41 HB HZ HO24; have BK2 := m0_; have BK8 := m1_; have HO11 := m2_; have HO15 := m3_; have HO20 := m4_; have HO29 := m5_; have HO32 := m6_; have HO37 := m7_; have HO41 := m8_; have HO24 := mO_; have HB := mB_; have HZ := mZ_; clear m0_ m1_ m2_ m3_ m4_ m5_ m6_ m7_ m8_ mO_ mB_ mZ_ mL_; clear ho_ hb2_ hk) | ((with_reducible refine gate_callee (f := 15) rfl ?_); refine goesL_ (some 69) rfl rfl Try.func15 (by kernel_rfl) rfl #[.slice Ao29 t13.length co29, .int .i64 m44] rfl (by (try simp only [List.map_toArray, List.map_cons, List.map_nil]); first | done | rfl) ?_; (with_reducible refine (laws_markWindowS.calls k (fun k_ => n8 ≤ k_ ∧ k_ < n9) _ t13 m44 m47 y48 w _ ?sideB ?sideO E15.out).mono ?_); (case sideB => exact (by (repeat (first | (with_reducible first | exact HB.out | apply below_alloc | apply pw_below_drewN | apply below_drew1 | refine below_set ?_ GE2.out | refine below_set ?_ GE8.out) | exact HB.out)))); (case sideO => exact (by ((with_reducible repeat (first | apply Kd.R_alloc | apply Kd.R_drewN | apply Kd.R_drew)); exact HO29.out))); rintro e w1063 ⟨rfl, ho_, hb2_, hk⟩; refine ⟨_, rfl, ?_⟩; have m0_ := Aside0.mk (blk_kept (g := gb2) (o := .cells #[.slice A0_0 l0_0.length c0_0] 24 (0, 0)) (by ((with_reducible repeat (first | refine blk_drewN ?_ _ | refine blk_drew ?_ | refine blk_alloc ?_ _)); exact BK2.out)) hk (fun h_ => by have h1_ := HI2.out; have q1_ := HN1.out; have q2_ := HN2.out; have q3_ := HN3.out; have q4_ := HN4.out; have q5_ := HN5.out; have q6_ := HN6.out; have q7_ := HN7.out; have q8_ := HN8.out; have q9_ := HN9.out; have q10_ := HN10.out; have q11_ := HN11.out; have q12_ := HN12.out; have q13_ := HN13.out; have q14_ := HN14.out; have q15_ := HN15.out; omega)); have m1_ := Aside0.mk (blk_kept (g := gb8) (o := .cells #[.slice Ao24 t9.length co24] 31 (0, 0)) (by ((with_reducible repeat (first | refine blk_drewN ?_ _ | refine blk_drew ?_ | refine blk_alloc ?_ _)); exact BK8.out)) hk (fun h_ => by have h1_ := HI8.out; have q1_ := HN1.out; have q2_ := HN2.out; have q3_ := HN3.out; have q4_ := HN4.out; have q5_ := HN5.out; have q6_ := HN6.out; have q7_ := HN7.out; have q8_ := HN8.out; have q9_ := HN9.out; have q10_ := HN10.out; have q11_ := HN11.out; have q12_ := HN12.out; have q13_ := HN13.out; have q14_ := HN14.out; have q15_ := HN15.out; omega)); have m2_ := Aside0.mk (Kd.S_kept (by ((with_reducible repeat (first | apply Kd.S_alloc | apply Kd.S_drewN | apply Kd.S_drew)); exact HO11.out)) hk (fun k_ h1_ h2_ => by have q1_ := HN1.out; have q2_ := HN2.out; have q3_ := HN3.out; have q4_ := HN4.out; have q5_ := HN5.out; have q6_ := HN6.out; have q7_ := HN7.out; have q8_ := HN8.out; have q9_ := HN9.out; have q10_ := HN10.out; have q11_ := HN11.out; have q12_ := HN12.out; have q13_ := HN13.out; have q14_ := HN14.out; have q15_ := HN15.out; omega)); have m3_ := Aside0.mk (Kd.R_kept (by ((with_reducible repeat (first | apply Kd.R_alloc | apply Kd.R_drewN | apply Kd.R_drew)); exact HO15.out)) hk (fun k_ h1_ h2_ => by have q1_ := HN1.out; have q2_ := HN2.out; have q3_ := HN3.out; have q4_ := HN4.out; have q5_ := HN5.out; have q6_ := HN6.out; have q7_ := HN7.out; have q8_ := HN8.out; have q9_ := HN9.out; have q10_ := HN10.out; have q11_ := HN11.out; have q12_ := HN12.out; have q13_ := HN13.out; have q14_ := HN14.out; have q15_ := HN15.out; omega)); have m4_ := Aside0.mk (Kd.S_kept (by ((with_reducible repeat (first | apply Kd.S_alloc | apply Kd.S_drewN | apply Kd.S_drew)); exact HO20.out)) hk (fun k_ h1_ h2_ => by have q1_ := HN1.out; have q2_ := HN2.out; have q3_ := HN3.out; have q4_ := HN4.out; have q5_ := HN5.out; have q6_ := HN6.out; have q7_ := HN7.out; have q8_ := HN8.out; have q9_ := HN9.out; have q10_ := HN10.out; have q11_ := HN11.out; have q12_ := HN12.out; have q13_ := HN13.out; have q14_ := HN14.out; have q15_ := HN15.out; omega)); have m5_ := Aside0.mk (Kd.S_kept (by ((with_reducible repeat (first | apply Kd.S_alloc | apply Kd.S_drewN | apply Kd.S_drew)); exact HO24.out)) hk (fun k_ h1_ h2_ => by have q1_ := HN1.out; have q2_ := HN2.out; have q3_ := HN3.out; have q4_ := HN4.out; have q5_ := HN5.out; have q6_ := HN6.out; have q7_ := HN7.out; have q8_ := HN8.out; have q9_ := HN9.out; have q10_ := HN10.out; have q11_ := HN11.out; have q12_ := HN12.out; have q13_ := HN13.out; have q14_ := HN14.out; have q15_ := HN15.out; omega)); have m6_ := Aside0.mk (Kd.S_kept (by ((with_reducible repeat (first | apply Kd.S_alloc | apply Kd.S_drewN | apply Kd.S_drew)); exact HO32.out)) hk (fun k_ h1_ h2_ => by have q1_ := HN1.out; have q2_ := HN2.out; have q3_ := HN3.out; have q4_ := HN4.out; have q5_ := HN5.out; have q6_ := HN6.out; have q7_ := HN7.out; have q8_ := HN8.out; have q9_ := HN9.out; have q10_ := HN10.out; have q11_ := HN11.out; have q12_ := HN12.out; have q13_ := HN13.out; have q14_ := HN14.out; have q15_ := HN15.out; omega)); have m7_ := Aside0.mk (Kd.S_kept (by ((with_reducible repeat (first | apply Kd.S_alloc | apply Kd.S_drewN | apply Kd.S_drew)); exact HO37.out)) hk (fun k_ h1_ h2_ => by have q1_ := HN1.out; have q2_ := HN2.out; have q3_ := HN3.out; have q4_ := HN4.out; have q5_ := HN5.out; have q6_ := HN6.out; have q7_ := HN7.out; have q8_ := HN8.out; have q9_ := HN9.out; have q10_ := HN10.out; have q11_ := HN11.out; have q12_ := HN12.out; have q13_ := HN13.out; have q14_ := HN14.out; have q15_ := HN15.out; omega)); have m8_ := Aside0.mk (Kd.R_kept (by ((with_reducible repeat (first | apply Kd.R_alloc | apply Kd.R_drewN | apply Kd.R_drew)); exact HO41.out)) hk (fun k_ h1_ h2_ => by have q1_ := HN1.out; have q2_ := HN2.out; have q3_ := HN3.out; have q4_ := HN4.out; have q5_ := HN5.out; have q6_ := HN6.out; have q7_ := HN7.out; have q8_ := HN8.out; have q9_ := HN9.out; have q10_ := HN10.out; have q11_ := HN11.out; have q12_ := HN12.out; have q13_ := HN13.out; have q14_ := HN14.out; have q15_ := HN15.out; omega)); have mO_ := Aside0.mk (show Kd.R k56 56 w1063 w.heap.size (fun k_ => n8 ≤ k_ ∧ k_ < n9) (.slice Ao29 t13.length co29) y48 from Kd.R_mono (Kd.R_tight rfl ho_) (fun k_ hk_ => HO29.out.1 k_ hk_.symm)); have mL_ := Aside0.mk (by (repeat (first | exact HZ.out | (with_reducible first | apply sz_alloc | apply sz_drewN | apply sz_drew | apply sz_set))) : n15 ≤ _); have mZ_ := Aside0.mk (Nat.le_trans mL_.out hk.1 : n15 ≤ w1063.heap.size); have mB_ := Aside0.mk hb2_; clear BK2 BK8 HO11 HO15 HO20 HO24 HO32 HO37 HO41 HB HZ HO29; have BK2 := m0_; have BK8 := m1_; have HO11 := m2_; have HO15 := m3_; have HO20 := m4_; have HO24 := m5_; have HO32 := m6_; have HO37 := m7_; have HO41 := m8_; have HO29 := mO_; have HB := mB_; have HZ := mZ_; clear m0_ m1_ m2_ m3_ m4_ m5_ m6_ m7_ m8_ mO_ mB_ mZ_ mL_; clear ho_ hb2_ hk) | ((with_reducible refine gate_callee (f := 21) rfl ?_); refine goesL_ (some 85) rfl rfl Try.func21 (by kernel_rfl) rfl #[.slice Ao32 g16.length co32, .int .i64 1] rfl (by (try simp only [List.map_toArray, List.map_cons, List.map_nil]); first | done | rfl) ?_; (with_reducible refine (laws_markIntSS.calls k (fun k_ => n9 ≤ k_ ∧ k_ < n10) _ g16 1 m51 y52 w _ ?sideB ?sideO E17.out).mono ?_); (case sideB => exact (by (repeat (first | (with_reducible first | exact HB.out | apply below_alloc | apply pw_below_drewN | apply below_drew1 | refine below_set ?_ GE2.out | refine below_set ?_ GE8.out) | exact HB.out)))); (case sideO => exact (by ((with_reducible repeat (first | apply Kd.S_alloc | apply Kd.S_drewN | apply Kd.S_drew)); exact HO32.out))); rintro e w1069 ⟨rfl, ho_, hb2_, hk⟩; refine ⟨_, rfl, ?_⟩; have m0_ := Aside0.mk (blk_kept (g := gb2) (o := .cells #[.slice A0_0 l0_0.length c0_0] 24 (0, 0)) (by ((with_reducible repeat (first | refine blk_drewN ?_ _ | refine blk_drew ?_ | refine blk_alloc ?_ _)); exact BK2.out)) hk (fun h_ => by have h1_ := HI2.out; have q1_ := HN1.out; have q2_ := HN2.out; have q3_ := HN3.out; have q4_ := HN4.out; have q5_ := HN5.out; have q6_ := HN6.out; have q7_ := HN7.out; have q8_ := HN8.out; have q9_ := HN9.out; have q10_ := HN10.out; have q11_ := HN11.out; have q12_ := HN12.out; have q13_ := HN13.out; have q14_ := HN14.out; have q15_ := HN15.out; have q16_ := HN16.out; omega)); have m1_ := Aside0.mk (blk_kept (g := gb8) (o := .cells #[.slice Ao24 t9.length co24] 31 (0, 0)) (by ((with_reducible repeat (first | refine blk_drewN ?_ _ | refine blk_drew ?_ | refine blk_alloc ?_ _)); exact BK8.out)) hk (fun h_ => by have h1_ := HI8.out; have q1_ := HN1.out; have q2_ := HN2.out; have q3_ := HN3.out; have q4_ := HN4.out; have q5_ := HN5.out; have q6_ := HN6.out; have q7_ := HN7.out; have q8_ := HN8.out; have q9_ := HN9.out; have q10_ := HN10.out; have q11_ := HN11.out; have q12_ := HN12.out; have q13_ := HN13.out; have q14_ := HN14.out; have q15_ := HN15.out; have q16_ := HN16.out; omega)); have m2_ := Aside0.mk (Kd.S_kept (by ((with_reducible repeat (first | apply Kd.S_alloc | apply Kd.S_drewN | apply Kd.S_drew)); exact HO11.out)) hk (fun k_ h1_ h2_ => by have q1_ := HN1.out; have q2_ := HN2.out; have q3_ := HN3.out; have q4_ := HN4.out; have q5_ := HN5.out; have q6_ := HN6.out; have q7_ := HN7.out; have q8_ := HN8.out; have q9_ := HN9.out; have q10_ := HN10.out; have q11_ := HN11.out; have q12_ := HN12.out; have q13_ := HN13.out; have q14_ := HN14.out; have q15_ := HN15.out; have q16_ := HN16.out; omega)); have m3_ := Aside0.mk (Kd.R_kept (by ((with_reducible repeat (first | apply Kd.R_alloc | apply Kd.R_drewN | apply Kd.R_drew)); exact HO15.out)) hk (fun k_ h1_ h2_ => by have q1_ := HN1.out; have q2_ := HN2.out; have q3_ := HN3.out; have q4_ := HN4.out; have q5_ := HN5.out; have q6_ := HN6.out; have q7_ := HN7.out; have q8_ := HN8.out; have q9_ := HN9.out; have q10_ := HN10.out; have q11_ := HN11.out; have q12_ := HN12.out; have q13_ := HN13.out; have q14_ := HN14.out; have q15_ := HN15.out; have q16_ := HN16.out; omega)); have m4_ := Aside0.mk (Kd.S_kept (by ((with_reducible repeat (first | apply Kd.S_alloc | apply Kd.S_drewN | apply Kd.S_drew)); exact HO20.out)) hk (fun k_ h1_ h2_ => by have q1_ := HN1.out; have q2_ := HN2.out; have q3_ := HN3.out; have q4_ := HN4.out; have q5_ := HN5.out; have q6_ := HN6.out; have q7_ := HN7.out; have q8_ := HN8.out; have q9_ := HN9.out; have q10_ := HN10.out; have q11_ := HN11.out; have q12_ := HN12.out; have q13_ := HN13.out; have q14_ := HN14.out; have q15_ := HN15.out; have q16_ := HN16.out; omega)); have m5_ := Aside0.mk (Kd.S_kept (by ((with_reducible repeat (first | apply Kd.S_alloc | apply Kd.S_drewN | apply Kd.S_drew)); exact HO24.out)) hk (fun k_ h1_ h2_ => by have q1_ := HN1.out; have q2_ := HN2.out; have q3_ := HN3.out; have q4_ := HN4.out; have q5_ := HN5.out; have q6_ := HN6.out; have q7_ := HN7.out; have q8_ := HN8.out; have q9_ := HN9.out; have q10_ := HN10.out; have q11_ := HN11.out; have q12_ := HN12.out; have q13_ := HN13.out; have q14_ := HN14.out; have q15_ := HN15.out; have q16_ := HN16.out; omega)); have m6_ := Aside0.mk (Kd.R_kept (by ((with_reducible repeat (first | apply Kd.R_alloc | apply Kd.R_drewN | apply Kd.R_drew)); exact HO29.out)) hk (fun k_ h1_ h2_ => by have q1_ := HN1.out; have q2_ := HN2.out; have q3_ := HN3.out; have q4_ := HN4.out; have q5_ := HN5.out; have q6_ := HN6.out; have q7_ := HN7.out; have q8_ := HN8.out; have q9_ := HN9.out; have q10_ := HN10.out; have q11_ := HN11.out; have q12_ := HN12.out; have q13_ := HN13.out; have q14_ := HN14.out; have q15_ := HN15.out; have q16_ := HN16.out; omega)); have m7_ := Aside0.mk (Kd.S_kept (by ((with_reducible repeat (first | apply Kd.S_alloc | apply Kd.S_drewN | apply Kd.S_drew)); exact HO37.out)) hk (fun k_ h1_ h2_ => by have q1_ := HN1.out; have q2_ := HN2.out; have q3_ := HN3.out; have q4_ := HN4.out; have q5_ := HN5.out; have q6_ := HN6.out; have q7_ := HN7.out; have q8_ := HN8.out; have q9_ := HN9.out; have q10_ := HN10.out; have q11_ := HN11.out; have q12_ := HN12.out; have q13_ := HN13.out; have q14_ := HN14.out; have q15_ := HN15.out; have q16_ := HN16.out; omega)); have m8_ := Aside0.mk (Kd.R_kept (by ((with_reducible repeat (first | apply Kd.R_alloc | apply Kd.R_drewN | apply Kd.R_drew)); exact HO41.out)) hk (fun k_ h1_ h2_ => by have q1_ := HN1.out; have q2_ := HN2.out; have q3_ := HN3.out; have q4_ := HN4.out; have q5_ := HN5.out; have q6_ := HN6.out; have q7_ := HN7.out; have q8_ := HN8.out; have q9_ := HN9.out; have q10_ := HN10.out; have q11_ := HN11.out; have q12_ := HN12.out; have q13_ := HN13.out; have q14_ := HN14.out; have q15_ := HN15.out; have q16_ := HN16.out; omega)); have mO_ := Aside0.mk (show Kd.S (Kd.slice 3 (Kd.int .i64)) 51 w1069 w.heap.size (fun k_ => n9 ≤ k_ ∧ k_ < n10) (.slice Ao32 g16.length co32) y52 from ho_); have mL_ := Aside0.mk (by (repeat (first | exact HZ.out | (with_reducible first | apply sz_alloc | apply sz_drewN | apply sz_drew | apply sz_set))) : n16 ≤ _); have mZ_ := Aside0.mk (Nat.le_trans mL_.out hk.1 : n16 ≤ w1069.heap.size); have mB_ := Aside0.mk hb2_; clear BK2 BK8 HO11 HO15 HO20 HO24 HO29 HO37 HO41 HB HZ HO32; have BK2 := m0_; have BK8 := m1_; have HO11 := m2_; have HO15 := m3_; have HO20 := m4_; have HO24 := m5_; have HO29 := m6_; have HO37 := m7_; have HO41 := m8_; have HO32 := mO_; have HB := mB_; have HZ := mZ_; clear m0_ m1_ m2_ m3_ m4_ m5_ m6_ m7_ m8_ mO_ mB_ mZ_ mL_; clear ho_ hb2_ hk) | ((with_reducible refine gate_callee (f := 22) rfl ?_); refine goesL_ (some 88) rfl rfl Try.func22 (by kernel_rfl) rfl #[.slice Ao32 y52.length co32, .int .i64 1] rfl (by (try simp only [List.map_toArray, List.map_cons, List.map_nil]); first | done | (rw [show g16.length = y52.length from (Kd.S_reads' HO32.out).1] <;> rfl) | rfl) ?_; (with_reducible refine (laws_heldIntSS.calls k _ _ y52 1 m51 _ ?sr0 ?sc0 E18.out).mono ?_); (case sr0 => repeat (first | exact (Kd.S_reads' HO32.out).2.2 | (with_reducible refine Kd.C_alloc ?_ _) | (with_reducible refine Kd.C_drewN ?_ _) | (with_reducible refine Kd.C_drew ?_))); (case sc0 => first | exact (Kd.S_reads' HO32.out).2.1 | exact Nat.le_trans (Nat.le_of_eq (Kd.S_reads' HO32.out).1.symm) (Kd.S_reads' HO32.out).2.1); rintro e w1071 ⟨rfl, hd_⟩; have hb := hd_.below; clear hd_; refine ⟨_, rfl, ?_⟩; have m0_ := Aside0.mk (blk_below (g := gb2) (o := .cells #[.slice A0_0 l0_0.length c0_0] 24 (0, 0)) (by ((with_reducible repeat (first | refine blk_drewN ?_ _ | refine blk_drew ?_ | refine blk_alloc ?_ _)); exact BK2.out)) hb); have m1_ := Aside0.mk (blk_below (g := gb8) (o := .cells #[.slice Ao24 t9.length co24] 31 (0, 0)) (by ((with_reducible repeat (first | refine blk_drewN ?_ _ | refine blk_drew ?_ | refine blk_alloc ?_ _)); exact BK8.out)) hb); have m2_ := Aside0.mk (Kd.S_below (by ((with_reducible repeat (first | apply Kd.S_alloc | apply Kd.S_drewN | apply Kd.S_drew)); exact HO11.out)) hb); have m3_ := Aside0.mk (Kd.R_below (by ((with_reducible repeat (first | apply Kd.R_alloc | apply Kd.R_drewN | apply Kd.R_drew)); exact HO15.out)) hb); have m4_ := Aside0.mk (Kd.S_below (by ((with_reducible repeat (first | apply Kd.S_alloc | apply Kd.S_drewN | apply Kd.S_drew)); exact HO20.out)) hb); have m5_ := Aside0.mk (Kd.S_below (by ((with_reducible repeat (first | apply Kd.S_alloc | apply Kd.S_drewN | apply Kd.S_drew)); exact HO24.out)) hb); have m6_ := Aside0.mk (Kd.R_below (by ((with_reducible repeat (first | apply Kd.R_alloc | apply Kd.R_drewN | apply Kd.R_drew)); exact HO29.out)) hb); have m7_ := Aside0.mk (Kd.S_below (by ((with_reducible repeat (first | apply Kd.S_alloc | apply Kd.S_drewN | apply Kd.S_drew)); exact HO32.out)) hb); have m8_ := Aside0.mk (Kd.S_below (by ((with_reducible repeat (first | apply Kd.S_alloc | apply Kd.S_drewN | apply Kd.S_drew)); exact HO37.out)) hb); have m9_ := Aside0.mk (Kd.R_below (by ((with_reducible repeat (first | apply Kd.R_alloc | apply Kd.R_drewN | apply Kd.R_drew)); exact HO41.out)) hb); have mB_ := Aside0.mk (below_step (by (repeat (first | (with_reducible first | exact HB.out | apply below_alloc | apply pw_below_drewN | apply below_drew1 | refine below_set ?_ GE2.out | refine below_set ?_ GE8.out) | exact HB.out))) hb); have mL_ := Aside0.mk (by (repeat (first | exact HZ.out | (with_reducible first | apply sz_alloc | apply sz_drewN | apply sz_drew | apply sz_set))) : n16 ≤ _); obtain ⟨n17, hn_⟩ : ∃ n_, n_ = w1071.heap.size := ⟨_, rfl⟩; have mN_ := Aside0.mk (by rw [hn_]; exact Nat.le_trans mL_.out hb.size : n16 ≤ n17); have mZ_ := Aside0.mk (Nat.le_of_eq hn_ : n17 ≤ w1071.heap.size); clear BK2 BK8 HO11 HO15 HO20 HO24 HO29 HO32 HO37 HO41 HB HZ; have BK2 := m0_; have BK8 := m1_; have HO11 := m2_; have HO15 := m3_; have HO20 := m4_; have HO24 := m5_; have HO29 := m6_; have HO32 := m7_; have HO37 := m8_; have HO41 := m9_; have HB := mB_; have HZ := mZ_; have HN17 := mN_; clear m0_ m1_ m2_ m3_ m4_ m5_ m6_ m7_ m8_ m9_ mB_ mN_ mZ_ mL_; (try clear hn_); clear hb; have hc55_0 := (blk_cell BK2.out 0).trans (show (#[.slice A0_0 l0_0.length c0_0] : Array Value)[0]? = some (.slice A0_0 l0_0.length c0_0) from rfl); have hf55_0 := blk_frozen BK2.out 0) | ((with_reducible refine gate_callee (f := 8) rfl ?_); refine goesL_ (some 96) rfl rfl Try.func8 (by kernel_rfl) rfl #[.agg #[.slice A0_0 l0_0.length c0_0]] rfl (by (try simp only [List.map_toArray, List.map_cons, List.map_nil]); first | done | rfl) ?_; (with_reducible refine (laws_toMemory.calls k _ _ l0_0 t9 _ ?sr0 ?sc0 E3.out).mono ?_); (case sr0 => exact Kd.C_below HR0_0.out (by (repeat (first | (with_reducible first | exact HB.out | apply below_alloc | apply pw_below_drewN | apply below_drew1 | refine below_set ?_ GE2.out | refine below_set ?_ GE8.out) | exact HB.out)))); (case sc0 => exact HC0_0.out); rintro e w1075 ⟨v19_0, rfl, ho0_, hb⟩; refine ⟨_, rfl, ?_⟩; have m0_ := Aside0.mk (blk_below (g := gb2) (o := .cells #[.slice A0_0 l0_0.length c0_0] 24 (0, 0)) (by ((with_reducible repeat (first | refine blk_drewN ?_ _ | refine blk_drew ?_ | refine blk_alloc ?_ _)); exact BK2.out)) hb); have m1_ := Aside0.mk (blk_below (g := gb8) (o := .cells #[.slice Ao24 t9.length co24] 31 (0, 0)) (by ((with_reducible repeat (first | refine blk_drewN ?_ _ | refine blk_drew ?_ | refine blk_alloc ?_ _)); exact BK8.out)) hb); have m2_ := Aside0.mk (Kd.S_below (by ((with_reducible repeat (first | apply Kd.S_alloc | apply Kd.S_drewN | apply Kd.S_drew)); exact HO11.out)) hb); have m3_ := Aside0.mk (Kd.R_below (by ((with_reducible repeat (first | apply Kd.R_alloc | apply Kd.R_drewN | apply Kd.R_drew)); exact HO15.out)) hb); have m4_ := Aside0.mk (Kd.S_below (by ((with_reducible repeat (first | apply Kd.S_alloc | apply Kd.S_drewN | apply Kd.S_drew)); exact HO20.out)) hb); have m5_ := Aside0.mk (Kd.S_below (by ((with_reducible repeat (first | apply Kd.S_alloc | apply Kd.S_drewN | apply Kd.S_drew)); exact HO24.out)) hb); have m6_ := Aside0.mk (Kd.R_below (by ((with_reducible repeat (first | apply Kd.R_alloc | apply Kd.R_drewN | apply Kd.R_drew)); exact HO29.out)) hb); have m7_ := Aside0.mk (Kd.S_below (by ((with_reducible repeat (first | apply Kd.S_alloc | apply Kd.S_drewN | apply Kd.S_drew)); exact HO32.out)) hb); have m8_ := Aside0.mk (Kd.S_below (by ((with_reducible repeat (first | apply Kd.S_alloc | apply Kd.S_drewN | apply Kd.S_drew)); exact HO37.out)) hb); have m9_ := Aside0.mk (Kd.R_below (by ((with_reducible repeat (first | apply Kd.R_alloc | apply Kd.R_drewN | apply Kd.R_drew)); exact HO41.out)) hb); have mB_ := Aside0.mk (below_step (by (repeat (first | (with_reducible first | exact HB.out | apply below_alloc | apply pw_below_drewN | apply below_drew1 | refine below_set ?_ GE2.out | refine below_set ?_ GE8.out) | exact HB.out))) hb); have mL_ := Aside0.mk (by (repeat (first | exact HZ.out | (with_reducible first | apply sz_alloc | apply sz_drewN | apply sz_drew | apply sz_set))) : n17 ≤ _); obtain ⟨n18, hn_⟩ : ∃ n_, n_ = w1075.heap.size := ⟨_, rfl⟩; have mN_ := Aside0.mk (by rw [hn_]; exact Nat.le_trans mL_.out hb.size : n17 ≤ n18); have mZ_ := Aside0.mk (Nat.le_of_eq hn_ : n18 ≤ w1075.heap.size); have xHO58_ := Aside0.mk (show Kd.S (Kd.slice 5 (Kd.int .u8)) 70 w1075 w.heap.size (fun k_ => n17 ≤ k_ ∧ k_ < n18) _ t9 from Kd.S_mono (Kd.S_lower (Kd.S_bound ho0_) (below_size (by (repeat (first | (with_reducible first | exact HB.out | apply below_alloc | apply pw_below_drewN | apply below_drew1 | refine below_set ?_ GE2.out | refine below_set ?_ GE8.out) | exact HB.out))))) (fun k_ hk_ => ⟨Nat.le_trans mL_.out hk_.2.1, by rw [hn_]; exact hk_.2.2.1⟩)); clear BK2 BK8 HO11 HO15 HO20 HO24 HO29 HO32 HO37 HO41 HB HZ; have BK2 := m0_; have BK8 := m1_; have HO11 := m2_; have HO15 := m3_; have HO20 := m4_; have HO24 := m5_; have HO29 := m6_; have HO32 := m7_; have HO37 := m8_; have HO41 := m9_; have HB := mB_; have HZ := mZ_; have HN18 := mN_; have HO58 := xHO58_; clear m0_ m1_ m2_ m3_ m4_ m5_ m6_ m7_ m8_ m9_ mB_ mN_ mZ_ mL_ xHO58_; (try clear hn_); clear hb ho0_; obtain ⟨Ao58, co58, eo_⟩ := Kd.S_slice HO58.out; subst eo_) | ((with_reducible refine gate_callee (f := 9) rfl ?_); refine goesL_ (some 98) rfl rfl Try.func9 (by kernel_rfl) rfl #[.slice A1 l1.length c1] rfl (by (try simp only [List.map_toArray, List.map_cons, List.map_nil]); first | done | rfl) ?_; (with_reducible refine (laws_toWindowS.calls k _ _ l1 t13 _ ?sr0 ?sc0 E4.out).mono ?_); (case sr0 => exact Kd.C_below HR1.out (by (repeat (first | (with_reducible first | exact HB.out | apply below_alloc | apply pw_below_drewN | apply below_drew1 | refine below_set ?_ GE2.out | refine below_set ?_ GE8.out) | exact HB.out)))); (case sc0 => exact HC1.out); rintro e w1079 ⟨v20_0, rfl, ho0_, hb⟩; refine ⟨_, rfl, ?_⟩; have m0_ := Aside0.mk (blk_below (g := gb2) (o := .cells #[.slice A0_0 l0_0.length c0_0] 24 (0, 0)) (by ((with_reducible repeat (first | refine blk_drewN ?_ _ | refine blk_drew ?_ | refine blk_alloc ?_ _)); exact BK2.out)) hb); have m1_ := Aside0.mk (blk_below (g := gb8) (o := .cells #[.slice Ao24 t9.length co24] 31 (0, 0)) (by ((with_reducible repeat (first | refine blk_drewN ?_ _ | refine blk_drew ?_ | refine blk_alloc ?_ _)); exact BK8.out)) hb); have m2_ := Aside0.mk (Kd.S_below (by ((with_reducible repeat (first | apply Kd.S_alloc | apply Kd.S_drewN | apply Kd.S_drew)); exact HO11.out)) hb); have m3_ := Aside0.mk (Kd.R_below (by ((with_reducible repeat (first | apply Kd.R_alloc | apply Kd.R_drewN | apply Kd.R_drew)); exact HO15.out)) hb); have m4_ := Aside0.mk (Kd.S_below (by ((with_reducible repeat (first | apply Kd.S_alloc | apply Kd.S_drewN | apply Kd.S_drew)); exact HO20.out)) hb); have m5_ := Aside0.mk (Kd.S_below (by ((with_reducible repeat (first | apply Kd.S_alloc | apply Kd.S_drewN | apply Kd.S_drew)); exact HO24.out)) hb); have m6_ := Aside0.mk (Kd.R_below (by ((with_reducible repeat (first | apply Kd.R_alloc | apply Kd.R_drewN | apply Kd.R_drew)); exact HO29.out)) hb); have m7_ := Aside0.mk (Kd.S_below (by ((with_reducible repeat (first | apply Kd.S_alloc | apply Kd.S_drewN | apply Kd.S_drew)); exact HO32.out)) hb); have m8_ := Aside0.mk (Kd.S_below (by ((with_reducible repeat (first | apply Kd.S_alloc | apply Kd.S_drewN | apply Kd.S_drew)); exact HO37.out)) hb); have m9_ := Aside0.mk (Kd.R_below (by ((with_reducible repeat (first | apply Kd.R_alloc | apply Kd.R_drewN | apply Kd.R_drew)); exact HO41.out)) hb); have m10_ := Aside0.mk (Kd.S_below (by ((with_reducible repeat (first | apply Kd.S_alloc | apply Kd.S_drewN | apply Kd.S_drew)); exact HO58.out)) hb); have mB_ := Aside0.mk (below_step (by (repeat (first | (with_reducible first | exact HB.out | apply below_alloc | apply pw_below_drewN | apply below_drew1 | refine below_set ?_ GE2.out | refine below_set ?_ GE8.out) | exact HB.out))) hb); have mL_ := Aside0.mk (by (repeat (first | exact HZ.out | (with_reducible first | apply sz_alloc | apply sz_drewN | apply sz_drew | apply sz_set))) : n18 ≤ _); obtain ⟨n19, hn_⟩ : ∃ n_, n_ = w1079.heap.size := ⟨_, rfl⟩; have mN_ := Aside0.mk (by rw [hn_]; exact Nat.le_trans mL_.out hb.size : n18 ≤ n19); have mZ_ := Aside0.mk (Nat.le_of_eq hn_ : n19 ≤ w1079.heap.size); have xHO61_ := Aside0.mk (show Kd.R k56 56 w1079 w.heap.size (fun k_ => n18 ≤ k_ ∧ k_ < n19) _ t13 from Kd.R_mono (Kd.R_lower (Kd.R_bound ho0_) (below_size (by (repeat (first | (with_reducible first | exact HB.out | apply below_alloc | apply pw_below_drewN | apply below_drew1 | refine below_set ?_ GE2.out | refine below_set ?_ GE8.out) | exact HB.out))))) (fun k_ hk_ => ⟨Nat.le_trans mL_.out hk_.2.1, by rw [hn_]; exact hk_.2.2.1⟩)); clear BK2 BK8 HO11 HO15 HO20 HO24 HO29 HO32 HO37 HO41 HO58 HB HZ; have BK2 := m0_; have BK8 := m1_; have HO11 := m2_; have HO15 := m3_; have HO20 := m4_; have HO24 := m5_; have HO29 := m6_; have HO32 := m7_; have HO37 := m8_; have HO41 := m9_; have HO58 := m10_; have HB := mB_; have HZ := mZ_; have HN19 := mN_; have HO61 := xHO61_; clear m0_ m1_ m2_ m3_ m4_ m5_ m6_ m7_ m8_ m9_ m10_ mB_ mN_ mZ_ mL_ xHO61_; (try clear hn_); clear hb ho0_; obtain ⟨Ao61, co61, eo_⟩ := Kd.R_slice HO61.out; subst eo_) | ((with_reducible refine gate_callee (f := 19) rfl ?_); refine goesL_ (some 99) rfl rfl Try.func19 (by kernel_rfl) rfl #[.agg #[.slice Ao58 t9.length co58], .slice Ao61 t13.length co61] rfl (by (try simp only [List.map_toArray, List.map_cons, List.map_nil]); first | done | rfl) ?_; (with_reducible refine (impl_ShareGroups.calls k _ _ t9 _ _ t13 g16 ok17 _ ?sr0 ?sc0 ?sr1 ?sc1 E8.out).mono ?_); (case sr0 => repeat (first | exact (Kd.S_reads' HO58.out).2.2 | (with_reducible refine Kd.C_alloc ?_ _) | (with_reducible refine Kd.C_drewN ?_ _) | (with_reducible refine Kd.C_drew ?_))); (case sc0 => first | exact (Kd.S_reads' HO58.out).2.1 | exact Nat.le_trans (Nat.le_of_eq (Kd.S_reads' HO58.out).1.symm) (Kd.S_reads' HO58.out).2.1); (case sr1 => repeat (first | exact (Kd.R_reads' HO61.out).2.2 | (with_reducible refine Kd.C_alloc ?_ _) | (with_reducible refine Kd.C_drewN ?_ _) | (with_reducible refine Kd.C_drew ?_))); (case sc1 => first | exact (Kd.R_reads' HO61.out).2.1 | exact Nat.le_trans (Nat.le_of_eq (Kd.R_reads' HO61.out).1.symm) (Kd.R_reads' HO61.out).2.1); rintro e w1082 ⟨v21_0, rfl, ho0_, hb⟩; refine ⟨_, rfl, ?_⟩; have m0_ := Aside0.mk (blk_below (g := gb2) (o := .cells #[.slice A0_0 l0_0.length c0_0] 24 (0, 0)) (by ((with_reducible repeat (first | refine blk_drewN ?_ _ | refine blk_drew ?_ | refine blk_alloc ?_ _)); exact BK2.out)) hb); have m1_ := Aside0.mk (blk_below (g := gb8) (o := .cells #[.slice Ao24 t9.length co24] 31 (0, 0)) (by ((with_reducible repeat (first | refine blk_drewN ?_ _ | refine blk_drew ?_ | refine blk_alloc ?_ _)); exact BK8.out)) hb); have m2_ := Aside0.mk (Kd.S_below (by ((with_reducible repeat (first | apply Kd.S_alloc | apply Kd.S_drewN | apply Kd.S_drew)); exact HO11.out)) hb); have m3_ := Aside0.mk (Kd.R_below (by ((with_reducible repeat (first | apply Kd.R_alloc | apply Kd.R_drewN | apply Kd.R_drew)); exact HO15.out)) hb); have m4_ := Aside0.mk (Kd.S_below (by ((with_reducible repeat (first | apply Kd.S_alloc | apply Kd.S_drewN | apply Kd.S_drew)); exact HO20.out)) hb); have m5_ := Aside0.mk (Kd.S_below (by ((with_reducible repeat (first | apply Kd.S_alloc | apply Kd.S_drewN | apply Kd.S_drew)); exact HO24.out)) hb); have m6_ := Aside0.mk (Kd.R_below (by ((with_reducible repeat (first | apply Kd.R_alloc | apply Kd.R_drewN | apply Kd.R_drew)); exact HO29.out)) hb); have m7_ := Aside0.mk (Kd.S_below (by ((with_reducible repeat (first | apply Kd.S_alloc | apply Kd.S_drewN | apply Kd.S_drew)); exact HO32.out)) hb); have m8_ := Aside0.mk (Kd.S_below (by ((with_reducible repeat (first | apply Kd.S_alloc | apply Kd.S_drewN | apply Kd.S_drew)); exact HO37.out)) hb); have m9_ := Aside0.mk (Kd.R_below (by ((with_reducible repeat (first | apply Kd.R_alloc | apply Kd.R_drewN | apply Kd.R_drew)); exact HO41.out)) hb); have m10_ := Aside0.mk (Kd.S_below (by ((with_reducible repeat (first | apply Kd.S_alloc | apply Kd.S_drewN | apply Kd.S_drew)); exact HO58.out)) hb); have m11_ := Aside0.mk (Kd.R_below (by ((with_reducible repeat (first | apply Kd.R_alloc | apply Kd.R_drewN | apply Kd.R_drew)); exact HO61.out)) hb); have mB_ := Aside0.mk (below_step (by (repeat (first | (with_reducible first | exact HB.out | apply below_alloc | apply pw_below_drewN | apply below_drew1 | refine below_set ?_ GE2.out | refine below_set ?_ GE8.out) | exact HB.out))) hb); have mL_ := Aside0.mk (by (repeat (first | exact HZ.out | (with_reducible first | apply sz_alloc | apply sz_drewN | apply sz_drew | apply sz_set))) : n19 ≤ _); obtain ⟨n20, hn_⟩ : ∃ n_, n_ = w1082.heap.size := ⟨_, rfl⟩; have mN_ := Aside0.mk (by rw [hn_]; exact Nat.le_trans mL_.out hb.size : n19 ≤ n20); have mZ_ := Aside0.mk (Nat.le_of_eq hn_ : n20 ≤ w1082.heap.size); have xHO63_ := Aside0.mk (show Kd.S (Kd.slice 3 (Kd.int .i64)) 51 w1082 w.heap.size (fun k_ => n19 ≤ k_ ∧ k_ < n20) _ g16 from Kd.S_mono (Kd.S_lower (Kd.S_bound ho0_) (below_size (by (repeat (first | (with_reducible first | exact HB.out | apply below_alloc | apply pw_below_drewN | apply below_drew1 | refine below_set ?_ GE2.out | refine below_set ?_ GE8.out) | exact HB.out))))) (fun k_ hk_ => ⟨Nat.le_trans mL_.out hk_.2.1, by rw [hn_]; exact hk_.2.2.1⟩)); clear BK2 BK8 HO11 HO15 HO20 HO24 HO29 HO32 HO37 HO41 HO58 HO61 HB HZ; have BK2 := m0_; have BK8 := m1_; have HO11 := m2_; have HO15 := m3_; have HO20 := m4_; have HO24 := m5_; have HO29 := m6_; have HO32 := m7_; have HO37 := m8_; have HO41 := m9_; have HO58 := m10_; have HO61 := m11_; have HB := mB_; have HZ := mZ_; have HN20 := mN_; have HO63 := xHO63_; clear m0_ m1_ m2_ m3_ m4_ m5_ m6_ m7_ m8_ m9_ m10_ m11_ mB_ mN_ mZ_ mL_ xHO63_; (try clear hn_); clear hb ho0_; obtain ⟨Ao63, co63, eo_⟩ := Kd.S_slice HO63.out; subst eo_) | ((with_reducible refine gate_callee (f := 20) rfl ?_); refine goesL_ (some 104) rfl rfl Try.func20 (by kernel_rfl) rfl #[.slice Ao63 g16.length co63, .slice Ao20 s18.length co20] rfl (by (try simp only [List.map_toArray, List.map_cons, List.map_nil]); first | done | rfl) ?_; (with_reducible refine (laws_eqIntSS.calls k _ _ g16 _ _ s18 true _ ?sr0 ?sc0 ?sr1 ?sc1 E9.out).mono ?_); (case sr0 => repeat (first | exact (Kd.S_reads' HO63.out).2.2 | (with_reducible refine Kd.C_alloc ?_ _) | (with_reducible refine Kd.C_drewN ?_ _) | (with_reducible refine Kd.C_drew ?_))); (case sc0 => first | exact (Kd.S_reads' HO63.out).2.1 | exact Nat.le_trans (Nat.le_of_eq (Kd.S_reads' HO63.out).1.symm) (Kd.S_reads' HO63.out).2.1); (case sr1 => repeat (first | exact (Kd.S_reads' HO20.out).2.2 | (with_reducible refine Kd.C_alloc ?_ _) | (with_reducible refine Kd.C_drewN ?_ _) | (with_reducible refine Kd.C_drew ?_))); (case sc1 => first | exact (Kd.S_reads' HO20.out).2.1 | exact Nat.le_trans (Nat.le_of_eq (Kd.S_reads' HO20.out).1.symm) (Kd.S_reads' HO20.out).2.1); rintro e w1085 ⟨rfl, hd_⟩; have hb := hd_.below; clear hd_; refine ⟨_, rfl, ?_⟩; have m0_ := Aside0.mk (blk_below (g := gb2) (o := .cells #[.slice A0_0 l0_0.length c0_0] 24 (0, 0)) (by ((with_reducible repeat (first | refine blk_drewN ?_ _ | refine blk_drew ?_ | refine blk_alloc ?_ _)); exact BK2.out)) hb); have m1_ := Aside0.mk (blk_below (g := gb8) (o := .cells #[.slice Ao24 t9.length co24] 31 (0, 0)) (by ((with_reducible repeat (first | refine blk_drewN ?_ _ | refine blk_drew ?_ | refine blk_alloc ?_ _)); exact BK8.out)) hb); have m2_ := Aside0.mk (Kd.S_below (by ((with_reducible repeat (first | apply Kd.S_alloc | apply Kd.S_drewN | apply Kd.S_drew)); exact HO11.out)) hb); have m3_ := Aside0.mk (Kd.R_below (by ((with_reducible repeat (first | apply Kd.R_alloc | apply Kd.R_drewN | apply Kd.R_drew)); exact HO15.out)) hb); have m4_ := Aside0.mk (Kd.S_below (by ((with_reducible repeat (first | apply Kd.S_alloc | apply Kd.S_drewN | apply Kd.S_drew)); exact HO20.out)) hb); have m5_ := Aside0.mk (Kd.S_below (by ((with_reducible repeat (first | apply Kd.S_alloc | apply Kd.S_drewN | apply Kd.S_drew)); exact HO24.out)) hb); have m6_ := Aside0.mk (Kd.R_below (by ((with_reducible repeat (first | apply Kd.R_alloc | apply Kd.R_drewN | apply Kd.R_drew)); exact HO29.out)) hb); have m7_ := Aside0.mk (Kd.S_below (by ((with_reducible repeat (first | apply Kd.S_alloc | apply Kd.S_drewN | apply Kd.S_drew)); exact HO32.out)) hb); have m8_ := Aside0.mk (Kd.S_below (by ((with_reducible repeat (first | apply Kd.S_alloc | apply Kd.S_drewN | apply Kd.S_drew)); exact HO37.out)) hb); have m9_ := Aside0.mk (Kd.R_below (by ((with_reducible repeat (first | apply Kd.R_alloc | apply Kd.R_drewN | apply Kd.R_drew)); exact HO41.out)) hb); have m10_ := Aside0.mk (Kd.S_below (by ((with_reducible repeat (first | apply Kd.S_alloc | apply Kd.S_drewN | apply Kd.S_drew)); exact HO58.out)) hb); have m11_ := Aside0.mk (Kd.R_below (by ((with_reducible repeat (first | apply Kd.R_alloc | apply Kd.R_drewN | apply Kd.R_drew)); exact HO61.out)) hb); have m12_ := Aside0.mk (Kd.S_below (by ((with_reducible repeat (first | apply Kd.S_alloc | apply Kd.S_drewN | apply Kd.S_drew)); exact HO63.out)) hb); have mB_ := Aside0.mk (below_step (by (repeat (first | (with_reducible first | exact HB.out | apply below_alloc | apply pw_below_drewN | apply below_drew1 | refine below_set ?_ GE2.out | refine below_set ?_ GE8.out) | exact HB.out))) hb); have mL_ := Aside0.mk (by (repeat (first | exact HZ.out | (with_reducible first | apply sz_alloc | apply sz_drewN | apply sz_drew | apply sz_set))) : n20 ≤ _); obtain ⟨n21, hn_⟩ : ∃ n_, n_ = w1085.heap.size := ⟨_, rfl⟩; have mN_ := Aside0.mk (by rw [hn_]; exact Nat.le_trans mL_.out hb.size : n20 ≤ n21); have mZ_ := Aside0.mk (Nat.le_of_eq hn_ : n21 ≤ w1085.heap.size); clear BK2 BK8 HO11 HO15 HO20 HO24 HO29 HO32 HO37 HO41 HO58 HO61 HO63 HB HZ; have BK2 := m0_; have BK8 := m1_; have HO11 := m2_; have HO15 := m3_; have HO20 := m4_; have HO24 := m5_; have HO29 := m6_; have HO32 := m7_; have HO37 := m8_; have HO41 := m9_; have HO58 := m10_; have HO61 := m11_; have HO63 := m12_; have HB := mB_; have HZ := mZ_; have HN21 := mN_; clear m0_ m1_ m2_ m3_ m4_ m5_ m6_ m7_ m8_ m9_ m10_ m11_ m12_ mB_ mN_ mZ_ mL_; (try clear hn_); clear hb) | ((with_reducible refine gate_callee (f := 22) rfl ?_); refine goesL_ (some 113) rfl rfl Try.func22 (by kernel_rfl) rfl #[.slice Ao32 y52.length co32, .int .i64 1] rfl (by (try simp only [List.map_toArray, List.map_cons, List.map_nil]); first | done | (rw [show g16.length = y52.length from (Kd.S_reads' HO32.out).1] <;> rfl) | rfl) ?_; (with_reducible refine (laws_heldIntSS.calls k _ _ y52 1 m51 _ ?sr0 ?sc0 E18.out).mono ?_); (case sr0 => repeat (first | exact (Kd.S_reads' HO32.out).2.2 | (with_reducible refine Kd.C_alloc ?_ _) | (with_reducible refine Kd.C_drewN ?_ _) | (with_reducible refine Kd.C_drew ?_))); (case sc0 => first | exact (Kd.S_reads' HO32.out).2.1 | exact Nat.le_trans (Nat.le_of_eq (Kd.S_reads' HO32.out).1.symm) (Kd.S_reads' HO32.out).2.1); rintro e w1087 ⟨rfl, hd_⟩; have hb := hd_.below; clear hd_; refine ⟨_, rfl, ?_⟩; have m0_ := Aside0.mk (blk_below (g := gb2) (o := .cells #[.slice A0_0 l0_0.length c0_0] 24 (0, 0)) (by ((with_reducible repeat (first | refine blk_drewN ?_ _ | refine blk_drew ?_ | refine blk_alloc ?_ _)); exact BK2.out)) hb); have m1_ := Aside0.mk (blk_below (g := gb8) (o := .cells #[.slice Ao24 t9.length co24] 31 (0, 0)) (by ((with_reducible repeat (first | refine blk_drewN ?_ _ | refine blk_drew ?_ | refine blk_alloc ?_ _)); exact BK8.out)) hb); have m2_ := Aside0.mk (Kd.S_below (by ((with_reducible repeat (first | apply Kd.S_alloc | apply Kd.S_drewN | apply Kd.S_drew)); exact HO11.out)) hb); have m3_ := Aside0.mk (Kd.R_below (by ((with_reducible repeat (first | apply Kd.R_alloc | apply Kd.R_drewN | apply Kd.R_drew)); exact HO15.out)) hb); have m4_ := Aside0.mk (Kd.S_below (by ((with_reducible repeat (first | apply Kd.S_alloc | apply Kd.S_drewN | apply Kd.S_drew)); exact HO20.out)) hb); have m5_ := Aside0.mk (Kd.S_below (by ((with_reducible repeat (first | apply Kd.S_alloc | apply Kd.S_drewN | apply Kd.S_drew)); exact HO24.out)) hb); have m6_ := Aside0.mk (Kd.R_below (by ((with_reducible repeat (first | apply Kd.R_alloc | apply Kd.R_drewN | apply Kd.R_drew)); exact HO29.out)) hb); have m7_ := Aside0.mk (Kd.S_below (by ((with_reducible repeat (first | apply Kd.S_alloc | apply Kd.S_drewN | apply Kd.S_drew)); exact HO32.out)) hb); have m8_ := Aside0.mk (Kd.S_below (by ((with_reducible repeat (first | apply Kd.S_alloc | apply Kd.S_drewN | apply Kd.S_drew)); exact HO37.out)) hb); have m9_ := Aside0.mk (Kd.R_below (by ((with_reducible repeat (first | apply Kd.R_alloc | apply Kd.R_drewN | apply Kd.R_drew)); exact HO41.out)) hb); have m10_ := Aside0.mk (Kd.S_below (by ((with_reducible repeat (first | apply Kd.S_alloc | apply Kd.S_drewN | apply Kd.S_drew)); exact HO58.out)) hb); have m11_ := Aside0.mk (Kd.R_below (by ((with_reducible repeat (first | apply Kd.R_alloc | apply Kd.R_drewN | apply Kd.R_drew)); exact HO61.out)) hb); have m12_ := Aside0.mk (Kd.S_below (by ((with_reducible repeat (first | apply Kd.S_alloc | apply Kd.S_drewN | apply Kd.S_drew)); exact HO63.out)) hb); have mB_ := Aside0.mk (below_step (by (repeat (first | (with_reducible first | exact HB.out | apply below_alloc | apply pw_below_drewN | apply below_drew1 | refine below_set ?_ GE2.out | refine below_set ?_ GE8.out) | exact HB.out))) hb); have mL_ := Aside0.mk (by (repeat (first | exact HZ.out | (with_reducible first | apply sz_alloc | apply sz_drewN | apply sz_drew | apply sz_set))) : n21 ≤ _); obtain ⟨n22, hn_⟩ : ∃ n_, n_ = w1087.heap.size := ⟨_, rfl⟩; have mN_ := Aside0.mk (by rw [hn_]; exact Nat.le_trans mL_.out hb.size : n21 ≤ n22); have mZ_ := Aside0.mk (Nat.le_of_eq hn_ : n22 ≤ w1087.heap.size); clear BK2 BK8 HO11 HO15 HO20 HO24 HO29 HO32 HO37 HO41 HO58 HO61 HO63 HB HZ; have BK2 := m0_; have BK8 := m1_; have HO11 := m2_; have HO15 := m3_; have HO20 := m4_; have HO24 := m5_; have HO29 := m6_; have HO32 := m7_; have HO37 := m8_; have HO41 := m9_; have HO58 := m10_; have HO61 := m11_; have HO63 := m12_; have HB := mB_; have HZ := mZ_; have HN22 := mN_; clear m0_ m1_ m2_ m3_ m4_ m5_ m6_ m7_ m8_ m9_ m10_ m11_ m12_ mB_ mN_ mZ_ mL_; (try clear hn_); clear hb) | (go_at_call 20; (with_reducible refine (laws_eqIntSS.calls k _ _ g16 _ _ s18 true _ ?sr0 ?sc0 ?sr1 ?sc1 E9.out).mono ?_); (case sr0 => repeat (first | exact (Kd.S_reads' HO32.out).2.2 | (with_reducible refine Kd.C_alloc ?_ _) | (with_reducible refine Kd.C_drewN ?_ _) | (with_reducible refine Kd.C_drew ?_))); (case sc0 => first | exact (Kd.S_reads' HO32.out).2.1 | exact Nat.le_trans (Nat.le_of_eq (Kd.S_reads' HO32.out).1.symm) (Kd.S_reads' HO32.out).2.1); (case sr1 => repeat (first | exact (Kd.S_reads' HO20.out).2.2 | (with_reducible refine Kd.C_alloc ?_ _) | (with_reducible refine Kd.C_drewN ?_ _) | (with_reducible refine Kd.C_drew ?_))); (case sc1 => first | exact (Kd.S_reads' HO20.out).2.1 | exact Nat.le_trans (Nat.le_of_eq (Kd.S_reads' HO20.out).1.symm) (Kd.S_reads' HO20.out).2.1); rintro e w1065 ⟨rfl, hd_⟩; have hb := hd_.below; clear hd_; have m0_ := Aside0.mk (blk_below (g := gb2) (o := .cells #[.slice A0_0 l0_0.length c0_0] 24 (0, 0)) (by ((with_reducible repeat (first | refine blk_drewN ?_ _ | refine blk_drew ?_ | refine blk_alloc ?_ _)); exact BK2.out)) hb); have m1_ := Aside0.mk (blk_below (g := gb8) (o := .cells #[.slice Ao24 t9.length co24] 31 (0, 0)) (by ((with_reducible repeat (first | refine blk_drewN ?_ _ | refine blk_drew ?_ | refine blk_alloc ?_ _)); exact BK8.out)) hb); have m2_ := Aside0.mk (Kd.S_below (by ((with_reducible repeat (first | apply Kd.S_alloc | apply Kd.S_drewN | apply Kd.S_drew)); exact HO11.out)) hb); have m3_ := Aside0.mk (Kd.R_below (by ((with_reducible repeat (first | apply Kd.R_alloc | apply Kd.R_drewN | apply Kd.R_drew)); exact HO15.out)) hb); have m4_ := Aside0.mk (Kd.S_below (by ((with_reducible repeat (first | apply Kd.S_alloc | apply Kd.S_drewN | apply Kd.S_drew)); exact HO20.out)) hb); have m5_ := Aside0.mk (Kd.S_below (by ((with_reducible repeat (first | apply Kd.S_alloc | apply Kd.S_drewN | apply Kd.S_drew)); exact HO24.out)) hb); have m6_ := Aside0.mk (Kd.R_below (by ((with_reducible repeat (first | apply Kd.R_alloc | apply Kd.R_drewN | apply Kd.R_drew)); exact HO29.out)) hb); have m7_ := Aside0.mk (Kd.S_below (by ((with_reducible repeat (first | apply Kd.S_alloc | apply Kd.S_drewN | apply Kd.S_drew)); exact HO32.out)) hb); have m8_ := Aside0.mk (Kd.S_below (by ((with_reducible repeat (first | apply Kd.S_alloc | apply Kd.S_drewN | apply Kd.S_drew)); exact HO37.out)) hb); have m9_ := Aside0.mk (Kd.R_below (by ((with_reducible repeat (first | apply Kd.R_alloc | apply Kd.R_drewN | apply Kd.R_drew)); exact HO41.out)) hb); have mB_ := Aside0.mk (below_step (by (repeat (first | (with_reducible first | exact HB.out | apply below_alloc | apply pw_below_drewN | apply below_drew1 | refine below_set ?_ GE2.out | refine below_set ?_ GE8.out) | exact HB.out))) hb); have mL_ := Aside0.mk (by (repeat (first | exact HZ.out | (with_reducible first | apply sz_alloc | apply sz_drewN | apply sz_drew | apply sz_set))) : n15 ≤ _); obtain ⟨n16, hn_⟩ : ∃ n_, n_ = w1065.heap.size := ⟨_, rfl⟩; have mN_ := Aside0.mk (by rw [hn_]; exact Nat.le_trans mL_.out hb.size : n15 ≤ n16); have mZ_ := Aside0.mk (Nat.le_of_eq hn_ : n16 ≤ w1065.heap.size); clear BK2 BK8 HO11 HO15 HO20 HO24 HO29 HO32 HO37 HO41 HB HZ; have BK2 := m0_; have BK8 := m1_; have HO11 := m2_; have HO15 := m3_; have HO20 := m4_; have HO24 := m5_; have HO29 := m6_; have HO32 := m7_; have HO37 := m8_; have HO41 := m9_; have HB := mB_; have HZ := mZ_; have HN16 := mN_; clear m0_ m1_ m2_ m3_ m4_ m5_ m6_ m7_ m8_ m9_ mB_ mN_ mZ_ mL_; (try clear hn_); clear hb))
  go_ret
  exact ⟨rfl, by (repeat (first | (with_reducible first | exact HB.out | apply below_alloc | apply pw_below_drewN | apply below_drew1 | refine below_set ?_ GE2.out | refine below_set ?_ GE8.out) | exact HB.out))⟩
end Go.Proofs.Ytiiocpeeobjlgaa.P
end
section
namespace Go.Proofs.Ytiiocpeeobjlgaa.P
open Go.RowKit Go.Proofs.YtiiocpeeobjlgaaW.PrintWords Go.Proofs.YtiiocpeeobjlgaaW.PrintLast Go.Proofs.YtiiocpeeobjlgaaW.PrintMore
def FnExactShareGroupsTrue : Prop := ∀ (A0_0 : Option Addr) (c0_0 : Nat) (l0_0 : List (List Int)) (A1 : Option Addr) (c1 : Nat) (l1 : List S58) (w : World), Kd.C (Kd.slice 5 (Kd.int .u8)) w A0_0 l0_0.length l0_0 → l0_0.length ≤ c0_0 → Kd.C k58 w A1 l1.length l1 → l1.length ≤ c1 → (fun l => l.length ≤ 9223372036854775807 ∧ ∀ x ∈ l, (fun l => l.length ≤ 9223372036854775807 ∧ ∀ x ∈ l, (fun x => (Lit.int .u8 x).wf = true) x) x) l0_0 → (fun l => l.length ≤ 9223372036854775807 ∧ ∀ x ∈ l, (fun x => (fun x => (Lit.int .i64 x).wf = true) x.f0 ∧ (fun x => (Lit.int .i64 x).wf = true) x.f1 ∧ (fun x => (Lit.int .i64 x).wf = true) x.f2 ∧ (fun x => (Lit.int .i64 x).wf = true) x.f3) x) l1 → Calls Try.prog 4 #[.agg #[.slice A0_0 l0_0.length c0_0], .slice A1 l1.length c1] w fun e w' => e = .returned (.bool true) ∧ Below w.heap.size w w'
end Go.Proofs.Ytiiocpeeobjlgaa.P
end
section
namespace Go.Proofs.Ytiiocpeeobjlgaa.P
open Go.RowKit Go.Proofs.YtiiocpeeobjlgaaW.PrintWords Go.Proofs.YtiiocpeeobjlgaaW.PrintLast Go.Proofs.YtiiocpeeobjlgaaW.PrintMore
set_option linter.unusedVariables false
set_option linter.unusedSimpArgs false
def groupsR (m : List (List Int)) (l : List S56) : List (List Int) × Bool := if watched m l = true then (sgr l.length (shW l) l.length, true) else ([], false)
theorem groups_ok {m : List (List Int)} {l : List S56} (h : watched m l = true) : grpOk l = true := by
  obtain ⟨h1, h2, h3⟩ := onAll_each h
  unfold grpOk
  simp only [Bool.and_eq_true, decide_eq_true_eq, List.all_eq_true]
  refine ⟨h3, fun x hx => smB_iff.2 ?_⟩
  have := win_lt h1 (h2 x hx)
  unfold Sm
  omega
theorem groupsR_len (m : List (List Int)) (l : List S56) : (groupsR m l).1.length ≤ 12 ∧ total (groupsR m l).1 ≤ 144 := by
  unfold groupsR
  split
  · rename_i h
    have h1 := (onAll_each h).2.2
    obtain ⟨h2, h3⟩ := sgr_len l.length (shW l) l.length (Nat.le_refl _)
    have h4 : l.length * l.length ≤ 12 * 12 := Nat.mul_le_mul h1 h1
    rw [total_flatten]
    dsimp only
    omega
  · simp [total]
theorem groups_impl (m : List (List Int)) (hm : Fit m) (l : List S56) : Ev (fun k => impl_ShareGroups.f k m l) (groupsR m l) := by
  obtain ⟨K, hK⟩ := areWatched_ev m hm l
  refine ⟨K, fun k hk => ?_⟩
  have e1 := hK k hk
  dsimp only at e1 ⊢
  rw [impl_ShareGroups.f, e1, Option.bind_some]
  unfold groupsR
  by_cases h : watched m l = true
  · rw [if_pos h, if_pos (groups_ok h), if_pos h]
  · rw [if_neg h, if_neg h]
theorem groups_spec (m : List (List Int)) (hm : Fit m) (l : List S56) (hw : ∀ x ∈ l, wf4 x) (hlen : l.length ≤ 1048576) : Ev (fun k => spec_ShareGroups.f k m l) (groupsR m l) := by
  obtain ⟨K, hK⟩ := l3Watched_ev m hm l hw hlen
  refine ⟨K, fun k hk => ?_⟩
  have e1 := hK k hk
  dsimp only at e1 ⊢
  rw [spec_ShareGroups.f, e1, Option.bind_some]
  unfold groupsR
  by_cases h : watched m l = true
  · rw [if_pos h, if_pos (groups_ok h), if_pos h]
  · rw [if_neg h, if_neg h]
theorem FnExactShareGroups_ok : FnExactShareGroupsTrue := by
  intro A0 c0 m A1 c1 l w hr hc hr1 hc1 hm hl
  have hfit : Fit m := ⟨hm.1, fun a ha => (hm.2 a ha).1⟩
  have hw : ∀ x ∈ l.map cvW, wf4 x := fun x hx => by
    obtain ⟨y, hy, rfl⟩ := List.mem_map.mp hx
    exact wf64 (hl.2 y hy).2.1
  obtain ⟨r, ⟨K0, h0⟩, hz⟩ := szMem m hfit
  dsimp only at h0
  by_cases hr0 : r < 0
  · exact laws_FnExactShareGroups.exit1 K0 A0 c0 m A1 c1 l r w hr hc hr1 hc1 (h0 K0 (Nat.le_refl _)) hr0
  · obtain ⟨hsm, hr1'⟩ := hz hr0
    obtain ⟨r2, hq, hz2⟩ := szWins l r hl.1 hr0 hr1'
    by_cases hr2 : r2 < 0
    · exact laws_FnExactShareGroups.exit2 K0 A0 c0 m A1 c1 l r r2 w hr hc hr1 hc1 (h0 K0 (Nat.le_refl _)) hq hr0 hr2
    · obtain ⟨hlen, _⟩ := hz2 hr2
      have hlen' : (l.map cvW).length ≤ 1048576 := by rw [List.length_map]; exact hlen
      obtain ⟨K1, e1⟩ := toMem m hsm
      obtain ⟨K2, e2⟩ := eqMem m hfit
      obtain ⟨K3, e3⟩ := toWins l hlen
      obtain ⟨K4, e4⟩ := eqWins (l.map cvW) (by omega)
      obtain ⟨K5, e5⟩ := groups_spec m hfit (l.map cvW) hw hlen'
      obtain ⟨K6, e6⟩ := groups_impl m hfit (l.map cvW)
      have hg := groupsR_len m (l.map cvW)
      obtain ⟨⟨g, ok⟩, hgo⟩ : ∃ x, x = groupsR m (l.map cvW) := ⟨_, rfl⟩
      rw [← hgo] at e5 e6 hg
      dsimp only at hg
      obtain ⟨K7, e7⟩ := eqII g (by omega) (fun r hr => by have := row_le_total g r hr; omega)
      obtain ⟨K8, e8⟩ := markMem m 1 hsm (by omega) (by omega)
      have ht := total_small hsm
      obtain ⟨y, K9, e9⟩ := markWins (l.map cvW) (1 + total m) hlen' (by omega) (by omega)
      obtain ⟨K10, e10⟩ := markII g 1 (by omega) (by omega) (by omega) (by omega)
      obtain ⟨K11, e11⟩ := heldII g 1 (by omega) (by omega) (by omega) (by omega)
      obtain ⟨K, hK⟩ : ∃ K, K = K0 + K1 + K2 + K3 + K4 + K5 + K6 + K7 + K8 + K9 + K10 + K11 := ⟨_, rfl⟩
      exact laws_FnExactShareGroups.walk K A0 c0 m A1 c1 l r r2 m (l.map cvW) g ok g _ _ _ _ _ _ w hr hc hr1 hc1 (h0 K (by omega)) hq (e1 K (by omega)) (e3 K (by omega)) (e5 K (by omega)) (e6 K (by omega)) (e7 K (by omega)) (e2 K (by omega)) (e4 K (by omega)) (e8 K (by omega)) (e9 K (by omega)) (e10 K (by omega)) (e11 K (by omega)) hr0 hr2 (by omega) (by omega) (by omega)
end Go.Proofs.Ytiiocpeeobjlgaa.P
end
section
namespace Go.Proofs.Ytiiocpeeobjlgaa.fnExactShareGroups
open Go.ChangeShapes Go.WideShapes Go.ChangeAt Go.RowKit Go.Proofs.Ytiiocpeeobjlgaa.P Go.Proofs.YtiiocpeeobjlgaaW.PrintWords Go.Proofs.YtiiocpeeobjlgaaW.PrintLast Go.Proofs.YtiiocpeeobjlgaaW.PrintMore
open Go.ChangeMaps (open_string shut_string)
set_option linter.unusedVariables false
set_option linter.unusedSimpArgs false
theorem own : ownKnob Try.prog.godebug = none := by kernel_rfl
theorem laidOut : laidOutB Try.prog = true := by kernel_rfl
set_option maxRecDepth 100000 in
theorem lifted (os : Os) (started : os.Started) (H : Type) (enc : TypeId × Value → H) :
    ReturnsInHanded {} Try.checked os 4 .any (Rows.fnExactShareGroupsSpec.pre6 enc Try.prog Try.f4 Rows.fnExactShareGroupsRow.domain false) (Rows.fnExactShareGroupsSpec.post enc Try.prog Try.f4 false true false false) := by
  refine returnsInHanded_of_change_sized (C := Try.checked) own started (by kernel_rfl) Try.func4
    (ChangeSpec.witness6 (enc := enc) (C := Try.checked) false ⟨#[], #[.agg #[.slice none 0 0], .slice none 0 0], []⟩ 8 (by kernel_rfl) (by kernel_rfl) (by kernel_rfl) (by kernel_rfl)) ?_
  intro W base args ds gs before hval0 hW hcnd hsz0 _
  have hval : ∀ (j : Nat) t v, Try.f4.params[j]? = some t → args[j]? = some v → Value.okWide Try.prog W .any base t v := hval0
  have hW' := hW
  obtain ⟨p, q, hA0, hV, rfl, hfz, hnd⟩ := hW
  have hA : DataW.TrodAll enc Try.prog W 0 (fun _ => true) true Try.f4.params.toList args.toList ds p := hA0
  rw [Try.params4] at hA hval
  obtain ⟨v0, vs0, d0, ds0, p0, q0, hargs, rfl, rfl, h0, r0⟩ := trodAll_cons hA
  obtain ⟨v1, vs1, d1, ds1, p1, q1, rfl, rfl, rfl, h1, r1⟩ := trodAll_cons r0
  obtain ⟨rfl, rfl, rfl⟩ := trodAll_nil r1
  obtain rfl : args = #[v0, v1] := by cases args; simp_all
  obtain ⟨rfl, rfl⟩ := trodVars_none hV
  have k0_ := h0
  have lt0 : ∀ x ∈ p0, x.block < W.heap.size := by obtain ⟨m, hm⟩ := k0_; exact DataW.trod_lt m _ _ _ hm
  obtain ⟨v0_0, y0_0, nn0, rfl, h0_0⟩ := byval1 Try.underlying24 (by kernel_rfl) (by kernel_rfl) (hval 0 24 v0 rfl rfl) h0
  obtain ⟨l0_0, hk0_0, w0_0⟩ := opn_slice (d := (Kd.slice 5 (Kd.int .u8))) (Q := (fun l => l.length ≤ 9223372036854775807 ∧ ∀ x ∈ l, (fun x => (Lit.int .u8 x).wf = true) x)) Try.underlying22 (by kernel_rfl) (fun _ _ _ h => opn_slice (d := (Kd.int .u8)) (Q := (fun x => (Lit.int .u8 x).wf = true)) Try.underlying70 (by kernel_rfl) (fun _ _ _ h => opn_int Try.underlying5 h) h) h0_0
  obtain ⟨A0_0, c0_0, e0_0, hc0_0, hr0_0⟩ := hk0_0
  simp only [List.cons.injEq, and_true] at e0_0
  subst e0_0
  have k1_ := h1
  have lt1 : ∀ x ∈ p1, x.block < W.heap.size := by obtain ⟨m, hm⟩ := k1_; exact DataW.trod_lt m _ _ _ hm
  obtain ⟨nn1, h1_0⟩ := h1
  obtain ⟨A_, n_, c_, rfl⟩ := okWide_slice Try.underlying25 (hval 1 25 v1 rfl rfl)
  obtain ⟨l1, hk1, w1⟩ := opn_slice (d := k58) (Q := (fun x => (fun x => (Lit.int .i64 x).wf = true) x.f0 ∧ (fun x => (Lit.int .i64 x).wf = true) x.f1 ∧ (fun x => (Lit.int .i64 x).wf = true) x.f2 ∧ (fun x => (Lit.int .i64 x).wf = true) x.f3)) Try.underlying25 (by kernel_rfl) (fun _ _ _ h => opn_S58 h) h1_0
  obtain ⟨A1, c1, e1, hc1, hr1⟩ := hk1
  simp only [Value.cells, List.cons.injEq, and_true, Array.toList] at e1
  simp only [Value.slice.injEq] at e1
  obtain ⟨rfl, rfl, rfl⟩ := e1
  clear hA0 hval0 hsz0
  refine (FnExactShareGroups_ok _ _ l0_0 _ _ l1 W hr0_0 hc0_0 hr1 hc1 w0_0 w1).mono fun e W' ⟨he, bel0⟩ => ?_
  have bel : Below W.heap.size W W' := by first | exact bel0 | exact bel0.below
  subst he
  exact ⟨_, rfl, _, _, _, [], _, [], hW', trodAll_mk1 (shut_bool Try.underlying4 _), (trodAll_cons_mk (Below.trod laidOut (by kernel_rfl) (of_decide_eq_true (by kernel_rfl)) k0_ bel lt0) (trodAll_cons_mk (Below.trod laidOut (by kernel_rfl) (of_decide_eq_true (by kernel_rfl)) k1_ bel lt1) trodAll_mk0)), rfl, bel.frame _, fun h => by cases h⟩
theorem over : Rows.fnExactShareGroupsRow.holds Try.pinned (OpenSpec.ofChange Rows.fnExactShareGroupsSpec) :=
  OpenClaim.holds_of_wide 4 Try.f4 rfl rfl rfl rfl rfl rfl rfl ⟨rfl, rfl, rfl, rfl, rfl⟩ rfl rfl rfl rfl rfl (by kernel_rfl) Try.func4 (by kernel_rfl)
    (of_decide_eq_true (by kernel_rfl)) (by unfold Func.isWrapper; first | (rw [if_pos (by decide +kernel)]; kernel_rfl) | (rw [if_neg (by decide +kernel)]; exact ⟨rfl, rfl⟩))
    (fun os started H enc _ => lifted os started H enc)
theorem proved : Rows.FnExactShareGroupsSaid := over
#print axioms proved
end Go.Proofs.Ytiiocpeeobjlgaa.fnExactShareGroups
namespace Go.Proofs.Ytiiocpeeobjlgaa
theorem fnExactShareGroups_holds : Rows.FnExactShareGroupsSaid := fnExactShareGroups.proved
end Go.Proofs.Ytiiocpeeobjlgaa
end
