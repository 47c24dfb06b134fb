/- The row that the claim names, over contracts and plain lemmas. No condition beyond the row's own. -/
import Derived.Test.YthnchjgffocigaaDoorZSharing5
import Derived.Shelf.Strings.Builder1
import Derived.Shelf.Strings.Builder2
import Derived.Shelf.Strings.OnBuilder
import Derived.Shelf.Small.Bits
import Derived.Shelf.Small.Wraps
import Derived.Shelf.Strconv.Itoa0
import Derived.Shelf.Strconv.Itoa1
import Derived.Shelf.LaysM
import Derived.Shelf.Strconv.Itoa2
import Derived.Shelf.Strconv.Itoa3
import Derived.Shelf.Sort.Plain
import Derived.Ground.Names2Prog
import Derived.Shelf.Slices.SearchI
import Derived.Shelf.Slices.In.SortNone
import Derived.Test.YthnchjgffocigaaDoorProg
import Derived.Sort.OwnSortedInts
import Derived.StillTailTactics
import Derived.Shelf.Abstract
import Derived.Test.YthnchjgffocigaaDoorTie
import Derived.Test.YthnchjgffocigaaDoorCards
import Derived.LaidLaws
import Derived.LaidMore
import Derived.SevenTiedAt
import Derived.Stop.LaidErr
import Derived.MakeChecks
import Derived.Test.YthnchjgffocigaaDoorRows
import Derived.WalkKit
import Derived.ProofKit
import Derived.OpenShut
import Derived.ShutString
import Derived.ChangeOld
import Derived.Below
import Derived.SizedLaws
section
namespace Go.Proofs
open Go.Shelf
def Tryd.lays189_ren : Go.Shelf.Ren := ⟨fun | 189 => 80 | 125 => 116 | 257 => 115 | 128 => 145 | 129 => 146 | 294 => 136 | 295 => 137 | 296 => 138 | 297 => 139 | 298 => 140 | 299 => 141 | 216 => 142 | 300 => 143 | 301 => 144 | 328 => 153 | 329 => 154 | 330 => 155 | 331 => 156 | 332 => 157 | 215 => 149 | 343 => 164 | n => n, fun | 28 => 39 | 3 => 3 | 46 => 140 | 0 => 0 | 51 => 169 | 53 => 83 | 4 => 4 | 183 => 162 | 182 => 161 | 131 => 166 | 5 => 5 | 9 => 9 | 218 => 173 | 222 => 177 | 228 => 187 | 229 => 90 | n => n, fun | n => n⟩
theorem Tryd.lays189 : Go.Proofs.Lays.n189 Tryd.prog Tryd.lays189_ren := {
  mixed := by kernel_rfl
  f125 := Tryd.func116.trans (congrArg some (by kernel_rfl))
  f128 := Tryd.func145.trans (congrArg some (by kernel_rfl))
  f129 := Tryd.func146.trans (congrArg some (by kernel_rfl))
  f189 := Tryd.func80.trans (congrArg some (by kernel_rfl))
  f215 := Tryd.func149.trans (congrArg some (by kernel_rfl))
  f216 := Tryd.func142.trans (congrArg some (by kernel_rfl))
  f257 := Tryd.func115.trans (congrArg some (by kernel_rfl))
  f294 := Tryd.func136.trans (congrArg some (by kernel_rfl))
  f295 := Tryd.func137.trans (congrArg some (by kernel_rfl))
  f296 := Tryd.func138.trans (congrArg some (by kernel_rfl))
  f297 := Tryd.func139.trans (congrArg some (by kernel_rfl))
  f298 := Tryd.func140.trans (congrArg some (by kernel_rfl))
  f299 := Tryd.func141.trans (congrArg some (by kernel_rfl))
  f300 := Tryd.func143.trans (congrArg some (by kernel_rfl))
  f301 := Tryd.func144.trans (congrArg some (by kernel_rfl))
  f328 := Tryd.func153.trans (congrArg some (by kernel_rfl))
  f329 := Tryd.func154.trans (congrArg some (by kernel_rfl))
  f330 := Tryd.func155.trans (congrArg some (by kernel_rfl))
  f331 := Tryd.func156.trans (congrArg some (by kernel_rfl))
  f332 := Tryd.func157.trans (congrArg some (by kernel_rfl))
  f343 := Tryd.func164.trans (congrArg some (by kernel_rfl))
  t0 := Tryd.underlying0
  a0 := Tryd.isAgg0
  z0 := Tryd.sizeOf0
  v0 := Tryd.zeroValue0
  t3 := Tryd.underlying3
  a3 := Tryd.isAgg3
  z3 := Tryd.sizeOf3
  v3 := Tryd.zeroValue3
  t4 := Tryd.underlying4
  a4 := Tryd.isAgg4
  z4 := Tryd.sizeOf4
  v4 := Tryd.zeroValue4
  t5 := Tryd.underlying5
  a5 := Tryd.isAgg5
  z5 := Tryd.sizeOf5
  v5 := Tryd.zeroValue5
  t9 := Tryd.underlying9
  a9 := Tryd.isAgg9
  z9 := Tryd.sizeOf9
  v9 := Tryd.zeroValue9
  t28 := Tryd.underlying39
  a28 := Tryd.isAgg39
  z28 := Tryd.sizeOf39
  v28 := Tryd.zeroValue39
  t46 := Tryd.underlying140
  a46 := Tryd.isAgg140
  z46 := Tryd.sizeOf140
  v46 := Tryd.zeroValue140
  t51 := Tryd.underlying169
  a51 := Tryd.isAgg169
  z51 := Tryd.sizeOf169
  v51 := Tryd.zeroValue169
  t53 := Tryd.underlying83
  a53 := Tryd.isAgg83
  z53 := Tryd.sizeOf83
  v53 := Tryd.zeroValue83
  t131 := Tryd.underlying166
  a131 := Tryd.isAgg166
  z131 := Tryd.sizeOf166
  v131 := Tryd.zeroValue166
  t182 := Tryd.underlying161
  a182 := Tryd.isAgg161
  z182 := Tryd.sizeOf161
  v182 := Tryd.zeroValue161
  t183 := Tryd.underlying162
  a183 := Tryd.isAgg162
  z183 := Tryd.sizeOf162
  v183 := Tryd.zeroValue162
  t218 := Tryd.underlying173
  a218 := Tryd.isAgg173
  z218 := Tryd.sizeOf173
  v218 := Tryd.zeroValue173
  t222 := Tryd.underlying177
  a222 := Tryd.isAgg177
  z222 := Tryd.sizeOf177
  v222 := Tryd.zeroValue177
  t228 := Tryd.underlying187
  a228 := Tryd.isAgg187
  z228 := Tryd.sizeOf187
  v228 := Tryd.zeroValue187
  t229 := Tryd.underlying90
  a229 := Tryd.isAgg90
  z229 := Tryd.sizeOf90
  v229 := Tryd.zeroValue90 }
open Go.Sort Go.RowKit in
theorem Tryd.slices_Sort_int (blk off cap : Nat) (zs : List Int) (w : World) (hH : Holds (Value.int .i64) w blk off zs.toArray) (hblk : blk < w.heap.size) (hsz : zs.length < 4611686018427387904) :
    Calls Tryd.prog 80 #[.slice (some ⟨blk, off, none⟩) zs.length cap] w fun e w' =>
      e = .returned (.tuple #[]) ∧ ∃ n os, w' = grow (putRow (Value.int .i64) (Sort.ahead w n) blk off (zs.mergeSort fun x y => decide (x ≤ y)).toArray) os := Any.slices_Sort_int Tryd.lays189 blk off cap zs w hH hblk hsz
end Go.Proofs
end
section
namespace Go.Proofs.YthnchjgffocigaaDoor.P
open Go.RowKit Go.Proofs.YthnchjgffocigaaDoorW.PrintWords Go.Proofs.YthnchjgffocigaaDoorW.PrintLast Go.Proofs.YthnchjgffocigaaDoorW.PrintMore
set_option linter.unusedVariables false
set_option linter.unusedSimpArgs false
def sortI (l : List Int) : List Int := l.mergeSort fun x y => decide (x ≤ y)
theorem sortI_len (l : List Int) : (sortI l).length = l.length := by simp [sortI]
theorem sort_row (base : Nat) (ok : Nat → Prop) (g cap : Nat) (l : List Int) (w : World) (h : Kd.R (Kd.int .i64) 3 w base ok (.slice (some ⟨g, 0, none⟩) l.length cap) l) (hl : l.length ≤ 1048576) :
    Calls Tryd.prog 80 #[.slice (some ⟨g, 0, none⟩) l.length cap] w fun e w' => e = .returned (.tuple #[]) ∧ Kd.R (Kd.int .i64) 3 w' base ok (.slice (some ⟨g, 0, none⟩) l.length cap) (sortI l) ∧ w.grownBy w' (some g) := by
  have ho := Kd.own_of_R h
  have hok := h.1
  rcases ho.2 with ⟨e, _⟩ | ⟨g', cap', cur, e, hb, hh, h1, h2, h3, h4⟩
  · cases e
  · injection e with e1 e2 e3
    injection e1 with e1
    injection e1 with e1
    subst e1
    subst e3
    rw [Nat.mul_one] at h4
    have hlt : g < w.heap.size := (Array.getElem?_eq_some_iff.1 hh).1
    refine (Tryd.slices_Sort_int g 0 cap l w (Go.holds_of_blockI hh h4) hlt (by omega)).mono fun e w' ⟨he, n, os, hw⟩ => ⟨he, ?_, ?_⟩
    · subst hw
      have h5 := Go.ownsRow_sortedI (w := w) (base := base) (g := g) (cap := cap) (n := n) (e := 3) (os := os) (cur := cur) (ss := l) (ts := sortI l) (sortI_len l) hb hh h1 h2 h3
      refine Kd.R_of_own (h1 := fun _ => rfl) ?_ hok
      rw [sortI_len]
      exact h5
    · subst hw
      exact Go.grownBy_sortedI _
theorem posL_take (n : Int) : ∀ (l : List Int), ∀ a ∈ l.take (posL n l), a < n
  | [], a, h => by simp at h
  | x :: xs, a, h => by
    simp only [posL] at h
    by_cases hx : x < n
    · rw [if_pos hx, List.take_succ_cons] at h
      rcases List.mem_cons.1 h with h | h
      · exact h ▸ hx
      · exact posL_take n xs a h
    · rw [if_neg hx] at h; simp at h
theorem posL_drop (n : Int) : ∀ (l : List Int), l.Pairwise (· ≤ ·) → ∀ a ∈ l.drop (posL n l), n ≤ a
  | [], _, a, h => by simp at h
  | x :: xs, hp, a, h => by
    obtain ⟨h1, h2⟩ := List.pairwise_cons.1 hp
    simp only [posL] at h
    by_cases hx : x < n
    · rw [if_pos hx, List.drop_succ_cons] at h
      exact posL_drop n xs h2 a h
    · rw [if_neg hx, List.drop_zero] at h
      rcases List.mem_cons.1 h with h | h
      · subst h; omega
      · have := h1 a h; omega
theorem insL_sorted {l : List Int} (n : Int) (h : l.Pairwise (· ≤ ·)) : (insL l n).Pairwise (· ≤ ·) := by
  unfold insL
  have ht : (l.take (posL n l)).Pairwise (· ≤ ·) := List.Pairwise.sublist (List.take_sublist _ _) h
  have hd : (l.drop (posL n l)).Pairwise (· ≤ ·) := List.Pairwise.sublist (List.drop_sublist _ _) h
  refine List.pairwise_append.2 ⟨ht, List.pairwise_cons.2 ⟨posL_drop n l h, hd⟩, fun a ha b hb => ?_⟩
  have h1 := posL_take n l a ha
  rcases List.mem_cons.1 hb with hb | hb
  · subst hb; omega
  · have := posL_drop n l h b hb; omega
theorem insL_perm (l : List Int) (n : Int) : (insL l n).Perm (n :: l) := by
  unfold insL
  refine (List.perm_middle).trans ?_
  rw [List.take_append_drop]
theorem foldl_ins_sorted : ∀ (l acc : List Int), acc.Pairwise (· ≤ ·) → (l.foldl insL acc).Pairwise (· ≤ ·) ∧ (l.foldl insL acc).Perm (l ++ acc)
  | [], acc, h => ⟨h, List.Perm.refl _⟩
  | x :: xs, acc, h => by
    obtain ⟨h1, h2⟩ := foldl_ins_sorted xs (insL acc x) (insL_sorted x h)
    refine ⟨h1, h2.trans ?_⟩
    refine (List.Perm.append_left xs (insL_perm acc x)).trans ?_
    rw [List.cons_append]
    exact List.perm_middle
theorem sortI_iz (q : List Nat) : sortI (iz q) = srt q := by
  obtain ⟨h1, h2⟩ := foldl_ins_sorted (iz q) [] List.Pairwise.nil
  rw [List.append_nil] at h2
  have h3 : (sortI (iz q)).Perm (iz q) := List.mergeSort_perm _ _
  have h4 : (sortI (iz q)).Pairwise (· ≤ ·) := by
    have := List.pairwise_mergeSort (le := fun x y : Int => decide (x ≤ y)) (fun a b c h1 h2 => by simp at *; omega) (fun a b => by simp; omega) (iz q)
    exact this.imp (fun h => by simpa using h)
  exact List.Perm.eq_of_pairwise (le := (· ≤ ·)) (fun a b _ _ h1 h2 => by omega) h4 h1 (h3.trans h2.symm)
theorem infoB : (Tryd.prog.info? 4).map (fun i => (i.zero, i.size, i.bytes)) = some (some (.bool false), 1, 1) := by kernel_rfl
section
variable {W : World} {base n g cap k : Nat} {ok : Nat → Prop} {s : List Nat}
theorem mt_cell (h : Kd.R Kd.bool 4 W base ok (.slice (some ⟨g, 0, none⟩) n cap) (mtOf n s)) (hk : k < n) : W.cell? ⟨g, k, none⟩ = some (.bool (decide (k ∈ s))) ∧ W.frozen? ⟨g, k, none⟩ = false := by
  have h' : Kd.R Kd.bool 4 W base ok (.slice (some ⟨g, 0, none⟩) (mtOf n s).length cap) (mtOf n s) := by rw [mtOf_len]; exact h
  have h2 := Kd.R_cell false h' (k : Int) (by omega) (by rw [mtOf_len]; omega)
  rw [mtOf_at s hk, Int.toNat_natCast] at h2
  exact h2
theorem mt_set (h : Kd.R Kd.bool 4 W base ok (.slice (some ⟨g, 0, none⟩) n cap) (mtOf n s)) (hk : k < n) : Kd.R Kd.bool 4 (W.setCell ⟨g, k, none⟩ (.bool true)) base ok (.slice (some ⟨g, 0, none⟩) n cap) (mtOf n (s ++ [k])) := by
  obtain ⟨c, hcl, hM, hcc, hfr⟩ := Kd.R_elem h false (k : Int) (by omega) (by omega)
  have h2 := (Kd.R_seg h (k : Int) (by omega) (by omega) (seg := [.bool true]) (j := 0) hcl hcc (show 1 ≤ 1 from by decide) (x' := true) (okp := fun _ => False) (by
    have hc : c = [.bool ((mtOf n s).getD (k : Int).toNat false)] := hM
    subst hc
    rfl) (fun _ h => h.elim)).1
  rw [Int.toNat_natCast, mtOf_set s hk, show k * Kd.bool.sz + 0 = k from Nat.mul_one k] at h2
  exact h2
theorem mt_block (h : Kd.R Kd.bool 4 W base ok (.slice (some ⟨g, 0, none⟩) n cap) (mtOf n s)) : base ≤ g ∧ g < W.heap.size ∧ ∃ cells, W.heap[g]? = some (.cells cells 4 (0, 0)) := by
  obtain ⟨cells, hc⟩ := own_typed (Kd.own_of_R h) g rfl
  exact ⟨Kd.R_base h g rfl, Kd.R_lt h g rfl, cells, hc⟩
theorem mt_typed : ∀ q, q ∈ 4 :: Kd.bool.E → q ≠ 3 ∧ q ≠ 39 := by
  intro q hq
  have h_ : q = 4 := by simpa [Kd.bool, Kd.scalar] using hq
  subst h_
  decide
end
set_option maxHeartbeats 2000000 in
set_option maxRecDepth 100000 in
theorem groups_no (k : Nat) (A0 : Option Addr) (c0 : Nat) (m : List (List Int)) (A1 : Option Addr) (c1 : Nat) (l : List S28) (w : World) (hr0 : Kd.C (Kd.slice 5 (Kd.int .u8)) w A0 m.length m) (hc0 : m.length ≤ c0) (hr1 : Kd.C k28 w A1 l.length l) (hc1 : l.length ≤ c1) (h1 : impl_areWatched.f k m l = some false) :
    Calls Tryd.prog 20 #[.agg #[.slice A0 m.length c0], .slice A1 l.length c1] w fun e w' => e = .returned (.tuple #[.slice none 0 0, .bool false]) ∧ Below w.heap.size w w' := by
 have hu := Tryd.underlying26
 have HR0 := am hr0
 have HC0 := am hc0
 have HR := am hr1
 have HC := am hc1
 have HA1 := am h1
 have HB := am (Below.refl w.heap.size w)
 clear hr0 hc0 hr1 hc1 h1
 go_enter Tryd.func20, Tryd.ntmps20
 go_wp2_with (first | ((with_reducible refine gate_dst (N := 2) rfl ?_); refine bE 2 #[.slice A0 m.length c0] 26 ?_; intro g2 hg w2 hbox hb; replace HB := am (below_step HB.out hb); have BK2 := am hbox; clear hb hbox hg; have hc2 : w2.cell? ⟨g2, 0, none⟩ = some (.slice A0 m.length c0) := (blk_cell BK2.out 0).trans rfl; have hf2 := blk_frozen BK2.out 0) | (go_at_call 72; (with_reducible refine (impl_areWatched.calls k _ _ m _ _ l false _ ?s1 ?s2 ?s3 ?s4 HA1.out).mono ?_); (case s1 => exact Kd.C_below HR0.out (bb HB)); (case s2 => exact HC0.out); (case s3 => exact Kd.C_below HR.out (bb HB)); (case s4 => exact HC.out); rintro e wa ⟨rfl, hb⟩; replace HB := am (below_step (bb HB) hb); clear hb))
 go_ret2
 exact ⟨rfl, bb HB⟩
set_option maxHeartbeats 16000000 in
set_option maxRecDepth 100000 in
theorem groups_yes (k : Nat) (A0 : Option Addr) (c0 : Nat) (m : List (List Int)) (A1 : Option Addr) (c1 : Nat) (l : List S28) (sh : Nat → Nat → Bool) (w : World) (hr0 : Kd.C (Kd.slice 5 (Kd.int .u8)) w A0 m.length m) (hc0 : m.length ≤ c0) (hr1 : Kd.C k28 w A1 l.length l) (hc1 : l.length ≤ c1) (h1 : impl_areWatched.f k m l = some true) (hl : l.length ≤ 12)
    (hov : ∀ a b : Nat, a < l.length → b < l.length → impl_areShared.f (rd_T28 l a).f0 (rd_T28 l a).f1 (rd_T28 l a).f2 (rd_T28 l a).f3 (rd_T28 l b).f0 (rd_T28 l b).f1 (rd_T28 l b).f2 (rd_T28 l b).f3 = some (sh a b)) (hlen : ∀ i, i ≤ l.length → (igr l.length sh i).1.length ≤ 12) :
    Calls Tryd.prog 20 #[.agg #[.slice A0 m.length c0], .slice A1 l.length c1] w fun e w' => ∃ v0_ : Value, e = .returned (.tuple #[v0_, .bool true]) ∧ Kd.S kII 39 w' w.heap.size (fun _ => True) v0_ (igr l.length sh l.length).1 ∧ Below w.heap.size w w' := by
 have hu := Tryd.underlying26
 have hu2 := Tryd.underlying28
 have HR0 := am hr0
 have HC0 := am hc0
 have HR := am hr1
 have HC := am hc1
 have HL := am hl
 have HOV := am hov
 have HLE := am hlen
 have HA1 := am h1
 have HB := am (Below.refl w.heap.size w)
 clear hr0 hc0 hr1 hc1 hov h1 hlen
 go_enter Tryd.func20, Tryd.ntmps20
 go_wp2_with (first | ((with_reducible refine gate_dst (N := 2) rfl ?_); refine bE 2 #[.slice A0 m.length c0] 26 ?_; intro g2 hg w2 hbox hb; replace HB := am (below_step HB.out hb); have BK2 := am hbox; clear hb hbox hg; have hc2 : w2.cell? ⟨g2, 0, none⟩ = some (.slice A0 m.length c0) := (blk_cell BK2.out 0).trans rfl; have hf2 := blk_frozen BK2.out 0) | (go_at_call 72; (with_reducible refine (impl_areWatched.calls k _ _ m _ _ l true _ ?s1 ?s2 ?s3 ?s4 HA1.out).mono ?_); (case s1 => exact Kd.C_below HR0.out (bb HB)); (case s2 => exact HC0.out); (case s3 => exact Kd.C_below HR.out (bb HB)); (case s4 => exact HC.out); rintro e wa ⟨rfl, hb⟩; replace HB := am (below_step (bb HB) hb); clear hb))
 replace HB := am (below_drew1 (show Below w.heap.size w wa from HB.out))
 refine start_ (n := 6) (S := fun _ => True) (ds := []) #[ff, ff, ff, ff, ff, ff] (by kernel_rfl) rfl rfl trivial (fun hHeld => ?_)
 generalize wa.drew = wd at HB hHeld ⊢
 refine pM #[ff, tt, ff, ff, ff, ff] 1 18 ?_
 refine pM #[ff, tt, tt, ff, ff, ff] 2 19 ?_
 refine join_ (σ := Value × Value) 1 #[tt, tt, tt, tt, tt, ff] (fun s => [(17, s.1), (20, s.2), (6, s.1)]) (fun s W => Own W w.heap.size s.1 [] [] ∧ Kd.R Kd.bool 4 W w.heap.size (fun _ => True) s.2 (mtOf l.length []) ∧ Below w.heap.size w W) ?hcont (fun hcont => ?_)
 rotate_left
 refine two_ (i := 0) (j := 3) (Ni := some 17) (Nj := some 20) #[tt, tt, tt, ff, ff, ff] #[ff, tt, tt, tt, ff, ff] rfl rfl rfl rfl (by kernel_rfl) (by decide) (by decide) (fun K hK => ?_) (fun K hK => ?_)
 ·refine Kd.S_lit_step kII _ 39 ?hg (N := 17) ?hd (xs := ([] : List (List Int))) (inner := []) (ok := fun _ => True) (okp := fun _ => True) ?hr ?hp (fun _ hk => hk) trivial (Below.refl _ _) (Nat.le_refl _) (by simp) ?_
  case hd => rfl
  case hg => rfl
  case hr => first | (go_simp; done) | (go_simp; rfl)
  case hp => exact (Reps.none _ _)
  intro v17 w17 ho hb hg_ hnew_
  clear hg_ hnew_
  have HS := am (Kd.S_lower ho (below_size HB.out))
  replace HB := am (below_step HB.out hb)
  clear ho hb
  refine hK.out _ _ trivial (fun hHeld => ?_)
  clear hK K
  refine nP 17 ?_
  refine pM #[tt, tt, tt, ff, tt, ff] 4 6 ?_
  refine one_ (i := 3) (N := some 20) #[tt, tt, tt, tt, tt, ff] rfl rfl (by kernel_rfl) (by decide) (fun K hK => ?_)
  refine Kd.R_make_step Kd.bool (w0 := w) w.heap.size 4 (by rfl) (N := 20) rfl 107 (.tmp 19) (.tmp 19) rfl (l.length : Int) rfl rfl Tryd.underlying107 (.bool false) 1 infoB rfl (by decide) (by omega) false (ok := fun _ => True) (okp := fun _ => False) rfl (fun _ h => h.elim) trivial (by omega) (by omega) HB.out (below_size HB.out) ?_
  intro v20 w20 ho20 hb20 hg20 hnew_
  clear hnew_
  have n1_ := Own.start (Kd.S_grown HS.out hg20 (fun _ _ e => by cases e))
  refine hK.out _ _ trivial (fun hHeld => ?_)
  clear hK K
  have h_ := hcont (v17, v20) w20 ⟨n1_, by rw [mtOf_nil]; exact ho20, hb20⟩
  simp only [putAll, Act.put, List.setIfInBounds_toArray, List.set_cons_zero, List.set_cons_succ] at h_ ⊢
  exact h_
 ·refine Kd.R_make_step Kd.bool (w0 := w) w.heap.size 4 (by rfl) (N := 20) rfl 107 (.tmp 19) (.tmp 19) rfl (l.length : Int) rfl rfl Tryd.underlying107 (.bool false) 1 infoB rfl (by decide) (by omega) false (ok := fun _ => True) (okp := fun _ => False) rfl (fun _ h => h.elim) trivial (by omega) (by omega) HB.out (below_size HB.out) ?_
  intro v20 w20 ho20 hb20 hg20 hnew_
  clear hnew_
  have n0_ := am hb20
  have HM := am ho20
  clear HB ho20 hb20 hg20
  have HB := n0_
  clear n0_
  refine hK.out _ _ trivial (fun hHeld => ?_)
  clear hK K
  refine nP 20 ?_
  refine one_ (i := 0) (N := some 17) #[tt, tt, tt, tt, ff, ff] rfl rfl (by kernel_rfl) (by decide) (fun K hK => ?_)
  refine Kd.S_lit_step kII _ 39 ?hg (N := 17) ?hd (xs := ([] : List (List Int))) (inner := []) (ok := fun _ => True) (okp := fun _ => True) ?hr ?hp (fun _ hk => hk) trivial (Below.refl _ _) (Nat.le_refl _) (by simp) ?_
  case hd => rfl
  case hg => rfl
  case hr => first | (go_simp; done) | (go_simp; rfl)
  case hp => exact (Reps.none _ _)
  intro v17 w17 ho hb hg_ hnew_
  clear hg_ hnew_
  have n1_ := Own.start (Kd.S_lower ho (below_size HB.out))
  have n2_ := below_step HB.out hb
  have n3_ := Kd.R_below HM.out hb
  refine hK.out _ _ trivial (fun hHeld => ?_)
  clear hK K
  refine nP 17 ?_
  refine pM #[tt, tt, tt, tt, tt, ff] 4 6 ?_
  have h_ := hcont (v17, v20) w17 ⟨n1_, by rw [mtOf_nil]; exact n3_, n2_⟩
  simp only [putAll, Act.put, List.setIfInBounds_toArray, List.set_cons_zero, List.set_cons_succ] at h_ ⊢
  exact h_
 case hcont =>
  rintro ⟨v17, v20⟩ w17 ⟨h1_, h2_, h3_⟩
  have HO := am h1_
  have HM := am h2_
  clear HB
  have HB := am h3_
  clear h1_ h2_ h3_
  refine norm_ (a' := ?_) ?_ ?_
  rotate_left
  ·show putAll _ [(17, v17), (20, v20), (6, v17)] = _
   simp only [putAll, Act.put, List.setIfInBounds_toArray, List.set_cons_zero, List.set_cons_succ, i64_w, i32_w]
   rfl
  refine pM #[tt, tt, tt, tt, tt, tt] 5 7 ?_
  refine done_ (by kernel_rfl) ?_
  obtain ⟨Am, cm, em⟩ : ∃ A c, v20 = .slice A l.length c := by
   obtain ⟨A, c, e⟩ := Kd.R_slice HM.out
   rw [mtOf_len] at e
   exact ⟨A, c, e⟩
  subst em
  go_wp2
  go_loopg [6, 23] l.length (fun kq v6 v23 wr => ∃ i : Nat, i ≤ l.length ∧ l.length - i ≤ kq ∧ v23 = .int .i64 (i : Int) ∧ Aside0 (Own wr w.heap.size v6 (igr l.length sh i).1 []) ∧ Aside0 (Kd.R Kd.bool 4 wr w.heap.size (fun _ => True) (.slice Am l.length cm) (mtOf l.length (igr l.length sh i).2)) ∧ Aside0 (Below w.heap.size w wr))
  case atStart => exact ⟨0, by omega, by omega, rfl, ⟨by repeat (first | (with_reducible first | exact HO.out | apply Own.alloc | apply Own.drewN | apply Own.drew) | exact HO.out)⟩, ⟨by ((with_reducible repeat (first | apply Kd.R_alloc | apply Kd.R_drewN | apply Kd.R_drew)); exact HM.out)⟩, ⟨bb HB⟩⟩
  case round =>
   clear HO HB HM
   obtain ⟨i, hi, hkq, rfl, HO, HM, HB⟩ := hrel
   by_cases hlt : i < l.length
   ·have c1b := decide_eq_true (show (i : Int) < (l.length : Int) by omega)
    obtain ⟨gm, rfl⟩ : ∃ g, Am = some ⟨g, 0, none⟩ := by
     obtain ⟨g, cap, e, _⟩ := Kd.R_form HM.out (by rw [mtOf_len]; omega)
     injection e with e1
     exact ⟨g, e1⟩
    obtain ⟨outs, hou⟩ : ∃ o, o = (igr l.length sh i).1 := ⟨_, rfl⟩
    obtain ⟨blk, hblk⟩ : ∃ o, o = (igr l.length sh i).2 := ⟨_, rfl⟩
    rw [← hou] at HO
    rw [← hblk] at HM
    have HLO := am (show outs.length ≤ 12 by rw [hou]; exact HLE.out i hi)
    have i0' : 0 ≤ (i : Int) := by omega
    have i1' : (i : Int) < (l.length : Int) := by omega
    have i0 := eq_true i0'
    have i1 := eq_true i1'
    obtain ⟨hm0, hf0⟩ := mt_cell HM.out hlt
    by_cases hin : i ∈ blk
    ·have HSO := am (show igr l.length sh (i + 1) = (outs, blk) by rw [igr_in (by rw [← hblk]; exact hin), hou, hblk])
     clear hou hblk
     rw [decide_eq_true hin] at hm0
     go_wp2
     go_roundg (l.length - (i + 1))
     case measure => omega
     case rel => exact ⟨i + 1, by omega, by omega, by go_num, ⟨by rw [HSO.out]; repeat (first | (with_reducible first | exact HO.out | apply Own.alloc | apply Own.drewN | apply Own.drew) | exact HO.out)⟩, ⟨by rw [HSO.out]; ((with_reducible repeat (first | apply Kd.R_alloc | apply Kd.R_drewN | apply Kd.R_drew)); exact HM.out)⟩, ⟨bb HB⟩⟩
    ·obtain ⟨Q, hQ⟩ : ∃ Q, Q = bfs l.length sh blk l.length 0 [i] := ⟨_, rfl⟩
     have HSO := am (show igr l.length sh (i + 1) = (outs ++ [srt Q], blk ++ Q) by rw [igr_out (by rw [← hblk]; exact hin), ← hou, ← hblk, hQ])
     have HQE := am (show bfs l.length sh blk l.length 0 [i] = Q from hQ.symm)
     clear hou hblk hQ
     rw [decide_eq_false hin] at hm0
     go_wp2_with (first | ((with_reducible refine gate_dst (N := 31) rfl ?_); refine Kd.R_lit (Kd.int .i64) _ 3 ?hg (N := 31) ?hd (xs := [(i : Int)]) (inner := [.int .i64 (i : Int)]) (ok := fun _ => True) (okp := fun _ => True) ?hr ?hp (fun _ hk => hk) trivial (Below.refl _ _) (Nat.le_refl _) (by simp) ?_; (case hd => rfl); (case hg => rfl); (case hr => first | (go_simp; done) | (go_simp; rfl)); (case hp => exact R1_lit _ _ _ _); intro v31 w31 ho hb hg_ hnew_; clear hg_ hnew_; replace HO := am (Own.push (by repeat (first | (with_reducible first | exact HO.out | apply Own.alloc | apply Own.drewN | apply Own.drew) | exact HO.out)) hb (below_size (bb HB)) ho); replace HB := am (below_step (bb HB) hb); replace HM := am (Kd.R_below (by ((with_reducible repeat (first | apply Kd.R_alloc | apply Kd.R_drewN | apply Kd.R_drew)); exact HM.out)) hb); clear hb ho; have HBK := am (mt_block HM.out); obtain ⟨hm8, hf8⟩ := mt_cell HM.out hlt))
     go_loopg [9, 10] l.length (fun kq v9 v10 wr => ∃ (t : Nat) (q : List Nat), t ≤ q.length ∧ l.length - t ≤ kq ∧ v10 = .int .i64 (t : Int) ∧ Aside0 (IsQ l.length blk q) ∧ Aside0 (bfs l.length sh blk (l.length - t) t q = Q) ∧ Aside0 (0 < q.length) ∧ Aside0 (Own wr w.heap.size u6 outs [(v9, iz q)]) ∧ Aside0 (Kd.R Kd.bool 4 wr w.heap.size (fun _ => True) (.slice (some ⟨gm, 0, none⟩) l.length cm) (mtOf l.length (blk ++ q))) ∧ Aside0 (Below w.heap.size w wr))
     case atStart =>
      obtain ⟨hge, hgl, cq, hcq⟩ := HBK.out
      exact ⟨0, [i], by simp, by omega, rfl, ⟨IsQ.one hlt hin⟩, ⟨HQE.out⟩, ⟨by simp⟩, ⟨HO.out.store hcq (by decide) (by decide) i (.bool true)⟩, ⟨mt_set HM.out hlt⟩, ⟨below_set HB.out hge⟩⟩
     case round =>
      clear HO HB HM HQE hm8 hf8 HBK hm0 hf0
      obtain ⟨t, q, ht, hkq2, rfl, HQ, HBF, HQP, HO, HM, HB⟩ := hrel
      have hqn := HQ.out.len
      have H9 := am (show Kd.R (Kd.int .i64) 3 wr w.heap.size (fun _ => True) u9 (iz q) from HO.out.row 0 rfl)
      obtain ⟨gs, cs, es, GES0, _⟩ := Kd.R_form H9.out (by rw [iz_len]; exact HQP.out)
      subst es
      have GES := am GES0
      clear GES0
      by_cases htl : t < q.length
      ·have htz : t < (iz q).length := by rw [iz_len]; exact htl
       have c3b := decide_eq_true (show (t : Int) < ((iz q).length : Int) by rw [iz_len]; omega)
       obtain ⟨x, hx⟩ : ∃ x, q[t]? = some x := ⟨_, List.getElem?_eq_getElem htl⟩
       have HX := am hx
       have hxn : x < l.length := HQ.out.2.1 x (List.mem_of_getElem? hx)
       obtain ⟨q2, hq2⟩ : ∃ q2, q2 = kall l.length sh blk x q := ⟨_, rfl⟩
       have HQ2 := am (show kfrom sh blk x (l.length - 0) 0 q = q2 by rw [hq2]; rfl)
       have HBF2 := am (show bfs l.length sh blk (l.length - (t + 1)) (t + 1) q2 = Q by
        have h_ := HBF.out
        obtain ⟨f, hf⟩ : ∃ f, l.length - t = f + 1 := ⟨l.length - t - 1, by omega⟩
        rw [hf, bfs_go hx, ← hq2] at h_
        rw [show l.length - (t + 1) = f by omega]
        exact h_)
       clear hx hq2 HBF
       go_wp2
       go_loopg [9, 43] l.length (fun kq v9 v43 wr => ∃ (j : Nat) (q' : List Nat), j ≤ l.length ∧ l.length - j ≤ kq ∧ v43 = .int .i64 (j : Int) ∧ Aside0 (IsQ l.length blk q') ∧ Aside0 (q'[t]? = some x) ∧ Aside0 (kfrom sh blk x (l.length - j) j q' = q2) ∧ Aside0 (Own wr w.heap.size u6 outs [(v9, iz q')]) ∧ Aside0 (Kd.R Kd.bool 4 wr w.heap.size (fun _ => True) (.slice (some ⟨gm, 0, none⟩) l.length cm) (mtOf l.length (blk ++ q'))) ∧ Aside0 (Below w.heap.size w wr))
       case atStart => exact ⟨0, q, by omega, by omega, rfl, HQ, HX, HQ2, ⟨by repeat (first | (with_reducible first | exact HO.out | apply Own.alloc | apply Own.drewN | apply Own.drew) | exact HO.out)⟩, ⟨by ((with_reducible repeat (first | apply Kd.R_alloc | apply Kd.R_drewN | apply Kd.R_drew)); exact HM.out)⟩, ⟨bb HB⟩⟩
       case round =>
        clear HO HB HM HQ HX HQ2 H9 GES HQP htl htz c3b ht hqn
        obtain ⟨j, q', hjl, hkq3, rfl, HQ, HT, HF, HO, HM, HB⟩ := hrel
        have htl : t < q'.length := (List.getElem?_eq_some_iff.1 HT.out).1
        have hqn := HQ.out.len
        by_cases hj : j < l.length
        ·have c4b := decide_eq_true (show (j : Int) < (l.length : Int) by omega)
         have H9 := am (show Kd.R (Kd.int .i64) 3 wr w.heap.size (fun _ => True) u9 (iz q') from HO.out.row 0 rfl)
         obtain ⟨gg, cg, eg, _⟩ := Kd.R_form H9.out (by rw [iz_len]; omega)
         subst eg
         have t0 : 0 ≤ (t : Int) := by omega
         have t1 : (t : Int) < ((iz q').length : Int) := by rw [iz_len]; omega
         have htz : t < (iz q').length := by rw [iz_len]; exact htl
         have j0 : 0 ≤ (x : Int) := by omega
         have j1 : (x : Int) < (l.length : Int) := by omega
         have k0 : 0 ≤ (j : Int) := by omega
         have k1 : (j : Int) < (l.length : Int) := by omega
         obtain ⟨hm0, _⟩ := mt_cell HM.out hj
         have hT0 := (Kd.R_cell (0 : Int) H9.out (t : Int) t0 t1).1
         rw [show rdOf (0 : Int) (iz q') (t : Int) = (x : Int) from iz_at HT.out, Int.toNat_natCast] at hT0
         obtain ⟨ad, e0, hX0, hX1, hX2, hX3⟩ := at_T28 HR.out (x : Int) j0 j1
         cases e0
         obtain ⟨ad', e0, hK0, hK1, hK2, hK3⟩ := at_T28 HR.out (j : Int) k0 k1
         cases e0
         have hv := HOV.out x j hxn hj
         simp only [Int.toNat_natCast] at hX0 hX1 hX2 hX3 hK0 hK1 hK2 hK3
         obtain ⟨a0, h_⟩ : ∃ a, a = (rd_T28 l x).f0 := ⟨_, rfl⟩
         rw [← h_] at hX0 hv; clear h_
         obtain ⟨a1, h_⟩ : ∃ a, a = (rd_T28 l x).f1 := ⟨_, rfl⟩
         rw [← h_] at hX1 hv; clear h_
         obtain ⟨a2, h_⟩ : ∃ a, a = (rd_T28 l x).f2 := ⟨_, rfl⟩
         rw [← h_] at hX2 hv; clear h_
         obtain ⟨a3, h_⟩ : ∃ a, a = (rd_T28 l x).f3 := ⟨_, rfl⟩
         rw [← h_] at hX3 hv; clear h_
         obtain ⟨b0, h_⟩ : ∃ a, a = (rd_T28 l j).f0 := ⟨_, rfl⟩
         try rw [← h_] at hv
         rw [← h_] at hK0; clear h_
         obtain ⟨b1, h_⟩ : ∃ a, a = (rd_T28 l j).f1 := ⟨_, rfl⟩
         try rw [← h_] at hv
         rw [← h_] at hK1; clear h_
         obtain ⟨b2, h_⟩ : ∃ a, a = (rd_T28 l j).f2 := ⟨_, rfl⟩
         try rw [← h_] at hv
         rw [← h_] at hK2; clear h_
         obtain ⟨b3, h_⟩ : ∃ a, a = (rd_T28 l j).f3 := ⟨_, rfl⟩
         try rw [← h_] at hv
         rw [← h_] at hK3; clear h_
         have HV := am hv
         have hK0' := pw_cell_below HB.out hK0
         have hK1' := pw_cell_below HB.out hK1
         have hK2' := pw_cell_below HB.out hK2
         have hK3' := pw_cell_below HB.out hK3
         have LX0 := am (pw_cell_below HB.out hX0)
         have LX1 := am (pw_cell_below HB.out hX1)
         have LX2 := am (pw_cell_below HB.out hX2)
         have LX3 := am (pw_cell_below HB.out hX3)
         have LT0 := am hT0
         have LM0 := am hm0
         clear hT0 hX0 hX1 hX2 hX3 hK0 hK1 hK2 hK3 hv hm0
         replace t0 := eq_true t0
         replace t1 := eq_true t1
         replace j0 := eq_true j0
         replace j1 := eq_true j1
         have k0' := k0
         have k1' := k1
         replace k0 := eq_true k0
         replace k1 := eq_true k1
         go_upto_region 16 with (fail)
         obtain ⟨ob, hob⟩ : ∃ ob : Obj, ob = .cells #[.int .i64 b0, .int .i64 b1, .int .i64 b2, .int .i64 b3] 28 (0, 0) := ⟨_, rfl⟩
         have bn : (wr.alloc ob).heap[wr.heap.size]? = some (.cells #[.int .i64 b0, .int .i64 b1, .int .i64 b2, .int .i64 b3] 28 (0, 0)) := by rw [← hob]; exact heap_alloc_new wr ob
         have HK0 := am ((blk_cell bn 0).trans rfl : (wr.alloc ob).cell? ⟨wr.heap.size, 0, none⟩ = some (.int .i64 b0))
         have HK1 := am ((blk_cell bn 1).trans rfl : (wr.alloc ob).cell? ⟨wr.heap.size, 1, none⟩ = some (.int .i64 b1))
         have HK2 := am ((blk_cell bn 2).trans rfl : (wr.alloc ob).cell? ⟨wr.heap.size, 2, none⟩ = some (.int .i64 b2))
         have HK3 := am ((blk_cell bn 3).trans rfl : (wr.alloc ob).cell? ⟨wr.heap.size, 3, none⟩ = some (.int .i64 b3))
         have HX0 := am (pw_cell_below (below_alloc (Below.refl _ wr) ob) LX0.out)
         have HX1 := am (pw_cell_below (below_alloc (Below.refl _ wr) ob) LX1.out)
         have HX2 := am (pw_cell_below (below_alloc (Below.refl _ wr) ob) LX2.out)
         have HX3 := am (pw_cell_below (below_alloc (Below.refl _ wr) ob) LX3.out)
         have HT0 := am (pw_cell_below (below_alloc (Below.refl _ wr) ob) LT0.out)
         have hm0 := pw_cell_below (below_alloc (Below.refl _ wr) ob) LM0.out
         replace HO := am (HO.out.alloc ob)
         replace HB := am (below_alloc HB.out ob)
         replace HM := am (Kd.R_alloc HM.out ob)
         clear LX0 LX1 LX2 LX3 LT0 LM0 bn hK0' hK1' hK2' hK3'
         subst hob
         by_cases hin : j ∈ blk ++ q'
         ·have ek := am (kstep_in (sh := sh) (blk := blk) (x := x) (q := q') (k := j) ((List.mem_append.1 hin).elim .inl (fun h => .inr (.inl h))))
          have HM0 := am (show World.cell? _ ⟨gm, j, none⟩ = some (.bool true) from by rw [← decide_eq_true hin]; exact hm0)
          clear hm0
          try go_wp2
          have n0_ := am (Own.drew HO.out)
          have n1_ := am (below_drew1 HB.out)
          have n2_ := am (Kd.R_drew HM.out)
          refine start_ (n := 16) (S := fun w' => w'.cell? ⟨gm, j, none⟩ = some (.bool true) ∧ w'.cell? ⟨gg, t, none⟩ = some (.int .i64 (x : Int)) ∧ w'.cell? (ad.add (x * 4)) = some (.int .i64 a0) ∧ w'.cell? ⟨(ad.add (x * 4)).block, (ad.add (x * 4)).off + 1, none⟩ = some (.int .i64 a1) ∧ w'.cell? ⟨(ad.add (x * 4)).block, (ad.add (x * 4)).off + 2, none⟩ = some (.int .i64 a2) ∧ w'.cell? ⟨(ad.add (x * 4)).block, (ad.add (x * 4)).off + 3, none⟩ = some (.int .i64 a3) ∧ w'.cell? ⟨wr.heap.size, 0, none⟩ = some (.int .i64 b0) ∧ w'.cell? ⟨wr.heap.size, 1, none⟩ = some (.int .i64 b1) ∧ w'.cell? ⟨wr.heap.size, 2, none⟩ = some (.int .i64 b2) ∧ w'.cell? ⟨wr.heap.size, 3, none⟩ = some (.int .i64 b3)) (ds := []) #[ff, ff, ff, ff, ff, ff, ff, ff, ff, ff, ff, ff, ff, ff, ff, ff] (by kernel_rfl) rfl rfl ⟨HM0.out, HT0.out, HX0.out, HX1.out, HX2.out, HX3.out, HK0.out, HK1.out, HK2.out, HK3.out⟩ (fun hHeld => ?_)
          clear HO HB HM
          have HO := n0_
          have HB := n1_
          have HM := n2_
          clear n0_ n1_ n2_
          have mHM0 := am (show (wr.alloc (.cells #[.int .i64 b0, .int .i64 b1, .int .i64 b2, .int .i64 b3] 28 (0, 0))).drew.cell? _ = _ from HM0.out)
          have mHT0 := am (show (wr.alloc (.cells #[.int .i64 b0, .int .i64 b1, .int .i64 b2, .int .i64 b3] 28 (0, 0))).drew.cell? _ = _ from HT0.out)
          have mHX0 := am (show (wr.alloc (.cells #[.int .i64 b0, .int .i64 b1, .int .i64 b2, .int .i64 b3] 28 (0, 0))).drew.cell? _ = _ from HX0.out)
          have mHX1 := am (show (wr.alloc (.cells #[.int .i64 b0, .int .i64 b1, .int .i64 b2, .int .i64 b3] 28 (0, 0))).drew.cell? _ = _ from HX1.out)
          have mHX2 := am (show (wr.alloc (.cells #[.int .i64 b0, .int .i64 b1, .int .i64 b2, .int .i64 b3] 28 (0, 0))).drew.cell? _ = _ from HX2.out)
          have mHX3 := am (show (wr.alloc (.cells #[.int .i64 b0, .int .i64 b1, .int .i64 b2, .int .i64 b3] 28 (0, 0))).drew.cell? _ = _ from HX3.out)
          have mHK0 := am (show (wr.alloc (.cells #[.int .i64 b0, .int .i64 b1, .int .i64 b2, .int .i64 b3] 28 (0, 0))).drew.cell? _ = _ from HK0.out)
          have mHK1 := am (show (wr.alloc (.cells #[.int .i64 b0, .int .i64 b1, .int .i64 b2, .int .i64 b3] 28 (0, 0))).drew.cell? _ = _ from HK1.out)
          have mHK2 := am (show (wr.alloc (.cells #[.int .i64 b0, .int .i64 b1, .int .i64 b2, .int .i64 b3] 28 (0, 0))).drew.cell? _ = _ from HK2.out)
          have mHK3 := am (show (wr.alloc (.cells #[.int .i64 b0, .int .i64 b1, .int .i64 b2, .int .i64 b3] 28 (0, 0))).drew.cell? _ = _ from HK3.out)
          clear HM0 HT0 HX0 HX1 HX2 HX3 HK0 HK1 HK2 HK3
          have HM0 := mHM0
          have HT0 := mHT0
          have HX0 := mHX0
          have HX1 := mHX1
          have HX2 := mHX2
          have HX3 := mHX3
          have HK0 := mHK0
          have HK1 := mHK1
          have HK2 := mHK2
          have HK3 := mHK3
          clear mHM0 mHT0 mHX0 mHX1 mHX2 mHX3 mHK0 mHK1 mHK2 mHK3
          generalize (wr.alloc (.cells #[.int .i64 b0, .int .i64 b1, .int .i64 b2, .int .i64 b3] 28 (0, 0))).drew = wd at HO HB HM HM0 HT0 HX0 HX1 HX2 HX3 HK0 HK1 HK2 HK3 hHeld ⊢
          refine pM #[tt, ff, ff, ff, ff, ff, ff, ff, ff, ff, ff, ff, ff, ff, ff, ff] 0 48 ?_
          refine pM #[tt, tt, ff, ff, ff, ff, ff, ff, ff, ff, ff, ff, ff, ff, ff, ff] 1 49 ?_
          refine pM #[tt, tt, tt, ff, ff, ff, ff, ff, ff, ff, ff, ff, ff, ff, ff, ff] 2 50 ?_
          refine tM #[tt, tt, tt, tt, ff, ff, ff, ff, ff, ff, ff, ff, ff, ff, ff, ff] 3 51 hHeld ?_
          refine pM #[tt, tt, tt, tt, tt, ff, ff, ff, ff, ff, ff, ff, ff, ff, ff, ff] 4 52 ?_
          refine pM #[tt, tt, tt, tt, tt, tt, ff, ff, ff, ff, ff, ff, ff, ff, ff, ff] 5 53 ?_
          refine uM #[tt, tt, tt, tt, tt, tt, tt, ff, ff, ff, ff, ff, ff, ff, ff, ff] 6 54 ?_
          refine uM #[tt, tt, tt, tt, tt, tt, tt, tt, ff, ff, ff, ff, ff, ff, ff, ff] 7 55 ?_
          refine uM #[tt, tt, tt, tt, tt, tt, tt, tt, tt, ff, ff, ff, ff, ff, ff, ff] 8 56 ?_
          refine uM #[tt, tt, tt, tt, tt, tt, tt, tt, tt, tt, ff, ff, ff, ff, ff, ff] 9 57 ?_
          refine uM #[tt, tt, tt, tt, tt, tt, tt, tt, tt, tt, tt, ff, ff, ff, ff, ff] 10 58 ?_
          refine uM #[tt, tt, tt, tt, tt, tt, tt, tt, tt, tt, tt, tt, ff, ff, ff, ff] 11 59 ?_
          refine uM #[tt, tt, tt, tt, tt, tt, tt, tt, tt, tt, tt, tt, tt, ff, ff, ff] 12 60 ?_
          refine uM #[tt, tt, tt, tt, tt, tt, tt, tt, tt, tt, tt, tt, tt, tt, ff, ff] 13 61 ?_
          refine uM #[tt, tt, tt, tt, tt, tt, tt, tt, tt, tt, tt, tt, tt, tt, tt, ff] 14 62 ?_
          refine pM #[tt, tt, tt, tt, tt, tt, tt, tt, tt, tt, tt, tt, tt, tt, tt, tt] 15 63 ?_
          refine done_ (by kernel_rfl) ?_
          go_wp2
          go_roundg (l.length - (j + 1))
          case measure => omega
          case rel => exact ⟨j + 1, q', by omega, by omega, by go_num, ⟨HQ.out⟩, ⟨HT.out⟩, ⟨by have h_ := HF.out; rw [kfrom_go hj, ek.out] at h_; exact h_⟩, ⟨by repeat (first | (with_reducible first | exact HO.out | apply Own.alloc | apply Own.drewN | apply Own.drew) | exact HO.out)⟩, ⟨by ((with_reducible repeat (first | apply Kd.R_alloc | apply Kd.R_drewN | apply Kd.R_drew)); exact HM.out)⟩, ⟨bb HB⟩⟩
         ·cases hs : sh x j with
          | true =>
           have ek := am (kstep_out (sh := sh) (blk := blk) (x := x) (k := j) (q := q') (fun h => hin (List.mem_append.2 (.inl h))) (fun h => hin (List.mem_append.2 (.inr h))) hs)
           rw [hs] at HV
           have HM0 := am (show World.cell? _ ⟨gm, j, none⟩ = some (.bool false) from by rw [← decide_eq_false hin]; exact hm0)
           clear hm0
           try go_wp2
           have n0_ := am (Own.drew HO.out)
           have n1_ := am (below_drew1 HB.out)
           have n2_ := am (Kd.R_drew HM.out)
           refine start_ (n := 16) (S := fun w' => w'.cell? ⟨gm, j, none⟩ = some (.bool false) ∧ w'.cell? ⟨gg, t, none⟩ = some (.int .i64 (x : Int)) ∧ w'.cell? (ad.add (x * 4)) = some (.int .i64 a0) ∧ w'.cell? ⟨(ad.add (x * 4)).block, (ad.add (x * 4)).off + 1, none⟩ = some (.int .i64 a1) ∧ w'.cell? ⟨(ad.add (x * 4)).block, (ad.add (x * 4)).off + 2, none⟩ = some (.int .i64 a2) ∧ w'.cell? ⟨(ad.add (x * 4)).block, (ad.add (x * 4)).off + 3, none⟩ = some (.int .i64 a3) ∧ w'.cell? ⟨wr.heap.size, 0, none⟩ = some (.int .i64 b0) ∧ w'.cell? ⟨wr.heap.size, 1, none⟩ = some (.int .i64 b1) ∧ w'.cell? ⟨wr.heap.size, 2, none⟩ = some (.int .i64 b2) ∧ w'.cell? ⟨wr.heap.size, 3, none⟩ = some (.int .i64 b3)) (ds := []) #[ff, ff, ff, ff, ff, ff, ff, ff, ff, ff, ff, ff, ff, ff, ff, ff] (by kernel_rfl) rfl rfl ⟨HM0.out, HT0.out, HX0.out, HX1.out, HX2.out, HX3.out, HK0.out, HK1.out, HK2.out, HK3.out⟩ (fun hHeld => ?_)
           clear HO HB HM
           have HO := n0_
           have HB := n1_
           have HM := n2_
           clear n0_ n1_ n2_
           have mHM0 := am (show (wr.alloc (.cells #[.int .i64 b0, .int .i64 b1, .int .i64 b2, .int .i64 b3] 28 (0, 0))).drew.cell? _ = _ from HM0.out)
           have mHT0 := am (show (wr.alloc (.cells #[.int .i64 b0, .int .i64 b1, .int .i64 b2, .int .i64 b3] 28 (0, 0))).drew.cell? _ = _ from HT0.out)
           have mHX0 := am (show (wr.alloc (.cells #[.int .i64 b0, .int .i64 b1, .int .i64 b2, .int .i64 b3] 28 (0, 0))).drew.cell? _ = _ from HX0.out)
           have mHX1 := am (show (wr.alloc (.cells #[.int .i64 b0, .int .i64 b1, .int .i64 b2, .int .i64 b3] 28 (0, 0))).drew.cell? _ = _ from HX1.out)
           have mHX2 := am (show (wr.alloc (.cells #[.int .i64 b0, .int .i64 b1, .int .i64 b2, .int .i64 b3] 28 (0, 0))).drew.cell? _ = _ from HX2.out)
           have mHX3 := am (show (wr.alloc (.cells #[.int .i64 b0, .int .i64 b1, .int .i64 b2, .int .i64 b3] 28 (0, 0))).drew.cell? _ = _ from HX3.out)
           have mHK0 := am (show (wr.alloc (.cells #[.int .i64 b0, .int .i64 b1, .int .i64 b2, .int .i64 b3] 28 (0, 0))).drew.cell? _ = _ from HK0.out)
           have mHK1 := am (show (wr.alloc (.cells #[.int .i64 b0, .int .i64 b1, .int .i64 b2, .int .i64 b3] 28 (0, 0))).drew.cell? _ = _ from HK1.out)
           have mHK2 := am (show (wr.alloc (.cells #[.int .i64 b0, .int .i64 b1, .int .i64 b2, .int .i64 b3] 28 (0, 0))).drew.cell? _ = _ from HK2.out)
           have mHK3 := am (show (wr.alloc (.cells #[.int .i64 b0, .int .i64 b1, .int .i64 b2, .int .i64 b3] 28 (0, 0))).drew.cell? _ = _ from HK3.out)
           clear HM0 HT0 HX0 HX1 HX2 HX3 HK0 HK1 HK2 HK3
           have HM0 := mHM0
           have HT0 := mHT0
           have HX0 := mHX0
           have HX1 := mHX1
           have HX2 := mHX2
           have HX3 := mHX3
           have HK0 := mHK0
           have HK1 := mHK1
           have HK2 := mHK2
           have HK3 := mHK3
           clear mHM0 mHT0 mHX0 mHX1 mHX2 mHX3 mHK0 mHK1 mHK2 mHK3
           generalize (wr.alloc (.cells #[.int .i64 b0, .int .i64 b1, .int .i64 b2, .int .i64 b3] 28 (0, 0))).drew = wd at HO HB HM HM0 HT0 HX0 HX1 HX2 HX3 HK0 HK1 HK2 HK3 hHeld ⊢
           refine pM #[tt, ff, ff, ff, ff, ff, ff, ff, ff, ff, ff, ff, ff, ff, ff, ff] 0 48 ?_
           refine pM #[tt, tt, ff, ff, ff, ff, ff, ff, ff, ff, ff, ff, ff, ff, ff, ff] 1 49 ?_
           refine pM #[tt, tt, tt, ff, ff, ff, ff, ff, ff, ff, ff, ff, ff, ff, ff, ff] 2 50 ?_
           refine tM #[tt, tt, tt, tt, ff, ff, ff, ff, ff, ff, ff, ff, ff, ff, ff, ff] 3 51 hHeld ?_
           refine pM #[tt, tt, tt, tt, tt, ff, ff, ff, ff, ff, ff, ff, ff, ff, ff, ff] 4 52 ?_
           refine pM #[tt, tt, tt, tt, tt, tt, ff, ff, ff, ff, ff, ff, ff, ff, ff, ff] 5 53 ?_
           refine pM #[tt, tt, tt, tt, tt, tt, tt, ff, ff, ff, ff, ff, ff, ff, ff, ff] 6 54 ?_
           refine pM #[tt, tt, tt, tt, tt, tt, tt, tt, ff, ff, ff, ff, ff, ff, ff, ff] 7 55 ?_
           refine pM #[tt, tt, tt, tt, tt, tt, tt, tt, tt, ff, ff, ff, ff, ff, ff, ff] 8 56 ?_
           refine pM #[tt, tt, tt, tt, tt, tt, tt, tt, tt, tt, ff, ff, ff, ff, ff, ff] 9 57 ?_
           refine tM #[tt, tt, tt, tt, tt, tt, tt, tt, tt, tt, tt, ff, ff, ff, ff, ff] 10 58 hHeld ?_
           refine pM #[tt, tt, tt, tt, tt, tt, tt, tt, tt, tt, tt, tt, ff, ff, ff, ff] 11 59 ?_
           refine tM #[tt, tt, tt, tt, tt, tt, tt, tt, tt, tt, tt, tt, tt, ff, ff, ff] 12 60 hHeld ?_
           refine tM #[tt, tt, tt, tt, tt, tt, tt, tt, tt, tt, tt, tt, tt, tt, ff, ff] 13 61 hHeld ?_
           refine one_ (i := 14) (N := some 62) #[tt, tt, tt, tt, tt, tt, tt, tt, tt, tt, tt, tt, tt, tt, tt, ff] rfl rfl (by kernel_rfl) (by decide) (fun K hK => ?_)
           refine goes_ Tryd.func68 (by kernel_rfl) rfl #[.agg #[.int .i64 a0, .int .i64 a1, .int .i64 a2, .int .i64 a3], .agg #[.int .i64 b0, .int .i64 b1, .int .i64 b2, .int .i64 b3]] (by rfl) rfl rfl (by (try simp only [List.map_toArray, List.map_cons, List.map_nil]); first | done | rfl) ?_
           with_reducible refine (impl_areShared.calls _ _ _ _ _ _ _ _ true _ HV.out).mono ?_
           rintro e w3 ⟨rfl, hb⟩
           refine ⟨_, rfl, ?_⟩
           have n0_ := am (HO.out.below hb)
           have n1_ := am (below_step HB.out hb)
           have n2_ := am (Kd.R_below HM.out hb)
           have mHM0 := am (pw_cell_below hb HM0.out)
           have mHT0 := am (pw_cell_below hb HT0.out)
           have mHX0 := am (pw_cell_below hb HX0.out)
           have mHX1 := am (pw_cell_below hb HX1.out)
           have mHX2 := am (pw_cell_below hb HX2.out)
           have mHX3 := am (pw_cell_below hb HX3.out)
           have mHK0 := am (pw_cell_below hb HK0.out)
           have mHK1 := am (pw_cell_below hb HK1.out)
           have mHK2 := am (pw_cell_below hb HK2.out)
           have mHK3 := am (pw_cell_below hb HK3.out)
           clear HM0 HT0 HX0 HX1 HX2 HX3 HK0 HK1 HK2 HK3
           have HM0 := mHM0
           have HT0 := mHT0
           have HX0 := mHX0
           have HX1 := mHX1
           have HX2 := mHX2
           have HX3 := mHX3
           have HK0 := mHK0
           have HK1 := mHK1
           have HK2 := mHK2
           have HK3 := mHK3
           clear mHM0 mHT0 mHX0 mHX1 mHX2 mHX3 mHK0 mHK1 mHK2 mHK3 HO HB HM hb
           have HO := n0_
           have HB := n1_
           have HM := n2_
           clear n0_ n1_ n2_
           refine hK.out _ _ ⟨HM0.out, HT0.out, HX0.out, HX1.out, HX2.out, HX3.out, HK0.out, HK1.out, HK2.out, HK3.out⟩ (fun hHeld => ?_)
           clear hK K
           refine nP 62 ?_
           refine pM #[tt, tt, tt, tt, tt, tt, tt, tt, tt, tt, tt, tt, tt, tt, tt, tt] 15 63 ?_
           refine done_ (by kernel_rfl) ?_
           obtain ⟨hge, hgl, cq, hcq⟩ := mt_block HM.out
           have HPM := am (mt_set HM.out hj)
           have GEQ := am hge
           have HST := am (HO.out.store hcq (by decide) (by decide) j (.bool true))
           obtain ⟨hm9, hf9⟩ := mt_cell HM.out hj
           clear hge hgl hcq
           go_wp2_with (first | ((with_reducible refine gate_store (t := 4) (p := 66) rfl ?_); refine store_event (t := 4) (p := 66) (v := ?vo_) (w1 := (w3.setCell ⟨gm, j, none⟩ (.bool true))) ?hg ?ho ?hn ?hr ?_; (case ho => rfl); (case hg => rfl); (case hn => rfl); (case hr => first | (go_simp; done) | (go_simp; rfl)); intro w8 hw; replace HO := am (show Own w8 w.heap.size u6 outs [(.slice (some ⟨gg, 0, none⟩) (iz q').length cg, iz q')] from by rw [hw]; exact HST.out); replace HB := am (show Below w.heap.size w w8 from by rw [hw]; exact below_set HB.out GEQ.out); replace HM := am (show Kd.R Kd.bool 4 w8 w.heap.size (fun _ => True) (.slice (some ⟨gm, 0, none⟩) l.length cm) (mtOf l.length ((blk ++ q') ++ [j])) from by rw [hw]; exact HPM.out); clear HPM HST hm9 hf9 hw; obtain ⟨okG, hfG, hRG, hAG⟩ := HO.out.app 0 rfl; have HfG := am hfG; have HRG := am hRG; have HAG := am hAG; clear hfG hRG hAG) | ((with_reducible refine gate_builtin (b := .append) (xs := #[.tmp 67, .tmp 69]) rfl ?_); at_builtin; refine Kd.R_append (Kd.int .i64) (w0 := w) w.heap.size rfl (.tmp 67) (.tmp 69) 39 3 (.int .i64 0) 8 rfl Tryd.underlying39 info3 rfl (by decide) (by omega) (.slice (some ⟨gg, 0, none⟩) (iz q').length cg) (iz q') (j : Int) [.int .i64 (j : Int)] okG (fun _ => False) rfl rfl ?aP (fun _ hk => hk.elim) ?aF ?aO ?aB ?aS ?aL ?_; (case aP => exact rfl); (case aF => exact fun k_ hk_ => HfG.out k_ hk_); (case aO => exact HRG.out); (case aB => exact bb HB); (case aS => exact (below_size (bb HB))); (case aL => have h1_ := iz_len q'; have h2_ := HQ.out.len; have h3_ := HL.out; omega); intro v9' w9 ho hb hg hat; replace HO := am (show Own w9 w.heap.size u6 outs [(v9', iz q' ++ [(j : Int)])] from HAG.out v9' w9 _ ho hg); replace HB := am hb; replace HM := am (Kd.R_over HM.out HRG.out (fun q hq => (mt_typed q hq).1) hg); clear HfG HRG HAG ho hb hg hat))
           go_roundg (l.length - (j + 1))
           case measure => omega
           case rel => exact ⟨j + 1, q' ++ [j], by omega, by omega, by go_num, ⟨by have h_ := HQ.out.step (sh := sh) x hj; rw [ek.out] at h_; exact h_⟩, ⟨by rw [List.getElem?_append_left (by obtain ⟨h_, _⟩ := List.getElem?_eq_some_iff.1 HT.out; exact h_)]; exact HT.out⟩, ⟨by have h_ := HF.out; rw [kfrom_go hj, ek.out] at h_; exact h_⟩, ⟨by rw [iz_snoc]; repeat (first | (with_reducible first | exact HO.out | apply Own.alloc | apply Own.drewN | apply Own.drew) | exact HO.out)⟩, ⟨by rw [← List.append_assoc]; ((with_reducible repeat (first | apply Kd.R_alloc | apply Kd.R_drewN | apply Kd.R_drew)); exact HM.out)⟩, ⟨bb HB⟩⟩
          | false =>
           have ek := am (kstep_in (sh := sh) (blk := blk) (x := x) (q := q') (k := j) (.inr (.inr hs)))
           rw [hs] at HV
           have HM0 := am (show World.cell? _ ⟨gm, j, none⟩ = some (.bool false) from by rw [← decide_eq_false hin]; exact hm0)
           clear hm0
           try go_wp2
           have n0_ := am (Own.drew HO.out)
           have n1_ := am (below_drew1 HB.out)
           have n2_ := am (Kd.R_drew HM.out)
           refine start_ (n := 16) (S := fun w' => w'.cell? ⟨gm, j, none⟩ = some (.bool false) ∧ w'.cell? ⟨gg, t, none⟩ = some (.int .i64 (x : Int)) ∧ w'.cell? (ad.add (x * 4)) = some (.int .i64 a0) ∧ w'.cell? ⟨(ad.add (x * 4)).block, (ad.add (x * 4)).off + 1, none⟩ = some (.int .i64 a1) ∧ w'.cell? ⟨(ad.add (x * 4)).block, (ad.add (x * 4)).off + 2, none⟩ = some (.int .i64 a2) ∧ w'.cell? ⟨(ad.add (x * 4)).block, (ad.add (x * 4)).off + 3, none⟩ = some (.int .i64 a3) ∧ w'.cell? ⟨wr.heap.size, 0, none⟩ = some (.int .i64 b0) ∧ w'.cell? ⟨wr.heap.size, 1, none⟩ = some (.int .i64 b1) ∧ w'.cell? ⟨wr.heap.size, 2, none⟩ = some (.int .i64 b2) ∧ w'.cell? ⟨wr.heap.size, 3, none⟩ = some (.int .i64 b3)) (ds := []) #[ff, ff, ff, ff, ff, ff, ff, ff, ff, ff, ff, ff, ff, ff, ff, ff] (by kernel_rfl) rfl rfl ⟨HM0.out, HT0.out, HX0.out, HX1.out, HX2.out, HX3.out, HK0.out, HK1.out, HK2.out, HK3.out⟩ (fun hHeld => ?_)
           clear HO HB HM
           have HO := n0_
           have HB := n1_
           have HM := n2_
           clear n0_ n1_ n2_
           have mHM0 := am (show (wr.alloc (.cells #[.int .i64 b0, .int .i64 b1, .int .i64 b2, .int .i64 b3] 28 (0, 0))).drew.cell? _ = _ from HM0.out)
           have mHT0 := am (show (wr.alloc (.cells #[.int .i64 b0, .int .i64 b1, .int .i64 b2, .int .i64 b3] 28 (0, 0))).drew.cell? _ = _ from HT0.out)
           have mHX0 := am (show (wr.alloc (.cells #[.int .i64 b0, .int .i64 b1, .int .i64 b2, .int .i64 b3] 28 (0, 0))).drew.cell? _ = _ from HX0.out)
           have mHX1 := am (show (wr.alloc (.cells #[.int .i64 b0, .int .i64 b1, .int .i64 b2, .int .i64 b3] 28 (0, 0))).drew.cell? _ = _ from HX1.out)
           have mHX2 := am (show (wr.alloc (.cells #[.int .i64 b0, .int .i64 b1, .int .i64 b2, .int .i64 b3] 28 (0, 0))).drew.cell? _ = _ from HX2.out)
           have mHX3 := am (show (wr.alloc (.cells #[.int .i64 b0, .int .i64 b1, .int .i64 b2, .int .i64 b3] 28 (0, 0))).drew.cell? _ = _ from HX3.out)
           have mHK0 := am (show (wr.alloc (.cells #[.int .i64 b0, .int .i64 b1, .int .i64 b2, .int .i64 b3] 28 (0, 0))).drew.cell? _ = _ from HK0.out)
           have mHK1 := am (show (wr.alloc (.cells #[.int .i64 b0, .int .i64 b1, .int .i64 b2, .int .i64 b3] 28 (0, 0))).drew.cell? _ = _ from HK1.out)
           have mHK2 := am (show (wr.alloc (.cells #[.int .i64 b0, .int .i64 b1, .int .i64 b2, .int .i64 b3] 28 (0, 0))).drew.cell? _ = _ from HK2.out)
           have mHK3 := am (show (wr.alloc (.cells #[.int .i64 b0, .int .i64 b1, .int .i64 b2, .int .i64 b3] 28 (0, 0))).drew.cell? _ = _ from HK3.out)
           clear HM0 HT0 HX0 HX1 HX2 HX3 HK0 HK1 HK2 HK3
           have HM0 := mHM0
           have HT0 := mHT0
           have HX0 := mHX0
           have HX1 := mHX1
           have HX2 := mHX2
           have HX3 := mHX3
           have HK0 := mHK0
           have HK1 := mHK1
           have HK2 := mHK2
           have HK3 := mHK3
           clear mHM0 mHT0 mHX0 mHX1 mHX2 mHX3 mHK0 mHK1 mHK2 mHK3
           generalize (wr.alloc (.cells #[.int .i64 b0, .int .i64 b1, .int .i64 b2, .int .i64 b3] 28 (0, 0))).drew = wd at HO HB HM HM0 HT0 HX0 HX1 HX2 HX3 HK0 HK1 HK2 HK3 hHeld ⊢
           refine pM #[tt, ff, ff, ff, ff, ff, ff, ff, ff, ff, ff, ff, ff, ff, ff, ff] 0 48 ?_
           refine pM #[tt, tt, ff, ff, ff, ff, ff, ff, ff, ff, ff, ff, ff, ff, ff, ff] 1 49 ?_
           refine pM #[tt, tt, tt, ff, ff, ff, ff, ff, ff, ff, ff, ff, ff, ff, ff, ff] 2 50 ?_
           refine tM #[tt, tt, tt, tt, ff, ff, ff, ff, ff, ff, ff, ff, ff, ff, ff, ff] 3 51 hHeld ?_
           refine pM #[tt, tt, tt, tt, tt, ff, ff, ff, ff, ff, ff, ff, ff, ff, ff, ff] 4 52 ?_
           refine pM #[tt, tt, tt, tt, tt, tt, ff, ff, ff, ff, ff, ff, ff, ff, ff, ff] 5 53 ?_
           refine pM #[tt, tt, tt, tt, tt, tt, tt, ff, ff, ff, ff, ff, ff, ff, ff, ff] 6 54 ?_
           refine pM #[tt, tt, tt, tt, tt, tt, tt, tt, ff, ff, ff, ff, ff, ff, ff, ff] 7 55 ?_
           refine pM #[tt, tt, tt, tt, tt, tt, tt, tt, tt, ff, ff, ff, ff, ff, ff, ff] 8 56 ?_
           refine pM #[tt, tt, tt, tt, tt, tt, tt, tt, tt, tt, ff, ff, ff, ff, ff, ff] 9 57 ?_
           refine tM #[tt, tt, tt, tt, tt, tt, tt, tt, tt, tt, tt, ff, ff, ff, ff, ff] 10 58 hHeld ?_
           refine pM #[tt, tt, tt, tt, tt, tt, tt, tt, tt, tt, tt, tt, ff, ff, ff, ff] 11 59 ?_
           refine tM #[tt, tt, tt, tt, tt, tt, tt, tt, tt, tt, tt, tt, tt, ff, ff, ff] 12 60 hHeld ?_
           refine tM #[tt, tt, tt, tt, tt, tt, tt, tt, tt, tt, tt, tt, tt, tt, ff, ff] 13 61 hHeld ?_
           refine one_ (i := 14) (N := some 62) #[tt, tt, tt, tt, tt, tt, tt, tt, tt, tt, tt, tt, tt, tt, tt, ff] rfl rfl (by kernel_rfl) (by decide) (fun K hK => ?_)
           refine goes_ Tryd.func68 (by kernel_rfl) rfl #[.agg #[.int .i64 a0, .int .i64 a1, .int .i64 a2, .int .i64 a3], .agg #[.int .i64 b0, .int .i64 b1, .int .i64 b2, .int .i64 b3]] (by rfl) rfl rfl (by (try simp only [List.map_toArray, List.map_cons, List.map_nil]); first | done | rfl) ?_
           with_reducible refine (impl_areShared.calls _ _ _ _ _ _ _ _ false _ HV.out).mono ?_
           rintro e w3 ⟨rfl, hb⟩
           refine ⟨_, rfl, ?_⟩
           have n0_ := am (HO.out.below hb)
           have n1_ := am (below_step HB.out hb)
           have n2_ := am (Kd.R_below HM.out hb)
           have mHM0 := am (pw_cell_below hb HM0.out)
           have mHT0 := am (pw_cell_below hb HT0.out)
           have mHX0 := am (pw_cell_below hb HX0.out)
           have mHX1 := am (pw_cell_below hb HX1.out)
           have mHX2 := am (pw_cell_below hb HX2.out)
           have mHX3 := am (pw_cell_below hb HX3.out)
           have mHK0 := am (pw_cell_below hb HK0.out)
           have mHK1 := am (pw_cell_below hb HK1.out)
           have mHK2 := am (pw_cell_below hb HK2.out)
           have mHK3 := am (pw_cell_below hb HK3.out)
           clear HM0 HT0 HX0 HX1 HX2 HX3 HK0 HK1 HK2 HK3
           have HM0 := mHM0
           have HT0 := mHT0
           have HX0 := mHX0
           have HX1 := mHX1
           have HX2 := mHX2
           have HX3 := mHX3
           have HK0 := mHK0
           have HK1 := mHK1
           have HK2 := mHK2
           have HK3 := mHK3
           clear mHM0 mHT0 mHX0 mHX1 mHX2 mHX3 mHK0 mHK1 mHK2 mHK3 HO HB HM hb
           have HO := n0_
           have HB := n1_
           have HM := n2_
           clear n0_ n1_ n2_
           refine hK.out _ _ ⟨HM0.out, HT0.out, HX0.out, HX1.out, HX2.out, HX3.out, HK0.out, HK1.out, HK2.out, HK3.out⟩ (fun hHeld => ?_)
           clear hK K
           refine nP 62 ?_
           refine pM #[tt, tt, tt, tt, tt, tt, tt, tt, tt, tt, tt, tt, tt, tt, tt, tt] 15 63 ?_
           refine done_ (by kernel_rfl) ?_
           go_wp2
           go_roundg (l.length - (j + 1))
           case measure => omega
           case rel => exact ⟨j + 1, q', by omega, by omega, by go_num, ⟨HQ.out⟩, ⟨HT.out⟩, ⟨by have h_ := HF.out; rw [kfrom_go hj, ek.out] at h_; exact h_⟩, ⟨by repeat (first | (with_reducible first | exact HO.out | apply Own.alloc | apply Own.drewN | apply Own.drew) | exact HO.out)⟩, ⟨by ((with_reducible repeat (first | apply Kd.R_alloc | apply Kd.R_drewN | apply Kd.R_drew)); exact HM.out)⟩, ⟨bb HB⟩⟩
        ·obtain rfl : j = l.length := by omega
         have c4b : decide ((l.length : Int) < (l.length : Int)) = false := decide_eq_false (by omega)
         have hq2 : q' = q2 := by have h_ := HF.out; rw [Nat.sub_self] at h_; exact h_
         subst hq2
         go_wp2
         go_roundg (l.length - (t + 1))
         case measure => omega
         case rel => exact ⟨t + 1, q', by omega, by omega, by go_num, HQ, HBF2, ⟨by omega⟩, ⟨by repeat (first | (with_reducible first | exact HO.out | apply Own.alloc | apply Own.drewN | apply Own.drew) | exact HO.out)⟩, ⟨by ((with_reducible repeat (first | apply Kd.R_alloc | apply Kd.R_drewN | apply Kd.R_drew)); exact HM.out)⟩, ⟨bb HB⟩⟩
      ·have htz : ¬ t < (iz q).length := by rw [iz_len]; exact htl
       have c3b := decide_eq_false (show ¬ (t : Int) < ((iz q).length : Int) by rw [iz_len]; omega)
       have hQq : q = Q := by have h_ := HBF.out; rw [bfs_end htl] at h_; exact h_
       subst hQq
       obtain ⟨okS, hfS, hRS, hAS⟩ := HO.out.app 0 rfl
       have HfS := am hfS
       have HRS := am hRS
       have HAS := am hAS
       clear hfS hRS hAS
       go_wp2_with (first | (go_at_call 80; (with_reducible refine (sort_row w.heap.size okS gs cs (iz q) _ ?s1 ?s2).mono ?_); (case s1 => exact HRS.out); (case s2 => have h1_ := iz_len q; have h2_ := HQ.out.len; have h3_ := HL.out; omega); rintro e ws ⟨rfl, hr_, hg_⟩; replace HO := am (show Own ws w.heap.size u6 outs [(.slice (some ⟨gs, 0, none⟩) (iz q).length cs, srt q)] from by rw [← sortI_iz]; exact HAS.out _ ws _ hr_ hg_); replace HB := am (HB.out.grown hg_ (below_size HB.out) (fun k e => by injection e with e; subst e; exact GES.out)); replace HM := am (Kd.R_over HM.out HRS.out (fun q hq => (mt_typed q hq).1) hg_); clear HfS HRS HAS hr_ hg_; obtain ⟨okG, okp, hfG, hRG, hkG, hSG, hAG⟩ := HO.out.give 0 rfl; have HfG := am hfG; have HRG := am hRG; have HkG := am hkG; have HSG := am hSG; have HAG := am hAG; clear hfG hRG hkG hSG hAG) | ((with_reducible refine gate_builtin (b := .append) (xs := #[.tmp 74, .tmp 76]) rfl ?_); at_builtin; refine Kd.S_append kII (w0 := w) w.heap.size rfl (.tmp 74) (.tmp 76) 45 39 (.slice none 0 0) 24 rfl Tryd.underlying45 infoII rfl (by decide) (by omega) u6 outs (srt q) [.slice (some ⟨gs, 0, none⟩) (iz q).length cs] okG okp rfl rfl ?aP ?aK ?aF ?aO ?aB ?aS ?aL ?_; (case aP => exact ⟨_, rfl, HRG.out⟩); (case aK => exact HkG.out); (case aF => exact HfG.out); (case aO => exact HSG.out); (case aB => exact bb HB); (case aS => exact below_size (bb HB)); (case aL => have h3_ := HL.out; have h4_ := HLO.out; omega); intro v6' w6 ho hb hg hat; replace HO := am (show Own w6 w.heap.size v6' (outs ++ [srt q]) [] from HAG.out v6' w6 ho hg); replace HB := am hb; replace HM := am (Kd.R_over HM.out (Kd.S_R HSG.out) (fun q hq => (mt_typed q hq).2) hg); clear HfG HRG HkG HSG HAG ho hb hg hat))
       go_roundg (l.length - (i + 1))
       case measure => omega
       case rel => exact ⟨i + 1, by omega, by omega, by go_num, ⟨by rw [HSO.out]; repeat (first | (with_reducible first | exact HO.out | apply Own.alloc | apply Own.drewN | apply Own.drew) | exact HO.out)⟩, ⟨by rw [HSO.out]; ((with_reducible repeat (first | apply Kd.R_alloc | apply Kd.R_drewN | apply Kd.R_drew)); exact HM.out)⟩, ⟨bb HB⟩⟩
   ·obtain rfl : i = l.length := by omega
    have c1b : decide ((l.length : Int) < (l.length : Int)) = false := decide_eq_false (by omega)
    go_wp2
    go_ret2
    exact ⟨_, rfl, HO.out.outs_, HB.out⟩
set_option maxHeartbeats 2000000 in
set_option maxRecDepth 100000 in
theorem sgroups_no (k : Nat) (A0 : Option Addr) (c0 : Nat) (m : List (List Int)) (A1 : Option Addr) (c1 : Nat) (l : List S28) (w : World) (hr0 : Kd.C (Kd.slice 5 (Kd.int .u8)) w A0 m.length m) (hc0 : m.length ≤ c0) (hr1 : Kd.C k28 w A1 l.length l) (hc1 : l.length ≤ c1) (h1 : spec_l3Watched.f k m l = some false) :
    Calls Tryd.prog 21 #[.agg #[.slice A0 m.length c0], .slice A1 l.length c1] w fun e w' => ∃ v0_ : Value, e = .returned (.tuple #[v0_, .bool false]) ∧ Kd.S kII 39 w' w.heap.size (fun _ => True) v0_ [] ∧ Below w.heap.size w w' := by
 have hu := Tryd.underlying26
 have HR0 := am hr0
 have HC0 := am hc0
 have HR := am hr1
 have HC := am hc1
 have HA1 := am h1
 have HB := am (Below.refl w.heap.size w)
 clear hr0 hc0 hr1 hc1 h1
 go_enter Tryd.func21, Tryd.ntmps21
 go_wp2_with (first | ((with_reducible refine gate_dst (N := 2) rfl ?_); refine bE 2 #[.slice A0 m.length c0] 26 ?_; intro g2 hg w2 hbox hb; replace HB := am (below_step HB.out hb); have BK2 := am hbox; clear hb hbox hg; have hc2 : w2.cell? ⟨g2, 0, none⟩ = some (.slice A0 m.length c0) := (blk_cell BK2.out 0).trans rfl; have hf2 := blk_frozen BK2.out 0) | (go_at_call 77; (with_reducible refine (spec_l3Watched.calls k _ _ m _ _ l false _ ?s1 ?s2 ?s3 ?s4 HA1.out).mono ?_); (case s1 => exact Kd.C_below HR0.out (bb HB)); (case s2 => exact HC0.out); (case s3 => exact Kd.C_below HR.out (bb HB)); (case s4 => exact HC.out); rintro e wa ⟨rfl, hb⟩; replace HB := am (below_step (bb HB) hb); clear hb) | ((with_reducible refine gate_dst (N := 10) rfl ?_); refine Kd.S_lit kII _ 39 ?hg (N := 10) ?hd (xs := ([] : List (List Int))) (inner := []) (ok := fun _ => True) (okp := fun _ => True) ?hr ?hp (fun _ hk => hk) trivial (Below.refl _ _) (Nat.le_refl _) (by simp) ?_; (case hd => rfl); (case hg => rfl); (case hr => first | (go_simp; done) | (go_simp; rfl)); (case hp => exact (Reps.none _ _)); intro v10 w10 ho hb hg_ hnew_; clear hg_ hnew_; have HO := am (Kd.S_lower ho (below_size (bb HB))); have n1_ := am (below_step (bb HB) hb); clear HB; have HB := n1_; clear n1_ hb ho))
 go_ret2
 exact ⟨_, rfl, ss HO, bb HB⟩
set_option maxHeartbeats 2000000 in
set_option maxRecDepth 100000 in
theorem sgroups_yes (k : Nat) (A0 : Option Addr) (c0 : Nat) (m : List (List Int)) (A1 : Option Addr) (c1 : Nat) (l : List S28) (sh : Nat → Nat → Bool) (w : World) (hr0 : Kd.C (Kd.slice 5 (Kd.int .u8)) w A0 m.length m) (hc0 : m.length ≤ c0) (hr1 : Kd.C k28 w A1 l.length l) (hc1 : l.length ≤ c1) (h1 : spec_l3Watched.f k m l = some true) (hl : l.length ≤ 12)
    (hov : ∀ a b : Nat, a < l.length → b < l.length → ∃ o, spec_l2Overlap.f (rd_T28 l a).f0 (rd_T28 l a).f1 (rd_T28 l a).f2 (rd_T28 l a).f3 (rd_T28 l b).f0 (rd_T28 l b).f1 (rd_T28 l b).f2 (rd_T28 l b).f3 = some o ∧ sh a b = decide (0 < o)) :
    Calls Tryd.prog 21 #[.agg #[.slice A0 m.length c0], .slice A1 l.length c1] w fun e w' => ∃ v0_ : Value, e = .returned (.tuple #[v0_, .bool true]) ∧ Kd.S kII 39 w' w.heap.size (fun _ => True) v0_ (sgr l.length sh l.length) ∧ Below w.heap.size w w' := by
 have hu := Tryd.underlying26
 have HR0 := am hr0
 have HC0 := am hc0
 have HR := am hr1
 have HC := am hc1
 have HA1 := am h1
 have HB := am (Below.refl w.heap.size w)
 clear hr0 hc0 hr1 hc1 h1
 have HOV := am hov
 clear hov
 go_enter Tryd.func21, Tryd.ntmps21
 go_wp2_with (first | ((with_reducible refine gate_dst (N := 2) rfl ?_); refine bE 2 #[.slice A0 m.length c0] 26 ?_; intro g2 hg w2 hbox hb; replace HB := am (below_step HB.out hb); have BK2 := am hbox; clear hb hbox hg; have hc2 : w2.cell? ⟨g2, 0, none⟩ = some (.slice A0 m.length c0) := (blk_cell BK2.out 0).trans rfl; have hf2 := blk_frozen BK2.out 0) | (go_at_call 77; (with_reducible refine (spec_l3Watched.calls k _ _ m _ _ l true _ ?s1 ?s2 ?s3 ?s4 HA1.out).mono ?_); (case s1 => exact Kd.C_below HR0.out (bb HB)); (case s2 => exact HC0.out); (case s3 => exact Kd.C_below HR.out (bb HB)); (case s4 => exact HC.out); rintro e wa ⟨rfl, hb⟩; replace HB := am (below_step (bb HB) hb); clear hb) | (go_at_call 81; (with_reducible refine (spec_groups _ _ l sh _ ?s1 ?s2 hl HOV.out).mono ?_); (case s1 => exact Kd.C_below HR.out (bb HB)); (case s2 => exact HC.out); rintro e wg ⟨vg, rfl, ho, hb⟩; have HO := am (Kd.S_lower ho (below_size (bb HB))); have n1_ := am (below_step (bb HB) hb); clear HB; have HB := n1_; clear n1_ hb ho))
 go_ret2
 exact ⟨_, rfl, ss HO, bb HB⟩
def spec_ShareGroups.f (k : Nat) (m : List (List Int)) (l : List S28) : Option (List (List Int) × Bool) :=
  (spec_l3Watched.f k m l).bind fun t => if t = true then (if grpOk l = true then some (sgr l.length (shW l) l.length, true) else none) else some ([], false)
theorem spec_ShareGroups.calls (k : Nat) (A0 : Option Addr) (c0 : Nat) (m : List (List Int)) (A1 : Option Addr) (c1 : Nat) (l : List S28) (r1 : List (List Int)) (r2 : Bool) (w : World) (hr0 : Kd.C (Kd.slice 5 (Kd.int .u8)) w A0 m.length m) (hc0 : m.length ≤ c0) (hr1 : Kd.C k28 w A1 l.length l) (hc1 : l.length ≤ c1) (h : spec_ShareGroups.f k m l = some (r1, r2)) :
    Calls Tryd.prog 21 #[.agg #[.slice A0 m.length c0], .slice A1 l.length c1] w fun e w' => ∃ v0_ : Value, e = .returned (.tuple #[v0_, .bool r2]) ∧ Kd.S (Kd.slice 3 (Kd.int .i64)) 39 w' w.heap.size (fun _ => True) v0_ r1 ∧ Below w.heap.size w w' := by
  unfold spec_ShareGroups.f at h
  obtain ⟨t, h1, h⟩ := Option.bind_eq_some_iff.mp h
  cases t with
  | false =>
    rw [if_neg (by decide)] at h
    obtain ⟨rfl, rfl⟩ := Prod.mk.inj (Option.some.inj h)
    exact sgroups_no k A0 c0 m A1 c1 l w hr0 hc0 hr1 hc1 h1
  | true =>
    rw [if_pos rfl] at h
    by_cases h2 : grpOk l = true
    · rw [if_pos h2] at h
      obtain ⟨rfl, rfl⟩ := Prod.mk.inj (Option.some.inj h)
      obtain ⟨h3, h4⟩ := grpOk_at h2
      exact sgroups_yes k A0 c0 m A1 c1 l (shW l) w hr0 hc0 hr1 hc1 h1 h3 (fun a b ha hb => ⟨_, overlap_eq _ _ _ _ _ _ _ _ (h4 a ha) (h4 b hb), rfl⟩)
    · rw [if_neg h2] at h; cases h
def impl_ShareGroups.f (k : Nat) (m : List (List Int)) (l : List S28) : Option (List (List Int) × Bool) :=
  (impl_areWatched.f k m l).bind fun t => if t = true then (if grpOk l = true then some (sgr l.length (shW l) l.length, true) else none) else some ([], false)
theorem impl_ShareGroups.calls (k : Nat) (A0 : Option Addr) (c0 : Nat) (m : List (List Int)) (A1 : Option Addr) (c1 : Nat) (l : List S28) (r1 : List (List Int)) (r2 : Bool) (w : World) (hr0 : Kd.C (Kd.slice 5 (Kd.int .u8)) w A0 m.length m) (hc0 : m.length ≤ c0) (hr1 : Kd.C k28 w A1 l.length l) (hc1 : l.length ≤ c1) (h : impl_ShareGroups.f k m l = some (r1, r2)) :
    Calls Tryd.prog 20 #[.agg #[.slice A0 m.length c0], .slice A1 l.length c1] w fun e w' => ∃ v0_ : Value, e = .returned (.tuple #[v0_, .bool r2]) ∧ Kd.S (Kd.slice 3 (Kd.int .i64)) 39 w' w.heap.size (fun _ => True) v0_ r1 ∧ Below w.heap.size w w' := by
  unfold impl_ShareGroups.f at h
  obtain ⟨t, h1, h⟩ := Option.bind_eq_some_iff.mp h
  cases t with
  | false =>
    rw [if_neg (by decide)] at h
    obtain ⟨rfl, rfl⟩ := Prod.mk.inj (Option.some.inj h)
    exact (groups_no k A0 c0 m A1 c1 l w hr0 hc0 hr1 hc1 h1).mono fun e w' ⟨he, hb⟩ => ⟨_, he, Kd.S_nil _ _ _ _ _, hb⟩
  | true =>
    rw [if_pos rfl] at h
    by_cases h2 : grpOk l = true
    · rw [if_pos h2] at h
      obtain ⟨rfl, rfl⟩ := Prod.mk.inj (Option.some.inj h)
      obtain ⟨h3, h4⟩ := grpOk_at h2
      have he : ∀ i, i ≤ l.length → (igr l.length (shW l) i).1 = sgr l.length (shW l) i := fun i hi => (igr_eq (fun a b _ _ => shW_comm l a b) i hi).1
      have := groups_yes k A0 c0 m A1 c1 l (shW l) w hr0 hc0 hr1 hc1 h1 h3 (fun a b ha hb => shared_eq _ _ _ _ _ _ _ _ (h4 a ha) (h4 b hb)) (fun i hi => by rw [he i hi]; have := (sgr_len l.length (shW l) i hi).1; omega)
      rw [he _ (Nat.le_refl _)] at this
      exact this
    · rw [if_neg h2] at h; cases h
theorem BwX.below {w W W1 : World} (h : Below w.heap.size w W) (hb : Below W.heap.size W W1) : Below w.heap.size w W1 := below_step h hb
def laws_FnSharing.T64 : Bool × List (List Nat × List Nat) := (true, [([], []), ([], []), ([], []), ([], []), ([2, 3], [2, 3]), ([4], [4]), ([1, 5], [1, 5]), ([6], [6]), ([], []), ([], []), ([], []), ([9, 10], [9, 10]), ([11], [11]), ([8, 12], [8, 12]), ([13], [13]), ([0, 7, 14], [0, 7, 14]), ([15], [15]), ([16], [16]), ([16], [16]), ([17, 15, 0, 1, 2, 3, 4, 5, 6, 7, 8, 9, 10, 11, 12, 13, 14, 15, 16, 17], [17]), ([18, 19, 0, 1, 2, 3, 4, 5, 6, 7, 8, 9, 10, 11, 12, 13, 14, 15, 16, 17, 18, 19], [18])])
def laws_FnSharing.B64 : List Nat := [0, 0, 0, 0, 12, 28, 62, 126, 0, 0, 0, 1536, 3584, 7936, 16128, 32767, 65535, 131071, 131071, 262143, 1048575]
theorem laws_FnSharing.tab64 : rtab .any (opsOf Tryd.f3 64) = laws_FnSharing.T64 := by kernel_rfl
theorem laws_FnSharing.bits64 : waitsOk laws_FnSharing.T64.2 laws_FnSharing.B64 = true := by kernel_rfl
set_option maxHeartbeats 64000000 in
set_option maxRecDepth 100000 in
theorem laws_FnSharing.walk (k : Nat) (A0 : Option Addr) (c0 : Nat) (l0 : List Int) (m : List (List Int)) (s0 s1 s2 s3 t0 t1 t2 t3 : Int) (many least : Int) (ok share near : Bool) (g : List (List Int)) (ws : List S28) (ar : Int) (cs : List Int) (one : Bool) (cv : List (Int × Int)) (gs : List (List Int)) (three : Bool) (ap : List Int) (are five : Bool) (w : World) (hr0 : Kd.C (Kd.int .u8) w A0 l0.length l0) (hc0 : l0.length ≤ c0) (hll : l0.length ≤ 65536) (hE1 : laws_vBig.f l0 = some false) (hE2 : spec_DrawCommonPlaces.f k l0 = some (m, s0, s1, s2, s3, t0, t1, t2, t3)) (hE3 : impl_CommonPlaces.f k m s0 s1 s2 s3 t0 t1 t2 t3 = some (many, least, ok)) (hE4 : spec_CommonPlaces.f k m s0 s1 s2 s3 t0 t1 t2 t3 = some (many, least, ok)) (hE5 : impl_DoShare.f k m s0 s1 s2 s3 t0 t1 t2 t3 = some (share, ok)) (hE6 : spec_DoShare.f k m s0 s1 s2 s3 t0 t1 t2 t3 = some (share, ok)) (hE7 : impl_AreNear.f k m s0 s1 s2 s3 t0 t1 t2 t3 = some (near, ok)) (hE8 : spec_AreNear.f k m s0 s1 s2 s3 t0 t1 t2 t3 = some (near, ok)) (hE9 : spec_DrawNoticedCounts.f k (cut1 l0) = some (g, ws, ar)) (hE10 : impl_NoticedCounts.f k g ws ar = some (cs, one)) (hE11 : spec_NoticedCounts.f k g ws ar = some (cs, one)) (hE12 : impl_PartCover.f k g ws ar = some (cv, one)) (hE13 : spec_PartCover.f k g ws ar = some (cv, one)) (hE14 : impl_ShareGroups.f k g ws = some (gs, three)) (hE15 : spec_ShareGroups.f k g ws = some (gs, three)) (hE16 : impl_MostApart.f k g ws = some (ap, three)) (hE17 : spec_MostApart.f k g ws = some (ap, three)) (hE18 : impl_AreWatched.f k g ws = some (are, five)) (hE19 : spec_AreWatched.f k g ws = some (are, five)) (hE20 : laws_vInts.f k cs cs = some true) (hE21 : laws_vInts.f k ap ap = some true) (hE22 : laws_vTable.f k gs gs = some true) (hE23 : ok = true → impl_AreApart.f k m s0 s1 s2 s3 t0 t1 t2 t3 = some (!share, true) ∧ (∃ least2, impl_CommonPlaces.f k m t0 t1 t2 t3 s0 s1 s2 s3 = some (many, least2, true)) ∧ (share = true → 0 < many ∧ 0 ≤ least ∧ near = true) ∧ (share = false → many = 0 ∧ least < 0)) (hE24 : one = true → sumW ws ar ws.length = sumC cs cs.length ∧ ∀ p : Nat, p < cs.length → insC cv (p : Int) cv.length = decide (0 < rd cs (p : Int)) ∧ ∃ bys, impl_NoticedBy.f k g ws ar (p : Int) = some (bys, true) ∧ (bys.length : Int) = rd cs (p : Int)) (hE25 : three = (five && are)) (hE26 : three = true → sumG gs gs.length = (ws.length : Int) ∧ gs.length ≤ ap.length ∧ ∀ i q : Nat, i < ap.length → q < i → (0 ≤ rd ap (i : Int) ∧ rd ap (i : Int) < (ws.length : Int)) ∧ (0 ≤ rd ap (q : Int) ∧ rd ap (q : Int) < (ws.length : Int)) ∧ impl_DoShare.f k g (rd_T28 ws (rd ap (i : Int))).f0 (rd_T28 ws (rd ap (i : Int))).f1 (rd_T28 ws (rd ap (i : Int))).f2 (rd_T28 ws (rd ap (i : Int))).f3 (rd_T28 ws (rd ap (q : Int))).f0 (rd_T28 ws (rd ap (q : Int))).f1 (rd_T28 ws (rd ap (q : Int))).f2 (rd_T28 ws (rd ap (q : Int))).f3 = some (false, true)) (hE27 : cs.length ≤ 1000 ∧ cv.length ≤ 1000 ∧ ws.length ≤ 1000 ∧ gs.length ≤ 1000 ∧ ap.length ≤ 1000) (HTD : Aside0 (TabD w)) :
    Calls Tryd.prog 3 #[.slice A0 l0.length c0] w fun e w' => e = .returned (.bool true) ∧ Below w.heap.size w w' := by
 have hu26 := Tryd.underlying26
 have hu28 := Tryd.underlying28
 have HC0 := am hr0
 have HL0 := am hc0
 have HLL := am hll
 clear hr0 hc0 hll
 have E1 := am hE1
 have E2 := am hE2
 have E3 := am hE3
 have E4 := am hE4
 have E5 := am hE5
 have E6 := am hE6
 have E7 := am hE7
 have E8 := am hE8
 have E9 := am hE9
 have E10 := am hE10
 have E11 := am hE11
 have E12 := am hE12
 have E13 := am hE13
 have E14 := am hE14
 have E15 := am hE15
 have E16 := am hE16
 have E17 := am hE17
 have E18 := am hE18
 have E19 := am hE19
 have E20 := am hE20
 have E21 := am hE21
 have E22 := am hE22
 have E23 := am hE23
 have E24 := am hE24
 have E25 := am hE25
 have E26 := am hE26
 have E27 := am hE27
 clear hE1 hE2 hE3 hE4 hE5 hE6 hE7 hE8 hE9 hE10 hE11 hE12 hE13 hE14 hE15 hE16 hE17 hE18 hE19 hE20 hE21 hE22 hE23 hE24 hE25 hE26 hE27
 have HB := am (Below.refl w.heap.size w)
 have b_many : (many != many) = false := by simp
 have b_least : (least != least) = false := by simp
 have b_ok : (ok != ok) = false := by simp
 have b_share : (share != share) = false := by simp
 have b_near : (near != near) = false := by simp
 have b_one : (one != one) = false := by simp
 have b_are : (are != are) = false := by simp
 have b_five : (five != five) = false := by simp
 go_enter Tryd.func3, Tryd.ntmps3
 go_wp2_with (go_at_fn 6; fail)
 refine (laws_vBig.calls _ _ l0 false _ HC0.out HL0.out E1.out).mono ?_
 rintro e w101 ⟨rfl, hd⟩
 have hb := hd.below
 clear hd
 replace HC0 := am (Kd.C_below HC0.out hb)
 replace HTD := am (TabD.below HTD.out hb)
 replace HB := am (below_step HB.out hb)
 clear hb
 go_wp2_with (go_at_fn 7; fail)
 refine (spec_DrawCommonPlaces.calls k _ _ l0 m s0 s1 s2 s3 t0 t1 t2 t3 _ HC0.out HL0.out E2.out).mono ?_
 rintro e w102 ⟨v1, rfl, ho1, hb⟩
 replace HC0 := am (Kd.C_below HC0.out hb)
 replace HTD := am (TabD.below HTD.out hb)
 replace HB := am (below_step HB.out hb)
 clear hb
 obtain ⟨A1, c1, eo⟩ := Kd.S_slice ho1
 subst eo
 have HC1 := am (Kd.S_reads' ho1).2.2
 have HL1 := am (Kd.S_reads' ho1).2.1
 clear ho1
 go_upto_region 4 with (first | ((with_reducible refine gate_dst (N := 3) rfl ?_); refine bE 3 #[.slice none 0 0] 26 ?_; intro g3 hg w103 hx hb; have HG3 := am hg; have HX3 := am hx; have HD3 := am hb; clear hg hx hb) | ((with_reducible refine gate_dst (N := 4) rfl ?_); refine bE 4 #[.int .i64 0, .int .i64 0, .int .i64 0, .int .i64 0] 28 ?_; intro g4 hg w104 hx hb; have HG4 := am hg; have HX4 := am hx; have HD4 := am hb; clear hg hx hb) | ((with_reducible refine gate_dst (N := 5) rfl ?_); refine bE 5 #[.int .i64 0, .int .i64 0, .int .i64 0, .int .i64 0] 28 ?_; intro g5 hg w105 hx hb; have HG5 := am hg; have HX5 := am hx; have HD5 := am hb; clear hg hx hb; have HY3 := am (blk_below (blk_below HX3.out HD4.out) HD5.out); have HY4 := am (blk_below HX4.out HD5.out); have HY5 := am HX5.out; have HN3_4 := am (show g3 ≠ g4 from by rw [HG4.out]; exact Nat.ne_of_lt (blk_lt HX3.out)); have hn3_4 := HN3_4.out; have hm3_4 := HN3_4.out.symm; have HN3_5 := am (show g3 ≠ g5 from by rw [HG5.out]; exact Nat.ne_of_lt (blk_lt (blk_below HX3.out HD4.out))); have hn3_5 := HN3_5.out; have hm3_5 := HN3_5.out.symm; have HN4_5 := am (show g4 ≠ g5 from by rw [HG5.out]; exact Nat.ne_of_lt (blk_lt HX4.out)); have hn4_5 := HN4_5.out; have hm4_5 := HN4_5.out.symm; have hz3_0 : w105.cell? ⟨g3, 0, none⟩ = some (.slice none 0 0) := (blk_cell HY3.out 0).trans rfl; have hf3_0 := blk_frozen HY3.out 0; have hz4_0 : w105.cell? ⟨g4, 0, none⟩ = some (.int .i64 0) := (blk_cell HY4.out 0).trans rfl; have hf4_0 := blk_frozen HY4.out 0; have hz4_1 : w105.cell? ⟨g4, 1, none⟩ = some (.int .i64 0) := (blk_cell HY4.out 1).trans rfl; have hf4_1 := blk_frozen HY4.out 1; have hz4_2 : w105.cell? ⟨g4, 2, none⟩ = some (.int .i64 0) := (blk_cell HY4.out 2).trans rfl; have hf4_2 := blk_frozen HY4.out 2; have hz4_3 : w105.cell? ⟨g4, 3, none⟩ = some (.int .i64 0) := (blk_cell HY4.out 3).trans rfl; have hf4_3 := blk_frozen HY4.out 3; have hz5_0 : w105.cell? ⟨g5, 0, none⟩ = some (.int .i64 0) := (blk_cell HY5.out 0).trans rfl; have hf5_0 := blk_frozen HY5.out 0; have hz5_1 : w105.cell? ⟨g5, 1, none⟩ = some (.int .i64 0) := (blk_cell HY5.out 1).trans rfl; have hf5_1 := blk_frozen HY5.out 1; have hz5_2 : w105.cell? ⟨g5, 2, none⟩ = some (.int .i64 0) := (blk_cell HY5.out 2).trans rfl; have hf5_2 := blk_frozen HY5.out 2; have hz5_3 : w105.cell? ⟨g5, 3, none⟩ = some (.int .i64 0) := (blk_cell HY5.out 3).trans rfl; have hf5_3 := blk_frozen HY5.out 3))
 refine hideW ?_
 intro w106 hW
 clear hz3_0 hf3_0 hz4_0 hf4_0 hz4_1 hf4_1 hz4_2 hf4_2 hz4_3 hf4_3 hz5_0 hf5_0 hz5_1 hf5_1 hz5_2 hf5_2 hz5_3 hf5_3 hn3_4 hm3_4 hn3_5 hm3_5 hn4_5 hm4_5
 have HE3 := am (Nat.le_of_eq HG3.out.symm)
 have HE4 := am (Nat.le_trans (below_size HD3.out) (Nat.le_of_eq HG4.out.symm))
 have HE5 := am (Nat.le_trans (below_size (below_step HD3.out HD4.out)) (Nat.le_of_eq HG5.out.symm))
 have hb : Below w102.heap.size w102 w106 := by rw [hW]; exact bel4 (bel4 (bel1 (below_step (below_step HD3.out HD4.out) HD5.out) HE3.out) HE4.out) HE5.out
 have BK3 : Aside0 (w106.heap[g3]? = some (.cells #[.slice A1 m.length c1] 26 (0, 0))) := ⟨by rw [hW]; exact far4 (far4 (put1 HY3.out) HN3_4.out) HN3_5.out⟩
 have BK4 : Aside0 (w106.heap[g4]? = some (.cells #[.int .i64 s0, .int .i64 s1, .int .i64 s2, .int .i64 s3] 28 (0, 0))) := ⟨by rw [hW]; exact far4 (put4 (far1 HY4.out HN3_4.out.symm)) HN4_5.out⟩
 have BK5 : Aside0 (w106.heap[g5]? = some (.cells #[.int .i64 t0, .int .i64 t1, .int .i64 t2, .int .i64 t3] 28 (0, 0))) := ⟨by rw [hW]; exact put4 (far4 (far1 HY5.out HN3_5.out.symm) HN4_5.out.symm)⟩
 replace HC0 := am (Kd.C_below HC0.out hb)
 replace HC1 := am (Kd.C_below HC1.out hb)
 replace HTD := am (TabD.below HTD.out hb)
 replace HB := am (below_step HB.out hb)
 clear hb hW HG3 HX3 HD3 HY3 HE3 HG4 HX4 HD4 HY4 HE4 HG5 HX5 HD5 HY5 HE5 HN3_4 HN3_5 HN4_5
 have hz3_0 : w106.cell? ⟨g3, 0, none⟩ = some (.slice A1 m.length c1) := (blk_cell BK3.out 0).trans rfl
 have hz4_0 : w106.cell? ⟨g4, 0, none⟩ = some (.int .i64 s0) := (blk_cell BK4.out 0).trans rfl
 have hz4_1 : w106.cell? ⟨g4, 1, none⟩ = some (.int .i64 s1) := (blk_cell BK4.out 1).trans rfl
 have hz4_2 : w106.cell? ⟨g4, 2, none⟩ = some (.int .i64 s2) := (blk_cell BK4.out 2).trans rfl
 have hz4_3 : w106.cell? ⟨g4, 3, none⟩ = some (.int .i64 s3) := (blk_cell BK4.out 3).trans rfl
 have hz5_0 : w106.cell? ⟨g5, 0, none⟩ = some (.int .i64 t0) := (blk_cell BK5.out 0).trans rfl
 have hz5_1 : w106.cell? ⟨g5, 1, none⟩ = some (.int .i64 t1) := (blk_cell BK5.out 1).trans rfl
 have hz5_2 : w106.cell? ⟨g5, 2, none⟩ = some (.int .i64 t2) := (blk_cell BK5.out 2).trans rfl
 have hz5_3 : w106.cell? ⟨g5, 3, none⟩ = some (.int .i64 t3) := (blk_cell BK5.out 3).trans rfl
 go_wp2_with (go_at_fn 8; fail)
 refine (impl_CommonPlaces.calls k _ _ m s0 s1 s2 s3 t0 t1 t2 t3 many least ok _ HC1.out HL1.out E3.out).mono ?_
 rintro e w107 ⟨rfl, hb⟩
 replace BK3 := am (blk_below BK3.out hb)
 replace BK4 := am (blk_below BK4.out hb)
 replace BK5 := am (blk_below BK5.out hb)
 replace HC0 := am (Kd.C_below HC0.out hb)
 replace HC1 := am (Kd.C_below HC1.out hb)
 replace HTD := am (TabD.below HTD.out hb)
 replace HB := am (below_step HB.out hb)
 clear hb hz3_0 hz4_0 hz4_1 hz4_2 hz4_3 hz5_0 hz5_1 hz5_2 hz5_3
 have hz3_0 : w107.cell? ⟨g3, 0, none⟩ = some (.slice A1 m.length c1) := (blk_cell BK3.out 0).trans rfl
 have hz4_0 : w107.cell? ⟨g4, 0, none⟩ = some (.int .i64 s0) := (blk_cell BK4.out 0).trans rfl
 have hz4_1 : w107.cell? ⟨g4, 1, none⟩ = some (.int .i64 s1) := (blk_cell BK4.out 1).trans rfl
 have hz4_2 : w107.cell? ⟨g4, 2, none⟩ = some (.int .i64 s2) := (blk_cell BK4.out 2).trans rfl
 have hz4_3 : w107.cell? ⟨g4, 3, none⟩ = some (.int .i64 s3) := (blk_cell BK4.out 3).trans rfl
 have hz5_0 : w107.cell? ⟨g5, 0, none⟩ = some (.int .i64 t0) := (blk_cell BK5.out 0).trans rfl
 have hz5_1 : w107.cell? ⟨g5, 1, none⟩ = some (.int .i64 t1) := (blk_cell BK5.out 1).trans rfl
 have hz5_2 : w107.cell? ⟨g5, 2, none⟩ = some (.int .i64 t2) := (blk_cell BK5.out 2).trans rfl
 have hz5_3 : w107.cell? ⟨g5, 3, none⟩ = some (.int .i64 t3) := (blk_cell BK5.out 3).trans rfl
 go_wp2_with (go_at_fn 9; fail)
 refine (spec_CommonPlaces.calls k _ _ m s0 s1 s2 s3 t0 t1 t2 t3 many least ok _ HC1.out HL1.out E4.out).mono ?_
 rintro e w108 ⟨rfl, hb⟩
 replace BK3 := am (blk_below BK3.out hb)
 replace BK4 := am (blk_below BK4.out hb)
 replace BK5 := am (blk_below BK5.out hb)
 replace HC0 := am (Kd.C_below HC0.out hb)
 replace HC1 := am (Kd.C_below HC1.out hb)
 replace HTD := am (TabD.below HTD.out hb)
 replace HB := am (below_step HB.out hb)
 clear hb hz3_0 hz4_0 hz4_1 hz4_2 hz4_3 hz5_0 hz5_1 hz5_2 hz5_3
 have hz3_0 : w108.cell? ⟨g3, 0, none⟩ = some (.slice A1 m.length c1) := (blk_cell BK3.out 0).trans rfl
 have hz4_0 : w108.cell? ⟨g4, 0, none⟩ = some (.int .i64 s0) := (blk_cell BK4.out 0).trans rfl
 have hz4_1 : w108.cell? ⟨g4, 1, none⟩ = some (.int .i64 s1) := (blk_cell BK4.out 1).trans rfl
 have hz4_2 : w108.cell? ⟨g4, 2, none⟩ = some (.int .i64 s2) := (blk_cell BK4.out 2).trans rfl
 have hz4_3 : w108.cell? ⟨g4, 3, none⟩ = some (.int .i64 s3) := (blk_cell BK4.out 3).trans rfl
 have hz5_0 : w108.cell? ⟨g5, 0, none⟩ = some (.int .i64 t0) := (blk_cell BK5.out 0).trans rfl
 have hz5_1 : w108.cell? ⟨g5, 1, none⟩ = some (.int .i64 t1) := (blk_cell BK5.out 1).trans rfl
 have hz5_2 : w108.cell? ⟨g5, 2, none⟩ = some (.int .i64 t2) := (blk_cell BK5.out 2).trans rfl
 have hz5_3 : w108.cell? ⟨g5, 3, none⟩ = some (.int .i64 t3) := (blk_cell BK5.out 3).trans rfl
 go_wp2_with (go_at_fn 10; fail)
 refine (impl_DoShare.calls k _ _ m s0 s1 s2 s3 t0 t1 t2 t3 share ok _ HC1.out HL1.out E5.out).mono ?_
 rintro e w109 ⟨rfl, hb⟩
 replace BK3 := am (blk_below BK3.out hb)
 replace BK4 := am (blk_below BK4.out hb)
 replace BK5 := am (blk_below BK5.out hb)
 replace HC0 := am (Kd.C_below HC0.out hb)
 replace HC1 := am (Kd.C_below HC1.out hb)
 replace HTD := am (TabD.below HTD.out hb)
 replace HB := am (below_step HB.out hb)
 clear hb hz3_0 hz4_0 hz4_1 hz4_2 hz4_3 hz5_0 hz5_1 hz5_2 hz5_3
 have hz3_0 : w109.cell? ⟨g3, 0, none⟩ = some (.slice A1 m.length c1) := (blk_cell BK3.out 0).trans rfl
 have hz4_0 : w109.cell? ⟨g4, 0, none⟩ = some (.int .i64 s0) := (blk_cell BK4.out 0).trans rfl
 have hz4_1 : w109.cell? ⟨g4, 1, none⟩ = some (.int .i64 s1) := (blk_cell BK4.out 1).trans rfl
 have hz4_2 : w109.cell? ⟨g4, 2, none⟩ = some (.int .i64 s2) := (blk_cell BK4.out 2).trans rfl
 have hz4_3 : w109.cell? ⟨g4, 3, none⟩ = some (.int .i64 s3) := (blk_cell BK4.out 3).trans rfl
 have hz5_0 : w109.cell? ⟨g5, 0, none⟩ = some (.int .i64 t0) := (blk_cell BK5.out 0).trans rfl
 have hz5_1 : w109.cell? ⟨g5, 1, none⟩ = some (.int .i64 t1) := (blk_cell BK5.out 1).trans rfl
 have hz5_2 : w109.cell? ⟨g5, 2, none⟩ = some (.int .i64 t2) := (blk_cell BK5.out 2).trans rfl
 have hz5_3 : w109.cell? ⟨g5, 3, none⟩ = some (.int .i64 t3) := (blk_cell BK5.out 3).trans rfl
 go_wp2_with (go_at_fn 11; fail)
 refine (spec_DoShare.calls k _ _ m s0 s1 s2 s3 t0 t1 t2 t3 share ok _ HC1.out HL1.out E6.out).mono ?_
 rintro e w110 ⟨rfl, hb⟩
 replace BK3 := am (blk_below BK3.out hb)
 replace BK4 := am (blk_below BK4.out hb)
 replace BK5 := am (blk_below BK5.out hb)
 replace HC0 := am (Kd.C_below HC0.out hb)
 replace HC1 := am (Kd.C_below HC1.out hb)
 replace HTD := am (TabD.below HTD.out hb)
 replace HB := am (below_step HB.out hb)
 clear hb hz3_0 hz4_0 hz4_1 hz4_2 hz4_3 hz5_0 hz5_1 hz5_2 hz5_3
 have hz3_0 : w110.cell? ⟨g3, 0, none⟩ = some (.slice A1 m.length c1) := (blk_cell BK3.out 0).trans rfl
 have hz4_0 : w110.cell? ⟨g4, 0, none⟩ = some (.int .i64 s0) := (blk_cell BK4.out 0).trans rfl
 have hz4_1 : w110.cell? ⟨g4, 1, none⟩ = some (.int .i64 s1) := (blk_cell BK4.out 1).trans rfl
 have hz4_2 : w110.cell? ⟨g4, 2, none⟩ = some (.int .i64 s2) := (blk_cell BK4.out 2).trans rfl
 have hz4_3 : w110.cell? ⟨g4, 3, none⟩ = some (.int .i64 s3) := (blk_cell BK4.out 3).trans rfl
 have hz5_0 : w110.cell? ⟨g5, 0, none⟩ = some (.int .i64 t0) := (blk_cell BK5.out 0).trans rfl
 have hz5_1 : w110.cell? ⟨g5, 1, none⟩ = some (.int .i64 t1) := (blk_cell BK5.out 1).trans rfl
 have hz5_2 : w110.cell? ⟨g5, 2, none⟩ = some (.int .i64 t2) := (blk_cell BK5.out 2).trans rfl
 have hz5_3 : w110.cell? ⟨g5, 3, none⟩ = some (.int .i64 t3) := (blk_cell BK5.out 3).trans rfl
 go_wp2_with (go_at_fn 12; fail)
 refine (impl_AreNear.calls k _ _ m s0 s1 s2 s3 t0 t1 t2 t3 near ok _ HC1.out HL1.out E7.out).mono ?_
 rintro e w111 ⟨rfl, hb⟩
 replace BK3 := am (blk_below BK3.out hb)
 replace BK4 := am (blk_below BK4.out hb)
 replace BK5 := am (blk_below BK5.out hb)
 replace HC0 := am (Kd.C_below HC0.out hb)
 replace HC1 := am (Kd.C_below HC1.out hb)
 replace HTD := am (TabD.below HTD.out hb)
 replace HB := am (below_step HB.out hb)
 clear hb hz3_0 hz4_0 hz4_1 hz4_2 hz4_3 hz5_0 hz5_1 hz5_2 hz5_3
 have hz3_0 : w111.cell? ⟨g3, 0, none⟩ = some (.slice A1 m.length c1) := (blk_cell BK3.out 0).trans rfl
 have hz4_0 : w111.cell? ⟨g4, 0, none⟩ = some (.int .i64 s0) := (blk_cell BK4.out 0).trans rfl
 have hz4_1 : w111.cell? ⟨g4, 1, none⟩ = some (.int .i64 s1) := (blk_cell BK4.out 1).trans rfl
 have hz4_2 : w111.cell? ⟨g4, 2, none⟩ = some (.int .i64 s2) := (blk_cell BK4.out 2).trans rfl
 have hz4_3 : w111.cell? ⟨g4, 3, none⟩ = some (.int .i64 s3) := (blk_cell BK4.out 3).trans rfl
 have hz5_0 : w111.cell? ⟨g5, 0, none⟩ = some (.int .i64 t0) := (blk_cell BK5.out 0).trans rfl
 have hz5_1 : w111.cell? ⟨g5, 1, none⟩ = some (.int .i64 t1) := (blk_cell BK5.out 1).trans rfl
 have hz5_2 : w111.cell? ⟨g5, 2, none⟩ = some (.int .i64 t2) := (blk_cell BK5.out 2).trans rfl
 have hz5_3 : w111.cell? ⟨g5, 3, none⟩ = some (.int .i64 t3) := (blk_cell BK5.out 3).trans rfl
 go_wp2_with (go_at_fn 13; fail)
 refine (spec_AreNear.calls k _ _ m s0 s1 s2 s3 t0 t1 t2 t3 near ok _ HC1.out HL1.out E8.out).mono ?_
 rintro e w112 ⟨rfl, hb⟩
 replace BK3 := am (blk_below BK3.out hb)
 replace BK4 := am (blk_below BK4.out hb)
 replace BK5 := am (blk_below BK5.out hb)
 replace HC0 := am (Kd.C_below HC0.out hb)
 replace HC1 := am (Kd.C_below HC1.out hb)
 replace HTD := am (TabD.below HTD.out hb)
 replace HB := am (below_step HB.out hb)
 clear hb hz3_0 hz4_0 hz4_1 hz4_2 hz4_3 hz5_0 hz5_1 hz5_2 hz5_3
 go_wp2_with (go_at_fn 15; fail)
 refine (vCut1.calls _ _ l0 _ HC0.out HL0.out HLL.out).mono ?_
 rintro e w113 ⟨v2, rfl, ho2, hb⟩
 replace BK3 := am (blk_below BK3.out hb)
 replace BK4 := am (blk_below BK4.out hb)
 replace BK5 := am (blk_below BK5.out hb)
 replace HC0 := am (Kd.C_below HC0.out hb)
 replace HC1 := am (Kd.C_below HC1.out hb)
 replace HTD := am (TabD.below HTD.out hb)
 replace HB := am (below_step HB.out hb)
 clear hb
 obtain ⟨A2, c2, eo⟩ := Kd.R_slice ho2
 subst eo
 have HC2 := am (Kd.R_reads' ho2).2.2
 have HL2 := am (Kd.R_reads' ho2).2.1
 clear ho2
 go_wp2_with (go_at_fn 14; fail)
 refine (spec_DrawNoticedCounts.calls k _ _ (cut1 l0) g ws ar _ HC2.out HL2.out E9.out).mono ?_
 rintro e w114 ⟨v7, v8, rfl, ho7, ho8, hb⟩
 replace BK3 := am (blk_below BK3.out hb)
 replace BK4 := am (blk_below BK4.out hb)
 replace BK5 := am (blk_below BK5.out hb)
 replace HC0 := am (Kd.C_below HC0.out hb)
 replace HC1 := am (Kd.C_below HC1.out hb)
 replace HC2 := am (Kd.C_below HC2.out hb)
 replace HTD := am (TabD.below HTD.out hb)
 replace HB := am (below_step HB.out hb)
 clear hb
 obtain ⟨A7, c7, eo⟩ := Kd.S_slice ho7
 subst eo
 have HC7 := am (Kd.S_reads' ho7).2.2
 have HL7 := am (Kd.S_reads' ho7).2.1
 clear ho7
 obtain ⟨A8, c8, eo⟩ := Kd.R_slice ho8
 subst eo
 have HC8 := am (Kd.R_reads' ho8).2.2
 have HL8 := am (Kd.R_reads' ho8).2.1
 clear ho8
 go_upto_region 11 with (first | ((with_reducible refine gate_dst (N := 20) rfl ?_); refine bE 20 #[.slice none 0 0] 26 ?_; intro g20 hg w115 hx hb; have HG20 := am hg; have HX20 := am hx; have HD20 := am hb; clear hg hx hb; have HY20 := am HX20.out; have hz20_0 : w115.cell? ⟨g20, 0, none⟩ = some (.slice none 0 0) := (blk_cell HY20.out 0).trans rfl; have hf20_0 := blk_frozen HY20.out 0))
 refine hideW ?_
 intro w116 hW
 clear hz20_0 hf20_0
 have HE20 := am (Nat.le_of_eq HG20.out.symm)
 have hb : Below w114.heap.size w114 w116 := by rw [hW]; exact bel1 HD20.out HE20.out
 have BK20 : Aside0 (w116.heap[g20]? = some (.cells #[.slice A7 g.length c7] 26 (0, 0))) := ⟨by rw [hW]; exact put1 HY20.out⟩
 replace BK3 := am (blk_below BK3.out hb)
 replace BK4 := am (blk_below BK4.out hb)
 replace BK5 := am (blk_below BK5.out hb)
 replace HC0 := am (Kd.C_below HC0.out hb)
 replace HC1 := am (Kd.C_below HC1.out hb)
 replace HC2 := am (Kd.C_below HC2.out hb)
 replace HC7 := am (Kd.C_below HC7.out hb)
 replace HC8 := am (Kd.C_below HC8.out hb)
 replace HTD := am (TabD.below HTD.out hb)
 replace HB := am (below_step HB.out hb)
 clear hb hW HG20 HX20 HD20 HY20 HE20
 have hz20_0 : w116.cell? ⟨g20, 0, none⟩ = some (.slice A7 g.length c7) := (blk_cell BK20.out 0).trans rfl
 go_wp2_with (go_at_fn 16; fail)
 refine (impl_NoticedCounts.calls k _ _ g _ _ ws ar cs one _ HC7.out HL7.out HC8.out HL8.out E10.out).mono ?_
 rintro e w117 ⟨v10, rfl, ho10, hb⟩
 replace BK3 := am (blk_below BK3.out hb)
 replace BK4 := am (blk_below BK4.out hb)
 replace BK5 := am (blk_below BK5.out hb)
 replace BK20 := am (blk_below BK20.out hb)
 replace HC0 := am (Kd.C_below HC0.out hb)
 replace HC1 := am (Kd.C_below HC1.out hb)
 replace HC2 := am (Kd.C_below HC2.out hb)
 replace HC7 := am (Kd.C_below HC7.out hb)
 replace HC8 := am (Kd.C_below HC8.out hb)
 replace HTD := am (TabD.below HTD.out hb)
 replace HB := am (below_step HB.out hb)
 clear hb
 obtain ⟨A10, c10, eo⟩ := Kd.R_slice ho10
 subst eo
 have HC10 := am (Kd.R_reads' ho10).2.2
 have HL10 := am (Kd.R_reads' ho10).2.1
 clear ho10 hz20_0
 have hz20_0 : w117.cell? ⟨g20, 0, none⟩ = some (.slice A7 g.length c7) := (blk_cell BK20.out 0).trans rfl
 go_wp2_with (go_at_fn 17; fail)
 refine (spec_NoticedCounts.calls k _ _ g _ _ ws ar cs one _ HC7.out HL7.out HC8.out HL8.out E11.out).mono ?_
 rintro e w118 ⟨v11, rfl, ho11, hb⟩
 replace BK3 := am (blk_below BK3.out hb)
 replace BK4 := am (blk_below BK4.out hb)
 replace BK5 := am (blk_below BK5.out hb)
 replace BK20 := am (blk_below BK20.out hb)
 replace HC0 := am (Kd.C_below HC0.out hb)
 replace HC1 := am (Kd.C_below HC1.out hb)
 replace HC2 := am (Kd.C_below HC2.out hb)
 replace HC7 := am (Kd.C_below HC7.out hb)
 replace HC8 := am (Kd.C_below HC8.out hb)
 replace HC10 := am (Kd.C_below HC10.out hb)
 replace HTD := am (TabD.below HTD.out hb)
 replace HB := am (below_step HB.out hb)
 clear hb
 obtain ⟨A11, c11, eo⟩ := Kd.R_slice ho11
 subst eo
 have HC11 := am (Kd.R_reads' ho11).2.2
 have HL11 := am (Kd.R_reads' ho11).2.1
 clear ho11 hz20_0
 have hz20_0 : w118.cell? ⟨g20, 0, none⟩ = some (.slice A7 g.length c7) := (blk_cell BK20.out 0).trans rfl
 go_wp2_with (go_at_fn 18; fail)
 refine (impl_PartCover.calls k _ _ g _ _ ws ar cv one _ HC7.out HL7.out HC8.out HL8.out E12.out).mono ?_
 rintro e w119 ⟨v12, rfl, ho12, hb⟩
 replace BK3 := am (blk_below BK3.out hb)
 replace BK4 := am (blk_below BK4.out hb)
 replace BK5 := am (blk_below BK5.out hb)
 replace BK20 := am (blk_below BK20.out hb)
 replace HC0 := am (Kd.C_below HC0.out hb)
 replace HC1 := am (Kd.C_below HC1.out hb)
 replace HC2 := am (Kd.C_below HC2.out hb)
 replace HC7 := am (Kd.C_below HC7.out hb)
 replace HC8 := am (Kd.C_below HC8.out hb)
 replace HC10 := am (Kd.C_below HC10.out hb)
 replace HC11 := am (Kd.C_below HC11.out hb)
 replace HTD := am (TabD.below HTD.out hb)
 replace HB := am (below_step HB.out hb)
 clear hb
 obtain ⟨A12, c12, eo⟩ := Kd.R_slice ho12
 subst eo
 have HC12 := am (Kd.R_reads' ho12).2.2
 have HL12 := am (Kd.R_reads' ho12).2.1
 clear ho12 hz20_0
 have hz20_0 : w119.cell? ⟨g20, 0, none⟩ = some (.slice A7 g.length c7) := (blk_cell BK20.out 0).trans rfl
 go_wp2_with (go_at_fn 19; fail)
 refine (spec_PartCover.calls k _ _ g _ _ ws ar cv one _ HC7.out HL7.out HC8.out HL8.out E13.out).mono ?_
 rintro e w120 ⟨v13, rfl, ho13, hb⟩
 replace BK3 := am (blk_below BK3.out hb)
 replace BK4 := am (blk_below BK4.out hb)
 replace BK5 := am (blk_below BK5.out hb)
 replace BK20 := am (blk_below BK20.out hb)
 replace HC0 := am (Kd.C_below HC0.out hb)
 replace HC1 := am (Kd.C_below HC1.out hb)
 replace HC2 := am (Kd.C_below HC2.out hb)
 replace HC7 := am (Kd.C_below HC7.out hb)
 replace HC8 := am (Kd.C_below HC8.out hb)
 replace HC10 := am (Kd.C_below HC10.out hb)
 replace HC11 := am (Kd.C_below HC11.out hb)
 replace HC12 := am (Kd.C_below HC12.out hb)
 replace HTD := am (TabD.below HTD.out hb)
 replace HB := am (below_step HB.out hb)
 clear hb
 obtain ⟨A13, c13, eo⟩ := Kd.R_slice ho13
 subst eo
 have HC13 := am (Kd.R_reads' ho13).2.2
 have HL13 := am (Kd.R_reads' ho13).2.1
 clear ho13 hz20_0
 have hz20_0 : w120.cell? ⟨g20, 0, none⟩ = some (.slice A7 g.length c7) := (blk_cell BK20.out 0).trans rfl
 go_wp2_with (go_at_fn 20; fail)
 refine (impl_ShareGroups.calls k _ _ g _ _ ws gs three _ HC7.out HL7.out HC8.out HL8.out E14.out).mono ?_
 rintro e w121 ⟨v14, rfl, ho14, hb⟩
 replace BK3 := am (blk_below BK3.out hb)
 replace BK4 := am (blk_below BK4.out hb)
 replace BK5 := am (blk_below BK5.out hb)
 replace BK20 := am (blk_below BK20.out hb)
 replace HC0 := am (Kd.C_below HC0.out hb)
 replace HC1 := am (Kd.C_below HC1.out hb)
 replace HC2 := am (Kd.C_below HC2.out hb)
 replace HC7 := am (Kd.C_below HC7.out hb)
 replace HC8 := am (Kd.C_below HC8.out hb)
 replace HC10 := am (Kd.C_below HC10.out hb)
 replace HC11 := am (Kd.C_below HC11.out hb)
 replace HC12 := am (Kd.C_below HC12.out hb)
 replace HC13 := am (Kd.C_below HC13.out hb)
 replace HTD := am (TabD.below HTD.out hb)
 replace HB := am (below_step HB.out hb)
 clear hb
 obtain ⟨A14, c14, eo⟩ := Kd.S_slice ho14
 subst eo
 have HC14 := am (Kd.S_reads' ho14).2.2
 have HL14 := am (Kd.S_reads' ho14).2.1
 clear ho14 hz20_0
 have hz20_0 : w121.cell? ⟨g20, 0, none⟩ = some (.slice A7 g.length c7) := (blk_cell BK20.out 0).trans rfl
 go_wp2_with (go_at_fn 21; fail)
 refine (spec_ShareGroups.calls k _ _ g _ _ ws gs three _ HC7.out HL7.out HC8.out HL8.out E15.out).mono ?_
 rintro e w122 ⟨v15, rfl, ho15, hb⟩
 replace BK3 := am (blk_below BK3.out hb)
 replace BK4 := am (blk_below BK4.out hb)
 replace BK5 := am (blk_below BK5.out hb)
 replace BK20 := am (blk_below BK20.out hb)
 replace HC0 := am (Kd.C_below HC0.out hb)
 replace HC1 := am (Kd.C_below HC1.out hb)
 replace HC2 := am (Kd.C_below HC2.out hb)
 replace HC7 := am (Kd.C_below HC7.out hb)
 replace HC8 := am (Kd.C_below HC8.out hb)
 replace HC10 := am (Kd.C_below HC10.out hb)
 replace HC11 := am (Kd.C_below HC11.out hb)
 replace HC12 := am (Kd.C_below HC12.out hb)
 replace HC13 := am (Kd.C_below HC13.out hb)
 replace HC14 := am (Kd.C_below HC14.out hb)
 replace HTD := am (TabD.below HTD.out hb)
 replace HB := am (below_step HB.out hb)
 clear hb
 obtain ⟨A15, c15, eo⟩ := Kd.S_slice ho15
 subst eo
 have HC15 := am (Kd.S_reads' ho15).2.2
 have HL15 := am (Kd.S_reads' ho15).2.1
 clear ho15 hz20_0
 have hz20_0 : w122.cell? ⟨g20, 0, none⟩ = some (.slice A7 g.length c7) := (blk_cell BK20.out 0).trans rfl
 go_wp2_with (go_at_fn 22; fail)
 refine (impl_MostApart.calls k _ _ g _ _ ws ap three _ HC7.out HL7.out HC8.out HL8.out E16.out HTD).mono ?_
 rintro e w123 ⟨v16, rfl, ho16, hb⟩
 replace BK3 := am (blk_below BK3.out hb)
 replace BK4 := am (blk_below BK4.out hb)
 replace BK5 := am (blk_below BK5.out hb)
 replace BK20 := am (blk_below BK20.out hb)
 replace HC0 := am (Kd.C_below HC0.out hb)
 replace HC1 := am (Kd.C_below HC1.out hb)
 replace HC2 := am (Kd.C_below HC2.out hb)
 replace HC7 := am (Kd.C_below HC7.out hb)
 replace HC8 := am (Kd.C_below HC8.out hb)
 replace HC10 := am (Kd.C_below HC10.out hb)
 replace HC11 := am (Kd.C_below HC11.out hb)
 replace HC12 := am (Kd.C_below HC12.out hb)
 replace HC13 := am (Kd.C_below HC13.out hb)
 replace HC14 := am (Kd.C_below HC14.out hb)
 replace HC15 := am (Kd.C_below HC15.out hb)
 replace HTD := am (TabD.below HTD.out hb)
 replace HB := am (below_step HB.out hb)
 clear hb
 obtain ⟨A16, c16, eo⟩ := Kd.R_slice ho16
 subst eo
 have HC16 := am (Kd.R_reads' ho16).2.2
 have HL16 := am (Kd.R_reads' ho16).2.1
 clear ho16 hz20_0
 have hz20_0 : w123.cell? ⟨g20, 0, none⟩ = some (.slice A7 g.length c7) := (blk_cell BK20.out 0).trans rfl
 go_wp2_with (go_at_fn 23; fail)
 refine (spec_MostApart.calls k _ _ g _ _ ws ap three _ HC7.out HL7.out HC8.out HL8.out E17.out).mono ?_
 rintro e w124 ⟨v17, rfl, ho17, hb⟩
 replace BK3 := am (blk_below BK3.out hb)
 replace BK4 := am (blk_below BK4.out hb)
 replace BK5 := am (blk_below BK5.out hb)
 replace BK20 := am (blk_below BK20.out hb)
 replace HC0 := am (Kd.C_below HC0.out hb)
 replace HC1 := am (Kd.C_below HC1.out hb)
 replace HC2 := am (Kd.C_below HC2.out hb)
 replace HC7 := am (Kd.C_below HC7.out hb)
 replace HC8 := am (Kd.C_below HC8.out hb)
 replace HC10 := am (Kd.C_below HC10.out hb)
 replace HC11 := am (Kd.C_below HC11.out hb)
 replace HC12 := am (Kd.C_below HC12.out hb)
 replace HC13 := am (Kd.C_below HC13.out hb)
 replace HC14 := am (Kd.C_below HC14.out hb)
 replace HC15 := am (Kd.C_below HC15.out hb)
 replace HC16 := am (Kd.C_below HC16.out hb)
 replace HTD := am (TabD.below HTD.out hb)
 replace HB := am (below_step HB.out hb)
 clear hb
 obtain ⟨A17, c17, eo⟩ := Kd.V_slice ho17
 subst eo
 have HC17 := am (Kd.V_reads' ho17).2.2
 have HL17 := am (Kd.V_reads' ho17).2.1
 clear ho17 hz20_0
 have hz20_0 : w124.cell? ⟨g20, 0, none⟩ = some (.slice A7 g.length c7) := (blk_cell BK20.out 0).trans rfl
 go_wp2_with (go_at_fn 24; fail)
 refine (impl_AreWatched.calls k _ _ g _ _ ws are five _ HC7.out HL7.out HC8.out HL8.out E18.out).mono ?_
 rintro e w125 ⟨rfl, hb⟩
 replace BK3 := am (blk_below BK3.out hb)
 replace BK4 := am (blk_below BK4.out hb)
 replace BK5 := am (blk_below BK5.out hb)
 replace BK20 := am (blk_below BK20.out hb)
 replace HC0 := am (Kd.C_below HC0.out hb)
 replace HC1 := am (Kd.C_below HC1.out hb)
 replace HC2 := am (Kd.C_below HC2.out hb)
 replace HC7 := am (Kd.C_below HC7.out hb)
 replace HC8 := am (Kd.C_below HC8.out hb)
 replace HC10 := am (Kd.C_below HC10.out hb)
 replace HC11 := am (Kd.C_below HC11.out hb)
 replace HC12 := am (Kd.C_below HC12.out hb)
 replace HC13 := am (Kd.C_below HC13.out hb)
 replace HC14 := am (Kd.C_below HC14.out hb)
 replace HC15 := am (Kd.C_below HC15.out hb)
 replace HC16 := am (Kd.C_below HC16.out hb)
 replace HC17 := am (Kd.C_below HC17.out hb)
 replace HTD := am (TabD.below HTD.out hb)
 replace HB := am (below_step HB.out hb)
 clear hb hz20_0
 have hz20_0 : w125.cell? ⟨g20, 0, none⟩ = some (.slice A7 g.length c7) := (blk_cell BK20.out 0).trans rfl
 go_wp2_with (go_at_fn 25; fail)
 refine (spec_AreWatched.calls k _ _ g _ _ ws are five _ HC7.out HL7.out HC8.out HL8.out E19.out).mono ?_
 rintro e w126 ⟨rfl, hb⟩
 replace BK3 := am (blk_below BK3.out hb)
 replace BK4 := am (blk_below BK4.out hb)
 replace BK5 := am (blk_below BK5.out hb)
 replace BK20 := am (blk_below BK20.out hb)
 replace HC0 := am (Kd.C_below HC0.out hb)
 replace HC1 := am (Kd.C_below HC1.out hb)
 replace HC2 := am (Kd.C_below HC2.out hb)
 replace HC7 := am (Kd.C_below HC7.out hb)
 replace HC8 := am (Kd.C_below HC8.out hb)
 replace HC10 := am (Kd.C_below HC10.out hb)
 replace HC11 := am (Kd.C_below HC11.out hb)
 replace HC12 := am (Kd.C_below HC12.out hb)
 replace HC13 := am (Kd.C_below HC13.out hb)
 replace HC14 := am (Kd.C_below HC14.out hb)
 replace HC15 := am (Kd.C_below HC15.out hb)
 replace HC16 := am (Kd.C_below HC16.out hb)
 replace HC17 := am (Kd.C_below HC17.out hb)
 replace HTD := am (TabD.below HTD.out hb)
 replace HB := am (below_step HB.out hb)
 clear hb hz20_0
 go_upto_region 21 with (fail)
 go_cut [299] from 185 to 299 (fun v299 wc1 => v299 = .bool false ∧ Aside0 (Below w126.heap.size w126 wc1))
 case first =>
  as_aux_lemma =>
   have HS := am (Below.refl w126.heap.size w126)
   have h25 := E25.out
   have HV1 := E27.out
   clear E2 E3 E4 E5 E6 E7 E8 E9 E10 E11 E12 E13 E14 E15 E16 E17 E18 E19 E23 E24 E25 E26 BK3 BK4 BK5 BK20
   cases five
   all_goals (first | rw [Bool.true_and] at h25 | rw [Bool.false_and] at h25)
   all_goals subst h25
   all_goals
    as_aux_lemma =>
     have b_f : (false != false) = false := rfl
     have b_t : (true != true) = false := rfl
     go_wp2_with (go_at_call 26; refine (laws_vInts.calls k _ _ cs _ _ cs true _ HC10.out HL10.out HC11.out HL11.out E20.out).mono ?_; rintro e w127 ⟨rfl, hd⟩; have hb := hd.below; clear hd; replace HC0 := am (Kd.C_below HC0.out hb); replace HC1 := am (Kd.C_below HC1.out hb); replace HC2 := am (Kd.C_below HC2.out hb); replace HC7 := am (Kd.C_below HC7.out hb); replace HC8 := am (Kd.C_below HC8.out hb); replace HC10 := am (Kd.C_below HC10.out hb); replace HC11 := am (Kd.C_below HC11.out hb); replace HC12 := am (Kd.C_below HC12.out hb); replace HC13 := am (Kd.C_below HC13.out hb); replace HC14 := am (Kd.C_below HC14.out hb); replace HC15 := am (Kd.C_below HC15.out hb); replace HC16 := am (Kd.C_below HC16.out hb); replace HC17 := am (Kd.C_below HC17.out hb); replace HTD := am (TabD.below HTD.out hb); replace HS := am (BwX.below HS.out hb); replace HB := am (below_step HB.out hb); clear hb)
     go_wp2_with (go_at_call 27; refine (laws_vPairs.same _ _ cv _ _ _ HC12.out HL12.out HC13.out HL13.out (by have := HV1.2.1; omega)).mono ?_; rintro e w128 ⟨rfl, hb⟩; replace HC0 := am (Kd.C_below HC0.out hb); replace HC1 := am (Kd.C_below HC1.out hb); replace HC2 := am (Kd.C_below HC2.out hb); replace HC7 := am (Kd.C_below HC7.out hb); replace HC8 := am (Kd.C_below HC8.out hb); replace HC10 := am (Kd.C_below HC10.out hb); replace HC11 := am (Kd.C_below HC11.out hb); replace HC12 := am (Kd.C_below HC12.out hb); replace HC13 := am (Kd.C_below HC13.out hb); replace HC14 := am (Kd.C_below HC14.out hb); replace HC15 := am (Kd.C_below HC15.out hb); replace HC16 := am (Kd.C_below HC16.out hb); replace HC17 := am (Kd.C_below HC17.out hb); replace HTD := am (TabD.below HTD.out hb); replace HS := am (BwX.below HS.out hb); replace HB := am (below_step HB.out hb); clear hb)
     go_wp2_with (go_at_call 28; refine (laws_vTable.calls k _ _ gs _ _ gs true _ HC14.out HL14.out HC15.out HL15.out E22.out).mono ?_; rintro e w129 ⟨rfl, hd⟩; have hb := hd.below; clear hd; replace HC0 := am (Kd.C_below HC0.out hb); replace HC1 := am (Kd.C_below HC1.out hb); replace HC2 := am (Kd.C_below HC2.out hb); replace HC7 := am (Kd.C_below HC7.out hb); replace HC8 := am (Kd.C_below HC8.out hb); replace HC10 := am (Kd.C_below HC10.out hb); replace HC11 := am (Kd.C_below HC11.out hb); replace HC12 := am (Kd.C_below HC12.out hb); replace HC13 := am (Kd.C_below HC13.out hb); replace HC14 := am (Kd.C_below HC14.out hb); replace HC15 := am (Kd.C_below HC15.out hb); replace HC16 := am (Kd.C_below HC16.out hb); replace HC17 := am (Kd.C_below HC17.out hb); replace HTD := am (TabD.below HTD.out hb); replace HS := am (BwX.below HS.out hb); replace HB := am (below_step HB.out hb); clear hb)
     go_wp2_with (go_at_call 26; refine (laws_vInts.calls k _ _ ap _ _ ap true _ HC16.out HL16.out HC17.out HL17.out E21.out).mono ?_; rintro e w130 ⟨rfl, hd⟩; have hb := hd.below; clear hd; replace HC0 := am (Kd.C_below HC0.out hb); replace HC1 := am (Kd.C_below HC1.out hb); replace HC2 := am (Kd.C_below HC2.out hb); replace HC7 := am (Kd.C_below HC7.out hb); replace HC8 := am (Kd.C_below HC8.out hb); replace HC10 := am (Kd.C_below HC10.out hb); replace HC11 := am (Kd.C_below HC11.out hb); replace HC12 := am (Kd.C_below HC12.out hb); replace HC13 := am (Kd.C_below HC13.out hb); replace HC14 := am (Kd.C_below HC14.out hb); replace HC15 := am (Kd.C_below HC15.out hb); replace HC16 := am (Kd.C_below HC16.out hb); replace HC17 := am (Kd.C_below HC17.out hb); replace HTD := am (TabD.below HTD.out hb); replace HS := am (BwX.below HS.out hb); replace HB := am (below_step HB.out hb); clear hb)
     go_meet
     case rel => exact ⟨rfl, HS⟩
 case rest =>
  obtain ⟨rfl, hS⟩ := hcut
  have hb := hS.out
  clear hS
  replace BK3 := am (blk_below BK3.out hb)
  replace BK4 := am (blk_below BK4.out hb)
  replace BK5 := am (blk_below BK5.out hb)
  replace BK20 := am (blk_below BK20.out hb)
  replace HC0 := am (Kd.C_below HC0.out hb)
  replace HC1 := am (Kd.C_below HC1.out hb)
  replace HC2 := am (Kd.C_below HC2.out hb)
  replace HC7 := am (Kd.C_below HC7.out hb)
  replace HC8 := am (Kd.C_below HC8.out hb)
  replace HC10 := am (Kd.C_below HC10.out hb)
  replace HC11 := am (Kd.C_below HC11.out hb)
  replace HC12 := am (Kd.C_below HC12.out hb)
  replace HC13 := am (Kd.C_below HC13.out hb)
  replace HC14 := am (Kd.C_below HC14.out hb)
  replace HC15 := am (Kd.C_below HC15.out hb)
  replace HC16 := am (Kd.C_below HC16.out hb)
  replace HC17 := am (Kd.C_below HC17.out hb)
  replace HTD := am (TabD.below HTD.out hb)
  replace HB := am (below_step HB.out hb)
  clear hb
  go_upto_if 300 with (fail)
  go_cut [43, 44, 45, 46, 47] from 301 to 351 (fun v43 v44 v45 v46 v47 wc2 => Aside0 (Below wc.heap.size wc wc2))
  case first =>
   as_aux_lemma =>
    have HS := am (Below.refl wc.heap.size wc)
    cases ok
    ·go_wp2
     go_meet
     case rel => exact HS
    ·obtain ⟨hA, ⟨least2, hC⟩, hT, hF⟩ := E23.out rfl
     have EA := am hA
     have EC := am hC
     have ET := am hT
     have EF := am hF
     clear hA hC hT hF
     have hz3_0 : wc.cell? ⟨g3, 0, none⟩ = some (.slice A1 m.length c1) := (blk_cell BK3.out 0).trans rfl
     have hz4_0 : wc.cell? ⟨g4, 0, none⟩ = some (.int .i64 s0) := (blk_cell BK4.out 0).trans rfl
     have hz4_1 : wc.cell? ⟨g4, 1, none⟩ = some (.int .i64 s1) := (blk_cell BK4.out 1).trans rfl
     have hz4_2 : wc.cell? ⟨g4, 2, none⟩ = some (.int .i64 s2) := (blk_cell BK4.out 2).trans rfl
     have hz4_3 : wc.cell? ⟨g4, 3, none⟩ = some (.int .i64 s3) := (blk_cell BK4.out 3).trans rfl
     have hz5_0 : wc.cell? ⟨g5, 0, none⟩ = some (.int .i64 t0) := (blk_cell BK5.out 0).trans rfl
     have hz5_1 : wc.cell? ⟨g5, 1, none⟩ = some (.int .i64 t1) := (blk_cell BK5.out 1).trans rfl
     have hz5_2 : wc.cell? ⟨g5, 2, none⟩ = some (.int .i64 t2) := (blk_cell BK5.out 2).trans rfl
     have hz5_3 : wc.cell? ⟨g5, 3, none⟩ = some (.int .i64 t3) := (blk_cell BK5.out 3).trans rfl
     go_wp2_with (go_at_fn 29; fail)
     refine (impl_AreApart.calls k _ _ m s0 s1 s2 s3 t0 t1 t2 t3 (!share) true _ HC1.out HL1.out EA.out).mono ?_
     rintro e w131 ⟨rfl, hb⟩
     replace BK3 := am (blk_below BK3.out hb)
     replace BK4 := am (blk_below BK4.out hb)
     replace BK5 := am (blk_below BK5.out hb)
     replace BK20 := am (blk_below BK20.out hb)
     replace HC0 := am (Kd.C_below HC0.out hb)
     replace HC1 := am (Kd.C_below HC1.out hb)
     replace HC2 := am (Kd.C_below HC2.out hb)
     replace HC7 := am (Kd.C_below HC7.out hb)
     replace HC8 := am (Kd.C_below HC8.out hb)
     replace HC10 := am (Kd.C_below HC10.out hb)
     replace HC11 := am (Kd.C_below HC11.out hb)
     replace HC12 := am (Kd.C_below HC12.out hb)
     replace HC13 := am (Kd.C_below HC13.out hb)
     replace HC14 := am (Kd.C_below HC14.out hb)
     replace HC15 := am (Kd.C_below HC15.out hb)
     replace HC16 := am (Kd.C_below HC16.out hb)
     replace HC17 := am (Kd.C_below HC17.out hb)
     replace HTD := am (TabD.below HTD.out hb)
     replace HS := am (BwX.below HS.out hb)
     replace HB := am (below_step HB.out hb)
     clear hb hz3_0 hz4_0 hz4_1 hz4_2 hz4_3 hz5_0 hz5_1 hz5_2 hz5_3
     have hz3_0 : w131.cell? ⟨g3, 0, none⟩ = some (.slice A1 m.length c1) := (blk_cell BK3.out 0).trans rfl
     have hz4_0 : w131.cell? ⟨g4, 0, none⟩ = some (.int .i64 s0) := (blk_cell BK4.out 0).trans rfl
     have hz4_1 : w131.cell? ⟨g4, 1, none⟩ = some (.int .i64 s1) := (blk_cell BK4.out 1).trans rfl
     have hz4_2 : w131.cell? ⟨g4, 2, none⟩ = some (.int .i64 s2) := (blk_cell BK4.out 2).trans rfl
     have hz4_3 : w131.cell? ⟨g4, 3, none⟩ = some (.int .i64 s3) := (blk_cell BK4.out 3).trans rfl
     have hz5_0 : w131.cell? ⟨g5, 0, none⟩ = some (.int .i64 t0) := (blk_cell BK5.out 0).trans rfl
     have hz5_1 : w131.cell? ⟨g5, 1, none⟩ = some (.int .i64 t1) := (blk_cell BK5.out 1).trans rfl
     have hz5_2 : w131.cell? ⟨g5, 2, none⟩ = some (.int .i64 t2) := (blk_cell BK5.out 2).trans rfl
     have hz5_3 : w131.cell? ⟨g5, 3, none⟩ = some (.int .i64 t3) := (blk_cell BK5.out 3).trans rfl
     go_wp2_with (go_at_fn 8; fail)
     refine (impl_CommonPlaces.calls k _ _ m t0 t1 t2 t3 s0 s1 s2 s3 many least2 true _ HC1.out HL1.out EC.out).mono ?_
     rintro e w132 ⟨rfl, hb⟩
     replace BK3 := am (blk_below BK3.out hb)
     replace BK4 := am (blk_below BK4.out hb)
     replace BK5 := am (blk_below BK5.out hb)
     replace BK20 := am (blk_below BK20.out hb)
     replace HC0 := am (Kd.C_below HC0.out hb)
     replace HC1 := am (Kd.C_below HC1.out hb)
     replace HC2 := am (Kd.C_below HC2.out hb)
     replace HC7 := am (Kd.C_below HC7.out hb)
     replace HC8 := am (Kd.C_below HC8.out hb)
     replace HC10 := am (Kd.C_below HC10.out hb)
     replace HC11 := am (Kd.C_below HC11.out hb)
     replace HC12 := am (Kd.C_below HC12.out hb)
     replace HC13 := am (Kd.C_below HC13.out hb)
     replace HC14 := am (Kd.C_below HC14.out hb)
     replace HC15 := am (Kd.C_below HC15.out hb)
     replace HC16 := am (Kd.C_below HC16.out hb)
     replace HC17 := am (Kd.C_below HC17.out hb)
     replace HTD := am (TabD.below HTD.out hb)
     replace HS := am (BwX.below HS.out hb)
     replace HB := am (below_step HB.out hb)
     clear hb hz3_0 hz4_0 hz4_1 hz4_2 hz4_3 hz5_0 hz5_1 hz5_2 hz5_3
     cases share
     ·obtain ⟨h1, h2⟩ := EF.out rfl
      have c1 : decide (0 < many) = false := decide_eq_false (by omega)
      have c2 : decide (least < 0) = true := decide_eq_true h2
      have c3 : (many == 0) = true := by rw [h1]; rfl
      clear h1 h2
      go_wp2
      go_meet
      case rel => exact HS
     ·obtain ⟨h1, h2, h3⟩ := ET.out rfl
      have c1 : decide (0 < many) = true := decide_eq_true h1
      have c2 : decide (least < 0) = false := decide_eq_false (by omega)
      have c3 : (many == 0) = false := by simp; omega
      subst h3
      clear h1 h2
      go_wp2
      go_meet
      case rel => exact HS
  case rest =>
   have hb := hcut.out
   clear hcut
   replace BK3 := am (blk_below BK3.out hb)
   replace BK4 := am (blk_below BK4.out hb)
   replace BK5 := am (blk_below BK5.out hb)
   replace BK20 := am (blk_below BK20.out hb)
   replace HC0 := am (Kd.C_below HC0.out hb)
   replace HC1 := am (Kd.C_below HC1.out hb)
   replace HC2 := am (Kd.C_below HC2.out hb)
   replace HC7 := am (Kd.C_below HC7.out hb)
   replace HC8 := am (Kd.C_below HC8.out hb)
   replace HC10 := am (Kd.C_below HC10.out hb)
   replace HC11 := am (Kd.C_below HC11.out hb)
   replace HC12 := am (Kd.C_below HC12.out hb)
   replace HC13 := am (Kd.C_below HC13.out hb)
   replace HC14 := am (Kd.C_below HC14.out hb)
   replace HC15 := am (Kd.C_below HC15.out hb)
   replace HC16 := am (Kd.C_below HC16.out hb)
   replace HC17 := am (Kd.C_below HC17.out hb)
   replace HTD := am (TabD.below HTD.out hb)
   replace HB := am (below_step HB.out hb)
   clear hb E2 E3 E4 E5 E6 E7 E8 E9 E23 b_many b_least b_ok b_share b_near BK3 BK4 BK5
   go_upto_if 352 with (fail)
   go_cut [48, 49, 50, 51, 52, 53, 54, 55] from 353 to 440 (fun v48 v49 v50 v51 v52 v53 v54 v55 wc3 => Aside0 (Below wc.heap.size wc wc3))
   case first =>
    as_aux_lemma =>
     have HS := am (Below.refl wc.heap.size wc)
     cases one
     ·go_wp2
      go_meet
      case rel => exact HS
     ·obtain ⟨hQ, hP⟩ := E24.out rfl
      have EQ := am hQ
      have EP := am hP
      clear hQ hP E24 E26 E10 E11 E12 E13 E14 E15 E16 E17 E18 E19 E20 E21 E22 E25 HTD HC0 HC1 HC2 HC11 HC13 HC14 HC15 HC16 HC17
      go_wp2
      go_loopg [48, 50] ws.length (fun gg s48 s50 w' => ∃ x : Nat, s48 = .int .i64 (sumW ws ar x) ∧ s50 = .int .i64 (x : Int) ∧ Aside0 (x ≤ ws.length) ∧ Aside0 (ws.length - x ≤ gg) ∧ Aside0 (Below wc.heap.size wc w'))
      case atStart => exact ⟨0, rfl, rfl, ⟨Nat.zero_le _⟩, ⟨by omega⟩, ⟨Below.refl _ _⟩⟩
      case round =>
       as_aux_lemma =>
        obtain ⟨x, rfl, rfl, HXx, HGx, hS⟩ := hrel
        have hb := hS.out
        replace BK20 := am (blk_below BK20.out hb)
        replace HC7 := am (Kd.C_below HC7.out hb)
        replace HC8 := am (Kd.C_below HC8.out hb)
        replace HC10 := am (Kd.C_below HC10.out hb)
        replace HC12 := am (Kd.C_below HC12.out hb)
        replace HS := am (BwX.below HS.out hb)
        replace HB := am (below_step HB.out hb)
        clear hb
        replace hS := hS.out
        have HPx := am hS
        clear hS
        by_cases hlt : x < ws.length
        ·have HLTx := am hlt
         have d_x : (x < ws.length) = True := eq_true hlt
         have c_x : decide ((x : Int) < (ws.length : Int)) = true := decide_eq_true (by omega)
         have hwx : wrap64 ((x : Int) + 1) = ((x + 1 : Nat) : Int) := wrap_succ x (by have := E27.out; omega)
         have HWx := am hwx
         clear hwx
         have p1 : 0 ≤ (x : Int) := by omega
         have q1 : (x : Int) < (ws.length : Int) := by omega
         clear hlt
         obtain ⟨ad1, e1, h0, h1, h2, h3⟩ := at_T28 HC8.out (x : Int) p1 q1
         cases e1
         simp only [Int.toNat_natCast] at h0 h1 h2 h3
         have P1 := eq_true p1
         have Q1 := eq_true q1
         clear p1 q1
         by_cases hq : (rd_T28 ws (x : Int)).f0 = ar
         ·have c_q : ((rd_T28 ws (x : Int)).f0 == ar) = true := by rw [hq]; exact beq_self_eq_true _
          have hsm : sumW ws ar (x + 1) = wrap64 (sumW ws ar x + (rd_T28 ws (x : Int)).f2) := by rw [sumW]; exact if_pos hq
          have HSM := am hsm
          clear hq hsm
          go_wp2
          go_roundg (ws.length - (x + 1))
          case measure => have h1_ := HLTx.out; have h2_ := HGx.out; omega
          case rel => exact ⟨x + 1, (by first | (rw [HSM.out]; done) | (rw [HSM.out]; simp only [i64_w]; done)), (by first | rfl | go_num | (simp only [i64_w]; done) | (rw [HWx.out]) | (simp only [i64_w]; rw [HWx.out])), ⟨by have h1_ := HLTx.out; omega⟩, ⟨by omega⟩, ⟨HPx.out⟩⟩
         ·have c_q : ((rd_T28 ws (x : Int)).f0 == ar) = false := by exact beq_false_of_ne hq
          have hsm : sumW ws ar (x + 1) = sumW ws ar x := by rw [sumW]; exact if_neg hq
          have HSM := am hsm
          clear hq hsm
          go_wp2
          go_roundg (ws.length - (x + 1))
          case measure => have h1_ := HLTx.out; have h2_ := HGx.out; omega
          case rel => exact ⟨x + 1, (by first | (rw [HSM.out]; done) | (rw [HSM.out]; simp only [i64_w]; done)), (by first | rfl | go_num | (simp only [i64_w]; done) | (rw [HWx.out]) | (simp only [i64_w]; rw [HWx.out])), ⟨by have h1_ := HLTx.out; omega⟩, ⟨by omega⟩, ⟨HPx.out⟩⟩
        ·have c_x : decide ((x : Int) < (ws.length : Int)) = false := decide_eq_false (by omega)
         have d_x : (x < ws.length) = False := eq_false (by omega)
         have hxe : x = ws.length := by have := HXx.out; omega
         subst hxe
         clear hlt HXx HGx HPx
         go_wp2
         go_loopg [49, 51] cs.length (fun gg s49 s51 w' => ∃ x : Nat, s49 = .int .i64 (sumC cs x) ∧ s51 = .int .i64 (x : Int) ∧ Aside0 (x ≤ cs.length) ∧ Aside0 (cs.length - x ≤ gg) ∧ Aside0 (Below wr.heap.size wr w'))
         case atStart => exact ⟨0, rfl, rfl, ⟨Nat.zero_le _⟩, ⟨by omega⟩, ⟨Below.refl _ _⟩⟩
         case round =>
          as_aux_lemma =>
           obtain ⟨p, rfl, rfl, HXp, HGp, hS⟩ := hrel
           have hb := hS.out
           replace BK20 := am (blk_below BK20.out hb)
           replace HC7 := am (Kd.C_below HC7.out hb)
           replace HC8 := am (Kd.C_below HC8.out hb)
           replace HC10 := am (Kd.C_below HC10.out hb)
           replace HC12 := am (Kd.C_below HC12.out hb)
           replace HS := am (BwX.below HS.out hb)
           replace HB := am (below_step HB.out hb)
           clear hb
           replace hS := hS.out
           have HPp := am hS
           clear hS
           by_cases hlt : p < cs.length
           ·have HLTp := am hlt
            have d_p : (p < cs.length) = True := eq_true hlt
            have c_p : decide ((p : Int) < (cs.length : Int)) = true := decide_eq_true (by omega)
            have hwp : wrap64 ((p : Int) + 1) = ((p + 1 : Nat) : Int) := wrap_succ p (by have := E27.out; omega)
            have HWp := am hwp
            clear hwp
            obtain ⟨hin, bys, hby, hlen⟩ := EP.out p hlt
            have EI := am hin
            have EB := am hby
            have EL := am hlen
            clear hin hby hlen
            have p1 : 0 ≤ (p : Int) := by omega
            have q1 : (p : Int) < (cs.length : Int) := by omega
            clear hlt
            obtain ⟨ad1, e1, h1⟩ := Kd.at_int HC10.out (p : Int) p1 q1
            cases e1
            simp only [Int.toNat_natCast] at h1
            have P1 := eq_true p1
            have Q1 := eq_true q1
            have HP1 := am p1
            have HQ1 := am q1
            clear p1 q1
            have HK2 := am (Below.refl wr.heap.size wr)
            go_wp2
            go_loopg [52, 53] cv.length (fun gg s52 s53 w' => ∃ x : Nat, s52 = .bool (insC cv (p : Int) x) ∧ s53 = .int .i64 (x : Int) ∧ Aside0 (x ≤ cv.length) ∧ Aside0 (cv.length - x ≤ gg) ∧ Aside0 (Below wr.heap.size wr w'))
            case atStart => exact ⟨0, rfl, rfl, ⟨Nat.zero_le _⟩, ⟨by omega⟩, ⟨Below.refl _ _⟩⟩
            case round =>
             as_aux_lemma =>
              obtain ⟨y, rfl, rfl, HXy, HGy, hS⟩ := hrel
              have hb := hS.out
              replace BK20 := am (blk_below BK20.out hb)
              replace HC7 := am (Kd.C_below HC7.out hb)
              replace HC8 := am (Kd.C_below HC8.out hb)
              replace HC10 := am (Kd.C_below HC10.out hb)
              replace HC12 := am (Kd.C_below HC12.out hb)
              replace HS := am (BwX.below HS.out hb)
              replace HK2 := am (BwX.below HK2.out hb)
              replace HB := am (below_step HB.out hb)
              clear hb
              replace hS := hS.out
              have HPy := am hS
              clear hS h1
              by_cases hlt : y < cv.length
              ·have HLTy := am hlt
               have d_y : (y < cv.length) = True := eq_true hlt
               have c_y : decide ((y : Int) < (cv.length : Int)) = true := decide_eq_true (by omega)
               have hwy : wrap64 ((y : Int) + 1) = ((y + 1 : Nat) : Int) := wrap_succ y (by have := E27.out; omega)
               have HWy := am hwy
               clear hwy
               have p2 : 0 ≤ (y : Int) := by omega
               have q2 : (y : Int) < (cv.length : Int) := by omega
               clear hlt
               obtain ⟨ad2, e2, h2, h3⟩ := at_A2 HC12.out (y : Int) p2 q2
               cases e2
               simp only [Int.toNat_natCast] at h2 h3
               have P2 := eq_true p2
               have Q2 := eq_true q2
               clear p2 q2
               have hsm : insC cv (p : Int) (y + 1) = (insC cv (p : Int) y || (decide ((rd_A2 cv (y : Int)).1 ≤ (p : Int)) && decide ((p : Int) ≤ (rd_A2 cv (y : Int)).2))) := rfl
               have HSM := am hsm
               clear hsm
               cases hb1 : insC cv (p : Int) y
               ·rw [hb1, Bool.false_or] at HSM
                clear hb1
                cases hb2 : decide ((rd_A2 cv (y : Int)).1 ≤ (p : Int))
                ·rw [hb2] at HSM
                 simp only [Bool.false_and, Bool.true_and] at HSM
                 go_wp2
                 go_roundg (cv.length - (y + 1))
                 case measure => have h1_ := HLTy.out; have h2_ := HGy.out; omega
                 case rel => exact ⟨y + 1, (by first | (rw [HSM.out]; done) | (rw [HSM.out]; rfl)), (by first | rfl | go_num | (simp only [i64_w]; done) | (rw [HWy.out]) | (simp only [i64_w]; rw [HWy.out])), ⟨by have h1_ := HLTy.out; omega⟩, ⟨by omega⟩, ⟨HPy.out⟩⟩
                ·rw [hb2] at HSM
                 simp only [Bool.false_and, Bool.true_and] at HSM
                 go_wp2
                 go_roundg (cv.length - (y + 1))
                 case measure => have h1_ := HLTy.out; have h2_ := HGy.out; omega
                 case rel => exact ⟨y + 1, (by first | (rw [HSM.out]; done) | (rw [HSM.out]; rfl)), (by first | rfl | go_num | (simp only [i64_w]; done) | (rw [HWy.out]) | (simp only [i64_w]; rw [HWy.out])), ⟨by have h1_ := HLTy.out; omega⟩, ⟨by omega⟩, ⟨HPy.out⟩⟩
               ·rw [hb1, Bool.true_or] at HSM
                clear hb1
                go_wp2
                go_roundg (cv.length - (y + 1))
                case measure => have h1_ := HLTy.out; have h2_ := HGy.out; omega
                case rel => exact ⟨y + 1, (by first | (rw [HSM.out]; done) | (rw [HSM.out]; rfl)), (by first | rfl | go_num | (simp only [i64_w]; done) | (rw [HWy.out]) | (simp only [i64_w]; rw [HWy.out])), ⟨by have h1_ := HLTy.out; omega⟩, ⟨by omega⟩, ⟨HPy.out⟩⟩
              ·have c_y : decide ((y : Int) < (cv.length : Int)) = false := decide_eq_false (by omega)
               have d_y : (y < cv.length) = False := eq_false (by omega)
               have hye : y = cv.length := by have := HXy.out; omega
               subst hye
               clear hlt HXy HGy HPy
               have hz20_0 : wr.cell? ⟨g20, 0, none⟩ = some (.slice A7 g.length c7) := (blk_cell BK20.out 0).trans rfl
               go_wp2_with (go_at_fn 30; fail)
               refine (impl_NoticedBy.calls k _ _ g _ _ ws ar (p : Int) bys true _ HC7.out HL7.out HC8.out HL8.out EB.out).mono ?_
               rintro e w133 ⟨v18, rfl, ho18, hb⟩
               replace BK20 := am (blk_below BK20.out hb)
               replace HC7 := am (Kd.C_below HC7.out hb)
               replace HC8 := am (Kd.C_below HC8.out hb)
               replace HC10 := am (Kd.C_below HC10.out hb)
               replace HC12 := am (Kd.C_below HC12.out hb)
               replace HS := am (BwX.below HS.out hb)
               replace HK2 := am (BwX.below HK2.out hb)
               replace HB := am (below_step HB.out hb)
               clear hb
               obtain ⟨A18, c18, eo⟩ := Kd.R_slice ho18
               subst eo
               have HC18 := am (Kd.R_reads' ho18).2.2
               have HL18 := am (Kd.R_reads' ho18).2.1
               clear ho18 hz20_0
               obtain ⟨ad1, e1, h1⟩ := Kd.at_int HC10.out (p : Int) HP1.out HQ1.out
               cases e1
               simp only [Int.toNat_natCast] at h1
               have b_l : ((bys.length : Int) != rd cs (p : Int)) = false := by rw [EL.out]; simp
               have b_i : (insC cv (p : Int) cv.length != decide (0 < rd cs (p : Int))) = false := by rw [EI.out]; simp
               have b_i2 : (insC cv (p : Int) cv.length == decide (0 < rd cs (p : Int))) = true := by rw [EI.out]; simp
               go_wp2
               go_roundg (cs.length - (p + 1))
               case measure => have h1_ := HLTp.out; have h2_ := HGp.out; omega
               case rel => exact ⟨p + 1, (by first | rfl | (simp only [i64_w]; rfl)), (by first | rfl | go_num | (simp only [i64_w]; done) | (rw [HWp.out]) | (simp only [i64_w]; rw [HWp.out])), ⟨by have h1_ := HLTp.out; omega⟩, ⟨by omega⟩, ⟨below_step HPp.out HK2.out⟩⟩
           ·have c_p : decide ((p : Int) < (cs.length : Int)) = false := decide_eq_false (by omega)
            have d_p : (p < cs.length) = False := eq_false (by omega)
            have hpe : p = cs.length := by have := HXp.out; omega
            subst hpe
            have b_s : (sumW ws ar ws.length != sumC cs cs.length) = false := by rw [EQ.out]; simp
            go_wp2
            go_meet
            case rel => exact HS
   case rest =>
    have hb := hcut.out
    clear hcut
    replace BK20 := am (blk_below BK20.out hb)
    replace HC0 := am (Kd.C_below HC0.out hb)
    replace HC1 := am (Kd.C_below HC1.out hb)
    replace HC2 := am (Kd.C_below HC2.out hb)
    replace HC7 := am (Kd.C_below HC7.out hb)
    replace HC8 := am (Kd.C_below HC8.out hb)
    replace HC10 := am (Kd.C_below HC10.out hb)
    replace HC11 := am (Kd.C_below HC11.out hb)
    replace HC12 := am (Kd.C_below HC12.out hb)
    replace HC13 := am (Kd.C_below HC13.out hb)
    replace HC14 := am (Kd.C_below HC14.out hb)
    replace HC15 := am (Kd.C_below HC15.out hb)
    replace HC16 := am (Kd.C_below HC16.out hb)
    replace HC17 := am (Kd.C_below HC17.out hb)
    replace HTD := am (TabD.below HTD.out hb)
    replace HB := am (below_step HB.out hb)
    clear hb
    cases three
    ·go_wp2
     go_ret
     exact ⟨rfl, HB.out⟩
    obtain ⟨hG, hN, hD⟩ := E26.out rfl
    have EG := am hG
    have EN := am hN
    have ED := am hD
    clear hG hN hD E24 E25 E26 E10 E11 E12 E13 E14 E15 E16 E17 E18 E19 E20 E21 E22 HTD b_one b_are b_five E1 HC0 HC1 HC2 HC10 HC11 HC12 HC13 HC15 HC17
    go_wp2
    go_loopg [56, 57] gs.length (fun gg s56 s57 w' => ∃ x : Nat, s56 = .int .i64 (sumG gs x) ∧ s57 = .int .i64 (x : Int) ∧ Aside0 (x ≤ gs.length) ∧ Aside0 (gs.length - x ≤ gg) ∧ Aside0 (Below wc.heap.size wc w'))
    case atStart => exact ⟨0, rfl, rfl, ⟨Nat.zero_le _⟩, ⟨by omega⟩, ⟨Below.refl _ _⟩⟩
    case round =>
     as_aux_lemma =>
      obtain ⟨x, rfl, rfl, HXx, HGx, hS⟩ := hrel
      have hb := hS.out
      replace BK20 := am (blk_below BK20.out hb)
      replace HC7 := am (Kd.C_below HC7.out hb)
      replace HC8 := am (Kd.C_below HC8.out hb)
      replace HC14 := am (Kd.C_below HC14.out hb)
      replace HC16 := am (Kd.C_below HC16.out hb)
      replace HB := am (below_step HB.out hb)
      clear hb
      replace hS := hS.out
      have HPx := am hS
      clear hS
      by_cases hlt : x < gs.length
      ·have HLTx := am hlt
       have d_x : (x < gs.length) = True := eq_true hlt
       have c_x : decide ((x : Int) < (gs.length : Int)) = true := decide_eq_true (by omega)
       have hwx : wrap64 ((x : Int) + 1) = ((x + 1 : Nat) : Int) := wrap_succ x (by have := E27.out; omega)
       have HWx := am hwx
       clear hwx
       have p1 : 0 ≤ (x : Int) := by omega
       have q1 : (x : Int) < (gs.length : Int) := by omega
       clear hlt
       obtain ⟨ad1, Ag, cg, e1, h1, h2, h3⟩ := at_L10 HC14.out (x : Int) p1 q1
       cases e1
       simp only [Int.toNat_natCast] at h1
       have P1 := eq_true p1
       have Q1 := eq_true q1
       clear p1 q1 h2 h3
       go_wp2
       go_roundg (gs.length - (x + 1))
       case measure => have h1_ := HLTx.out; have h2_ := HGx.out; omega
       case rel => exact ⟨x + 1, (by first | rfl | (simp only [i64_w]; rfl)), (by first | rfl | go_num | (simp only [i64_w]; done) | (rw [HWx.out]) | (simp only [i64_w]; rw [HWx.out])), ⟨by have h1_ := HLTx.out; omega⟩, ⟨by omega⟩, ⟨HPx.out⟩⟩
      ·have c_x : decide ((x : Int) < (gs.length : Int)) = false := decide_eq_false (by omega)
       have d_x : (x < gs.length) = False := eq_false (by omega)
       have hxe : x = gs.length := by have := HXx.out; omega
       subst hxe
       clear hlt HXx HGx HPx
       have b_g : (sumG gs gs.length != (ws.length : Int)) = false := by rw [EG.out]; simp
       have c_n : decide ((ap.length : Int) < (gs.length : Int)) = false := decide_eq_false (by have := EN.out; omega)
       have c_n2 : (ap.length < gs.length) = False := eq_false (by have := EN.out; omega)
       go_wp2
       go_loopg [58] ap.length (fun gg s58 w' => ∃ x : Nat, s58 = .int .i64 (x : Int) ∧ Aside0 (x ≤ ap.length) ∧ Aside0 (ap.length - x ≤ gg) ∧ Aside0 (Below wr.heap.size wr w'))
       case atStart => exact ⟨0, rfl, ⟨Nat.zero_le _⟩, ⟨by omega⟩, ⟨Below.refl _ _⟩⟩
       case round =>
        as_aux_lemma =>
         obtain ⟨i, rfl, HXi, HGi, hS⟩ := hrel
         have hb := hS.out
         replace BK20 := am (blk_below BK20.out hb)
         replace HC7 := am (Kd.C_below HC7.out hb)
         replace HC8 := am (Kd.C_below HC8.out hb)
         replace HC14 := am (Kd.C_below HC14.out hb)
         replace HC16 := am (Kd.C_below HC16.out hb)
         replace HB := am (below_step HB.out hb)
         clear hb
         replace hS := hS.out
         have HPi := am hS
         clear hS
         by_cases hlt : i < ap.length
         ·have HLTi := am hlt
          have d_i : (i < ap.length) = True := eq_true hlt
          have c_i : decide ((i : Int) < (ap.length : Int)) = true := decide_eq_true (by omega)
          have hwi : wrap64 ((i : Int) + 1) = ((i + 1 : Nat) : Int) := wrap_succ i (by have := E27.out; omega)
          have HWi := am hwi
          clear hwi hlt
          have HK2 := am (Below.refl wr.heap.size wr)
          go_wp2
          go_loopg [59] i (fun gg s59 w' => ∃ x : Nat, s59 = .int .i64 (x : Int) ∧ Aside0 (x ≤ i) ∧ Aside0 (i - x ≤ gg) ∧ Aside0 (Below wr.heap.size wr w'))
          case atStart => exact ⟨0, rfl, ⟨Nat.zero_le _⟩, ⟨by omega⟩, ⟨Below.refl _ _⟩⟩
          case round =>
           as_aux_lemma =>
            obtain ⟨q, rfl, HXq, HGq, hS⟩ := hrel
            have hb := hS.out
            replace BK20 := am (blk_below BK20.out hb)
            replace HC7 := am (Kd.C_below HC7.out hb)
            replace HC8 := am (Kd.C_below HC8.out hb)
            replace HC14 := am (Kd.C_below HC14.out hb)
            replace HC16 := am (Kd.C_below HC16.out hb)
            replace HK2 := am (BwX.below HK2.out hb)
            replace HB := am (below_step HB.out hb)
            clear hb
            replace hS := hS.out
            have HPq := am hS
            clear hS
            by_cases hlt : q < i
            ·have HLTq := am hlt
             have c_q : decide ((q : Int) < (i : Int)) = true := decide_eq_true (by omega)
             have d_q : (q < i) = True := eq_true hlt
             have hwq : wrap64 ((q : Int) + 1) = ((q + 1 : Nat) : Int) := wrap_succ q (by have := E27.out; have := HLTi.out; omega)
             have HWq := am hwq
             clear hwq
             obtain ⟨⟨pi, qi⟩, ⟨pq, qq⟩, hE⟩ := ED.out i q HLTi.out hlt
             have EE := am hE
             clear hE
             obtain ⟨vi, hvi⟩ : ∃ v_ : Int, v_ = rd ap (i : Int) := ⟨_, rfl⟩
             obtain ⟨vq, hvq⟩ : ∃ v_ : Int, v_ = rd ap (q : Int) := ⟨_, rfl⟩
             rw [← hvi, ← hvq] at EE
             rw [← hvi] at pi qi
             rw [← hvq] at pq qq
             have p1 : 0 ≤ (i : Int) := by omega
             have q1 : (i : Int) < (ap.length : Int) := by have := HLTi.out; omega
             have p2 : 0 ≤ (q : Int) := by omega
             have q2 : (q : Int) < (ap.length : Int) := by have := HLTi.out; omega
             clear hlt
             obtain ⟨ad1, e1, h1⟩ := Kd.at_int HC16.out (i : Int) p1 q1
             cases e1
             obtain ⟨ad1_, e1, h2⟩ := Kd.at_int HC16.out (q : Int) p2 q2
             cases e1
             simp only [Int.toNat_natCast] at h1 h2
             rw [← hvi] at h1
             rw [← hvq] at h2
             obtain ⟨ad3, e3, f0, f1, f2, f3⟩ := at_T28 HC8.out vi pi qi
             cases e3
             obtain ⟨ad3_, e3, k0, k1, k2, k3⟩ := at_T28 HC8.out vq pq qq
             cases e3
             clear hvi hvq
             have P1 := eq_true p1
             have Q1 := eq_true q1
             have P2 := eq_true p2
             have Q2 := eq_true q2
             have P3 := eq_true pi
             have Q3 := eq_true qi
             have P4 := eq_true pq
             have Q4 := eq_true qq
             clear p1 q1 p2 q2 pi qi pq qq
             try go_wp2
             refine start_ (n := 21) (S := fun w' => w'.cell? ⟨g20, 0, none⟩ = some (.slice A7 g.length c7) ∧ w'.cell? (ad1.add i) = some (.int .i64 vi) ∧ w'.cell? (ad1.add q) = some (.int .i64 vq) ∧ w'.cell? (ad3.add (vi.toNat * 4)) = some (.int .i64 (rd_T28 ws vi).f0) ∧ w'.cell? ⟨(ad3.add (vi.toNat * 4)).block, (ad3.add (vi.toNat * 4)).off + 1, none⟩ = some (.int .i64 (rd_T28 ws vi).f1) ∧ w'.cell? ⟨(ad3.add (vi.toNat * 4)).block, (ad3.add (vi.toNat * 4)).off + 2, none⟩ = some (.int .i64 (rd_T28 ws vi).f2) ∧ w'.cell? ⟨(ad3.add (vi.toNat * 4)).block, (ad3.add (vi.toNat * 4)).off + 3, none⟩ = some (.int .i64 (rd_T28 ws vi).f3) ∧ w'.cell? (ad3.add (vq.toNat * 4)) = some (.int .i64 (rd_T28 ws vq).f0) ∧ w'.cell? ⟨(ad3.add (vq.toNat * 4)).block, (ad3.add (vq.toNat * 4)).off + 1, none⟩ = some (.int .i64 (rd_T28 ws vq).f1) ∧ w'.cell? ⟨(ad3.add (vq.toNat * 4)).block, (ad3.add (vq.toNat * 4)).off + 2, none⟩ = some (.int .i64 (rd_T28 ws vq).f2) ∧ w'.cell? ⟨(ad3.add (vq.toNat * 4)).block, (ad3.add (vq.toNat * 4)).off + 3, none⟩ = some (.int .i64 (rd_T28 ws vq).f3)) (ds := []) #[ff, ff, ff, ff, ff, ff, ff, ff, ff, ff, ff, ff, ff, ff, ff, ff, ff, ff, ff, ff, ff] (by kernel_rfl) rfl rfl ⟨(blk_cell BK20.out 0).trans rfl, h1, h2, f0, f1, f2, f3, k0, k1, k2, k3⟩ (fun hHeld => ?_); refine with_tabW laws_FnSharing.tab64 laws_FnSharing.bits64 (fun HT_ HW_ => ?_)
             have HDr := am (below_drew1 (Below.refl wr.heap.size wr))
             have HCd := am (Kd.C_drew HC7.out)
             clear h1 h2 f0 f1 f2 f3 k0 k1 k2 k3 HB BK20 HC7 HC8 HC14 HC16
             generalize wr.drew = wd at HDr HCd hHeld ⊢
             refine pT #[ff, tt, ff, ff, ff, ff, ff, ff, ff, ff, ff, ff, ff, ff, ff, ff, ff, ff, ff, ff, ff] 1 480 HT_ ?_
             refine pT #[ff, tt, tt, ff, ff, ff, ff, ff, ff, ff, ff, ff, ff, ff, ff, ff, ff, ff, ff, ff, ff] 2 481 HT_ ?_
             refine pT #[ff, tt, tt, tt, ff, ff, ff, ff, ff, ff, ff, ff, ff, ff, ff, ff, ff, ff, ff, ff, ff] 3 482 HT_ ?_
             refine pT #[ff, tt, tt, tt, tt, ff, ff, ff, ff, ff, ff, ff, ff, ff, ff, ff, ff, ff, ff, ff, ff] 4 483 HT_ ?_
             refine tT #[tt, tt, tt, tt, tt, ff, ff, ff, ff, ff, ff, ff, ff, ff, ff, ff, ff, ff, ff, ff, ff] 0 479 HT_ HW_ hHeld ?_
             refine tT #[tt, tt, tt, tt, tt, tt, ff, ff, ff, ff, ff, ff, ff, ff, ff, ff, ff, ff, ff, ff, ff] 5 484 HT_ HW_ hHeld ?_
             refine pT #[tt, tt, tt, tt, tt, tt, tt, ff, ff, ff, ff, ff, ff, ff, ff, ff, ff, ff, ff, ff, ff] 6 485 HT_ ?_
             refine tT #[tt, tt, tt, tt, tt, tt, tt, tt, ff, ff, ff, ff, ff, ff, ff, ff, ff, ff, ff, ff, ff] 7 486 HT_ HW_ hHeld ?_
             refine pT #[tt, tt, tt, tt, tt, tt, tt, tt, tt, ff, ff, ff, ff, ff, ff, ff, ff, ff, ff, ff, ff] 8 487 HT_ ?_
             refine pT #[tt, tt, tt, tt, tt, tt, tt, tt, tt, tt, ff, ff, ff, ff, ff, ff, ff, ff, ff, ff, ff] 9 488 HT_ ?_
             refine pT #[tt, tt, tt, tt, tt, tt, tt, tt, tt, tt, tt, ff, ff, ff, ff, ff, ff, ff, ff, ff, ff] 10 489 HT_ ?_
             refine pT #[tt, tt, tt, tt, tt, tt, tt, tt, tt, tt, tt, tt, ff, ff, ff, ff, ff, ff, ff, ff, ff] 11 490 HT_ ?_
             refine tT #[tt, tt, tt, tt, tt, tt, tt, tt, tt, tt, tt, tt, tt, ff, ff, ff, ff, ff, ff, ff, ff] 12 491 HT_ HW_ hHeld ?_
             refine pT #[tt, tt, tt, tt, tt, tt, tt, tt, tt, tt, tt, tt, tt, tt, ff, ff, ff, ff, ff, ff, ff] 13 492 HT_ ?_
             refine tT #[tt, tt, tt, tt, tt, tt, tt, tt, tt, tt, tt, tt, tt, tt, tt, ff, ff, ff, ff, ff, ff] 14 493 HT_ HW_ hHeld ?_
             refine one_ (i := 15) (N := some 494) #[tt, tt, tt, tt, tt, tt, tt, tt, tt, tt, tt, tt, tt, tt, tt, tt, ff, ff, ff, ff, ff] rfl rfl (by kernel_rfl) (by decide) (fun K hK => ?_)
             refine goes_ Tryd.func10 (by kernel_rfl) rfl #[.agg #[.slice A7 g.length c7], .agg #[.int .i64 (rd_T28 ws vi).f0, .int .i64 (rd_T28 ws vi).f1, .int .i64 (rd_T28 ws vi).f2, .int .i64 (rd_T28 ws vi).f3], .agg #[.int .i64 (rd_T28 ws vq).f0, .int .i64 (rd_T28 ws vq).f1, .int .i64 (rd_T28 ws vq).f2, .int .i64 (rd_T28 ws vq).f3]] (by rfl) rfl rfl (by (try simp only [List.map_toArray, List.map_cons, List.map_nil]); first | done | rfl) ?_
             with_reducible refine (impl_DoShare.calls k _ _ g (rd_T28 ws vi).f0 (rd_T28 ws vi).f1 (rd_T28 ws vi).f2 (rd_T28 ws vi).f3 (rd_T28 ws vq).f0 (rd_T28 ws vq).f1 (rd_T28 ws vq).f2 (rd_T28 ws vq).f3 false true _ HCd.out HL7.out EE.out).mono ?_
             rintro e wz ⟨rfl, hb⟩
             refine ⟨_, rfl, ?_⟩
             replace HDr := am (below_step HDr.out hb)
             obtain ⟨d0, d1, d2, d3, d4, d5, d6, d7, d8, d9, d10⟩ := hHeld
             refine hK.out _ _ ⟨pw_cell_below hb d0, pw_cell_below hb d1, pw_cell_below hb d2, pw_cell_below hb d3, pw_cell_below hb d4, pw_cell_below hb d5, pw_cell_below hb d6, pw_cell_below hb d7, pw_cell_below hb d8, pw_cell_below hb d9, pw_cell_below hb d10⟩ (fun hHeld => ?_)
             clear hb d0 d1 d2 d3 d4 d5 d6 d7 d8 d9 d10 hK K
             refine nP 494 ?_
             refine pT #[tt, tt, tt, tt, tt, tt, tt, tt, tt, tt, tt, tt, tt, tt, tt, tt, tt, ff, ff, ff, ff] 16 478 HT_ ?_
             refine pT #[tt, tt, tt, tt, tt, tt, tt, tt, tt, tt, tt, tt, tt, tt, tt, tt, tt, tt, ff, ff, ff] 17 495 HT_ ?_
             refine pT #[tt, tt, tt, tt, tt, tt, tt, tt, tt, tt, tt, tt, tt, tt, tt, tt, tt, tt, tt, ff, ff] 18 496 HT_ ?_
             refine pT #[tt, tt, tt, tt, tt, tt, tt, tt, tt, tt, tt, tt, tt, tt, tt, tt, tt, tt, tt, tt, ff] 19 60 HT_ ?_
             refine pT #[tt, tt, tt, tt, tt, tt, tt, tt, tt, tt, tt, tt, tt, tt, tt, tt, tt, tt, tt, tt, tt] 20 61 HT_ ?_
             refine done_ (done_of HT_.out (by kernel_rfl)) ?_
             try go_wp2
             go_roundg (i - (q + 1))
             case measure => have h1_ := HLTq.out; have h2_ := HGq.out; omega
             case rel => exact ⟨q + 1, (by first | rfl | go_num | (simp only [i64_w]; done) | (rw [HWq.out]) | (simp only [i64_w]; rw [HWq.out])), ⟨by have h1_ := HLTq.out; omega⟩, ⟨by omega⟩, ⟨below_step HPq.out HDr.out⟩⟩
            ·have c_q : decide ((q : Int) < (i : Int)) = false := decide_eq_false (by omega)
             have d_q : (q < i) = False := eq_false (by omega)
             go_wp2
             go_roundg (ap.length - (i + 1))
             case measure => have h1_ := HLTi.out; have h2_ := HGi.out; omega
             case rel => exact ⟨i + 1, (by first | rfl | go_num | (simp only [i64_w]; done) | (rw [HWi.out]) | (simp only [i64_w]; rw [HWi.out])), ⟨by have h1_ := HLTi.out; omega⟩, ⟨by omega⟩, ⟨below_step HPi.out HK2.out⟩⟩
         ·have c_i : decide ((i : Int) < (ap.length : Int)) = false := decide_eq_false (by omega)
          have d_i : (i < ap.length) = False := eq_false (by omega)
          go_wp2
          go_ret
          exact ⟨rfl, HB.out⟩
set_option maxHeartbeats 4000000 in
set_option maxRecDepth 100000 in
theorem laws_FnSharing.big (A0 : Option Addr) (c0 : Nat) (l0 : List Int) (w : World) (hr0 : Kd.C (Kd.int .u8) w A0 l0.length l0) (hc0 : l0.length ≤ c0) (hE1 : laws_vBig.f l0 = some true) :
    Calls Tryd.prog 3 #[.slice A0 l0.length c0] w fun e w' => e = .returned (.bool true) ∧ Below w.heap.size w w' := by
 have HC0 := am hr0
 have HL0 := am hc0
 have E1 := am hE1
 clear hr0 hc0 hE1
 go_enter Tryd.func3, Tryd.ntmps3
 go_wp2_with (go_at_fn 6; fail)
 refine (laws_vBig.calls _ _ l0 true _ HC0.out HL0.out E1.out).mono ?_
 rintro e w' ⟨rfl, hd⟩
 have HB := am hd.below
 clear hd
 go_wp2
 go_ret
 exact ⟨rfl, HB.out⟩
end Go.Proofs.YthnchjgffocigaaDoor.P
end
section
namespace Go.Proofs.YthnchjgffocigaaDoor.P
open Go.RowKit Go.Proofs.YthnchjgffocigaaDoorW.PrintWords Go.Proofs.YthnchjgffocigaaDoorW.PrintLast Go.Proofs.YthnchjgffocigaaDoorW.PrintMore
def FnSharingTrue : Prop := ∀ (A0 : Option Addr) (c0 : Nat) (l0 : List Int) (w : World), Kd.C (Kd.int .u8) w A0 l0.length l0 → l0.length ≤ c0 → (fun l => l.length ≤ 9223372036854775807 ∧ ∀ x ∈ l, (fun x => (Lit.int .u8 x).wf = true) x) l0 → Aside0 (TabD w) → Calls Tryd.prog 3 #[.slice A0 l0.length c0] w fun e w' => e = .returned (.bool true) ∧ Below w.heap.size w w'
end Go.Proofs.YthnchjgffocigaaDoor.P
end
section
namespace Go.Proofs.YthnchjgffocigaaDoor.P
open Go.RowKit Go.Proofs.YthnchjgffocigaaDoorW.PrintWords Go.Proofs.YthnchjgffocigaaDoorW.PrintLast Go.Proofs.YthnchjgffocigaaDoorW.PrintMore
set_option linter.unusedVariables false
set_option linter.unusedSimpArgs false
theorem counts_spec (m : List (List Int)) (hm : Fit m) (l : List S28) (hw : ∀ x ∈ l, wf4 x) (hlen : l.length ≤ 1048576) (a : Int) : Ev (fun k => spec_NoticedCounts.f k m l a) (countsR m l a) := by
  obtain ⟨K, hK⟩ := l3Watched_ev m hm l hw hlen
  have hmax := hm.1
  unfold countsR
  cases h1 : watched m l with
  | false =>
    refine ⟨K, fun k hk => ?_⟩
    have e1 := hK k hk
    dsimp only at e1 ⊢
    rw [spec_NoticedCounts.f, e1, h1]; rfl
  | true =>
    cases h2 : inB a 0 ((m.length : Int) - 1) with
    | false =>
      refine ⟨K, fun k hk => ?_⟩
      have e1 := hK k hk
      dsimp only at e1 ⊢
      rw [spec_NoticedCounts.f, e1, h1, Option.bind_some, if_pos rfl, l1In_eq, wrap_in (x := (m.length : Int) - 1) (by omega) (by omega), h2]; rfl
    | true =>
      obtain ⟨h3, h4, h5⟩ := rowc_fit (onAll_each h1).1 h2
      obtain ⟨K2, hK2⟩ := counts_l0 m l a hlen h3 h4 h5 (rd_L1 m a).length 0 (by omega)
      refine ⟨K + K2, fun k hk => ?_⟩
      have e1 := hK k (by omega)
      have e2 := hK2 k (by omega)
      dsimp only at e1 e2 ⊢
      have e3 : spec_l3Counts.f k m l a = some (countsL m l a (rd_L1 m a).length) := e2
      rw [spec_NoticedCounts.f, e1, h1, Option.bind_some, if_pos rfl, l1In_eq, wrap_in (x := (m.length : Int) - 1) (by omega) (by omega), h2, Option.bind_some, if_pos rfl, e3]; rfl
def coverR (m : List (List Int)) (l : List S28) (a : Int) : List (Int × Int) × Bool :=
  if (countsR m l a).2 = true then (covN (countsR m l a).1 (countsR m l a).1.length, true) else ([], false)
theorem coverR_len (m : List (List Int)) (l : List S28) (a : Int) : (coverR m l a).1.length ≤ 64 := by
  unfold coverR
  split
  · have h1 := countsR_len m l a
    have h2 := covN_len (countsR m l a).1 (countsR m l a).1.length
    dsimp only
    omega
  · simp
theorem cover_impl (m : List (List Int)) (hm : Fit m) (l : List S28) (hlen : l.length ≤ 1048576) (a : Int) : Ev (fun k => impl_PartCover.f k m l a) (coverR m l a) := by
  obtain ⟨K, hK⟩ := counts_impl m hm l hlen a
  refine ⟨K, fun k hk => ?_⟩
  have e1 := hK k hk
  have h1 := countsR_len m l a
  dsimp only at e1 ⊢
  rw [impl_PartCover.f, e1, Option.bind_some]
  unfold coverR
  by_cases h : (countsR m l a).2 = true
  · rw [if_pos h, if_pos (by omega), if_pos h]
  · rw [if_neg h, if_neg h]
theorem cover_spec (m : List (List Int)) (hm : Fit m) (l : List S28) (hw : ∀ x ∈ l, wf4 x) (hlen : l.length ≤ 1048576) (a : Int) : Ev (fun k => spec_PartCover.f k m l a) (coverR m l a) := by
  obtain ⟨K, hK⟩ := l3Watched_ev m hm l hw hlen
  have hmax := hm.1
  unfold coverR countsR
  cases h1 : watched m l with
  | false =>
    refine ⟨K, fun k hk => ?_⟩
    have e1 := hK k hk
    dsimp only at e1 ⊢
    rw [spec_PartCover.f, e1, h1]; rfl
  | true =>
    cases h2 : inB a 0 ((m.length : Int) - 1) with
    | false =>
      refine ⟨K, fun k hk => ?_⟩
      have e1 := hK k hk
      dsimp only at e1 ⊢
      rw [spec_PartCover.f, e1, h1, Option.bind_some, if_pos rfl, l1In_eq, wrap_in (x := (m.length : Int) - 1) (by omega) (by omega), h2]; rfl
    | true =>
      obtain ⟨h3, h4, h5⟩ := rowc_fit (onAll_each h1).1 h2
      obtain ⟨K2, hK2⟩ := counts_l0 m l a hlen h3 h4 h5 (rd_L1 m a).length 0 (by omega)
      refine ⟨K + K2, fun k hk => ?_⟩
      have e1 := hK k (by omega)
      have e2 := hK2 k (by omega)
      dsimp only at e1 e2 ⊢
      have e3 : spec_l3Counts.f k m l a = some (countsL m l a (rd_L1 m a).length) := e2
      rw [spec_PartCover.f, e1, h1, Option.bind_some, if_pos rfl, l1In_eq, wrap_in (x := (m.length : Int) - 1) (by omega) (by omega), h2, Option.bind_some, if_pos rfl, e3, Option.bind_some, if_pos (by rw [countsL_len]; omega)]; rfl
def noticedByR (m : List (List Int)) (l : List S28) (a p : Int) : List Int × Bool :=
  if watched m l = true then (if inB a 0 ((m.length : Int) - 1) = true then (if inB p 0 (((rd_L1 m a).length : Int) - 1) = true then (numsF (fun _ x => seesB x a p) l 0, true) else ([], false)) else ([], false)) else ([], false)
theorem row_fit {m : List (List Int)} (hm : Fit m) {a : Int} (h : inB a 0 ((m.length : Int) - 1) = true) : 0 ≤ a ∧ a < (m.length : Int) ∧ (rd_L1 m a).length ≤ 9223372036854775807 := by
  unfold inB at h
  have h' := of_decide_eq_true h
  have hlt : a.toNat < m.length := by omega
  exact ⟨by omega, by omega, hm.2 _ (getD_mem m [] a.toNat hlt)⟩
theorem noticedBy_impl (m : List (List Int)) (hm : Fit m) (l : List S28) (hlen : l.length ≤ 1048576) : ∃ K, ∀ k, K ≤ k → ∀ a p, impl_NoticedBy.f k m l a p = some (noticedByR m l a p) := by
  obtain ⟨K, hK⟩ := areWatched_ev m hm l
  have hmax := hm.1
  refine ⟨K, fun k hk a p => ?_⟩
  have e1 := hK k hk
  dsimp only at e1 ⊢
  rw [impl_NoticedBy.f, e1, Option.bind_some]
  unfold noticedByR
  cases h1 : watched m l with
  | false => rfl
  | true =>
    rw [if_pos rfl, if_pos rfl, hasArr m hm.1, Option.bind_some]
    cases h2 : inB a 0 ((m.length : Int) - 1) with
    | false => rfl
    | true =>
      obtain ⟨h3, h4, h5⟩ := row_fit hm h2
      rw [if_pos rfl, if_pos h3, if_pos h4, if_pos rfl, within_eq, wrap_in (x := ((rd_L1 m a).length : Int) - 1) (by omega) (by omega), Option.bind_some, if_pos hlen]
      cases inB p 0 (((rd_L1 m a).length : Int) - 1) <;> rfl
def groupsR (m : List (List Int)) (l : List S28) : List (List Int) × Bool := if watched m l = true then (sgr l.length (shW l) l.length, true) else ([], false)
theorem groups_ok {m : List (List Int)} {l : List S28} (h : watched m l = true) : grpOk l = true := by
  obtain ⟨h1, h2, h3⟩ := onAll_each h
  unfold grpOk
  simp only [Bool.and_eq_true, decide_eq_true_eq, List.all_eq_true]
  refine ⟨h3, fun x hx => smB_iff.2 ?_⟩
  have := win_lt h1 (h2 x hx)
  unfold Sm
  omega
theorem groups_impl (m : List (List Int)) (hm : Fit m) (l : List S28) : Ev (fun k => impl_ShareGroups.f k m l) (groupsR m l) := by
  obtain ⟨K, hK⟩ := areWatched_ev m hm l
  refine ⟨K, fun k hk => ?_⟩
  have e1 := hK k hk
  dsimp only at e1 ⊢
  rw [impl_ShareGroups.f, e1, Option.bind_some]
  unfold groupsR
  by_cases h : watched m l = true
  · rw [if_pos h, if_pos (groups_ok h), if_pos h]
  · rw [if_neg h, if_neg h]
theorem groups_spec (m : List (List Int)) (hm : Fit m) (l : List S28) (hw : ∀ x ∈ l, wf4 x) (hlen : l.length ≤ 1048576) : Ev (fun k => spec_ShareGroups.f k m l) (groupsR m l) := by
  obtain ⟨K, hK⟩ := l3Watched_ev m hm l hw hlen
  refine ⟨K, fun k hk => ?_⟩
  have e1 := hK k hk
  dsimp only at e1 ⊢
  rw [spec_ShareGroups.f, e1, Option.bind_some]
  unfold groupsR
  by_cases h : watched m l = true
  · rw [if_pos h, if_pos (groups_ok h), if_pos h]
  · rw [if_neg h, if_neg h]
def bestR (m : List (List Int)) (l : List S28) : List Int × Bool := if watched m l = true then (iz (bst (shW l) l.length 0 [] []), true) else ([], false)
theorem best_s (m : List (List Int)) (hm : Fit m) (l : List S28) (hw : ∀ x ∈ l, wf4 x) (hlen : l.length ≤ 1048576) : Ev (fun k => spec_MostApart.f k m l) (bestR m l) := by
  obtain ⟨K, hK⟩ := l3Watched_ev m hm l hw hlen
  unfold bestR
  by_cases h : watched m l = true
  · obtain ⟨K2, h2⟩ := best_spec (watched_ok h)
    refine ⟨K + K2, fun k hk => ?_⟩
    have e1 := hK k (by omega)
    have e2 := h2 k (by omega)
    dsimp only at e1 e2 ⊢
    rw [spec_MostApart.f, e1, Option.bind_some, if_pos h, if_pos h, e2, Option.bind_some]
  · refine ⟨K, fun k hk => ?_⟩
    have e1 := hK k hk
    dsimp only at e1 ⊢
    rw [spec_MostApart.f, e1, Option.bind_some, if_neg h, if_neg h]
theorem best_i (m : List (List Int)) (hm : Fit m) (l : List S28) : Ev (fun k => impl_MostApart.f k m l) (bestR m l) := by
  obtain ⟨K, hK⟩ := areWatched_ev m hm l
  unfold bestR
  by_cases h : watched m l = true
  · obtain ⟨K2, h2⟩ := best_impl (watched_ok h)
    refine ⟨K + K2, fun k hk => ?_⟩
    have e1 := hK k (by omega)
    have e2 := h2 k (by omega)
    dsimp only at e1 e2 ⊢
    rw [impl_MostApart.f, e1, Option.bind_some, if_pos h, if_pos h]
    exact e2
  · refine ⟨K, fun k hk => ?_⟩
    have e1 := hK k hk
    dsimp only at e1 ⊢
    rw [impl_MostApart.f, e1, Option.bind_some, if_neg h, if_neg h]
def areWatchedR (m : List (List Int)) (l : List S28) : Bool × Bool := if memOk m = true then (watched m l, true) else (false, false)
theorem areWatched_spec (m : List (List Int)) (hm : Fit m) (l : List S28) (hw : ∀ x ∈ l, wf4 x) (hlen : l.length ≤ 1048576) : Ev (fun k => spec_AreWatched.f k m l) (areWatchedR m l) := by
  obtain ⟨K, hK⟩ := l2Mem m hm.1
  obtain ⟨K2, h2⟩ := l3Watched_ev m hm l hw hlen
  refine ⟨K + K2, fun k hk => ?_⟩
  have e1 := hK k (by omega)
  have e2 := h2 k (by omega)
  dsimp only at e1 e2 ⊢
  unfold spec_AreWatched.f areWatchedR
  rw [e1, Option.bind_some, e2, Option.bind_some]
  cases memOk m <;> rfl
theorem areWatched_impl (m : List (List Int)) (hm : Fit m) (l : List S28) : Ev (fun k => impl_AreWatched.f k m l) (areWatchedR m l) := by
  obtain ⟨K, hK⟩ := isMem m hm.1
  obtain ⟨K2, h2⟩ := areWatched_ev m hm l
  refine ⟨K + K2, fun k hk => ?_⟩
  have e1 := hK k (by omega)
  have e2 := h2 k (by omega)
  dsimp only at e1 e2 ⊢
  unfold impl_AreWatched.f areWatchedR
  rw [e1, Option.bind_some, e2, Option.bind_some]
  cases memOk m <;> rfl
theorem areApart_impl (m : List (List Int)) (hm : Fit m) (a s l c b t u d : Int) : Ev (fun k => impl_AreApart.f k m a s l c b t u d) (if both m a s l c b t u d = true then (decide (ov a s l b t u = 0), true) else (false, false)) := by
  obtain ⟨K, hK⟩ := areOn2_ev m hm a s l c b t u d
  refine ⟨K, fun k hk => ?_⟩
  have e1 := hK k hk
  dsimp only at e1 ⊢
  simp only [impl_AreApart.f, e1, Option.bind_some]
  by_cases h : both m a s l c b t u d = true
  · obtain ⟨h1, h2, _, _⟩ := both_sm h
    rw [if_pos h, if_pos h, shared_eq a s l c b t u d h1 h2]
    simp only [Option.bind_some, Option.some.injEq, Prod.mk.injEq, and_true]
    have := ov_nonneg a s l b t u
    by_cases h0 : ov a s l b t u = 0
    · simp [h0]
    · rw [decide_eq_true (by omega), decide_eq_false h0]; rfl
  · rw [if_neg h, if_neg h]
theorem vInts_l0 (l : List Int) (hmax : l.length ≤ 9223372036854775807) (d : Nat) : ∀ i : Nat, i + d = l.length → Ev (fun k => laws_vInts.l0 k l l (i : Int)) true := by
  induction d with
  | zero => intro i hi; exact Ev.end_ (fun k => by simp only [laws_vInts.l0]; rw [if_neg (by omega)])
  | succ d ih =>
    intro i hi
    refine Ev.step (fun k => ?_) (ih (i + 1) (by omega))
    simp only [laws_vInts.l0]
    rw [if_pos (by omega), if_pos (by omega), if_pos (by omega), if_pos trivial, wrap_succ i (by omega)]
theorem vInts_ok (l : List Int) (hmax : l.length ≤ 9223372036854775807) : Ev (fun k => laws_vInts.f k l l) true := by
  obtain ⟨K, hK⟩ := vInts_l0 l hmax l.length 0 (by omega)
  exact ⟨K, fun k hk => by dsimp only; unfold laws_vInts.f; rw [if_pos rfl]; exact hK k hk⟩
theorem vTable_l0 (l : List (List Int)) (hl : l.length ≤ 9223372036854775807) (hmax : ∀ r ∈ l, r.length ≤ 9223372036854775807) (d : Nat) : ∀ i : Nat, i + d = l.length → Ev (fun k => laws_vTable.l0 k l l (i : Int)) true := by
  induction d with
  | zero => intro i hi; exact Ev.end_ (fun k => by simp only [laws_vTable.l0]; rw [if_neg (by omega)])
  | succ d ih =>
    intro i hi
    obtain ⟨K1, h1⟩ := ih (i + 1) (by omega)
    obtain ⟨K2, h2⟩ := vInts_ok (rd_L10 l (i : Int)) (hmax _ (by unfold rd_L10; rw [Int.toNat_natCast]; exact getD_mem l _ i (by omega)))
    refine ⟨K1 + K2 + 1, fun k hk => ?_⟩
    obtain ⟨k, rfl⟩ : ∃ j, k = j + 1 := ⟨k - 1, by omega⟩
    have e1 := h1 k (by omega)
    have e2 := h2 k (by omega)
    dsimp only at e1 e2 ⊢
    simp only [laws_vTable.l0]
    rw [if_pos (by omega), if_pos (by omega), if_pos (by omega), e2, Option.bind_some, if_pos rfl, wrap_succ i (by omega)]
    exact e1
theorem vTable_ok (l : List (List Int)) (hl : l.length ≤ 9223372036854775807) (hmax : ∀ r ∈ l, r.length ≤ 9223372036854775807) : Ev (fun k => laws_vTable.f k l l) true := by
  obtain ⟨K, hK⟩ := vTable_l0 l hl hmax l.length 0 (by omega)
  exact ⟨K, fun k hk => by dsimp only; unfold laws_vTable.f; rw [if_pos rfl]; exact hK k hk⟩
theorem Ev_all {α : Type} {F : Nat → Nat → Option α} {r : Nat → α} : ∀ n : Nat, (∀ i, i < n → Ev (F i) (r i)) → ∃ K, ∀ k, K ≤ k → ∀ i, i < n → F i k = some (r i)
  | 0, _ => ⟨0, fun k _ i hi => by omega⟩
  | n + 1, h => by
    obtain ⟨K1, h1⟩ := Ev_all n fun i hi => h i (by omega)
    obtain ⟨K2, h2⟩ := h n (by omega)
    refine ⟨K1 + K2, fun k hk i hi => ?_⟩
    by_cases e : i = n
    · subst e; exact h2 k (by omega)
    · exact h1 k (by omega) i (by omega)
theorem sumC_eq (cs : List Int) (h : ∀ p, 0 ≤ rd cs p ∧ rd cs p ≤ 1000) : ∀ n : Nat, n ≤ 1000 → sumC cs n = sumTo (fun p => rd cs (p : Int)) n ∧ 0 ≤ sumC cs n ∧ sumC cs n ≤ 1000 * (n : Int)
  | 0, _ => ⟨rfl, by simp [sumC], by simp [sumC]⟩
  | n + 1, hn => by
    obtain ⟨h1, h2, h3⟩ := sumC_eq cs h n (by omega)
    have h4 := h (n : Int)
    rw [sumC, wrap_in (x := sumC cs n + rd cs (n : Int)) (by omega) (by omega), sumTo, ← h1]
    exact ⟨rfl, by omega, by omega⟩
theorem lenIn_app (a : Int) : ∀ (l : List S28) (x : S28), lenIn (l ++ [x]) a = lenIn l a + (if x.f0 = a then x.f2 else 0)
  | [], x => by simp [lenIn]
  | y :: l, x => by rw [List.cons_append, lenIn, lenIn, lenIn_app a l x]; omega
theorem sumW_eq (ws : List S28) (ar : Int) (h : ∀ x ∈ ws, 0 ≤ x.f2 ∧ x.f2 ≤ 64) : ∀ n : Nat, n ≤ ws.length → n ≤ 1000 → sumW ws ar n = lenIn (ws.take n) ar ∧ 0 ≤ sumW ws ar n ∧ sumW ws ar n ≤ 64 * (n : Int)
  | 0, _, _ => ⟨by simp [sumW, lenIn], by simp [sumW], by simp [sumW]⟩
  | n + 1, hn, hm => by
    obtain ⟨h1, h2, h3⟩ := sumW_eq ws ar h n (by omega) (by omega)
    have hlt : n < ws.length := by omega
    have e : rd_T28 ws (n : Int) = ws[n] := by
      unfold rd_T28
      rw [Int.toNat_natCast, List.getD_eq_getElem?_getD, List.getElem?_eq_getElem hlt]; rfl
    have h4 := h ws[n] (List.getElem_mem hlt)
    rw [sumW, List.take_succ_eq_append_getElem hlt, lenIn_app, ← h1, e]
    by_cases q : ws[n].f0 = ar
    · rw [if_pos q, if_pos q, wrap_in (by omega) (by omega)]
      exact ⟨rfl, by omega, by omega⟩
    · rw [if_neg q, if_neg q]
      exact ⟨by omega, by omega, by omega⟩
theorem insC_iff (cv : List (Int × Int)) (p : Int) : ∀ n : Nat, insC cv p n = true ↔ ∃ j, j < n ∧ (cv.getD j (0, 0)).1 ≤ p ∧ p ≤ (cv.getD j (0, 0)).2
  | 0 => by simp [insC]
  | n + 1 => by
    rw [insC, Bool.or_eq_true, Bool.and_eq_true, decide_eq_true_eq, decide_eq_true_eq, insC_iff cv p n]
    have e : rd_A2 cv (n : Int) = cv.getD n (0, 0) := by unfold rd_A2; rw [Int.toNat_natCast]
    rw [e]
    constructor
    · rintro (⟨j, h1, h2⟩ | h)
      · exact ⟨j, by omega, h2⟩
      · exact ⟨n, by omega, h⟩
    · rintro ⟨j, h1, h2⟩
      by_cases q : j = n
      · subst q; exact .inr h2
      · exact .inl ⟨j, by omega, h2⟩
theorem sumG_eq (gs : List (List Int)) (h : gs.flatten.length ≤ 1000) : ∀ n : Nat, n ≤ gs.length → sumG gs n = ((gs.take n).flatten.length : Int)
  | 0, _ => by simp [sumG]
  | n + 1, hn => by
    have h1 := sumG_eq gs h n (by omega)
    have hlt : n < gs.length := by omega
    have e : rd_L10 gs (n : Int) = gs[n] := by
      unfold rd_L10
      rw [Int.toNat_natCast, List.getD_eq_getElem?_getD, List.getElem?_eq_getElem hlt]; rfl
    have h2 : (gs.take (n + 1)).flatten.length ≤ gs.flatten.length := by
      have : gs.flatten = (gs.take (n + 1)).flatten ++ (gs.drop (n + 1)).flatten := by rw [← List.flatten_append, List.take_append_drop]
      rw [this, List.length_append]; omega
    rw [List.take_succ_eq_append_getElem hlt, List.flatten_append, List.length_append] at h2 ⊢
    simp only [List.flatten_cons, List.flatten_nil, List.append_nil] at h2 ⊢
    rw [sumG, h1, e, wrap_in (by omega) (by omega)]
    omega
theorem rd_countsL (m : List (List Int)) (l : List S28) (a : Int) (n p : Nat) (h : p < n) : rd (countsL m l a n) (p : Int) = ((numsF (fun _ x => seesB x a (p : Int)) l 0).length : Int) := by
  unfold rd countsL
  rw [Int.toNat_natCast, List.getD_eq_getElem?_getD, List.getElem?_map, List.getElem?_range h]
  rfl
section
variable (g : List (List Int)) (hg : Fit g) (ws : List S28) (ar : Int)
theorem sh_counts (hl : ws.length ≤ 1000) (h : (countsR g ws ar).2 = true) :
    sumW ws ar ws.length = sumC (countsR g ws ar).1 (countsR g ws ar).1.length ∧ ∀ p : Nat, p < (countsR g ws ar).1.length → insC (coverR g ws ar).1 (p : Int) (coverR g ws ar).1.length = decide (0 < rd (countsR g ws ar).1 (p : Int)) ∧ (noticedByR g ws ar (p : Int)).2 = true ∧ ((noticedByR g ws ar (p : Int)).1.length : Int) = rd (countsR g ws ar).1 (p : Int) := by
  have h0 := h
  unfold countsR at h0
  split at h0
  · rename_i hw
    split at h0
    · rename_i hi
      obtain ⟨k1, k2, k3⟩ := onAll_each hw
      obtain ⟨r1, r2, r3⟩ := rowc_fit k1 hi
      have e : countsR g ws ar = (countsL g ws ar (rd_L1 g ar).length, true) := by unfold countsR; rw [if_pos hw, if_pos hi]
      have ec : coverR g ws ar = (covN (countsL g ws ar (rd_L1 g ar).length) (rd_L1 g ar).length, true) := by
        unfold coverR
        rw [e, if_pos rfl]
        dsimp only
        rw [countsL_len]
      rw [e, ec]
      dsimp only
      rw [countsL_len]
      have hrd : ∀ p : Int, 0 ≤ rd (countsL g ws ar (rd_L1 g ar).length) p ∧ rd (countsL g ws ar (rd_L1 g ar).length) p ≤ 1000 := by
        intro p
        by_cases hp : p.toNat < (rd_L1 g ar).length
        · have e1 : rd (countsL g ws ar (rd_L1 g ar).length) p = rd (countsL g ws ar (rd_L1 g ar).length) ((p.toNat : Nat) : Int) := by unfold rd; rw [Int.toNat_natCast]
          rw [e1, rd_countsL g ws ar _ _ hp]
          have := numsF_len (fun _ x => seesB x ar ((p.toNat : Nat) : Int)) ws 0
          omega
        · unfold rd
          rw [List.getD_eq_getElem?_getD, List.getElem?_eq_none (by rw [countsL_len]; omega)]
          exact ⟨Int.le_refl _, by decide⟩
      have hin : ∀ x ∈ ws, 0 ≤ x.f1 ∧ 0 ≤ x.f2 ∧ x.f1 + x.f2 ≤ 1000000 ∧ (x.f0 = ar → x.f1 + x.f2 ≤ (((rd_L1 g ar).length : Nat) : Int)) := by
        intro x hx
        have q := k2 x hx
        have q2 := win_lt k1 q
        refine ⟨q2.1, q2.2.1, by omega, fun hxa => ?_⟩
        have q3 := win_sm k1 q
        rw [hxa] at q3
        have e3 : ((rd_L1 g ar).length : Int) = ((g.getD ar.toNat []).length : Int) := rfl
        omega
      have s1 := sum_seen ar (rd_L1 g ar).length ws hin
      have s2 := (sumC_eq (countsL g ws ar (rd_L1 g ar).length) hrd (rd_L1 g ar).length (by omega)).1
      have s3 := (sumW_eq ws ar (fun x hx => by have q2 := win_lt k1 (k2 x hx); omega) ws.length (Nat.le_refl _) (by omega)).1
      rw [List.take_length] at s3
      have s4 : ∀ n : Nat, n ≤ (rd_L1 g ar).length → sumTo (fun p => rd (countsL g ws ar (rd_L1 g ar).length) (p : Int)) n = sumTo (fun p => ((numsF (fun _ x => seesB x ar (p : Int)) ws 0).length : Int)) n := by
        intro n
        induction n with
        | zero => intro _; rfl
        | succ n ih => intro hn; rw [sumTo, sumTo, ih (by omega), rd_countsL g ws ar _ n (by omega)]
      refine ⟨by rw [s2, s3, s4 _ (Nat.le_refl _), s1], fun p hp => ?_⟩
      have c2 := (cov_ok (countsL g ws ar (rd_L1 g ar).length) (fun i => (hrd (i : Int)).1) (rd_L1 g ar).length).2.1 p hp
      have er : (countsL g ws ar (rd_L1 g ar).length).getD p 0 = rd (countsL g ws ar (rd_L1 g ar).length) (p : Int) := by unfold rd; rw [Int.toNat_natCast]
      rw [er] at c2
      have hp0 := hrd (p : Int)
      refine ⟨?_, ?_⟩
      · rw [Bool.eq_iff_iff, decide_eq_true_eq, insC_iff]
        exact ⟨fun q => by have := c2.1 q; omega, fun q => c2.2 (by omega)⟩
      · have hin2 : inB (p : Int) 0 (((rd_L1 g ar).length : Int) - 1) = true := by unfold inB; exact decide_eq_true (by omega)
        unfold noticedByR
        rw [if_pos hw, if_pos hi, if_pos hin2, rd_countsL g ws ar _ p hp]
        exact ⟨rfl, rfl⟩
    · cases h0
  · cases h0
theorem sh_groups (hg : Fit g) (h : watched g ws = true) :
    sumG (groupsR g ws).1 (groupsR g ws).1.length = (ws.length : Int) ∧ (groupsR g ws).1.length ≤ (bestR g ws).1.length ∧ ∀ i q : Nat, i < (bestR g ws).1.length → q < i →
      (0 ≤ rd (bestR g ws).1 (i : Int) ∧ rd (bestR g ws).1 (i : Int) < (ws.length : Int)) ∧ (0 ≤ rd (bestR g ws).1 (q : Int) ∧ rd (bestR g ws).1 (q : Int) < (ws.length : Int)) ∧
      doShareR g (rd_T28 ws (rd (bestR g ws).1 (i : Int))).f0 (rd_T28 ws (rd (bestR g ws).1 (i : Int))).f1 (rd_T28 ws (rd (bestR g ws).1 (i : Int))).f2 (rd_T28 ws (rd (bestR g ws).1 (i : Int))).f3 (rd_T28 ws (rd (bestR g ws).1 (q : Int))).f0 (rd_T28 ws (rd (bestR g ws).1 (q : Int))).f1 (rd_T28 ws (rd (bestR g ws).1 (q : Int))).f2 (rd_T28 ws (rd (bestR g ws).1 (q : Int))).f3 = (false, true) := by
  obtain ⟨k1, k2, k3⟩ := onAll_each h
  have hok := watched_ok h
  have hsym : ∀ a b, a < ws.length → b < ws.length → shW ws a b = shW ws b a := fun a b _ _ => shW_comm ws a b
  have e1 : groupsR g ws = (sgr ws.length (shW ws) ws.length, true) := by unfold groupsR; rw [if_pos h]
  have e2 : bestR g ws = (iz (bst (shW ws) ws.length 0 [] []), true) := by unfold bestR; rw [if_pos h]
  rw [e1, e2]
  dsimp only
  have t1 := grp_total hsym
  have t2 := grp_apart hsym
  obtain ⟨⟨v1, v2, v3⟩, -⟩ := bst_ok (n := ws.length) (sh := shW ws) ws.length 0 [] [] (by omega) (Va_nil _ _) (fun a h => by cases h) (Va_nil _ _) (.inl rfl)
  rw [iz_len]
  refine ⟨?_, t2, fun i q hi hq => ?_⟩
  · rw [sumG_eq _ (by rw [t1]; omega) _ (Nat.le_refl _), List.take_length, t1]
  · obtain ⟨s, hs⟩ : ∃ s, s = bst (shW ws) ws.length 0 [] [] := ⟨_, rfl⟩
    rw [← hs] at v1 v2 v3 hi ⊢
    have hi2 : q < s.length := by omega
    have a1 : rd (iz s) (i : Int) = ((s[i] : Nat) : Int) := iz_at (List.getElem?_eq_getElem hi)
    have a2 : rd (iz s) (q : Int) = ((s[q] : Nat) : Int) := iz_at (List.getElem?_eq_getElem hi2)
    rw [a1, a2]
    have b1 := v2 s[i] (List.getElem_mem hi)
    have b2 := v2 s[q] (List.getElem_mem hi2)
    refine ⟨by omega, by omega, ?_⟩
    have hap : shW ws s[i] s[q] = false := List.pairwise_iff_getElem.1 v3 q i hi2 hi hq
    have m1 : rd_T28 ws ((s[i] : Nat) : Int) ∈ ws := by unfold rd_T28; rw [Int.toNat_natCast]; exact getD_mem ws _ _ b1
    have m2 : rd_T28 ws ((s[q] : Nat) : Int) ∈ ws := by unfold rd_T28; rw [Int.toNat_natCast]; exact getD_mem ws _ _ b2
    unfold doShareR
    have hb : both g (rd_T28 ws ((s[i] : Nat) : Int)).f0 (rd_T28 ws ((s[i] : Nat) : Int)).f1 (rd_T28 ws ((s[i] : Nat) : Int)).f2 (rd_T28 ws ((s[i] : Nat) : Int)).f3 (rd_T28 ws ((s[q] : Nat) : Int)).f0 (rd_T28 ws ((s[q] : Nat) : Int)).f1 (rd_T28 ws ((s[q] : Nat) : Int)).f2 (rd_T28 ws ((s[q] : Nat) : Int)).f3 = true := by
      unfold both
      rw [k1, k2 _ m1, k2 _ m2]; rfl
    rw [if_pos hb]
    unfold shW at hap
    rw [hap]
end
theorem Ev_all2 {α : Type} {F : Nat → Nat → Nat → Option α} {r : Nat → Nat → α} (b : Nat) : ∀ n : Nat, (∀ i, i < n → ∀ q, q < b → Ev (F i q) (r i q)) → ∃ K, ∀ k, K ≤ k → ∀ i, i < n → ∀ q, q < b → F i q k = some (r i q)
  | 0, _ => ⟨0, fun k _ i hi => by omega⟩
  | n + 1, h => by
    obtain ⟨K1, h1⟩ := Ev_all2 b n fun i hi => h i (by omega)
    obtain ⟨K2, h2⟩ := Ev_all (F := F n) (r := r n) b (h n (by omega))
    refine ⟨K1 + K2, fun k hk i hi => ?_⟩
    by_cases e : i = n
    · subst e; exact h2 k (by omega)
    · exact h1 k (by omega) i (by omega)
theorem mem_flat_len : ∀ (L : List (List Int)) (r : List Int), r ∈ L → r.length ≤ L.flatten.length
  | [], r, h => by cases h
  | x :: L, r, h => by
    rw [List.flatten_cons, List.length_append]
    rcases List.mem_cons.1 h with rfl | h
    · omega
    · have := mem_flat_len L r h; omega
theorem both_comm (m : List (List Int)) (a s l c b t u d : Int) : both m b t u d a s l c = both m a s l c b t u d := by
  unfold both
  cases memOk m <;> cases winOn m a s l c <;> cases winOn m b t u d <;> rfl
theorem sh_pair (m : List (List Int)) (a s l c b t u d : Int) (h : (commonR m a s l c b t u d).2.2 = true) :
    both m a s l c b t u d = true ∧ (commonR m b t u d a s l c).1 = (commonR m a s l c b t u d).1 ∧ (commonR m b t u d a s l c).2.2 = true ∧ (doShareR m a s l c b t u d).1 = decide (0 < ov a s l b t u) ∧
    ((doShareR m a s l c b t u d).1 = true → 0 < (commonR m a s l c b t u d).1 ∧ 0 ≤ (commonR m a s l c b t u d).2.1 ∧ (areNearR m a s l c b t u d).1 = true) ∧ ((doShareR m a s l c b t u d).1 = false → (commonR m a s l c b t u d).1 = 0 ∧ (commonR m a s l c b t u d).2.1 < 0) := by
  have hb : both m a s l c b t u d = true := by
    unfold commonR at h
    split at h
    · assumption
    · cases h
  have hb2 : both m b t u d a s l c = true := (both_comm m a s l c b t u d).trans hb
  have h0 := ov_nonneg a s l b t u
  unfold commonR doShareR areNearR
  rw [if_pos hb, if_pos hb2, if_pos hb, if_pos hb]
  dsimp only
  refine ⟨hb, ov_comm _ _ _ _ _ _, rfl, rfl, fun q => ?_, fun q => ?_⟩
  · have q' := of_decide_eq_true q
    unfold both at hb
    rw [Bool.and_eq_true, Bool.and_eq_true] at hb
    have w1 := winOn_iff.1 hb.2.1
    have w2 := winOn_iff.1 hb.2.2
    rw [if_pos q']
    have x := mx_bd s t
    refine ⟨q', by omega, decide_eq_true ?_⟩
    unfold ov mx mn at q' ⊢
    revert q'
    repeat' split
    all_goals omega
  · have q' := of_decide_eq_false q
    rw [if_neg q']
    exact ⟨by omega, by omega⟩
theorem share_two (m : List (List Int)) (a s l c b t u d : Int) : (doShareR m a s l c b t u d).2 = (commonR m a s l c b t u d).2.2 ∧ (areNearR m a s l c b t u d).2 = (commonR m a s l c b t u d).2.2 := by
  unfold commonR doShareR areNearR
  repeat' split
  all_goals exact ⟨rfl, rfl⟩
theorem apart_not (a s l b t u : Int) : decide (ov a s l b t u = 0) = !decide (0 < ov a s l b t u) := by
  have h0 := ov_nonneg a s l b t u
  by_cases h : ov a s l b t u = 0
  · rw [decide_eq_true h, decide_eq_false (by omega)]; rfl
  · rw [decide_eq_false h, decide_eq_true (by omega)]; rfl
theorem groups_small (g : List (List Int)) (ws : List S28) : (groupsR g ws).1.length ≤ 12 ∧ ∀ r ∈ (groupsR g ws).1, r.length ≤ 1000 := by
  unfold groupsR
  split
  · rename_i h
    have h1 := (onAll_each h).2.2
    obtain ⟨h2, h3⟩ := sgr_len ws.length (shW ws) ws.length (Nat.le_refl _)
    have h4 : ws.length * ws.length ≤ 12 * 12 := Nat.mul_le_mul h1 h1
    exact ⟨by dsimp only; omega, fun r hr => by have : r.length ≤ (sgr ws.length (shW ws) ws.length).flatten.length := mem_flat_len _ r hr; omega⟩
  · exact ⟨by simp, fun r hr => by cases hr⟩
theorem best_small (g : List (List Int)) (ws : List S28) : (bestR g ws).1.length ≤ 12 := by
  unfold bestR
  split
  · rename_i h
    show (iz _).length ≤ 12
    rw [iz_len]
    exact bst_len (watched_ok h)
  · simp
theorem cover_two (g : List (List Int)) (ws : List S28) (ar : Int) : (coverR g ws ar).2 = (countsR g ws ar).2 := by
  unfold coverR
  split
  · rename_i h; exact h.symm
  · rename_i h; cases h2 : (countsR g ws ar).2 with
    | true => exact absurd h2 h
    | false => rfl
theorem watched_three (g : List (List Int)) (ws : List S28) : (groupsR g ws).2 = watched g ws ∧ (bestR g ws).2 = watched g ws ∧ watched g ws = ((areWatchedR g ws).2 && (areWatchedR g ws).1) := by
  refine ⟨?_, ?_, ?_⟩
  · unfold groupsR; cases watched g ws <;> rfl
  · unfold bestR; cases watched g ws <;> rfl
  · unfold areWatchedR watched
    cases memOk g <;> rfl
theorem FnSharing_ok : FnSharingTrue := by
  intro A0 c0 l w hr hc0 hl HTD
  have hc : IsCode l := fun x hx => wfu8 (hl.2 x hx)
  by_cases hbig : (l.length : Int) > 65536
  · exact laws_FnSharing.big A0 c0 l w hr hc0 (by unfold laws_vBig.f; rw [decide_eq_true hbig])
  · obtain ⟨m, s0, s1, s2, s3, t0, t1, t2, t3, ⟨K1, e1⟩, hm1, hm2, ⟨b0, b1, b2, b3⟩, ⟨d0, d1, d2, d3⟩⟩ := drawC_ok hc
    obtain ⟨g, ws, ar, ⟨K2, e2⟩, hg1, hg2, hw1, hw2⟩ := drawK_ok (cut1_ok l hc)
    have hm := hm2.fit' (by omega)
    have hg := hg2.fit' (by omega)
    unfold BW at b1 d1
    obtain ⟨K3, e3⟩ := common_impl m hm s0 s1 s2 s3 t0 t1 t2 t3
    obtain ⟨K4, e4⟩ := common_spec m hm s0 s1 s2 s3 t0 t1 t2 t3 (by omega) (by omega)
    obtain ⟨K5, e5⟩ := doShare_impl m hm s0 s1 s2 s3 t0 t1 t2 t3
    obtain ⟨K6, e6⟩ := doShare_spec m hm s0 s1 s2 s3 t0 t1 t2 t3 (by omega) (by omega)
    obtain ⟨K7, e7⟩ := areNear_impl m hm s0 s1 s2 s3 t0 t1 t2 t3
    obtain ⟨K8, e8⟩ := areNear_spec m hm s0 s1 s2 s3 t0 t1 t2 t3 (by omega) (by omega)
    obtain ⟨K9, e9⟩ := common_impl m hm t0 t1 t2 t3 s0 s1 s2 s3
    obtain ⟨K10, e10⟩ := areApart_impl m hm s0 s1 s2 s3 t0 t1 t2 t3
    have hw : ∀ x ∈ ws, wf4 x := fun x hx => by
      have := (hw2 x hx).2.1
      unfold BW at this
      unfold wf4
      omega
    have hlen : ws.length ≤ 1048576 := by omega
    obtain ⟨K11, e11⟩ := counts_impl g hg ws hlen ar
    obtain ⟨K12, e12⟩ := counts_spec g hg ws hw hlen ar
    obtain ⟨K13, e13⟩ := cover_impl g hg ws hlen ar
    obtain ⟨K14, e14⟩ := cover_spec g hg ws hw hlen ar
    obtain ⟨K15, e15⟩ := groups_impl g hg ws
    obtain ⟨K16, e16⟩ := groups_spec g hg ws hw hlen
    obtain ⟨K17, e17⟩ := best_i g hg ws
    obtain ⟨K18, e18⟩ := best_s g hg ws hw hlen
    obtain ⟨K19, e19⟩ := areWatched_impl g hg ws
    obtain ⟨K20, e20⟩ := areWatched_spec g hg ws hw hlen
    have n1 := countsR_len g ws ar
    have n2 := coverR_len g ws ar
    obtain ⟨n3, n4⟩ := groups_small g ws
    have n5 := best_small g ws
    obtain ⟨K21, e21⟩ := vInts_ok (countsR g ws ar).1 (by omega)
    obtain ⟨K22, e22⟩ := vInts_ok (bestR g ws).1 (by omega)
    obtain ⟨K23, e23⟩ := vTable_ok (groupsR g ws).1 (by omega) (fun r hr => by have := n4 r hr; omega)
    obtain ⟨K24, e24⟩ := noticedBy_impl g hg ws hlen
    obtain ⟨K25, e25⟩ := Ev_all2 (F := fun i q k => impl_DoShare.f k g (rd_T28 ws (rd (bestR g ws).1 (i : Int))).f0 (rd_T28 ws (rd (bestR g ws).1 (i : Int))).f1 (rd_T28 ws (rd (bestR g ws).1 (i : Int))).f2 (rd_T28 ws (rd (bestR g ws).1 (i : Int))).f3 (rd_T28 ws (rd (bestR g ws).1 (q : Int))).f0 (rd_T28 ws (rd (bestR g ws).1 (q : Int))).f1 (rd_T28 ws (rd (bestR g ws).1 (q : Int))).f2 (rd_T28 ws (rd (bestR g ws).1 (q : Int))).f3) 13 13 (fun i _ q _ => doShare_impl g hg _ _ _ _ _ _ _ _)
    obtain ⟨p1, p2⟩ := share_two m s0 s1 s2 s3 t0 t1 t2 t3
    have p3 := cover_two g ws ar
    obtain ⟨p4, p5, p6⟩ := watched_three g ws
    have pair (α β : Type) (x : α × β) (a : α) (b : β) (h1 : x.1 = a) (h2 : x.2 = b) : x = (a, b) := Prod.ext h1 h2
    obtain ⟨K, hK⟩ : ∃ K, K = K1 + K2 + K3 + K4 + K5 + K6 + K7 + K8 + K9 + K10 + K11 + K12 + K13 + K14 + K15 + K16 + K17 + K18 + K19 + K20 + K21 + K22 + K23 + K24 + K25 := ⟨_, rfl⟩
    exact laws_FnSharing.walk K A0 c0 l m s0 s1 s2 s3 t0 t1 t2 t3 (commonR m s0 s1 s2 s3 t0 t1 t2 t3).1 (commonR m s0 s1 s2 s3 t0 t1 t2 t3).2.1 (commonR m s0 s1 s2 s3 t0 t1 t2 t3).2.2 (doShareR m s0 s1 s2 s3 t0 t1 t2 t3).1 (areNearR m s0 s1 s2 s3 t0 t1 t2 t3).1 g ws ar (countsR g ws ar).1 (countsR g ws ar).2 (coverR g ws ar).1 (groupsR g ws).1 (watched g ws) (bestR g ws).1 (areWatchedR g ws).1 (areWatchedR g ws).2 w hr hc0 (by omega)
      (by unfold laws_vBig.f; rw [decide_eq_false hbig]) (e1 K (by omega)) (e3 K (by omega)) (e4 K (by omega))
      ((e5 K (by omega)).trans (congrArg some (pair _ _ _ _ _ rfl p1))) ((e6 K (by omega)).trans (congrArg some (pair _ _ _ _ _ rfl p1)))
      ((e7 K (by omega)).trans (congrArg some (pair _ _ _ _ _ rfl p2))) ((e8 K (by omega)).trans (congrArg some (pair _ _ _ _ _ rfl p2)))
      (e2 K (by omega)) (e11 K (by omega)) (e12 K (by omega)) ((e13 K (by omega)).trans (congrArg some (pair _ _ _ _ _ rfl p3))) ((e14 K (by omega)).trans (congrArg some (pair _ _ _ _ _ rfl p3)))
      ((e15 K (by omega)).trans (congrArg some (pair _ _ _ _ _ rfl p4))) ((e16 K (by omega)).trans (congrArg some (pair _ _ _ _ _ rfl p4)))
      ((e17 K (by omega)).trans (congrArg some (pair _ _ _ _ _ rfl p5))) ((e18 K (by omega)).trans (congrArg some (pair _ _ _ _ _ rfl p5)))
      (e19 K (by omega)) (e20 K (by omega)) (e21 K (by omega)) (e22 K (by omega)) (e23 K (by omega))
      (fun h => by
        obtain ⟨h1, h2, h3, h4, h5, h6⟩ := sh_pair m s0 s1 s2 s3 t0 t1 t2 t3 h
        refine ⟨?_, ⟨(commonR m t0 t1 t2 t3 s0 s1 s2 s3).2.1, ?_⟩, h5, h6⟩
        · have := e10 K (by omega)
          dsimp only at this
          rw [this, if_pos h1, h4, apart_not]
        · exact (e9 K (by omega)).trans (congrArg some (pair _ _ _ _ _ h2 (pair _ _ _ _ _ rfl h3))))
      (fun h => by
        obtain ⟨h1, h2⟩ := sh_counts g ws ar (by omega) h
        refine ⟨h1, fun p hp => ?_⟩
        obtain ⟨h3, h4, h5⟩ := h2 p hp
        exact ⟨h3, (noticedByR g ws ar (p : Int)).1, (e24 K (by omega) ar (p : Int)).trans (congrArg some (pair _ _ _ _ _ rfl h4)), h5⟩)
      p6
      (fun h => by
        obtain ⟨h1, h2, h3⟩ := sh_groups g ws hg h
        refine ⟨h1, h2, fun i q hi hq => ?_⟩
        obtain ⟨h4, h5, h6⟩ := h3 i q hi hq
        exact ⟨h4, h5, (e25 K (by omega) i (by omega) q (by omega)).trans (congrArg some h6)⟩)
      ⟨by omega, by omega, by omega, by omega, by omega⟩ HTD
end Go.Proofs.YthnchjgffocigaaDoor.P
end
section
namespace Go.Proofs.YthnchjgffocigaaDoor.fnSharing
open Go.ChangeShapes Go.WideShapes Go.ChangeAt Go.RowKit Go.Proofs.YthnchjgffocigaaDoor.P Go.Proofs.YthnchjgffocigaaDoorW.PrintWords Go.Proofs.YthnchjgffocigaaDoorW.PrintLast Go.Proofs.YthnchjgffocigaaDoorW.PrintMore
open Go.ChangeMaps (open_string shut_string)
set_option linter.unusedVariables false
set_option linter.unusedSimpArgs false
theorem own : ownKnob Tryd.prog.godebug = none := by kernel_rfl
theorem laidOut : laidOutB Tryd.prog = true := by kernel_rfl
theorem door_met (os : Os) (args : Array Value) : laidMetH Tryd.prog Rows.fnSharingRow.laid ((World.doorLaid Tryd.prog 24 os).forCall (fun _ _ => 0) ⟨#[], args, []⟩).memory :=
  laidMetH_of_parts3 (fuel := 8) (laidMet_of_run' 8 (by kernel_rfl) (by kernel_rfl)) (by kernel_rfl) (by kernel_rfl)
set_option maxRecDepth 100000 in
theorem lifted (os : Os) (started : os.Started) (H : Type) (enc : TypeId × Value → H) :
    ReturnsInHanded {} Tryd.checked os 3 .any (fun w args => (Rows.fnSharingSpec.pre enc Tryd.prog Tryd.f3 Rows.fnSharingRow.domain false w args ∧ laidMetH Tryd.prog Rows.fnSharingRow.laid w) ∧ sizedMet enc Tryd.prog Tryd.f3 (OpenSpec.ofChange Rows.fnSharingSpec) false w args) (Rows.fnSharingSpec.post enc Tryd.prog Tryd.f3 false true false false) := by
  refine returns_laid_shaped (C := Tryd.checked) (X := fun w _ => laidMetH Tryd.prog Rows.fnSharingRow.laid w) (fun _ _ _ hh h => h.of_heap hh) own started (by kernel_rfl) Tryd.func3
    (ChangeSpec.witness_shaped (enc := enc) (C := Tryd.checked) (os := os) (X := fun w _ => laidMetH Tryd.prog Rows.fnSharingRow.laid w) false (World.doorLaid Tryd.prog 24 os) #[.slice none 0 0] 8 rfl (World.shaped_of_RefB (by kernel_rfl) (by kernel_rfl)) (by kernel_rfl) (by kernel_rfl) (by kernel_rfl) (door_met os _)) ?_
  intro W base args ds gs before hval0 hW hcnd hsz0 hL hS _
  rw [MakeChecks.laidMetH_plain _ _ _ (by kernel_rfl)] at hL
  have HTD : Aside0 (TabD W) := ⟨tabD_of hL.tail⟩
  clear hL hS
  have hval : ∀ (j : Nat) t v, Tryd.f3.params[j]? = some t → args[j]? = some v → Value.okWide Tryd.prog W .any base t v := hval0
  have hW' := hW
  obtain ⟨p, q, hA0, hV, rfl, hfz, hnd⟩ := hW
  have hA : DataW.TrodAll enc Tryd.prog W 0 (fun _ => true) true Tryd.f3.params.toList args.toList ds p := hA0
  rw [Tryd.params3] at hA hval
  obtain ⟨v0, vs0, d0, ds0, p0, q0, hargs, rfl, rfl, h0, r0⟩ := trodAll_cons hA
  obtain ⟨rfl, rfl, rfl⟩ := trodAll_nil r0
  obtain rfl : args = #[v0] := by cases args; simp_all
  obtain ⟨rfl, rfl⟩ := trodVars_none hV
  have k0_ := h0
  have lt0 : ∀ x ∈ p0, x.block < W.heap.size := by obtain ⟨m, hm⟩ := k0_; exact DataW.trod_lt m _ _ _ hm
  obtain ⟨nn0, h0_0⟩ := h0
  obtain ⟨A_, n_, c_, rfl⟩ := okWide_slice Tryd.underlying22 (hval 0 22 v0 rfl rfl)
  obtain ⟨l0, hk0, w0⟩ := opn_slice (d := (Kd.int .u8)) (Q := (fun x => (Lit.int .u8 x).wf = true)) Tryd.underlying22 (by kernel_rfl) (fun _ _ _ h => opn_int Tryd.underlying5 h) h0_0
  obtain ⟨A0, c0, e0, hc0, hr0⟩ := hk0
  simp only [Value.cells, List.cons.injEq, and_true, Array.toList] at e0
  simp only [Value.slice.injEq] at e0
  obtain ⟨rfl, rfl, rfl⟩ := e0
  clear hA0 hval0 hsz0
  refine (FnSharing_ok _ _ l0 W hr0 hc0 w0 HTD).mono fun e W' ⟨he, bel0⟩ => ?_
  have bel : Below W.heap.size W W' := by first | exact bel0 | exact bel0.below
  subst he
  exact ⟨_, rfl, _, _, _, [], _, [], hW', trodAll_mk1 (shut_bool Tryd.underlying4 _), (trodAll_cons_mk (Below.trod laidOut (by kernel_rfl) (of_decide_eq_true (by kernel_rfl)) k0_ bel lt0) trodAll_mk0), rfl, bel.frame _, fun h => by cases h⟩
theorem over : Rows.fnSharingRow.holds Tryd.pinned (OpenSpec.ofChange Rows.fnSharingSpec) :=
  OpenClaim.holds_of_wide 3 Tryd.f3 rfl rfl rfl rfl rfl rfl rfl ⟨rfl, rfl, rfl, rfl, rfl⟩ rfl rfl rfl rfl rfl (by kernel_rfl) Tryd.func3 (by kernel_rfl)
    (of_decide_eq_true (by kernel_rfl)) (by unfold Func.isWrapper; first | (rw [if_pos (by decide +kernel)]; kernel_rfl) | (rw [if_neg (by decide +kernel)]; exact ⟨rfl, rfl⟩))
    (fun os started H enc _ => lifted os started H enc)
theorem proved : Rows.FnSharingSaid := over
#print axioms proved
end Go.Proofs.YthnchjgffocigaaDoor.fnSharing
namespace Go.Proofs.YthnchjgffocigaaDoor
theorem fnSharing_holds : Rows.FnSharingCardSaid :=
  Claim7.holds_tied_plain_at .later [] [.data, .data] true (true, "0286eec5d63251e4d9c124edb7c430d0f58ca461609789ebc4f4d0c7a50c3b0b") false
    fnSharing.proved (fun _ h => by cases h) (by kernel_rfl) (fun _ h => by cases h) fnSharing_row_tie rfl ⟨rfl, rfl⟩ (by kernel_rfl) rfl
    (fun f fn hf hfn => by
      obtain rfl : f = 3 := Option.some.inj ((show Tryd.prog.funcNamed "loop.example/g01179/laws.FnSharing" = some 3 by kernel_rfl).symm.trans hf) |>.symm
      obtain rfl : fn = Tryd.f3 := (Option.some.inj (Tryd.func3.symm.trans hfn)).symm
      exact ⟨by kernel_rfl, fun j t ht => by
        rw [Tryd.params3] at ht
        have hm : t ∈ [22] := by simpa using Array.mem_of_getElem? ht
        have hall : ([22].all fun u => !Tryd.prog.wantsStandIn u) = true := by kernel_rfl
        exact (show Tryd.prog.wantsStandIn t = false by simpa using List.all_eq_true.1 hall t hm)⟩)
    (by kernel_rfl)
#print axioms fnSharing_holds
end Go.Proofs.YthnchjgffocigaaDoor
end
