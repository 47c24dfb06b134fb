/- The contract of impl.CapsOf over impl.appends: its closure appends the cap behind each append. Walked by hand. -/
import Derived.Test.YthocimpklhfahaaApps
import Derived.StillTailTactics
import Derived.Shelf.Abstract
import Derived.Great.Walk
namespace Go.Proofs.Ythocimpklhfahaa.P
open Go.RowKit Go.Proofs.YthocimpklhfahaaW.PrintWords Go.Proofs.YthocimpklhfahaaW.PrintLast Go.Proofs.YthocimpklhfahaaW.PrintMore
set_option linter.unusedVariables false
set_option linter.unusedSimpArgs false
attribute [local go_sem] pset_drewN
/-- The captured variable (block b) holds a row that reads as xs. -/
def CapInv (b : Nat) (w0 : World) (own : Nat → Prop) (xs : List Int) (W : World) : Prop :=
  own b ∧ ∃ v, W.heap[b]? = some (.cells #[v] 24 (0, 0)) ∧ Kd.R (Kd.int .i64) 3 W w0.heap.size (fun k => own k ∧ k ≠ b) v xs
set_option maxHeartbeats 4000000 in
set_option maxRecDepth 100000 in
theorem visitCaps.calls (b : Nat) (w0 : World) (own : Nat → Prop) (xs : List Int) (s0 s1 s2 s3 : Int) (W : World) (hI : CapInv b w0 own xs W) (hB : Below w0.heap.size w0 W) (hge : w0.heap.size ≤ b) (hl : xs.length < 40) :
    Calls Try.prog 25 #[.agg #[.int .i64 s0, .int .i64 s1, .int .i64 s2, .int .i64 s3], .pointer (some ⟨b, 0, none⟩)] W fun e w' => e = .returned (.tuple #[]) ∧ Below w0.heap.size w0 w' ∧ CapInv b w0 (fun k => own k ∨ W.heap.size ≤ k) (xs ++ [s1]) w' ∧ Kept W w' own := by
  obtain ⟨hob, v0, hb, hR⟩ := hI
  obtain ⟨Av, cv, rfl⟩ := Kd.R_slice hR
  have gl : b < W.heap.size := blk_lt hb
  have HO := Aside0.mk hob
  have HX := Aside0.mk hb
  have HR := Aside0.mk hR
  have HW := Aside0.mk hB
  have HG := Aside0.mk hge
  have HL := Aside0.mk hl
  clear hob hb hR hB hge hl
  obtain ⟨y1, hy1⟩ : ∃ y_ : List Int, y_ = xs ++ [s1] := ⟨_, rfl⟩
  have Ny1 := Aside0.mk hy1
  clear hy1
  go_enter Try.func25, Try.ntmps25
  go_wp2_with (first | ((with_reducible refine gate_dst (N := 2) rfl ?_); refine box_event ?hg (N := 2) ?hd (cs := #[.int .i64 s0, .int .i64 s1, .int .i64 s2, .int .i64 s3]) (t := 40) ?hr ?_; (case hd => rfl); (case hg => rfl); (case hr => first | (go_simp; done) | (go_simp; rfl)); intro g2 hg w2 hbox hb; have HB := Aside0.mk hb; have HY := Aside0.mk (blk_below HX.out hb); have HR2 := Aside0.mk (Kd.R_below HR.out hb); have hz_0 : w2.cell? ⟨b, 0, none⟩ = some (.slice Av xs.length cv) := (blk_cell HY.out 0).trans rfl; have hy_0 := blk_frozen HY.out 0; have hq_1 : w2.cell? ⟨g2, 1, none⟩ = some (.int .i64 s1) := (blk_cell hbox 1).trans rfl; clear hbox hb hg) | ((with_reducible refine gate_builtin (b := .append) (xs := #[.tmp 3, .tmp 6]) rfl ?_); at_builtin; refine Kd.R_append (Kd.int .i64) (w0 := w0) w0.heap.size rfl (.tmp 3) (.tmp 6) 24 3 (.int .i64 0) 8 rfl Try.underlying24 info3 rfl (by decide) (by omega) (.slice Av xs.length cv) xs s1 [.int .i64 s1] (fun k => (own k ∨ W.heap.size ≤ k) ∧ k ≠ b) (fun _ => False) rfl rfl ?aP (fun _ hk => hk.elim) ?aF ?aO ?aB ?aS ?aL ?_; (case aP => exact rfl); (case aB => exact below_step HW.out HB.out); (case aF => exact (fun k hk => ⟨.inr (Nat.le_trans HB.out.size hk), fun e => by have := blk_lt HY.out; omega⟩)); (case aO => exact Kd.R_mono HR2.out (fun k hk => ⟨.inl hk.1, hk.2⟩)); (case aS => exact Nat.le_trans HW.out.size HB.out.size); (case aL => have := HL.out; omega); intro v1 w4 ho hb hg hat; rw [← Ny1.out] at ho; obtain ⟨Ao7, co7, e7⟩ := Kd.R_slice ho; subst e7; have HB4 := Aside0.mk (hb); have HR4 := Aside0.mk (ho); have HG4 := Aside0.mk hg; have HY4 := Aside0.mk (blk_grown HY.out hg (fun e => (HR2.out.1 b e.symm).2 rfl)); have hz4_0 : w4.cell? ⟨b, 0, none⟩ = some (.slice Av xs.length cv) := (blk_cell HY4.out 0).trans rfl; have hy4_0 := blk_frozen HY4.out 0; clear ho hb hg hat hz_0 hy_0))
  refine Go.Great.bodyPost_end0 rfl rfl ?_
  refine ⟨rfl, below_set HB4.out HG.out, ⟨.inl HO.out, .slice Ao7 y1.length co7, blk_set HY4.out 0 _, ?_⟩, ?_, ?_⟩
  · rw [← Ny1.out]
    exact Kd.R_far (p := ⟨b, 0, none⟩) HR4.out (fun k hk => hk.2) _
  · have h1 := HB.out.size
    have h2 := HG4.out.size
    simpa using Nat.le_trans h1 h2
  · intro i hi hn
    refine (Below.heap_setCell _ ⟨b, 0, none⟩ _ i (fun e => hn (e ▸ HO.out))).trans ((HG4.out.block i (Nat.lt_of_lt_of_le hi HB.out.size) (fun e => hn ((HR2.out.1 i e.symm).1))).trans (HB.out.block i hi))
def impl_CapsOf.f (a0 a1 a2 : Int) (l : List Int) : Option (List Int × Bool) := (impl_appends.f (fun (b : List Int) _ s1 _ _ => b ++ [s1]) a0 a1 a2 l []).bind fun t => some (if t.1 = true then (t.2.2.2.2.2, true) else ([], false))
set_option maxHeartbeats 4000000 in
set_option maxRecDepth 100000 in
theorem impl_CapsOf.calls (a0 a1 a2 : Int) (A1 : Option Addr) (c1 : Nat) (l1 : List Int) (r1 : List Int) (r2 : Bool) (w : World) (hr1 : Kd.C (Kd.int .i64) w A1 l1.length l1) (hc1 : l1.length ≤ c1) (h : impl_CapsOf.f a0 a1 a2 l1 = some (r1, r2)) :
    Calls Try.prog 17 #[.agg #[.int .i64 a0, .int .i64 a1, .int .i64 a2], .slice A1 l1.length c1] w fun e w' => ∃ v0_ : Value, e = .returned (.tuple #[v0_, .bool r2]) ∧ Kd.R (Kd.int .i64) 3 w' w.heap.size (fun _ => True) v0_ r1 ∧ Below w.heap.size w w' := by
  unfold impl_CapsOf.f at h
  obtain ⟨⟨ok, q0, q1, q2, q3, u⟩, h1, h2⟩ := Option.bind_eq_some_iff.mp h
  have h2' := Option.some.inj h2
  have H1 := Aside0.mk h1
  have HR := Aside0.mk hr1
  clear h h1 h2 hr1
  have HB := Aside0.mk (Below.refl w.heap.size w)
  have eg := enters_of Try.func25 (by kernel_rfl) rfl
  obtain ⟨y0, hy0⟩ : ∃ y_ : List Int, y_ = ([] : List Int) := ⟨_, rfl⟩
  have Ny0 := Aside0.mk hy0
  clear hy0
  go_enter Try.func17, Try.ntmps17
  cases ok
  all_goals
    simp only [Bool.false_eq_true, if_false, if_true, Prod.mk.injEq] at h2'
    obtain ⟨rfl, rfl⟩ := h2'
    go_wp2_with (first | ((with_reducible refine gate_dst (N := 2) rfl ?_); refine box_event ?hg (N := 2) ?hd (cs := #[.int .i64 a0, .int .i64 a1, .int .i64 a2]) (t := 27) ?hr ?_; (case hd => rfl); (case hg => rfl); (case hr => first | (go_simp; done) | (go_simp; rfl)); intro g2 hg w2 hbox hb; have n0_ := Aside0.mk (below_step HB.out hb); have n1_ := Aside0.mk (by rw [hg]; exact below_size HB.out : w.heap.size ≤ g2); have n2_ := Aside0.mk hbox; clear HB; have HB := n0_; have GE2 := n1_; have BK2 := n2_; clear n0_ n1_ n2_ hb hbox hg) | ((with_reducible refine gate_dst (N := 9) rfl ?_); refine Kd.R_lit (Kd.int .i64) _ 3 ?hg (N := 9) ?hd (xs := ([] : List Int)) (inner := []) (ok := fun _ => True) (okp := fun _ => True) ?hr ?hp (fun _ hk => hk) trivial (Below.refl _ _) (Nat.le_refl _) (by simp) ?_; (case hd => rfl); (case hg => rfl); (case hr => first | (go_simp; done) | (go_simp; rfl)); (case hp => exact (Reps.none _ _)); intro v9 w4 ho5 hb hg_ hnew_; clear hg_ hnew_; (first | rw [← Ny0.out] at ho5 | (simp only [Int.reduceToNat] at ho5; rw [← Ny0.out] at ho5)); have n0_ := Aside0.mk (Kd.R_lower ho5 (below_size HB.out)); have n1_ := Aside0.mk (below_step HB.out hb); have n2_ := Aside0.mk (blk_below BK2.out hb); clear HB BK2; have HO := n0_; have HB := n1_; have BK2 := n2_; clear n0_ n1_ n2_; clear hb ho5; obtain ⟨Ao9, co9, e9⟩ := Kd.R_slice HO.out; subst e9) | ((with_reducible refine gate_dst (N := 6) rfl ?_); refine box_event ?hg (N := 6) ?hd (cs := #[.slice none 0 0]) (t := 24) ?hr ?_; (case hd => rfl); (case hg => rfl); (case hr => first | (go_simp; done) | (go_simp; rfl)); intro g6 hg w6 hbox hb; have n0_ := Aside0.mk (blk_below BK2.out hb); have n1_ := Aside0.mk (below_step HB.out hb); have n2_ := Aside0.mk (by rw [hg]; exact below_size HB.out : w.heap.size ≤ g6); have n3_ := Aside0.mk (by rw [hg]; exact Nat.ne_of_lt (blk_lt BK2.out) : g2 ≠ g6); have n4_ := Aside0.mk (Kd.R_mono (Kd.R_bound HO.out) (ok' := fun k => k ≠ g6) (fun k hk e => by have := hk.2.2.1; omega)); have n5_ := Aside0.mk (Kd.R_below n4_.out hb); have n6_ := Aside0.mk hbox; clear BK2 HB HO n4_; have BK2 := n0_; have HB := n1_; have GE6 := n2_; have NB2_6 := n3_; have HO := n5_; have BK6 := n6_; clear n0_ n1_ n2_ n3_ n5_ n6_ hb hbox hg; have hn26 := NB2_6.out; have hn62 := Ne.symm NB2_6.out; have hz6_0 : w6.cell? ⟨g6, 0, none⟩ = some (.slice none 0 0) := (blk_cell BK6.out 0).trans rfl; have hy6_0 := blk_frozen BK6.out 0; have hxg2_0 : w6.cell? ⟨g2, 0, none⟩ = some (.int .i64 a0) := (blk_cell BK2.out 0).trans rfl; have hvg2_0 := blk_frozen BK2.out 0; have hxg2_1 : w6.cell? ⟨g2, 1, none⟩ = some (.int .i64 a1) := (blk_cell BK2.out 1).trans rfl; have hvg2_1 := blk_frozen BK2.out 1; have hxg2_2 : w6.cell? ⟨g2, 2, none⟩ = some (.int .i64 a2) := (blk_cell BK2.out 2).trans rfl; have hvg2_2 := blk_frozen BK2.out 2) | (go_at_call 21; (refine (impl_appends.calls (fun (b : List Int) _ s1 _ _ => b ++ [s1]) (fun own acc W => CapInv g6 w own acc W) 25 #[.pointer (some ⟨g6, 0, none⟩)] [] a0 a1 a2 A1 c1 l1 _ q0 q1 q2 q3 u w _ (fun k => w.heap.size ≤ k ∧ k < w6.heap.size) eg ?s1 HR.out ?s2 ?s3 ?s4 List.length rfl (fun _ _ _ _ _ => by simp) ?s5 H1.out).mono ?_); (case s1 => exact below_set HB.out GE6.out); (case s2 => exact ⟨⟨GE6.out, blk_lt BK6.out⟩, (.slice Ao9 y0.length co9), blk_set BK6.out 0 (.slice Ao9 y0.length co9), by rw [← Ny0.out]; exact Kd.R_mono (Kd.R_bound (Kd.R_far (p := ⟨g6, 0, none⟩) HO.out (fun k hk => hk) (.slice Ao9 y0.length co9))) (fun k hk => ⟨⟨hk.2.1, by have := hk.2.2.1; simpa using this⟩, hk.1⟩)⟩); (case s3 => intro k hk; simpa using hk.2); (case s4 => exact fun own acc W W' ho hsz hk => by obtain ⟨h1, v, h2, h3⟩ := ho; exact ⟨h1, v, (hk g6 (blk_lt h2) h1).trans h2, Kd.R_step h3 (fun k h4 h5 => hk k h5 h4.1)⟩); (case s5 => exact fun own acc W s0 s1 s2 s3 hm ho hW => (visitCaps.calls g6 w own acc s0 s1 s2 s3 W ho hW GE6.out hm).mono fun e w' ⟨he, h1, h2, h3⟩ => ⟨he, h1, _, h2, fun k hk => hk, h3⟩); rintro e w3 ⟨rfl, hb, own, ho⟩; clear HB BK6 HO BK2 hz6_0 hy6_0 hxg2_0 hvg2_0 hxg2_1 hvg2_1 hxg2_2 hvg2_2; have HB := Aside0.mk hb; obtain ⟨ho1, v3, ho2, ho3⟩ := ho; obtain ⟨Ao3, co3, e3⟩ := Kd.R_slice ho3; subst e3; have BK6 := Aside0.mk ho2; have HO := Aside0.mk ho3; clear hb ho1 ho2 ho3) | ((with_reducible refine gate_dst (N := 7) rfl ?_); refine box_event ?hg (N := 7) ?hd (cs := #[.int .i64 0, .int .i64 0, .int .i64 0, .int .i64 0]) (t := 40) ?hr ?_; (case hd => rfl); (case hg => rfl); (case hr => first | (go_simp; done) | (go_simp; rfl)); intro g7 hg w7 hbox hb; have n0_ := Aside0.mk (blk_below BK6.out hb); have n1_ := Aside0.mk (below_step HB.out hb); have n2_ := Aside0.mk (by rw [hg]; exact below_size HB.out : w.heap.size ≤ g7); have n3_ := Aside0.mk (by rw [hg]; exact Nat.ne_of_lt (blk_lt BK6.out) : g6 ≠ g7); have n4_ := Aside0.mk (Kd.R_mono (Kd.R_bound HO.out) (ok' := fun k => k ≠ g7) (fun k hk e => by have := hk.2.2.1; omega)); have n5_ := Aside0.mk (Kd.R_below n4_.out hb); have n6_ := Aside0.mk hbox; clear BK6 HB HO n4_; have BK6 := n0_; have HB := n1_; have GE7 := n2_; have NB6_7 := n3_; have HO := n5_; have BK7 := n6_; clear n0_ n1_ n2_ n3_ n5_ n6_ hb hbox hg; have hn67 := NB6_7.out; have hn76 := Ne.symm NB6_7.out; have hzg7_0 : w7.cell? ⟨g7, 0, none⟩ = some (.int .i64 0) := (blk_cell BK7.out 0).trans rfl; have hyg7_0 := blk_frozen BK7.out 0; have hzg7_1 : w7.cell? ⟨g7, 1, none⟩ = some (.int .i64 0) := (blk_cell BK7.out 1).trans rfl; have hyg7_1 := blk_frozen BK7.out 1; have hzg7_2 : w7.cell? ⟨g7, 2, none⟩ = some (.int .i64 0) := (blk_cell BK7.out 2).trans rfl; have hyg7_2 := blk_frozen BK7.out 2; have hzg7_3 : w7.cell? ⟨g7, 3, none⟩ = some (.int .i64 0) := (blk_cell BK7.out 3).trans rfl; have hyg7_3 := blk_frozen BK7.out 3; have hz6_1 : w7.cell? ⟨g6, 0, none⟩ = some (.slice Ao3 u.length co3) := (blk_cell BK6.out 0).trans rfl))
  · go_ret2
    exact ⟨_, rfl, Kd.R_nil _ _ _ _ _, by repeat (first | (with_reducible first | exact HB.out | apply below_alloc | apply pw_below_drewN | apply below_drew1 | refine below_set ?_ GE7.out) | exact HB.out)⟩
  · go_ret2
    refine ⟨_, rfl, ?_, by repeat (first | (with_reducible first | exact HB.out | apply below_alloc | apply pw_below_drewN | apply below_drew1 | refine below_set ?_ GE7.out) | exact HB.out)⟩
    refine Kd.R_mono (ok := fun k => k ≠ g7) ?_ (fun _ _ => trivial)
    repeat (first | exact HO.out | refine Kd.R_far ?_ (fun k hk => hk) _ | (with_reducible first | apply Kd.R_alloc | apply Kd.R_drewN | apply Kd.R_drew))
end Go.Proofs.Ythocimpklhfahaa.P
