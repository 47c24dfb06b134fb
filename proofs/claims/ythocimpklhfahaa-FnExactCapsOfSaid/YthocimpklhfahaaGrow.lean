/- The contract of (*store).grow, walked by hand: what it answers and what it leaves in the store, within the bounds that the laws keep to. -/
import Derived.Test.YthocimpklhfahaaPx5
import Derived.Test.YthocimpklhfahaaBase
import Derived.StillTailTactics
namespace Go.Proofs.Ythocimpklhfahaa.P
open Go.RowKit Go.Proofs.YthocimpklhfahaaW.PrintWords Go.Proofs.YthocimpklhfahaaW.PrintLast Go.Proofs.YthocimpklhfahaaW.PrintMore
attribute [local go_sem] max2_int min2_int max_two min_two max_three min_three max_four min_four
set_option linter.unusedVariables false
set_option linter.unusedSimpArgs false
/-- What grow does to a store (length, cap, moves, cost) under a rule (num, den, add): none where a bound is passed. -/
def impl_store_grow.f (s0 s1 s2 s3 a0 a1 a2 n : Int) : Option (Bool × Int × Int × Int × Int) :=
  if 0 ≤ n ∧ n ≤ 1000000 then
    if (0 ≤ s0 ∧ s0 ≤ 1000000) ∧ (0 ≤ s1 ∧ s1 ≤ 1000000) ∧ (0 ≤ s2 ∧ s2 ≤ 1000000) ∧ (0 ≤ s3 ∧ s3 ≤ 1000000000000) ∧ (1 ≤ a0 ∧ a0 ≤ 8) ∧ (1 ≤ a1 ∧ a1 ≤ 8) ∧ (0 ≤ a2 ∧ a2 ≤ 64) then
      if s1 < s0 + n then some (decide (mx (mx (s1 * a0 / a1 + a2) (s0 + n)) (s1 + 1) ≤ 1000000), s0 + n, mx (mx (s1 * a0 / a1 + a2) (s0 + n)) (s1 + 1), s2 + 1, s3 + n + s0)
      else some (true, s0 + n, s1, s2, s3 + n)
    else none
  else some (false, s0, s1, s2, s3)
theorem isGrown_eq (n : Int) : impl_isGrown.f n = some (inB n 0 1000000) := by
  unfold impl_isGrown.f; rw [within_eq]; rfl
set_option maxHeartbeats 4000000 in
set_option maxRecDepth 100000 in
theorem grow_moves (g : Nat) (s0 s1 s2 s3 a0 a1 a2 n : Int) (m1 cap : Int) (b : Bool) (w0 w : World) (hI : IsS40 w0 w g s0 s1 s2 s3) (hB : Below w0.heap.size w0 w)
    (n0 : 0 ≤ n) (n1 : n ≤ 1000000) (h00 : 0 ≤ s0) (h01 : s0 ≤ 1000000) (h10 : 0 ≤ s1) (h11 : s1 ≤ 1000000) (h20 : 0 ≤ s2) (h21 : s2 ≤ 1000000) (h30 : 0 ≤ s3) (h31 : s3 ≤ 1000000000000)
    (r00 : 1 ≤ a0) (r01 : a0 ≤ 8) (r10 : 1 ≤ a1) (r11 : a1 ≤ 8) (r20 : 0 ≤ a2) (r21 : a2 ≤ 64) (hlt : s1 < s0 + n) (hq0 : 0 ≤ s1 * a0) (hq1 : s1 * a0 ≤ 8000000) (hd0 : 0 ≤ s1 * a0 / a1) (hd1 : s1 * a0 / a1 ≤ 8000000)
    (hm1 : Aside0 ((if s1 * a0 / a1 + a2 < s0 + n then s0 + n else s1 * a0 / a1 + a2) = m1)) (hcap : Aside0 ((if m1 < s1 + 1 then s1 + 1 else m1) = cap)) (hb : Aside0 (impl_isGrown.f cap = some b)) :
    Calls Try.prog 30 #[.pointer (some ⟨g, 0, none⟩), .agg #[.int .i64 a0, .int .i64 a1, .int .i64 a2], .int .i64 n] w fun e w' => e = .returned (.bool b) ∧ IsS40 w0 w' g (s0 + n) cap (s2 + 1) (s3 + n + s0) ∧ Below w0.heap.size w0 w' ∧ KeepBut w w' g none := by
  have HI := Aside0.mk hI
  obtain ⟨hb0, hg0⟩ := hI
  have c0 : w.cell? ⟨g, 0, none⟩ = some (.int .i64 s0) := (blk_cell hb0 0).trans rfl
  have c1 : w.cell? ⟨g, 1, none⟩ = some (.int .i64 s1) := (blk_cell hb0 1).trans rfl
  have c2 : w.cell? ⟨g, 2, none⟩ = some (.int .i64 s2) := (blk_cell hb0 2).trans rfl
  have c3 : w.cell? ⟨g, 3, none⟩ = some (.int .i64 s3) := (blk_cell hb0 3).trans rfl
  have f0 := blk_frozen hb0 0
  have f1 := blk_frozen hb0 1
  have f2 := blk_frozen hb0 2
  have f3 := blk_frozen hb0 3
  have gl : g < w.heap.size := blk_lt hb0
  have gn : g ≠ w.heap.size := by omega
  have HB := Aside0.mk hB
  have HG0 := Aside0.mk hg0
  clear hb0 hg0 hB
  have e0 := isGrown_eq n
  rw [show inB n 0 1000000 = true from decide_eq_true ⟨n0, n1⟩] at e0
  have E0 := Aside0.mk e0
  clear e0
  go_enter Try.func30, Try.ntmps30
  go_wp2_with (go_at_call 36; (with_reducible refine (impl_isGrown.calls n true _ E0.out).mono ?_); rintro e w' ⟨rfl, ⟨nd, rfl⟩⟩)
  go_quiet (fail)
  go_wp2_with fail
  clear c0 c1 c2 c3 f0 f1 f2 f3
  generalize hW : World.drewN _ _ = w4
  have HI4 : IsS40 w0 w4 g s0 s1 s2 (s3 + n) := by
    rw [← hW]
    refine IsS40.drewN ?_ _
    refine IsS40.set_3 (f3 := s3) ?_ _
    refine IsS40.drewN ?_ _
    exact IsS40.alloc HI.out _
  have HB4 : Aside0 (Below w0.heap.size w0 w4) := ⟨by
    rw [← hW]
    refine pw_below_drewN ?_ _
    refine below_set ?_ HG0.out
    refine pw_below_drewN ?_ _
    exact HB.out.alloc HB.out.size _⟩
  have HK4 : Aside0 (KeepBut w w4 g none) := ⟨by
    rw [← hW]
    show KeepBut w (World.setCell _ _ _) g none
    refine KeepBut.set_ ?_ _ _
    show KeepBut w (w.alloc _) g none
    exact KeepBut.of_below (below_alloc (Below.refl _ _) _) _ _⟩
  have HR4 : Aside0 (w4.heap[w.heap.size]? = some (.cells #[.int .i64 a0, .int .i64 a1, .int .i64 a2] 27 (0, 0))) := ⟨by
    rw [← hW]
    show (World.setCell _ _ _).heap[w.heap.size]? = _
    refine blk_far ?_ (fun e => gn e.symm) _
    show (w.alloc _).heap[w.heap.size]? = _
    exact (by simpa using heap_alloc_new w _)⟩
  clear hW
  obtain ⟨hb4, _⟩ := id HI4
  have c0 : w4.cell? ⟨g, 0, none⟩ = some (.int .i64 s0) := (blk_cell hb4 0).trans rfl
  have f0 := blk_frozen hb4 0
  have c1 : w4.cell? ⟨g, 1, none⟩ = some (.int .i64 s1) := (blk_cell hb4 1).trans rfl
  have f1 := blk_frozen hb4 1
  have c2 : w4.cell? ⟨g, 2, none⟩ = some (.int .i64 s2) := (blk_cell hb4 2).trans rfl
  have f2 := blk_frozen hb4 2
  have c3 : w4.cell? ⟨g, 3, none⟩ = some (.int .i64 (s3 + n)) := (blk_cell hb4 3).trans rfl
  have f3 := blk_frozen hb4 3
  have HI4 := Aside0.mk HI4
  clear hb4
  have gl4 : g < w4.heap.size := by have := HK4.out.1; omega
  go_still_tail 11, (by kernel_rfl)
  change wpList _ _ _ _ _ (World.drew _)
  go_wp2_with fail
  clear c0 c1 c2 c3 f0 f1 f2 f3
  generalize hW : World.drew _ = w5
  have HI5 : IsS40 w0 w5 g s0 s1 (s2 + 1) (s3 + n + s0) := by
    rw [← hW]
    refine IsS40.drew ?_
    refine IsS40.set_2 (f2 := s2) ?_ _
    refine IsS40.set_3 (f3 := s3 + n) ?_ _
    exact HI4.out
  have HB5 : Aside0 (Below w0.heap.size w0 w5) := ⟨by
    rw [← hW]
    refine below_drew1 ?_
    refine below_set ?_ HG0.out
    refine below_set ?_ HG0.out
    exact HB4.out⟩
  have HK5 : Aside0 (KeepBut w w5 g none) := ⟨by
    rw [← hW]
    refine keep_drew ?_
    refine KeepBut.set_ ?_ _ _
    refine KeepBut.set_ ?_ _ _
    exact HK4.out⟩
  have HR5 : Aside0 (w5.heap[w.heap.size]? = some (.cells #[.int .i64 a0, .int .i64 a1, .int .i64 a2] 27 (0, 0))) := ⟨by
    rw [← hW]
    show (World.setCell _ _ _).heap[w.heap.size]? = _
    refine blk_far ?_ (fun e => gn e.symm) _
    refine blk_far ?_ (fun e => gn e.symm) _
    exact HR4.out⟩
  clear hW HI4 HB4 HK4 HR4 gl4
  obtain ⟨hb5, _⟩ := id HI5
  have c0 : w5.cell? ⟨g, 0, none⟩ = some (.int .i64 s0) := (blk_cell hb5 0).trans rfl
  have f0 := blk_frozen hb5 0
  have c1 : w5.cell? ⟨g, 1, none⟩ = some (.int .i64 s1) := (blk_cell hb5 1).trans rfl
  have f1 := blk_frozen hb5 1
  have c2 : w5.cell? ⟨g, 2, none⟩ = some (.int .i64 (s2 + 1)) := (blk_cell hb5 2).trans rfl
  have f2 := blk_frozen hb5 2
  have c3 : w5.cell? ⟨g, 3, none⟩ = some (.int .i64 (s3 + n + s0)) := (blk_cell hb5 3).trans rfl
  have f3 := blk_frozen hb5 3
  have HI5 := Aside0.mk HI5
  clear hb5
  have g0 : w5.cell? ⟨w.heap.size, 0, none⟩ = some (.int .i64 a0) := (blk_cell HR5.out 0).trans rfl
  have g1 : w5.cell? ⟨w.heap.size, 1, none⟩ = some (.int .i64 a1) := (blk_cell HR5.out 1).trans rfl
  have g2 : w5.cell? ⟨w.heap.size, 2, none⟩ = some (.int .i64 a2) := (blk_cell HR5.out 2).trans rfl
  have gl5 : g < w5.heap.size := by have := HK5.out.1; omega
  have wA : IntKind.i64.wrap (s1 * a0) = s1 * a0 := IntWalk.i64_in _ (by omega)
  have wB : IntKind.i64.wrap ((s1 * a0).tdiv a1) = s1 * a0 / a1 := by rw [Int.tdiv_eq_ediv_of_nonneg hq0]; exact IntWalk.i64_in _ (by omega)
  have wC : IntKind.i64.wrap (s1 * a0 / a1 + a2) = s1 * a0 / a1 + a2 := IntWalk.i64_in _ (by omega)
  have wD : IntKind.i64.wrap (s0 + n) = s0 + n := IntWalk.i64_in _ (by omega)
  have wE : IntKind.i64.wrap (s1 + 1) = s1 + 1 := IntWalk.i64_in _ (by omega)
  have wF : (a1 = 0) = False := by simp; omega
  have wG := hm1.out
  have wH := hcap.out
  go_still_tail 28, (by kernel_rfl)
  change wpList _ _ _ _ _ (World.drew _)
  clear wA wB wC wE wF
  go_wp2_with (go_at_call 36; (with_reducible refine (impl_isGrown.calls cap b _ hb.out).mono ?_); rintro e w' ⟨rfl, ⟨nd, rfl⟩⟩)
  go_ret
  refine ⟨rfl, ?_, ?_, ?_⟩
  · refine IsS40.drewN ?_ _
    refine IsS40.set_0 (f0 := s0) ?_ _
    refine IsS40.set_1 (f1 := s1) ?_ _
    exact HI5.out
  · refine pw_below_drewN ?_ _
    refine below_set ?_ HG0.out
    refine below_set ?_ HG0.out
    exact HB5.out
  · refine keep_drewN ?_ _
    refine KeepBut.set_ ?_ _ _
    refine KeepBut.set_ ?_ _ _
    exact HK5.out
set_option maxHeartbeats 4000000 in
set_option maxRecDepth 100000 in
theorem grow_stays (g : Nat) (s0 s1 s2 s3 a0 a1 a2 n : Int) (b : Bool) (w0 w : World) (hI : IsS40 w0 w g s0 s1 s2 s3) (hB : Below w0.heap.size w0 w)
    (n0 : 0 ≤ n) (n1 : n ≤ 1000000) (h00 : 0 ≤ s0) (h01 : s0 ≤ 1000000) (h10 : 0 ≤ s1) (h11 : s1 ≤ 1000000) (h30 : 0 ≤ s3) (h31 : s3 ≤ 1000000000000)
    (hge : s0 + n ≤ s1) (hb : Aside0 (impl_isGrown.f s1 = some b)) :
    Calls Try.prog 30 #[.pointer (some ⟨g, 0, none⟩), .agg #[.int .i64 a0, .int .i64 a1, .int .i64 a2], .int .i64 n] w fun e w' => e = .returned (.bool b) ∧ IsS40 w0 w' g (s0 + n) s1 s2 (s3 + n) ∧ Below w0.heap.size w0 w' ∧ KeepBut w w' g none := by
  have HI := Aside0.mk hI
  obtain ⟨hb0, hg0⟩ := hI
  have c0 : w.cell? ⟨g, 0, none⟩ = some (.int .i64 s0) := (blk_cell hb0 0).trans rfl
  have c1 : w.cell? ⟨g, 1, none⟩ = some (.int .i64 s1) := (blk_cell hb0 1).trans rfl
  have c2 : w.cell? ⟨g, 2, none⟩ = some (.int .i64 s2) := (blk_cell hb0 2).trans rfl
  have c3 : w.cell? ⟨g, 3, none⟩ = some (.int .i64 s3) := (blk_cell hb0 3).trans rfl
  have f0 := blk_frozen hb0 0
  have f1 := blk_frozen hb0 1
  have f2 := blk_frozen hb0 2
  have f3 := blk_frozen hb0 3
  have gl : g < w.heap.size := blk_lt hb0
  have gn : g ≠ w.heap.size := by omega
  have HB := Aside0.mk hB
  have HG0 := Aside0.mk hg0
  clear hb0 hg0 hB
  have e0 := isGrown_eq n
  rw [show inB n 0 1000000 = true from decide_eq_true ⟨n0, n1⟩] at e0
  have E0 := Aside0.mk e0
  clear e0
  go_enter Try.func30, Try.ntmps30
  go_wp2_with (go_at_call 36; (with_reducible refine (impl_isGrown.calls n true _ E0.out).mono ?_); rintro e w' ⟨rfl, ⟨nd, rfl⟩⟩)
  go_quiet (fail)
  go_wp2_with (go_at_call 36; (with_reducible refine (impl_isGrown.calls s1 b _ hb.out).mono ?_); rintro e w' ⟨rfl, ⟨nd, rfl⟩⟩)
  go_ret
  refine ⟨rfl, ?_, ?_, ?_⟩
  · repeat (with_reducible first | refine IsS40.drewN ?_ _ | refine IsS40.set_0 (f0 := s0) ?_ _ | refine IsS40.set_3 (f3 := s3) ?_ _)
    exact IsS40.alloc HI.out _
  · repeat (with_reducible first | refine pw_below_drewN ?_ _ | refine below_set ?_ HG0.out)
    exact HB.out.alloc HB.out.size _
  · repeat (with_reducible first | refine keep_drewN ?_ _ | refine KeepBut.set_ ?_ _ _)
    exact KeepBut.of_below (below_alloc (Below.refl _ _) _) _ _
set_option maxHeartbeats 4000000 in
set_option maxRecDepth 100000 in
theorem grow_bad (g : Nat) (s0 s1 s2 s3 a0 a1 a2 n : Int) (w0 w : World) (hI : IsS40 w0 w g s0 s1 s2 s3) (hB : Below w0.heap.size w0 w) (hb : Aside0 (impl_isGrown.f n = some false)) :
    Calls Try.prog 30 #[.pointer (some ⟨g, 0, none⟩), .agg #[.int .i64 a0, .int .i64 a1, .int .i64 a2], .int .i64 n] w fun e w' => e = .returned (.bool false) ∧ IsS40 w0 w' g s0 s1 s2 s3 ∧ Below w0.heap.size w0 w' ∧ KeepBut w w' g none := by
  have HI := Aside0.mk hI
  have HB := Aside0.mk hB
  clear hI hB
  go_enter Try.func30, Try.ntmps30
  go_wp2_with (go_at_call 36; (with_reducible refine (impl_isGrown.calls n false _ hb.out).mono ?_); rintro e w' ⟨rfl, ⟨nd, rfl⟩⟩)
  go_ret
  refine ⟨rfl, ?_, ?_, ?_⟩
  · exact IsS40.drewN (IsS40.alloc HI.out _) _
  · exact pw_below_drewN (HB.out.alloc HB.out.size _) _
  · exact keep_drewN (KeepBut.of_below (below_alloc (Below.refl _ _) _) _ _) _
theorem quot_bounds {x a0 a1 : Int} (h0 : 0 ≤ x) (h1 : x ≤ 1000000) (r0 : 1 ≤ a0) (r1 : a0 ≤ 8) (q0 : 1 ≤ a1) : (0 ≤ x * a0 ∧ x * a0 ≤ 8000000) ∧ 0 ≤ x * a0 / a1 ∧ x * a0 / a1 ≤ 8000000 := by
  have hp0 : 0 ≤ x * a0 := Int.mul_nonneg h0 (by omega)
  have hp1 : x * a0 ≤ 1000000 * 8 := Int.mul_le_mul h1 r1 (by omega) (by omega)
  have hd0 : 0 ≤ x * a0 / a1 := Int.ediv_nonneg hp0 (by omega)
  have hd1 : x * a0 / a1 ≤ x * a0 := Int.ediv_le_self _ hp0
  exact ⟨⟨hp0, by omega⟩, hd0, by omega⟩
/-- The contract, as the printed callers take it. -/
theorem impl_store_grow.calls (g : Nat) (s0 s1 s2 s3 a0 a1 a2 n : Int) (r1 : Bool) (r2 r3 r4 r5 : Int) (w0 w : World) (hI : IsS40 w0 w g s0 s1 s2 s3) (hB : Below w0.heap.size w0 w) (h : impl_store_grow.f s0 s1 s2 s3 a0 a1 a2 n = some (r1, r2, r3, r4, r5)) :
    Calls Try.prog 30 #[.pointer (some ⟨g, 0, none⟩), .agg #[.int .i64 a0, .int .i64 a1, .int .i64 a2], .int .i64 n] w fun e w' => e = .returned (.bool r1) ∧ IsS40 w0 w' g r2 r3 r4 r5 ∧ Below w0.heap.size w0 w' ∧ KeepBut w w' g none := by
  unfold impl_store_grow.f at h
  by_cases hn : 0 ≤ n ∧ n ≤ 1000000
  · rw [if_pos hn] at h
    split at h
    · rename_i hbd
      obtain ⟨⟨h00, h01⟩, ⟨h10, h11⟩, ⟨h20, h21⟩, ⟨h30, h31⟩, ⟨r00, r01⟩, ⟨r10, r11⟩, r20, r21⟩ := hbd
      obtain ⟨⟨hq0, hq1⟩, hd0, hd1⟩ := quot_bounds h10 h11 r00 r01 r10
      split at h
      · rename_i hlt
        simp only [Option.some.injEq, Prod.mk.injEq] at h
        obtain ⟨rfl, rfl, rfl, rfl, rfl⟩ := h
        refine grow_moves g s0 s1 s2 s3 a0 a1 a2 n (mx (s1 * a0 / a1 + a2) (s0 + n)) (mx (mx (s1 * a0 / a1 + a2) (s0 + n)) (s1 + 1)) _ w0 w hI hB hn.1 hn.2 h00 h01 h10 h11 h20 h21 h30 h31 r00 r01 r10 r11 r20 r21 hlt hq0 hq1 hd0 hd1 ⟨rfl⟩ ⟨rfl⟩ ⟨?_⟩
        rw [isGrown_eq]
        congr 1
        unfold inB
        rw [decide_eq_decide]
        have : s1 + 1 ≤ mx (mx (s1 * a0 / a1 + a2) (s0 + n)) (s1 + 1) := by unfold mx; split <;> omega
        omega
      · rename_i hge
        simp only [Option.some.injEq, Prod.mk.injEq] at h
        obtain ⟨rfl, rfl, rfl, rfl, rfl⟩ := h
        exact grow_stays g s0 s1 s2 s3 a0 a1 a2 n true w0 w hI hB hn.1 hn.2 h00 h01 h10 h11 h30 h31 (by omega) ⟨by rw [isGrown_eq, show inB s1 0 1000000 = true from decide_eq_true ⟨h10, h11⟩]⟩
    · cases h
  · rw [if_neg hn] at h
    simp only [Option.some.injEq, Prod.mk.injEq] at h
    obtain ⟨rfl, rfl, rfl, rfl, rfl⟩ := h
    exact grow_bad g s0 s1 s2 s3 a0 a1 a2 n w0 w hI hB ⟨by rw [isGrown_eq, show inB n 0 1000000 = false from decide_eq_false hn]⟩
end Go.Proofs.Ythocimpklhfahaa.P
