/- Words for rows in memory, contracts of functions, plain lemmas. -/
import Derived.Test.YthnchjgffocigaaDoorZSharing1
import Derived.StillTailTactics
import Derived.Shelf.Abstract
import Derived.Lib.Hide
section
namespace Go.Proofs.YthnchjgffocigaaDoor.P
open Go.RowKit Go.Proofs.YthnchjgffocigaaDoorW.PrintWords Go.Proofs.YthnchjgffocigaaDoorW.PrintLast Go.Proofs.YthnchjgffocigaaDoorW.PrintMore
set_option linter.unusedVariables false
set_option linter.unusedSimpArgs false
mutual
def spec_l1Cur_memory.l0 : Nat → Int → List Int → Int → Int → List (List Int) → Option ((List (List Int)) × Int × Int)
  | 0, _, _, _, _, _ => none
  | k + 1, x4, x1000, x1001, x1002, x325000 => if x4 > 0 then ((spec_l1Cur_among.f x1000 x1001 x1002 (([8, 12, 4, 16, 1, 2, 20, 64] : List Int))).bind fun bt334 => ((spec_l1Cur_bytesOf.f k x1000 bt334.2.1 bt334.2.2 bt334.1).bind fun bt337 => (if x325000.length < 5864062014805 then (spec_l1Cur_memory.l0 k (wrap64 (x4 - 1)) x1000 bt337.2.1 bt337.2.2 (x325000 ++ [bt337.1])) else (none)))) else ((spec_l1Cur_pick.f x1000 x1001 x1002 50).bind fun bt345 => (if bt345.1 = 0 then (if x325000.length < 5864062014805 then (some ((x325000 ++ [(([] : List Int))]), bt345.2.1, bt345.2.2)) else (none)) else (if bt345.1 = 1 then ((spec_l1Cur_bytesOf.f k x1000 bt345.2.1 bt345.2.2 65).bind fun bt354 => (if x325000.length < 5864062014805 then (some ((x325000 ++ [bt354.1]), bt354.2.1, bt354.2.2)) else (none))) else (if bt345.1 = 2 then (spec_l1Cur_memory.l1 k x1000 bt345.2.1 bt345.2.2 x325000) else (some (x325000, bt345.2.1, bt345.2.2))))))
def spec_l1Cur_memory.l1 : Nat → List Int → Int → Int → List (List Int) → Option ((List (List Int)) × Int × Int)
  | 0, _, _, _, _ => none
  | k + 1, x1000, x1001, x1002, x325000 => if (x325000.length : Int) < 17 then (if x325000.length < 5864062014805 then (spec_l1Cur_memory.l1 k x1000 x1001 x1002 (x325000 ++ [(([1] : List Int))])) else (none)) else (some (x325000, x1001, x1002))
end
def spec_l1Cur_memory.f (k : Nat) (s0_0 : List Int) (s0_1 : Int) (s0_2 : Int) : Option ((List (List Int)) × Int × Int) := (spec_l1Cur_among.f s0_0 s0_1 s0_2 (([2, 1, 3, 2, 0, 16] : List Int))).bind fun bt328 => (spec_l1Cur_memory.l0 k bt328.1 s0_0 bt328.2.1 bt328.2.2 (([] : List (List Int))))
def spec_l1Cur_memory.T5 : Bool × List (List Nat × List Nat) := (true, [([], []), ([0], [0]), ([], []), ([], []), ([], []), ([3, 4], [3, 4]), ([2, 5, 5], [2, 5]), ([6], [6]), ([1, 7, 6], [1, 7]), ([0, 1, 2, 3, 4, 5, 6, 7, 8], []), ([9, 8, 8, 0, 1, 2, 3, 4, 5, 6, 7, 8], [8, 9])])
def spec_l1Cur_memory.B5 : List Nat := [0, 1, 0, 0, 0, 24, 60, 124, 255, 511, 1023]
theorem spec_l1Cur_memory.tab5 : rtab .any (opsOf Tryd.f61 5) = spec_l1Cur_memory.T5 := by kernel_rfl
theorem spec_l1Cur_memory.bits5 : waitsOk spec_l1Cur_memory.T5.2 spec_l1Cur_memory.B5 = true := by kernel_rfl
def spec_l1Cur_memory.T10 : Bool × List (List Nat × List Nat) := (true, [([], []), ([0], [0]), ([], []), ([2], [2]), ([3], [3]), ([1, 4, 3], [1, 4]), ([0, 1, 2, 3, 4, 5], []), ([6, 5, 5, 0, 1, 2, 3, 4, 5], [5, 6])])
def spec_l1Cur_memory.B10 : List Nat := [0, 1, 0, 4, 12, 31, 63, 127]
theorem spec_l1Cur_memory.tab10 : rtab .any (opsOf Tryd.f61 10) = spec_l1Cur_memory.T10 := by kernel_rfl
theorem spec_l1Cur_memory.bits10 : waitsOk spec_l1Cur_memory.T10.2 spec_l1Cur_memory.B10 = true := by kernel_rfl
set_option maxHeartbeats 8000000 in
set_option maxRecDepth 100000 in
theorem spec_l1Cur_memory.calls (k : Nat) (g : Nat) (s0_0 : List Int) (s0_1 : Int) (s0_2 : Int) (r1 : List (List Int)) (r2 : Int) (r3 : Int) (w0 w : World) (hI : IsS85 w0 w g s0_0 s0_1 s0_2) (hB : Below w0.heap.size w0 w) (h : spec_l1Cur_memory.f k s0_0 s0_1 s0_2 = some (r1, r2, r3)) :
    Calls Tryd.prog 61 #[.pointer (some ⟨g, 0, none⟩)] w fun e w' => ∃ v0_ : Value, e = .returned (.agg #[v0_]) ∧ Kd.S (Kd.slice 5 (Kd.int .u8)) 22 w' w.heap.size (fun _ => True) v0_ r1 ∧ IsS85 w0 w' g s0_0 r2 r3 ∧ Below w0.heap.size w0 w' ∧ KeepBut w w' g none := by
 have hu26 := Tryd.underlying26
 have HI0 := am hI
 have HK := am (KeepBut.refl w g none)
 have HL := am hB.size
 clear hI
 have HW0 := am hB.size
 have HB := am hB
 clear hB
 have H : ((spec_l1Cur_among.f s0_0 s0_1 s0_2 (([2, 1, 3, 2, 0, 16] : List Int))).bind fun bt328 => (spec_l1Cur_memory.l0 k bt328.1 s0_0 bt328.2.1 bt328.2.2 (([] : List (List Int))))) = some (r1, r2, r3) := h
 clear h
 obtain ⟨y321, hy321⟩ : ∃ y_ : List (List Int), y_ = (([] : List (List Int))) := ⟨_, rfl⟩
 replace H : ((spec_l1Cur_among.f s0_0 s0_1 s0_2 (([2, 1, 3, 2, 0, 16] : List Int))).bind fun bt328 => (spec_l1Cur_memory.l0 k bt328.1 s0_0 bt328.2.1 bt328.2.2 y321)) = some (r1, r2, r3) := by first | (rw [hy321]; with_reducible exact H) | (have H2_ := (Option.bind_some _ _).symm.trans H; rw [hy321]; with_reducible exact H2_) | (have H2_ := (Option.bind_some _ _).symm.trans H; with_reducible exact H2_) | with_reducible exact H | (rw [hy321]; exact H) | exact H
 have Ny321 := am hy321
 clear hy321
 obtain ⟨y325, hy325⟩ : ∃ y_ : List Int, y_ = (([2, 1, 3, 2, 0, 16] : List Int)) := ⟨_, rfl⟩
 replace H : ((spec_l1Cur_among.f s0_0 s0_1 s0_2 y325).bind fun bt328 => (spec_l1Cur_memory.l0 k bt328.1 s0_0 bt328.2.1 bt328.2.2 y321)) = some (r1, r2, r3) := by first | (rw [hy325]; with_reducible exact H) | (have H2_ := (Option.bind_some _ _).symm.trans H; rw [hy325]; with_reducible exact H2_) | (have H2_ := (Option.bind_some _ _).symm.trans H; with_reducible exact H2_) | with_reducible exact H | (rw [hy325]; exact H) | exact H
 have Ny325 := am hy325
 clear hy325
 replace H := Option.bind_eq_some_iff.mp H
 obtain ⟨⟨t328, t329, t330⟩, A20, H⟩ := H
 try dsimp only at H
 have A2 := am A20
 clear A20
 have H' := am H
 clear H
 go_enter Tryd.func61, Tryd.ntmps61
 go_wp2_with (first | ((with_reducible refine gate_dst (N := 2) rfl ?_); refine bE 2 #[.slice none 0 0] 26 ?_; intro gb320 hg w3 hbox hb; replace HB := am (below_step (bi HB) hb); have BK320 := am hbox; have GW320 := gK hg HK; replace HK := kb hb HK; have GE320 := gT HW0 GW320; have NB0_320 := nLI hg HI0; have NB320_0 := nGI hg HI0; replace HI0 := iB hb HI0; clear hb hbox hg) | ((with_reducible refine gate_dst (N := 5) rfl ?_); refine Kd.S_lit (Kd.slice 5 (Kd.int .u8)) _ 22 ?hg (N := 5) ?hd (xs := ([] : List (List Int))) (inner := []) (ok := fun _ => True) (okp := fun _ => True) ?hr ?hp (fun _ hk => hk) trivial (Below.refl _ _) (Nat.le_refl _) (by simp) ?_; (case hd => rfl); (case hg => rfl); (case hr => first | (go_simp; done) | (go_simp; rfl)); (case hp => exact (Reps.none _ _)); intro v322 w4 ho5 hb hg_ hnew_; clear hg_ hnew_; (first | rw [← Ny321.out] at ho5 | (simp only [Int.reduceToNat] at ho5; rw [← Ny321.out] at ho5)); have HO323 := am (Kd.S_lower ho5 (keep_size (w := w) (g := g) (row := none) (ke HK))); replace HI0 := iB hb HI0; replace BK320 := bB hb BK320; replace HK := kb hb HK; replace HB := am (below_step (bi HB) hb); clear hb ho5; obtain ⟨Ao6, co6, eo6⟩ := Kd.S_slice HO323.out; subst eo6) | ((with_reducible refine gate_dst (N := 3) rfl ?_); refine bE 3 #[.slice none 0 0] 26 ?_; intro gb324 hg w7 hbox hb; replace HO323 := sB hb HO323; replace HB := am (below_step (bi HB) hb); have BK324 := am hbox; have GW324 := gK hg HK; replace HK := kb hb HK; have GE324 := gT HW0 GW324; have NB320_324 := nL hg BK320; have NB324_320 := nG hg BK320; replace BK320 := bB hb BK320; have NB0_324 := nLI hg HI0; have NB324_0 := nGI hg HI0; replace HI0 := iB hb HI0; clear hb hbox hg; have hnb8 := NB324_320.out; have hnc8 := NB320_324.out; have hnb9 := NB324_0.out; have hnc9 := NB0_324.out; obtain ⟨_, _⟩ := z1 BK324) | ((with_reducible refine gate_dst (N := 8) rfl ?_); refine Kd.R_lit (Kd.int .i64) _ 3 ?hg (N := 8) ?hd (xs := ([2, 1, 3, 2, 0, 16] : List Int)) (inner := [.int .i64 2, .int .i64 1, .int .i64 3, .int .i64 2, .int .i64 0, .int .i64 16]) (ok := fun _ => True) (okp := fun _ => True) ?hr ?hp (fun _ hk => hk) trivial (Below.refl _ _) (Nat.le_refl _) (by simp) ?_; (case hd => rfl); (case hg => rfl); (case hr => first | (go_simp; done) | (go_simp; rfl)); (case hp => exact (Reps.one (show Kd.M (Kd.int .i64) _ _ _ 2 [.int .i64 2] from rfl) (Reps.one (show Kd.M (Kd.int .i64) _ _ _ 1 [.int .i64 1] from rfl) (Reps.one (show Kd.M (Kd.int .i64) _ _ _ 3 [.int .i64 3] from rfl) (Reps.one (show Kd.M (Kd.int .i64) _ _ _ 2 [.int .i64 2] from rfl) (Reps.one (show Kd.M (Kd.int .i64) _ _ _ 0 [.int .i64 0] from rfl) (Reps.one (show Kd.M (Kd.int .i64) _ _ _ 16 [.int .i64 16] from rfl) (Reps.none _ _)))))))); intro v326 w11 ho12 hb hg_ hnew_; clear hg_ hnew_; (first | rw [← Ny325.out] at ho12 | (simp only [Int.reduceToNat] at ho12; rw [← Ny325.out] at ho12)); replace HO323 := am (Kd.S_below (by (with_reducible repeat (first | apply Kd.S_alloc | apply Kd.S_drewN | apply Kd.S_drew)); exact (Kd.S_mono (Kd.S_far (p := ⟨gb324, 0, none⟩) (Kd.S_types HO323.out BK324.out (by decide)) (fun _ hk => hk.2) (.slice Ao6 y321.length co6)) (fun _ h_ => h_.1))) hb); have HO327 := am (Kd.R_lower ho12 (keep_size (w := w) (g := g) (row := none) (ke HK))); replace HI0 := am (IsS85.below (show IsS85 w0 (w7.setCell ⟨gb324, 0, none⟩ (.slice Ao6 y321.length co6)) g s0_0 s0_1 s0_2 from ii HI0) hb); replace BK320 := am (blk_below (g := gb320) (o := .cells #[.slice none 0 0] 26 (0, 0)) (by (with_reducible repeat (first | apply blk_drewN | apply blk_drew | apply blk_alloc)); refine blk_far ?_ NB320_324.out _; (with_reducible repeat (first | apply blk_drewN | apply blk_drew | apply blk_alloc)); exact BK320.out) hb); replace BK324 := am (blk_below (g := gb324) (o := .cells #[.slice Ao6 y321.length co6] 26 (0, 0)) (by (with_reducible repeat (first | apply blk_drewN | apply blk_drew | apply blk_alloc)); refine blk_put (cs := #[.slice none 0 0]) ?_ 0 _ rfl; (with_reducible repeat (first | apply blk_drewN | apply blk_drew | apply blk_alloc)); exact BK324.out) hb); replace HK := kb hb HK; replace HB := am (below_step (bi HB) hb); clear hb ho12; obtain ⟨Ao13, co13, eo13⟩ := Kd.R_slice HO327.out; subst eo13) | ((with_reducible refine gate_callee (f := 102) rfl ?_); refine gL 9 Tryd.func102 #[.pointer (some ⟨g, 0, none⟩), .slice Ao13 y325.length co13] ?_; (with_reducible refine (spec_l1Cur_among.calls g s0_0 s0_1 s0_2 _ _ y325 t328 t329 t330 w0 _ ?side1 ?side2 ?side3 ?side4 ?side5 A2.out).mono ?_); (case side1 => exact ii HI0); (case side2 => exact bi HB); (case side3 => exact cc (Kd.R_reads' HO327.out).2.2); (case side4 => exact (Kd.R_reads' HO327.out).2.1); (case side5 => exact far_slice (IsS85.own_ne HI0.out HO327.out (by decide))); rintro e w14 ⟨rfl, hi, hb, hk⟩; refine ⟨_, rfl, ?_⟩; replace BK320 := bk hk BK320 NB320_0; replace HO323 := am (Kd.S_mono (Kd.S_keep (IsS85.apartS (ii HI0) (ss HO323) (by decide)) hk (fun _ h => h.2)) (fun _ h => h.1)); replace BK324 := bk hk BK324 NB324_0; replace HO327 := am (Kd.R_mono (Kd.R_keep (IsS85.apart (ii HI0) (rr HO327) (by decide)) hk (fun _ h => h.2)) (fun _ h => h.1)); replace HK := kT HK hk; replace HB := am hb; replace HI0 := am hi; (try clear hb); (try clear hk); (try clear hi)))
 go_loopg [4] k (fun kq v4 w' => ∃ (x4_1 : Int) (x1001_1 : Int) (x1002_1 : Int) (x325000_1 : List (List Int)) (u325000 : Value), v4 = .int .i64 x4_1 ∧ Aside0 (spec_l1Cur_memory.l0 kq x4_1 s0_0 x1001_1 x1002_1 x325000_1 = some (r1, r2, r3)) ∧ Aside0 (kq ≤ k) ∧ Aside0 (Kd.S (Kd.slice 5 (Kd.int .u8)) 22 w' w.heap.size (fun _ => True) u325000 x325000_1) ∧ Aside0 (w'.heap[gb320]? = some (.cells #[(.slice none 0 0)] 26 (0, 0))) ∧ Aside0 (w'.heap[gb324]? = some (.cells #[u325000] 26 (0, 0))) ∧ Aside0 (IsS85 w0 w' g s0_0 x1001_1 x1002_1) ∧ Aside0 (KeepBut w w' g none) ∧ Aside0 (Below w0.heap.size w0 w'))
 case atStart => exact ⟨(t328), (t329), (t330), (y321), (.slice Ao6 y321.length co6), (by first | rfl | (simp; done) | (simp [*]; done)), H', ⟨Nat.le_refl _⟩, ⟨ss HO323⟩, ⟨kk BK320⟩, ⟨kk BK324⟩, ⟨ii HI0⟩, ⟨ke HK⟩, ⟨bi HB⟩⟩
 case round =>
  clear H'
  try clear c1
  try clear p2
  try clear c6
  try clear c8
  try clear c9
  try clear c10
  obtain ⟨x4_1, x1001_1, x1002_1, x325000_1, u325000, rfl, HA, HK1, HO_325000, BK320, BK324, HI0, HK, HB⟩ := hrel
  cases gk with
  | zero => exact absurd HA.out (by simp [spec_l1Cur_memory.l0])
  | succ k1 =>
   have H := HA.out
   clear HA
   simp only [spec_l1Cur_memory.l0] at H
   by_cases c15 : x4_1 > 0
   ·rw [if_pos c15] at H
    have c15b0 : decide (0 < x4_1) = true := decide_eq_true c15
    clear c15
    obtain ⟨y331, hy331⟩ : ∃ y_ : List Int, y_ = (([8, 12, 4, 16, 1, 2, 20, 64] : List Int)) := ⟨_, rfl⟩
    replace H : ((spec_l1Cur_among.f s0_0 x1001_1 x1002_1 y331).bind fun bt334 => ((spec_l1Cur_bytesOf.f k1 s0_0 bt334.2.1 bt334.2.2 bt334.1).bind fun bt337 => (if x325000_1.length < 5864062014805 then (spec_l1Cur_memory.l0 k1 (wrap64 (x4_1 - 1)) s0_0 bt337.2.1 bt337.2.2 (x325000_1 ++ [bt337.1])) else (none)))) = some (r1, r2, r3) := by first | (rw [hy331]; with_reducible exact H) | (have H2_ := (Option.bind_some _ _).symm.trans H; rw [hy331]; with_reducible exact H2_) | (have H2_ := (Option.bind_some _ _).symm.trans H; with_reducible exact H2_) | with_reducible exact H | (rw [hy331]; exact H) | exact H
    have Ny331 := am hy331
    clear hy331
    replace H := Option.bind_eq_some_iff.mp H
    obtain ⟨⟨t334, t335, t336⟩, A160, H⟩ := H
    try dsimp only at H
    have A16 := am A160
    clear A160
    replace H := Option.bind_eq_some_iff.mp H
    obtain ⟨⟨t337, t340, t341⟩, A170, H⟩ := H
    try dsimp only at H
    have A17 := am A170
    clear A170
    by_cases c18 : x325000_1.length < 5864062014805
    ·rw [if_pos c18] at H
     have LMc18 := am c18
     clear c18
     obtain ⟨y342, hy342⟩ : ∃ y_ : List (List Int), y_ = (x325000_1 ++ [t337]) := ⟨_, rfl⟩
     replace H : (spec_l1Cur_memory.l0 k1 (wrap64 (x4_1 - 1)) s0_0 t340 t341 y342) = some (r1, r2, r3) := by first | (rw [hy342]; with_reducible exact H) | (have H2_ := (Option.bind_some _ _).symm.trans H; rw [hy342]; with_reducible exact H2_) | (have H2_ := (Option.bind_some _ _).symm.trans H; with_reducible exact H2_) | with_reducible exact H | (rw [hy342]; exact H) | exact H
     have Ny342 := am hy342
     clear hy342
     have H' := am H
     clear H
     try go_wp2
     replace HO_325000 := am (Kd.S_drew HO_325000.out)
     replace BK320 := am (blk_drew BK320.out)
     replace BK324 := am (blk_drew BK324.out)
     replace HI0 := am (IsS85.drew HI0.out)
     replace HK := am (keep_drew HK.out)
     replace HB := am (below_drew1 HB.out)
     refine start_ (n := 11) (S := fun w' => w'.cell? ⟨gb324, 0, none⟩ = some (u325000)) (ds := [10]) #[ff, ff, ff, ff, ff, ff, ff, ff, ff, ff, ff] (by kernel_rfl) rfl rfl ((blk_cell BK324.out 0).trans rfl) (fun hHeld => ?_); refine with_tabW spec_l1Cur_memory.tab5 spec_l1Cur_memory.bits5 (fun HT_ HW_ => ?_)
     generalize wr.drew = w19 at HO_325000 BK320 BK324 HI0 HK HB hHeld ⊢
     refine pS 0 14 HT_ ?_
     refine pS 2 16 HT_ ?_
     refine pS 3 17 HT_ ?_
     refine tS 1 15 HT_ HW_ hHeld ?_
     refine one_ (i := 4) (N := some 18) #[tt, tt, tt, tt, tt, ff, ff, ff, ff, ff, ff] rfl rfl (one_of HT_.out (by kernel_rfl)) (by decide) (fun K hK => ?_)
     refine Kd.R_lit_step (Kd.int .i64) _ 3 ?hg (N := 18) ?hd (xs := ([8, 12, 4, 16, 1, 2, 20, 64] : List Int)) (inner := [.int .i64 8, .int .i64 12, .int .i64 4, .int .i64 16, .int .i64 1, .int .i64 2, .int .i64 20, .int .i64 64]) (ok := fun _ => True) (okp := fun _ => True) ?hr ?hp (fun _ hk => hk) trivial (Below.refl _ _) (Nat.le_refl _) (by simp) ?_; (case hd => rfl); (case hg => rfl); (case hr => first | (go_simp; done) | (go_simp; rfl)); (case hp => exact (Reps.one (show Kd.M (Kd.int .i64) _ _ _ 8 [.int .i64 8] from rfl) (Reps.one (show Kd.M (Kd.int .i64) _ _ _ 12 [.int .i64 12] from rfl) (Reps.one (show Kd.M (Kd.int .i64) _ _ _ 4 [.int .i64 4] from rfl) (Reps.one (show Kd.M (Kd.int .i64) _ _ _ 16 [.int .i64 16] from rfl) (Reps.one (show Kd.M (Kd.int .i64) _ _ _ 1 [.int .i64 1] from rfl) (Reps.one (show Kd.M (Kd.int .i64) _ _ _ 2 [.int .i64 2] from rfl) (Reps.one (show Kd.M (Kd.int .i64) _ _ _ 20 [.int .i64 20] from rfl) (Reps.one (show Kd.M (Kd.int .i64) _ _ _ 64 [.int .i64 64] from rfl) (Reps.none _ _))))))))))
     intro v332 w20 ho21 hb hg_ hnew_
     clear hg_ hnew_
     (first | rw [← Ny331.out] at ho21 | (simp only [Int.reduceToNat] at ho21; rw [← Ny331.out] at ho21))
     replace HO_325000 := sB hb HO_325000
     have HO333 := am (Kd.R_lower ho21 (keep_size (w := w) (g := g) (row := none) (ke HK)))
     replace BK320 := bB hb BK320
     replace BK324 := bB hb BK324
     replace HI0 := iB hb HI0
     replace HK := kb hb HK
     replace HB := am (below_step (bi HB) hb)
     clear hb ho21
     obtain ⟨Ao22, co22, eo22⟩ := Kd.R_slice HO333.out
     (first | subst eo22 | (injection eo22 with f1_ f2_ f3_; have f4_ := f1_.symm; have f5_ := f3_.symm; clear f1_ f2_ f3_; subst f4_; subst f5_))
     refine hK.out _ _ ((blk_cell BK324.out 0).trans rfl) (fun hHeld => ?_)
     clear hK K
     refine nP 18 ?_
     refine one_ (i := 5) (N := some 19) #[tt, tt, tt, tt, tt, tt, ff, ff, ff, ff, ff] rfl rfl (one_of HT_.out (by kernel_rfl)) (by decide) (fun K hK => ?_)
     refine goes_ Tryd.func102 (by kernel_rfl) rfl #[.pointer (some ⟨g, 0, none⟩), .slice Ao22 y331.length co22] (by rfl) rfl rfl (by (try simp only [List.map_toArray, List.map_cons, List.map_nil]); first | done | rfl | (simp only [List.length_drop, List.length_take]; rfl)) ?_
     with_reducible refine (spec_l1Cur_among.calls g s0_0 x1001_1 x1002_1 _ _ y331 t334 t335 t336 w0 _ ?side1 ?side2 ?side3 ?side4 ?side5 A16.out).mono ?_
     (case side1 => exact ii HI0)
     (case side2 => exact bi HB)
     (case side3 => exact cc (Kd.R_reads' HO333.out).2.2)
     (case side4 => exact (Kd.R_reads' HO333.out).2.1)
     (case side5 => exact far_slice (IsS85.own_ne HI0.out HO333.out (by decide)))
     rintro e w23 ⟨rfl, hi, hb, hk⟩
     refine ⟨_, rfl, ?_⟩
     replace HO_325000 := am (Kd.S_mono (Kd.S_keep (IsS85.apartS (ii HI0) (ss HO_325000) (by decide)) hk (fun _ h => h.2)) (fun _ h => h.1))
     replace BK320 := bk hk BK320 NB320_0
     replace BK324 := bk hk BK324 NB324_0
     replace HO333 := am (Kd.R_mono (Kd.R_keep (IsS85.apart (ii HI0) (rr HO333) (by decide)) hk (fun _ h => h.2)) (fun _ h => h.1))
     replace HK := kT HK hk
     replace HB := am hb
     replace HI0 := am hi
     (try clear hb)
     (try clear hb2)
     (try clear hk)
     (try clear hi)
     refine hK.out _ _ ((blk_cell BK324.out 0).trans rfl) (fun hHeld => ?_)
     clear hK K
     refine nP 19 ?_
     refine one_ (i := 6) (N := some 20) #[tt, tt, tt, tt, tt, tt, tt, ff, ff, ff, ff] rfl rfl (one_of HT_.out (by kernel_rfl)) (by decide) (fun K hK => ?_)
     refine goes_ Tryd.func106 (by kernel_rfl) rfl #[.pointer (some ⟨g, 0, none⟩), .int .i64 t334] (by rfl) rfl rfl (by (try simp only [List.map_toArray, List.map_cons, List.map_nil]); first | done | rfl | (simp only [List.length_drop, List.length_take]; rfl)) ?_
     with_reducible refine (spec_l1Cur_bytesOf.calls k1 g s0_0 t335 t336 t334 t337 t340 t341 w0 _ ?side1 ?side2 A17.out).mono ?_
     (case side1 => exact ii HI0)
     (case side2 => exact bi HB)
     rintro e w24 ⟨v338, rfl, ho0, hi, hb, hk⟩
     refine ⟨_, rfl, ?_⟩
     replace HO_325000 := am (Kd.S_mono (Kd.S_told (Kd.S_oldK (IsS85.apartS (ii HI0) (ss HO_325000) (by decide)) hk) (Kd.R_base ho0)) (fun _ h_ => h_.1))
     replace BK320 := bk hk BK320 NB320_0
     replace BK324 := bk hk BK324 NB324_0
     replace HO333 := am (Kd.R_mono (Kd.R_keep (IsS85.apart (ii HI0) (rr HO333) (by decide)) hk (fun _ h => h.2)) (fun _ h => h.1))
     have HO339 := am (Kd.R_lower ho0 (keep_size (w := w) (g := g) (row := none) (ke HK)))
     replace HK := kT HK hk
     replace HB := am hb
     replace HI0 := am hi
     (try clear hb)
     (try clear hb2)
     (try clear hk)
     (try clear hi)
     (try clear ho0)
     obtain ⟨Ao26, co26, eo26⟩ := Kd.R_slice HO339.out
     (first | subst eo26 | (injection eo26 with f1_ f2_ f3_; have f4_ := f1_.symm; have f5_ := f3_.symm; clear f1_ f2_ f3_; subst f4_; subst f5_))
     refine hK.out _ _ ((blk_cell BK324.out 0).trans rfl) (fun hHeld => ?_)
     clear hK K
     refine nP 20 ?_
     refine one_ (i := 7) (N := some 21) #[tt, tt, tt, tt, tt, tt, tt, tt, ff, ff, ff] rfl rfl (one_of HT_.out (by kernel_rfl)) (by decide) (fun K hK => ?_)
     refine value_ (w1 := ?_) (v := ?_) (by rfl) rfl ?_ ?_
     rotate_left 2
     ·go_simp
      constructor
      ·rfl
      ·rfl
     refine hK.out _ _ ((blk_cell (blk_alloc BK324.out _) 0).trans rfl) (fun hHeld => ?_)
     clear hK K
     refine nP 21 ?_
     refine one_ (i := 8) (N := some 22) #[tt, tt, tt, tt, tt, tt, tt, tt, tt, ff, ff] rfl rfl (one_of HT_.out (by kernel_rfl)) (by decide) (fun K hK => ?_)
     refine Kd.S_append_step (Kd.slice 5 (Kd.int .u8)) w.heap.size (by rfl) (.tmp 15) (.tmp 21) 24 22 (.slice none 0 0) 24 rfl Tryd.underlying24 info22 rfl (by decide) (by omega) u325000 x325000_1 t337 [.slice Ao26 t337.length co26] (fun _ => True) (fun k_ => some k_ = (.slice Ao26 t337.length co26 : Value).ownBlock) rfl rfl ?aP (fun k_ hk_ => ((Kd.R_mono (ok' := fun k_ => ((fun _ => True)) k_ ∧ some k_ ≠ (u325000 : Value).ownBlock) (Kd.R_apart' (HO339.out) (Kd.S_typed HO_325000.out) (by decide)) (fun k_ hk => ⟨trivial, hk.2⟩))).1 k_ hk_.symm) ?aF ?aO (Below.refl _ _) ?aS ?aL ?_
     (case aP => exact Kd.M_row (Kd.R_mono (Kd.R_tight rfl (Kd.R_mono (ok' := fun k_ => ((fun _ => True)) k_ ∧ some k_ ≠ (u325000 : Value).ownBlock) (Kd.R_apart' (HO339.out) (Kd.S_typed HO_325000.out) (by decide)) (fun k_ hk => ⟨trivial, hk.2⟩))) (fun _ h_ => h_)))
     (case aF => exact (fun _ _ => trivial))
     (case aO => exact (by (with_reducible repeat (first | apply Kd.S_alloc | apply Kd.S_drewN | apply Kd.S_drew)); exact Kd.S_mono HO_325000.out (fun k_ hk => ⟨trivial, fun e_ => hk.2 e_⟩)))
     (case aS => exact (keep_size (w := w) (g := g) (row := none) (ke HK)))
     (case aL => have := LMc18.out; omega)
     intro v343 w25 ho hb hg hat
     rw [← Ny342.out] at ho
     replace BK320 := am (blk_grown (g := gb320) (o := .cells #[.slice none 0 0] 26 (0, 0)) (kk BK320) hg (Kd.S_ne HO_325000.out BK320.out (by decide)))
     replace BK324 := am (blk_grown (g := gb324) (o := .cells #[u325000] 26 (0, 0)) (kk BK324) hg (Kd.S_ne HO_325000.out BK324.out (by decide)))
     replace HI0 := am (IsS85.grown (ii HI0) hg (IsS85.own_neS HI0.out HO_325000.out (by decide)))
     replace HO333 := am (Kd.R_over' (rr HO333) (Kd.S_typed (ss HO_325000)) (by decide) hg)
     replace HB := am (below_weaken (bi HB) HL.out hb)
     replace HK := am (KeepBut.trans (ke HK) (KeepBut.of_grown hg g) (Kd.S_base2 HO_325000.out))
     have HO344 := am ho
     clear HO_325000 HO339 ho hb hg hat
     obtain ⟨Ao27, co27, eo27⟩ := Kd.S_slice HO344.out
     (first | subst eo27 | (injection eo27 with f1_ f2_ f3_; have f4_ := f1_.symm; have f5_ := f3_.symm; clear f1_ f2_ f3_; subst f4_; subst f5_))
     refine hK.out _ _ ((blk_cell BK324.out 0).trans rfl) (fun hHeld => ?_)
     clear hK K
     refine nP 22 ?_
     refine pS 9 23 HT_ ?_
     refine last_ (i := 10) (N := none) #[tt, tt, tt, tt, tt, tt, tt, tt, tt, tt, tt] rfl rfl (one_of HT_.out (by kernel_rfl)) (by decide) (fun K hK => ?_)
     have hs28 : w25.cell? ⟨gb324, 0, none⟩ = some (u325000) := (blk_cell BK324.out 0).trans rfl
     have hfs28 := blk_frozen BK324.out 0
     have hns28_0 := NB320_324.out
     have hms28_0 := NB324_320.out
     refine skip_ (w1 := ?_) (by rfl) rfl ?_ ?_
     rotate_left
     ·go_simp
      rfl
     refine hK.out _ _ ?_
     clear hK K
     refine done_ (done_of HT_.out (by kernel_rfl)) ?_
     try go_wp2
     go_roundg k1
     case measure => have := HK1.out; omega
     case rel => exact ⟨(wrap64 (x4_1 - 1)), (t340), (t341), (y342), (.slice Ao27 y342.length co27), (by first | rfl | (simp; done) | (simp [*]; done)), H', ⟨by have := HK1.out; omega⟩, ⟨by (with_reducible repeat (first | apply Kd.S_alloc | apply Kd.S_drewN | apply Kd.S_drew)); exact Kd.S_mono (Kd.S_far (p := ⟨gb324, 0, none⟩) (Kd.S_types HO344.out BK324.out (by decide)) (fun _ hk => hk.2) (.slice Ao27 y342.length co27)) (fun _ hk => trivial)⟩, ⟨by (with_reducible repeat (first | apply blk_drewN | apply blk_drew | apply blk_alloc)); refine blk_far ?_ NB320_324.out _; (with_reducible repeat (first | apply blk_drewN | apply blk_drew | apply blk_alloc)); exact BK320.out⟩, ⟨by (with_reducible repeat (first | apply blk_drewN | apply blk_drew | apply blk_alloc)); refine blk_put (cs := #[u325000]) ?_ 0 _ rfl; (with_reducible repeat (first | apply blk_drewN | apply blk_drew | apply blk_alloc)); exact BK324.out⟩, ⟨ii HI0⟩, ⟨ke HK⟩, ⟨bi HB⟩⟩
    ·rw [if_neg c18] at H
     exact absurd H (by simp)
   ·rw [if_neg c15] at H
    have c15b0 : decide (0 < x4_1) = false := decide_eq_false c15
    clear c15
    replace H := Option.bind_eq_some_iff.mp H
    obtain ⟨⟨t345, t346, t347⟩, A290, H⟩ := H
    try dsimp only at H
    have A29 := am A290
    clear A290
    by_cases c30 : t345 = 0
    ·rw [if_pos c30] at H
     have c30b0 : (t345 == 0) = true := beq_iff_eq.mpr c30
     have c30b1 : (t345 != 0) = false := bne_eq_false_iff_eq.mpr c30
     clear c30
     obtain ⟨y348, hy348⟩ : ∃ y_ : List Int, y_ = (([] : List Int)) := ⟨_, rfl⟩
     replace H : (if x325000_1.length < 5864062014805 then (some ((x325000_1 ++ [y348]), t346, t347)) else (none)) = some (r1, r2, r3) := by first | (rw [hy348]; with_reducible exact H) | (have H2_ := (Option.bind_some _ _).symm.trans H; rw [hy348]; with_reducible exact H2_) | (have H2_ := (Option.bind_some _ _).symm.trans H; with_reducible exact H2_) | with_reducible exact H | (rw [hy348]; exact H) | exact H
     have Ny348 := am hy348
     clear hy348
     by_cases c31 : x325000_1.length < 5864062014805
     ·rw [if_pos c31] at H
      have LMc31 := am c31
      clear c31
      obtain ⟨y351, hy351⟩ : ∃ y_ : List (List Int), y_ = (x325000_1 ++ [y348]) := ⟨_, rfl⟩
      replace H : (some (y351, t346, t347)) = some (r1, r2, r3) := by first | (rw [hy351]; with_reducible exact H) | (have H2_ := (Option.bind_some _ _).symm.trans H; rw [hy351]; with_reducible exact H2_) | (have H2_ := (Option.bind_some _ _).symm.trans H; with_reducible exact H2_) | with_reducible exact H | (rw [hy351]; exact H) | exact H
      have Ny351 := am hy351
      clear hy351
      simp only [Option.some.injEq, Prod.mk.injEq] at H
      obtain ⟨rfl, rfl, rfl⟩ := H
      go_wp2_with (first | ((with_reducible refine gate_callee (f := 95) rfl ?_); refine gL 25 Tryd.func95 #[.pointer (some ⟨g, 0, none⟩), .int .i64 50] ?_; (with_reducible refine (spec_l1Cur_pick.calls g s0_0 x1001_1 x1002_1 50 t345 t346 t347 w0 _ ?side1 ?side2 A29.out).mono ?_); (case side1 => exact ii HI0); (case side2 => exact bi HB); rintro e w32 ⟨rfl, hi, hb, hk⟩; refine ⟨_, rfl, ?_⟩; replace HO_325000 := am (Kd.S_mono (Kd.S_keep (IsS85.apartS (ii HI0) (ss HO_325000) (by decide)) hk (fun _ h => h.2)) (fun _ h => h.1)); replace BK320 := bk hk BK320 NB320_0; replace BK324 := bk hk BK324 NB324_0; replace HK := kT HK hk; replace HB := am hb; replace HI0 := am hi; (try clear hb); (try clear hk); (try clear hi); have hnb33 := NB324_320.out; have hnc33 := NB320_324.out; have hnb34 := NB324_0.out; have hnc34 := NB0_324.out; obtain ⟨_, _⟩ := z1 BK324) | ((with_reducible refine gate_dst (N := 30) rfl ?_); refine Kd.R_lit (Kd.int .u8) _ 5 ?hg (N := 30) ?hd (xs := ([] : List Int)) (inner := []) (ok := fun _ => True) (okp := fun _ => True) ?hr ?hp (fun _ hk => hk) trivial (Below.refl _ _) (Nat.le_refl _) (by simp) ?_; (case hd => rfl); (case hg => rfl); (case hr => first | (go_simp; done) | (go_simp; rfl)); (case hp => exact (Reps.none _ _)); intro v349 w36 ho37 hb hg_ hnew_; clear hg_ hnew_; (first | rw [← Ny348.out] at ho37 | (simp only [Int.reduceToNat] at ho37; rw [← Ny348.out] at ho37)); replace HO_325000 := am (Kd.S_elder' (ss HO_325000) (Kd.R_base ho37) hb); have HO350 := am (Kd.R_lower ho37 (keep_size (w := w) (g := g) (row := none) (ke HK))); replace BK320 := bB hb BK320; replace BK324 := bB hb BK324; replace HI0 := iB hb HI0; replace HK := kb hb HK; replace HB := am (below_step (bi HB) hb); clear hb ho37; obtain ⟨Ao39, co39, eo39⟩ := Kd.R_slice HO350.out; subst eo39) | ((with_reducible refine gate_builtin (b := .append) (xs := #[.tmp 29, .tmp 31]) rfl ?_); at_builtin; refine Kd.S_append (Kd.slice 5 (Kd.int .u8)) w.heap.size rfl (.tmp 29) (.tmp 31) 24 22 (.slice none 0 0) 24 rfl Tryd.underlying24 info22 rfl (by decide) (by omega) u325000 x325000_1 y348 [.slice Ao39 y348.length co39] (fun _ => True) (fun k_ => some k_ = (.slice Ao39 y348.length co39 : Value).ownBlock) rfl rfl ?aP (fun k_ hk_ => ((Kd.R_mono (ok' := fun k_ => ((fun _ => True)) k_ ∧ some k_ ≠ (u325000 : Value).ownBlock) (Kd.R_apart' (HO350.out) (Kd.S_typed HO_325000.out) (by decide)) (fun k_ hk => ⟨trivial, hk.2⟩))).1 k_ hk_.symm) ?aF ?aO (Below.refl _ _) ?aS ?aL ?_; (case aP => exact Kd.M_row (Kd.R_mono (Kd.R_tight rfl (Kd.R_mono (ok' := fun k_ => ((fun _ => True)) k_ ∧ some k_ ≠ (u325000 : Value).ownBlock) (Kd.R_apart' (HO350.out) (Kd.S_typed HO_325000.out) (by decide)) (fun k_ hk => ⟨trivial, hk.2⟩))) (fun _ h_ => h_))); (case aF => exact (fun _ _ => trivial)); (case aO => exact (by (with_reducible repeat (first | apply Kd.S_alloc | apply Kd.S_drewN | apply Kd.S_drew)); exact Kd.S_mono HO_325000.out (fun k_ hk => ⟨trivial, fun e_ => hk.2 e_⟩))); (case aS => exact (keep_size (w := w) (g := g) (row := none) (ke HK))); (case aL => have := LMc31.out; omega); intro v352 w38 ho hb hg hat; rw [← Ny351.out] at ho; replace BK320 := am (blk_grown (g := gb320) (o := .cells #[.slice none 0 0] 26 (0, 0)) (kk BK320) hg (Kd.S_ne HO_325000.out BK320.out (by decide))); replace BK324 := am (blk_grown (g := gb324) (o := .cells #[u325000] 26 (0, 0)) (kk BK324) hg (Kd.S_ne HO_325000.out BK324.out (by decide))); replace HI0 := am (IsS85.grown (ii HI0) hg (IsS85.own_neS HI0.out HO_325000.out (by decide))); replace HB := am (below_weaken (bi HB) HL.out hb); replace HK := am (KeepBut.trans (ke HK) (KeepBut.of_grown hg g) (Kd.S_base2 HO_325000.out)); have HO353 := am ho; clear HO_325000 HO350; clear ho hb hg hat; obtain ⟨Ao40, co40, eo40⟩ := Kd.S_slice HO353.out; subst eo40; obtain ⟨_, _⟩ := z1 BK324; have hnb42 := NB320_0.out; have hnc42 := NB0_320.out; obtain ⟨_, _⟩ := z1 BK320))
      refine bodyPost_ret (results_cell_row rfl _ _ gb320 26 #[.slice Ao40 y351.length co40] (0, 0) _ rfl (by (with_reducible repeat (first | apply blk_drewN | apply blk_drew | apply blk_alloc)); refine blk_put (cs := #[.slice none 0 0]) ?_ 0 _ rfl; (with_reducible repeat (first | apply blk_drewN | apply blk_drew | apply blk_alloc)); refine blk_far ?_ NB320_324.out _; (with_reducible repeat (first | apply blk_drewN | apply blk_drew | apply blk_alloc)); exact BK320.out) Tryd.underlying26 rfl (by kernel_rfl)) rfl ?_
      exact ⟨_, by first | rfl | (simp [*, errW_none, errW_some] <;> rfl), by (with_reducible repeat (first | apply Kd.S_alloc | apply Kd.S_drewN | apply Kd.S_drew)); exact Kd.S_mono (Kd.S_far (p := ⟨gb320, 0, none⟩) (Kd.S_far (p := ⟨gb324, 0, none⟩) (Kd.S_types (Kd.S_types HO353.out BK324.out (by decide)) BK320.out (by decide)) (fun _ hk => hk.1.2) (.slice Ao40 y351.length co40)) (fun _ hk => hk.2) (.slice Ao40 y351.length co40)) (fun _ hk => trivial), ii HI0, bi HB, ke HK⟩
     ·rw [if_neg c31] at H
      exact absurd H (by simp)
    ·rw [if_neg c30] at H
     have c30b0 : (t345 == 0) = false := beq_eq_false_iff_ne.mpr c30
     have c30b1 : (t345 != 0) = true := bne_iff_ne.mpr c30
     by_cases c44 : t345 = 1
     ·rw [if_pos c44] at H
      have c44b0 : (t345 == 1) = true := beq_iff_eq.mpr c44
      have c44b1 : (t345 != 1) = false := bne_eq_false_iff_eq.mpr c44
      clear c44
      replace H := Option.bind_eq_some_iff.mp H
      obtain ⟨⟨t354, t357, t358⟩, A450, H⟩ := H
      try dsimp only at H
      have A45 := am A450
      clear A450
      by_cases c46 : x325000_1.length < 5864062014805
      ·rw [if_pos c46] at H
       have LMc46 := am c46
       clear c46
       obtain ⟨y359, hy359⟩ : ∃ y_ : List (List Int), y_ = (x325000_1 ++ [t354]) := ⟨_, rfl⟩
       replace H : (some (y359, t357, t358)) = some (r1, r2, r3) := by first | (rw [hy359]; with_reducible exact H) | (have H2_ := (Option.bind_some _ _).symm.trans H; rw [hy359]; with_reducible exact H2_) | (have H2_ := (Option.bind_some _ _).symm.trans H; with_reducible exact H2_) | with_reducible exact H | (rw [hy359]; exact H) | exact H
       have Ny359 := am hy359
       clear hy359
       simp only [Option.some.injEq, Prod.mk.injEq] at H
       obtain ⟨rfl, rfl, rfl⟩ := H
       try go_wp2_with (first | ((with_reducible refine gate_callee (f := 95) rfl ?_); refine gL 25 Tryd.func95 #[.pointer (some ⟨g, 0, none⟩), .int .i64 50] ?_; (with_reducible refine (spec_l1Cur_pick.calls g s0_0 x1001_1 x1002_1 50 t345 t346 t347 w0 _ ?side1 ?side2 A29.out).mono ?_); (case side1 => exact ii HI0); (case side2 => exact bi HB); rintro e w47 ⟨rfl, hi, hb, hk⟩; refine ⟨_, rfl, ?_⟩; replace HO_325000 := am (Kd.S_mono (Kd.S_keep (IsS85.apartS (ii HI0) (ss HO_325000) (by decide)) hk (fun _ h => h.2)) (fun _ h => h.1)); replace BK320 := bk hk BK320 NB320_0; replace BK324 := bk hk BK324 NB324_0; replace HK := kT HK hk; replace HB := am hb; replace HI0 := am hi; (try clear hb); (try clear hk); (try clear hi)))
       replace HO_325000 := am (Kd.S_drew HO_325000.out)
       replace BK320 := am (blk_drew BK320.out)
       replace BK324 := am (blk_drew BK324.out)
       replace HI0 := am (IsS85.drew HI0.out)
       replace HK := am (keep_drew HK.out)
       replace HB := am (below_drew1 HB.out)
       refine start_ (n := 8) (S := fun w' => w'.cell? ⟨gb324, 0, none⟩ = some (u325000)) (ds := [7]) #[ff, ff, ff, ff, ff, ff, ff, ff] (by kernel_rfl) rfl rfl ((blk_cell BK324.out 0).trans rfl) (fun hHeld => ?_); refine with_tabW spec_l1Cur_memory.tab10 spec_l1Cur_memory.bits10 (fun HT_ HW_ => ?_)
       generalize w47.drew = w48 at HO_325000 BK320 BK324 HI0 HK HB hHeld ⊢
       refine pS 0 36 HT_ ?_
       refine pS 2 38 HT_ ?_
       refine tS 1 37 HT_ HW_ hHeld ?_
       refine one_ (i := 3) (N := some 39) #[tt, tt, tt, tt, ff, ff, ff, ff] rfl rfl (one_of HT_.out (by kernel_rfl)) (by decide) (fun K hK => ?_)
       refine goes_ Tryd.func106 (by kernel_rfl) rfl #[.pointer (some ⟨g, 0, none⟩), .int .i64 65] (by rfl) rfl rfl (by (try simp only [List.map_toArray, List.map_cons, List.map_nil]); first | done | rfl | (simp only [List.length_drop, List.length_take]; rfl)) ?_
       with_reducible refine (spec_l1Cur_bytesOf.calls k1 g s0_0 t346 t347 65 t354 t357 t358 w0 _ ?side1 ?side2 A45.out).mono ?_
       (case side1 => exact ii HI0)
       (case side2 => exact bi HB)
       rintro e w49 ⟨v355, rfl, ho0, hi, hb, hk⟩
       refine ⟨_, rfl, ?_⟩
       replace HO_325000 := am (Kd.S_mono (Kd.S_told (Kd.S_oldK (IsS85.apartS (ii HI0) (ss HO_325000) (by decide)) hk) (Kd.R_base ho0)) (fun _ h_ => h_.1))
       replace BK320 := bk hk BK320 NB320_0
       replace BK324 := bk hk BK324 NB324_0
       have HO356 := am (Kd.R_lower ho0 (keep_size (w := w) (g := g) (row := none) (ke HK)))
       replace HK := kT HK hk
       replace HB := am hb
       replace HI0 := am hi
       (try clear hb)
       (try clear hb2)
       (try clear hk)
       (try clear hi)
       (try clear ho0)
       obtain ⟨Ao51, co51, eo51⟩ := Kd.R_slice HO356.out
       (first | subst eo51 | (injection eo51 with f1_ f2_ f3_; have f4_ := f1_.symm; have f5_ := f3_.symm; clear f1_ f2_ f3_; subst f4_; subst f5_))
       refine hK.out _ _ ((blk_cell BK324.out 0).trans rfl) (fun hHeld => ?_)
       clear hK K
       refine nP 39 ?_
       refine one_ (i := 4) (N := some 40) #[tt, tt, tt, tt, tt, ff, ff, ff] rfl rfl (one_of HT_.out (by kernel_rfl)) (by decide) (fun K hK => ?_)
       refine value_ (w1 := ?_) (v := ?_) (by rfl) rfl ?_ ?_
       rotate_left 2
       ·go_simp
        constructor
        ·rfl
        ·rfl
       refine hK.out _ _ ((blk_cell (blk_alloc BK324.out _) 0).trans rfl) (fun hHeld => ?_)
       clear hK K
       refine nP 40 ?_
       refine one_ (i := 5) (N := some 41) #[tt, tt, tt, tt, tt, tt, ff, ff] rfl rfl (one_of HT_.out (by kernel_rfl)) (by decide) (fun K hK => ?_)
       refine Kd.S_append_step (Kd.slice 5 (Kd.int .u8)) w.heap.size (by rfl) (.tmp 37) (.tmp 40) 24 22 (.slice none 0 0) 24 rfl Tryd.underlying24 info22 rfl (by decide) (by omega) u325000 x325000_1 t354 [.slice Ao51 t354.length co51] (fun _ => True) (fun k_ => some k_ = (.slice Ao51 t354.length co51 : Value).ownBlock) rfl rfl ?aP (fun k_ hk_ => ((Kd.R_mono (ok' := fun k_ => ((fun _ => True)) k_ ∧ some k_ ≠ (u325000 : Value).ownBlock) (Kd.R_apart' (HO356.out) (Kd.S_typed HO_325000.out) (by decide)) (fun k_ hk => ⟨trivial, hk.2⟩))).1 k_ hk_.symm) ?aF ?aO (Below.refl _ _) ?aS ?aL ?_
       (case aP => exact Kd.M_row (Kd.R_mono (Kd.R_tight rfl (Kd.R_mono (ok' := fun k_ => ((fun _ => True)) k_ ∧ some k_ ≠ (u325000 : Value).ownBlock) (Kd.R_apart' (HO356.out) (Kd.S_typed HO_325000.out) (by decide)) (fun k_ hk => ⟨trivial, hk.2⟩))) (fun _ h_ => h_)))
       (case aF => exact (fun _ _ => trivial))
       (case aO => exact (by (with_reducible repeat (first | apply Kd.S_alloc | apply Kd.S_drewN | apply Kd.S_drew)); exact Kd.S_mono HO_325000.out (fun k_ hk => ⟨trivial, fun e_ => hk.2 e_⟩)))
       (case aS => exact (keep_size (w := w) (g := g) (row := none) (ke HK)))
       (case aL => have := LMc46.out; omega)
       intro v360 w50 ho hb hg hat
       rw [← Ny359.out] at ho
       replace BK320 := am (blk_grown (g := gb320) (o := .cells #[.slice none 0 0] 26 (0, 0)) (kk BK320) hg (Kd.S_ne HO_325000.out BK320.out (by decide)))
       replace BK324 := am (blk_grown (g := gb324) (o := .cells #[u325000] 26 (0, 0)) (kk BK324) hg (Kd.S_ne HO_325000.out BK324.out (by decide)))
       replace HI0 := am (IsS85.grown (ii HI0) hg (IsS85.own_neS HI0.out HO_325000.out (by decide)))
       replace HB := am (below_weaken (bi HB) HL.out hb)
       replace HK := am (KeepBut.trans (ke HK) (KeepBut.of_grown hg g) (Kd.S_base2 HO_325000.out))
       have HO361 := am ho
       clear HO_325000 HO356 ho hb hg hat
       obtain ⟨Ao52, co52, eo52⟩ := Kd.S_slice HO361.out
       (first | subst eo52 | (injection eo52 with f1_ f2_ f3_; have f4_ := f1_.symm; have f5_ := f3_.symm; clear f1_ f2_ f3_; subst f4_; subst f5_))
       refine hK.out _ _ ((blk_cell BK324.out 0).trans rfl) (fun hHeld => ?_)
       clear hK K
       refine nP 41 ?_
       refine pS 6 42 HT_ ?_
       refine last_ (i := 7) (N := none) #[tt, tt, tt, tt, tt, tt, tt, tt] rfl rfl (one_of HT_.out (by kernel_rfl)) (by decide) (fun K hK => ?_)
       have hs53 : w50.cell? ⟨gb324, 0, none⟩ = some (u325000) := (blk_cell BK324.out 0).trans rfl
       have hfs53 := blk_frozen BK324.out 0
       have hns53_0 := NB320_324.out
       have hms53_0 := NB324_320.out
       refine skip_ (w1 := ?_) (by rfl) rfl ?_ ?_
       rotate_left
       ·go_simp
        rfl
       refine hK.out _ _ ?_
       clear hK K
       refine done_ (done_of HT_.out (by kernel_rfl)) ?_
       have hnb54 := NB324_320.out
       have hnc54 := NB320_324.out
       have hnb55 := NB324_0.out
       have hnc55 := NB0_324.out
       obtain ⟨_, _⟩ := z1 BK324
       have hnb57 := NB320_0.out
       have hnc57 := NB0_320.out
       obtain ⟨_, _⟩ := z1 BK320
       try go_wp2
       refine bodyPost_ret (results_cell_row rfl _ _ gb320 26 #[.slice Ao52 y359.length co52] (0, 0) _ rfl (by (with_reducible repeat (first | apply blk_drewN | apply blk_drew | apply blk_alloc)); refine blk_put (cs := #[.slice none 0 0]) ?_ 0 _ rfl; (with_reducible repeat (first | apply blk_drewN | apply blk_drew | apply blk_alloc)); refine blk_far ?_ NB320_324.out _; (with_reducible repeat (first | apply blk_drewN | apply blk_drew | apply blk_alloc)); exact BK320.out) Tryd.underlying26 rfl (by kernel_rfl)) rfl ?_
       exact ⟨_, by first | rfl | (simp [*, errW_none, errW_some] <;> rfl), by (with_reducible repeat (first | apply Kd.S_alloc | apply Kd.S_drewN | apply Kd.S_drew)); exact Kd.S_mono (Kd.S_far (p := ⟨gb320, 0, none⟩) (Kd.S_far (p := ⟨gb324, 0, none⟩) (Kd.S_types (Kd.S_types HO361.out BK324.out (by decide)) BK320.out (by decide)) (fun _ hk => hk.1.2) (.slice Ao52 y359.length co52)) (fun _ hk => hk.2) (.slice Ao52 y359.length co52)) (fun _ hk => trivial), ii HI0, bi HB, ke HK⟩
      ·rw [if_neg c46] at H
       exact absurd H (by simp)
     ·rw [if_neg c44] at H
      have c44b0 : (t345 == 1) = false := beq_eq_false_iff_ne.mpr c44
      have c44b1 : (t345 != 1) = true := bne_iff_ne.mpr c44
      by_cases c59 : t345 = 2
      ·rw [if_pos c59] at H
       have c59b0 : (t345 == 2) = true := beq_iff_eq.mpr c59
       have c59b1 : (t345 != 2) = false := bne_eq_false_iff_eq.mpr c59
       clear c59
       have H' := am H
       clear H
       go_wp2_with (first | ((with_reducible refine gate_callee (f := 95) rfl ?_); refine gL 25 Tryd.func95 #[.pointer (some ⟨g, 0, none⟩), .int .i64 50] ?_; (with_reducible refine (spec_l1Cur_pick.calls g s0_0 x1001_1 x1002_1 50 t345 t346 t347 w0 _ ?side1 ?side2 A29.out).mono ?_); (case side1 => exact ii HI0); (case side2 => exact bi HB); rintro e w60 ⟨rfl, hi, hb, hk⟩; refine ⟨_, rfl, ?_⟩; replace HO_325000 := am (Kd.S_mono (Kd.S_keep (IsS85.apartS (ii HI0) (ss HO_325000) (by decide)) hk (fun _ h => h.2)) (fun _ h => h.1)); replace BK320 := bk hk BK320 NB320_0; replace BK324 := bk hk BK324 NB324_0; replace HK := kT HK hk; replace HB := am hb; replace HI0 := am hi; (try clear hb); (try clear hk); (try clear hi)))
       go_loopg [] k1 (fun kq w' => ∃ (x325000_2 : List (List Int)) (u325000 : Value), Aside0 (spec_l1Cur_memory.l1 kq s0_0 t346 t347 x325000_2 = some (r1, r2, r3)) ∧ Aside0 (kq ≤ k1) ∧ Aside0 (Kd.S (Kd.slice 5 (Kd.int .u8)) 22 w' w.heap.size (fun _ => True) u325000 x325000_2) ∧ Aside0 (w'.heap[gb320]? = some (.cells #[(.slice none 0 0)] 26 (0, 0))) ∧ Aside0 (w'.heap[gb324]? = some (.cells #[u325000] 26 (0, 0))) ∧ Aside0 (IsS85 w0 w' g s0_0 t346 t347) ∧ Aside0 (KeepBut w w' g none) ∧ Aside0 (Below w0.heap.size w0 w'))
       case atStart => exact ⟨(x325000_1), (u325000), H', ⟨Nat.le_refl _⟩, ⟨ss HO_325000⟩, ⟨kk BK320⟩, ⟨kk BK324⟩, ⟨ii HI0⟩, ⟨ke HK⟩, ⟨bi HB⟩⟩
       case round =>
        clear H'
        try clear c1
        try clear p2
        try clear c3
        try clear c4
        try clear c5
        try clear c6
        try clear p6
        try clear c8
        try clear c9
        try clear c10
        try clear c15
        try clear c15b0
        try clear c18
        try clear c30
        try clear c30b0
        try clear c30b1
        try clear c31
        try clear c33
        try clear c34
        try clear c42
        try clear c44
        try clear c44b0
        try clear c44b1
        try clear c46
        try clear c54
        try clear c55
        try clear c57
        try clear c59
        try clear c59b0
        try clear c59b1
        try clear p2
        obtain ⟨x325000_2, u325000, HA, HK2, HO_325000, BK320, BK324, HI0, HK, HB⟩ := hrel
        cases gk with
        | zero => exact absurd HA.out (by simp [spec_l1Cur_memory.l1])
        | succ k2 =>
         have H := HA.out
         clear HA
         simp only [spec_l1Cur_memory.l1] at H
         by_cases c61 : (x325000_2.length : Int) < 17
         ·rw [if_pos c61] at H
          have c61b0 : decide ((x325000_2.length : Int) < 17) = true := decide_eq_true c61
          have c61b1 : decide (x325000_2.length < 17) = true := decide_eq_true (by omega)
          clear c61
          obtain ⟨y362, hy362⟩ : ∃ y_ : List Int, y_ = (([1] : List Int)) := ⟨_, rfl⟩
          replace H : (if x325000_2.length < 5864062014805 then (spec_l1Cur_memory.l1 k2 s0_0 t346 t347 (x325000_2 ++ [y362])) else (none)) = some (r1, r2, r3) := by first | (rw [hy362]; with_reducible exact H) | (have H2_ := (Option.bind_some _ _).symm.trans H; rw [hy362]; with_reducible exact H2_) | (have H2_ := (Option.bind_some _ _).symm.trans H; with_reducible exact H2_) | with_reducible exact H | (rw [hy362]; exact H) | exact H
          have Ny362 := am hy362
          clear hy362
          by_cases c62 : x325000_2.length < 5864062014805
          ·rw [if_pos c62] at H
           have LMc62 := am c62
           clear c62
           obtain ⟨y365, hy365⟩ : ∃ y_ : List (List Int), y_ = (x325000_2 ++ [y362]) := ⟨_, rfl⟩
           replace H : (spec_l1Cur_memory.l1 k2 s0_0 t346 t347 y365) = some (r1, r2, r3) := by first | (rw [hy365]; with_reducible exact H) | (have H2_ := (Option.bind_some _ _).symm.trans H; rw [hy365]; with_reducible exact H2_) | (have H2_ := (Option.bind_some _ _).symm.trans H; with_reducible exact H2_) | with_reducible exact H | (rw [hy365]; exact H) | exact H
           have Ny365 := am hy365
           clear hy365
           have H' := am H
           clear H
           have hnb63 := NB324_320.out
           have hnc63 := NB320_324.out
           have hnb64 := NB324_0.out
           have hnc64 := NB0_324.out
           obtain ⟨_, _⟩ := z1 BK324
           obtain ⟨Ao66, co66, eo66⟩ := Kd.S_slice HO_325000.out
           subst eo66
           go_wp2_with (first | ((with_reducible refine gate_dst (N := 51) rfl ?_); refine Kd.R_lit (Kd.int .u8) _ 5 ?hg (N := 51) ?hd (xs := ([1] : List Int)) (inner := [.int .u8 1]) (ok := fun _ => True) (okp := fun _ => True) ?hr ?hp (fun _ hk => hk) trivial (Below.refl _ _) (Nat.le_refl _) (by simp) ?_; (case hd => rfl); (case hg => rfl); (case hr => first | (go_simp; done) | (go_simp; rfl)); (case hp => exact (Reps.one (show Kd.M (Kd.int .u8) _ _ _ 1 [.int .u8 1] from rfl) (Reps.none _ _))); intro v363 w67 ho68 hb hg_ hnew_; clear hg_ hnew_; (first | rw [← Ny362.out] at ho68 | (simp only [Int.reduceToNat] at ho68; rw [← Ny362.out] at ho68)); replace HO_325000 := am (Kd.S_elder' (ss HO_325000) (Kd.R_base ho68) hb); have HO364 := am (Kd.R_lower ho68 (keep_size (w := w) (g := g) (row := none) (ke HK))); replace BK320 := bB hb BK320; replace BK324 := bB hb BK324; replace HI0 := iB hb HI0; replace HK := kb hb HK; replace HB := am (below_step (bi HB) hb); clear hb ho68; obtain ⟨Ao70, co70, eo70⟩ := Kd.R_slice HO364.out; subst eo70) | ((with_reducible refine gate_builtin (b := .append) (xs := #[.tmp 50, .tmp 52]) rfl ?_); at_builtin; refine Kd.S_append (Kd.slice 5 (Kd.int .u8)) w.heap.size rfl (.tmp 50) (.tmp 52) 24 22 (.slice none 0 0) 24 rfl Tryd.underlying24 info22 rfl (by decide) (by omega) (.slice Ao66 x325000_2.length co66) x325000_2 y362 [.slice Ao70 y362.length co70] (fun _ => True) (fun k_ => some k_ = (.slice Ao70 y362.length co70 : Value).ownBlock) rfl rfl ?aP (fun k_ hk_ => ((Kd.R_mono (ok' := fun k_ => ((fun _ => True)) k_ ∧ some k_ ≠ (.slice Ao66 x325000_2.length co66 : Value).ownBlock) (Kd.R_apart' (HO364.out) (Kd.S_typed HO_325000.out) (by decide)) (fun k_ hk => ⟨trivial, hk.2⟩))).1 k_ hk_.symm) ?aF ?aO (Below.refl _ _) ?aS ?aL ?_; (case aP => exact Kd.M_row (Kd.R_mono (Kd.R_tight rfl (Kd.R_mono (ok' := fun k_ => ((fun _ => True)) k_ ∧ some k_ ≠ (.slice Ao66 x325000_2.length co66 : Value).ownBlock) (Kd.R_apart' (HO364.out) (Kd.S_typed HO_325000.out) (by decide)) (fun k_ hk => ⟨trivial, hk.2⟩))) (fun _ h_ => h_))); (case aF => exact (fun _ _ => trivial)); (case aO => exact (by (with_reducible repeat (first | apply Kd.S_alloc | apply Kd.S_drewN | apply Kd.S_drew)); exact Kd.S_mono HO_325000.out (fun k_ hk => ⟨trivial, fun e_ => hk.2 e_⟩))); (case aS => exact (keep_size (w := w) (g := g) (row := none) (ke HK))); (case aL => have := LMc62.out; omega); intro v366 w69 ho hb hg hat; rw [← Ny365.out] at ho; replace BK320 := am (blk_grown (g := gb320) (o := .cells #[.slice none 0 0] 26 (0, 0)) (kk BK320) hg (Kd.S_ne HO_325000.out BK320.out (by decide))); replace BK324 := am (blk_grown (g := gb324) (o := .cells #[.slice Ao66 x325000_2.length co66] 26 (0, 0)) (kk BK324) hg (Kd.S_ne HO_325000.out BK324.out (by decide))); replace HI0 := am (IsS85.grown (ii HI0) hg (IsS85.own_neS HI0.out HO_325000.out (by decide))); replace HB := am (below_weaken (bi HB) HL.out hb); replace HK := am (KeepBut.trans (ke HK) (KeepBut.of_grown hg g) (Kd.S_base2 HO_325000.out)); have HO367 := am ho; clear HO_325000 HO364; clear ho hb hg hat; obtain ⟨Ao71, co71, eo71⟩ := Kd.S_slice HO367.out; subst eo71; obtain ⟨_, _⟩ := z1 BK324))
           go_roundg k2
           case measure => have := HK1.out; have := HK2.out; omega
           case rel => exact ⟨(y365), (.slice Ao71 y365.length co71), H', ⟨by have := HK1.out; have := HK2.out; omega⟩, ⟨by (with_reducible repeat (first | apply Kd.S_alloc | apply Kd.S_drewN | apply Kd.S_drew)); exact Kd.S_mono (Kd.S_far (p := ⟨gb324, 0, none⟩) (Kd.S_types HO367.out BK324.out (by decide)) (fun _ hk => hk.2) (.slice Ao71 y365.length co71)) (fun _ hk => trivial)⟩, ⟨by (with_reducible repeat (first | apply blk_drewN | apply blk_drew | apply blk_alloc)); refine blk_far ?_ NB320_324.out _; (with_reducible repeat (first | apply blk_drewN | apply blk_drew | apply blk_alloc)); exact BK320.out⟩, ⟨by (with_reducible repeat (first | apply blk_drewN | apply blk_drew | apply blk_alloc)); refine blk_put (cs := #[.slice Ao66 x325000_2.length co66]) ?_ 0 _ rfl; (with_reducible repeat (first | apply blk_drewN | apply blk_drew | apply blk_alloc)); exact BK324.out⟩, ⟨ii HI0⟩, ⟨ke HK⟩, ⟨bi HB⟩⟩
          ·rw [if_neg c62] at H
           exact absurd H (by simp)
         ·rw [if_neg c61] at H
          have c61b0 : decide ((x325000_2.length : Int) < 17) = false := decide_eq_false c61
          have c61b1 : decide (x325000_2.length < 17) = false := decide_eq_false (by omega)
          clear c61
          simp only [Option.some.injEq, Prod.mk.injEq] at H
          obtain ⟨rfl, rfl, rfl⟩ := H
          have hnb73 := NB324_320.out
          have hnc73 := NB320_324.out
          have hnb74 := NB324_0.out
          have hnc74 := NB0_324.out
          obtain ⟨_, _⟩ := z1 BK324
          obtain ⟨Ao76, co76, eo76⟩ := Kd.S_slice HO_325000.out
          subst eo76
          have hnb77 := NB320_0.out
          have hnc77 := NB0_320.out
          obtain ⟨_, _⟩ := z1 BK320
          go_wp2
          refine bodyPost_ret (results_cell_row rfl _ _ gb320 26 #[.slice Ao76 x325000_2.length co76] (0, 0) _ rfl (by (with_reducible repeat (first | apply blk_drewN | apply blk_drew | apply blk_alloc)); refine blk_put (cs := #[.slice none 0 0]) ?_ 0 _ rfl; (with_reducible repeat (first | apply blk_drewN | apply blk_drew | apply blk_alloc)); exact BK320.out) Tryd.underlying26 rfl (by kernel_rfl)) rfl ?_
          exact ⟨_, by first | rfl | (simp [*, errW_none, errW_some] <;> rfl), by (with_reducible repeat (first | apply Kd.S_alloc | apply Kd.S_drewN | apply Kd.S_drew)); exact Kd.S_mono (Kd.S_far (p := ⟨gb320, 0, none⟩) (Kd.S_types HO_325000.out BK320.out (by decide)) (fun _ hk => hk.2) (.slice Ao76 x325000_2.length co76)) (fun _ hk => trivial), ii HI0, bi HB, ke HK⟩
      ·rw [if_neg c59] at H
       have c59b0 : (t345 == 2) = false := beq_eq_false_iff_ne.mpr c59
       have c59b1 : (t345 != 2) = true := bne_iff_ne.mpr c59
       simp only [Option.some.injEq, Prod.mk.injEq] at H
       obtain ⟨rfl, rfl, rfl⟩ := H
       go_wp2_with (first | ((with_reducible refine gate_callee (f := 95) rfl ?_); refine gL 25 Tryd.func95 #[.pointer (some ⟨g, 0, none⟩), .int .i64 50] ?_; (with_reducible refine (spec_l1Cur_pick.calls g s0_0 x1001_1 x1002_1 50 t345 t346 t347 w0 _ ?side1 ?side2 A29.out).mono ?_); (case side1 => exact ii HI0); (case side2 => exact bi HB); rintro e w79 ⟨rfl, hi, hb, hk⟩; refine ⟨_, rfl, ?_⟩; replace HO_325000 := am (Kd.S_mono (Kd.S_keep (IsS85.apartS (ii HI0) (ss HO_325000) (by decide)) hk (fun _ h => h.2)) (fun _ h => h.1)); replace BK320 := bk hk BK320 NB320_0; replace BK324 := bk hk BK324 NB324_0; replace HK := kT HK hk; replace HB := am hb; replace HI0 := am hi; (try clear hb); (try clear hk); (try clear hi); have hnb80 := NB324_320.out; have hnc80 := NB320_324.out; have hnb81 := NB324_0.out; have hnc81 := NB0_324.out; obtain ⟨_, _⟩ := z1 BK324; obtain ⟨Ao83, co83, eo83⟩ := Kd.S_slice HO_325000.out; subst eo83; have hnb84 := NB320_0.out; have hnc84 := NB0_320.out; obtain ⟨_, _⟩ := z1 BK320))
       refine bodyPost_ret (results_cell_row rfl _ _ gb320 26 #[.slice Ao83 x325000_1.length co83] (0, 0) _ rfl (by (with_reducible repeat (first | apply blk_drewN | apply blk_drew | apply blk_alloc)); refine blk_put (cs := #[.slice none 0 0]) ?_ 0 _ rfl; (with_reducible repeat (first | apply blk_drewN | apply blk_drew | apply blk_alloc)); exact BK320.out) Tryd.underlying26 rfl (by kernel_rfl)) rfl ?_
       exact ⟨_, by first | rfl | (simp [*, errW_none, errW_some] <;> rfl), by (with_reducible repeat (first | apply Kd.S_alloc | apply Kd.S_drewN | apply Kd.S_drew)); exact Kd.S_mono (Kd.S_far (p := ⟨gb320, 0, none⟩) (Kd.S_types HO_325000.out BK320.out (by decide)) (fun _ hk => hk.2) (.slice Ao83 x325000_1.length co83)) (fun _ hk => trivial), ii HI0, bi HB, ke HK⟩
end Go.Proofs.YthnchjgffocigaaDoor.P
end
section
namespace Go.Proofs.YthnchjgffocigaaDoor.P
open Go.RowKit Go.Proofs.YthnchjgffocigaaDoorW.PrintWords Go.Proofs.YthnchjgffocigaaDoorW.PrintLast Go.Proofs.YthnchjgffocigaaDoorW.PrintMore
set_option linter.unusedVariables false
section
variable {w0 w W W1 : World} {g : Nat}
theorem KpB.below (h : KeepBut w W g none) (hb : Below W.heap.size W W1) : KeepBut w W1 g none := KeepBut.trans h (KeepBut.of_below hb g none) (.inl rfl)
theorem BwB.below (h : Below w0.heap.size w0 W) (hb : Below W.heap.size W W1) : Below w0.heap.size w0 W1 := below_step h hb
theorem MmB.below {v : Value} {m : List (List Int)} (h : Kd.S (Kd.slice 5 (Kd.int .u8)) 22 W w.heap.size (fun _ => True) v m) (hb : Below W.heap.size W W1) : Kd.S (Kd.slice 5 (Kd.int .u8)) 22 W1 w.heap.size (fun _ => True) v m := Kd.S_below h hb
end
abbrev C4 (x0 x1 x2 x3 : Int) : Obj := .cells #[.int .i64 x0, .int .i64 x1, .int .i64 x2, .int .i64 x3] 28 (0, 0)
abbrev set4 (W : World) (x : Nat) (a b c d : Int) : World := (((W.setCell ⟨x, 0, none⟩ (.int .i64 a)).setCell ⟨x, 1, none⟩ (.int .i64 b)).setCell ⟨x, 2, none⟩ (.int .i64 c)).setCell ⟨x, 3, none⟩ (.int .i64 d)
structure PIn (w0 w W : World) (g b3 b4 b5 : Nat) (A : Option Addr) (c : Nat) (m : List (List Int)) (l : List Int) (a s : Int) : Prop where
  o3 : W.heap[b3]? = some (.cells #[.slice A m.length c] 26 (0, 0))
  o4 : W.heap[b4]? = some (C4 0 0 0 0)
  o5 : W.heap[b5]? = some (C4 0 0 0 0)
  st : IsS85 w0 W g l a s
  kp : KeepBut w W g none
  bw : Below w0.heap.size w0 W
  d3 : b3 ≠ g
  d4 : b4 ≠ g
  d5 : b5 ≠ g
  e34 : b3 ≠ b4
  e35 : b3 ≠ b5
  e45 : b4 ≠ b5
  z : w0.heap.size ≤ w.heap.size
  h3 : w.heap.size ≤ b3
  h4 : w.heap.size ≤ b4
  h5 : w.heap.size ≤ b5
structure NX (x g b3 b4 b5 n : Nat) : Prop where
  ng : x ≠ g
  n3 : x ≠ b3
  n4 : x ≠ b4
  n5 : x ≠ b5
  h : n ≤ x
section
variable {w0 w W W1 : World} {g b3 b4 b5 x : Nat} {A : Option Addr} {c : Nat} {m : List (List Int)} {l : List Int} {a s a' s' : Int}
theorem PIn.below (h : PIn w0 w W g b3 b4 b5 A c m l a s) (hb : Below W.heap.size W W1) : PIn w0 w W1 g b3 b4 b5 A c m l a s :=
  ⟨blk_below h.o3 hb, blk_below h.o4 hb, blk_below h.o5 hb, h.st.below hb, KpB.below h.kp hb, below_step h.bw hb, h.d3, h.d4, h.d5, h.e34, h.e35, h.e45, h.z, h.h3, h.h4, h.h5⟩
theorem PIn.drew (h : PIn w0 w W g b3 b4 b5 A c m l a s) : PIn w0 w W.drew g b3 b4 b5 A c m l a s :=
  ⟨blk_drew h.o3, blk_drew h.o4, blk_drew h.o5, h.st.drew, keep_drew h.kp, below_drew1 h.bw, h.d3, h.d4, h.d5, h.e34, h.e35, h.e45, h.z, h.h3, h.h4, h.h5⟩
theorem PIn.call (h : PIn w0 w W g b3 b4 b5 A c m l a s) (hi : IsS85 w0 W1 g l a' s') (hb : Below w0.heap.size w0 W1) (hk : KeepBut W W1 g none) : PIn w0 w W1 g b3 b4 b5 A c m l a' s' :=
  ⟨KeepBut.blk hk h.o3 h.d3 (by simp), KeepBut.blk hk h.o4 h.d4 (by simp), KeepBut.blk hk h.o5 h.d5 (by simp), hi, KeepBut.trans h.kp hk (.inl rfl), hb, h.d3, h.d4, h.d5, h.e34, h.e35, h.e45, h.z, h.h3, h.h4, h.h5⟩
theorem PIn.set (h : PIn w0 w W g b3 b4 b5 A c m l a s) (hx : NX x g b3 b4 b5 w.heap.size) (j : Nat) (v : Value) : PIn w0 w (W.setCell ⟨x, j, none⟩ v) g b3 b4 b5 A c m l a s :=
  ⟨blk_far h.o3 hx.n3.symm v, blk_far h.o4 hx.n4.symm v, blk_far h.o5 hx.n5.symm v, IsS85.far h.st hx.ng.symm v, keep_far h.kp hx.h v, below_set h.bw (Nat.le_trans h.z hx.h), h.d3, h.d4, h.d5, h.e34, h.e35, h.e45, h.z, h.h3, h.h4, h.h5⟩
theorem PIn.put (h : PIn w0 w W g b3 b4 b5 A c m l a s) (hx : NX x g b3 b4 b5 w.heap.size) (y0 y1 y2 y3 : Int) : PIn w0 w (set4 W x y0 y1 y2 y3) g b3 b4 b5 A c m l a s :=
  (((h.set hx 0 _).set hx 1 _).set hx 2 _).set hx 3 _
theorem PIn.new (h : PIn w0 w W g b3 b4 b5 A c m l a s) (hx : x = W.heap.size) : NX x g b3 b4 b5 w.heap.size :=
  ⟨by rw [hx]; exact Nat.ne_of_gt h.st.lt, by rw [hx]; exact Nat.ne_of_gt (blk_lt h.o3), by rw [hx]; exact Nat.ne_of_gt (blk_lt h.o4), by rw [hx]; exact Nat.ne_of_gt (blk_lt h.o5), by rw [hx]; exact h.kp.1⟩
theorem st_set (h : IsS85 w0 W g l a s) (hx : x ≠ g) (y0 y1 y2 y3 : Int) : IsS85 w0 (set4 W x y0 y1 y2 y3) g l a s := IsS85.far (IsS85.far (IsS85.far (IsS85.far h hx.symm _) hx.symm _) hx.symm _) hx.symm _
theorem kp_set (h : KeepBut w W g none) (hx : w.heap.size ≤ x) (y0 y1 y2 y3 : Int) : KeepBut w (set4 W x y0 y1 y2 y3) g none := keep_far (keep_far (keep_far (keep_far h hx _) hx _) hx _) hx _
theorem PIn.fin (h : PIn w0 w W g b3 b4 b5 A c m l a s) (x0 x1 x2 x3 y0 y1 y2 y3 : Int) :
    (set4 (set4 W b4 x0 x1 x2 x3) b5 y0 y1 y2 y3).heap[b4]? = some (C4 x0 x1 x2 x3) ∧ (set4 (set4 W b4 x0 x1 x2 x3) b5 y0 y1 y2 y3).heap[b5]? = some (C4 y0 y1 y2 y3) ∧ IsS85 w0 (set4 (set4 W b4 x0 x1 x2 x3) b5 y0 y1 y2 y3) g l a s ∧ Below w0.heap.size w0 (set4 (set4 W b4 x0 x1 x2 x3) b5 y0 y1 y2 y3) ∧ KeepBut w (set4 (set4 W b4 x0 x1 x2 x3) b5 y0 y1 y2 y3) g none :=
  ⟨far4 (put4 h.o4) h.e45, put4 (far4 h.o5 h.e45.symm), st_set (st_set h.st h.d4 _ _ _ _) h.d5 _ _ _ _, bel4 (bel4 h.bw (Nat.le_trans h.z h.h4)) (Nat.le_trans h.z h.h5), kp_set (kp_set h.kp h.h4 _ _ _ _) h.h5 _ _ _ _⟩
end
end Go.Proofs.YthnchjgffocigaaDoor.P
end
section
namespace Go.Proofs.YthnchjgffocigaaDoor.P
open Go.RowKit Go.Proofs.YthnchjgffocigaaDoorW.PrintWords Go.Proofs.YthnchjgffocigaaDoorW.PrintLast Go.Proofs.YthnchjgffocigaaDoorW.PrintMore
set_option linter.unusedVariables false
set_option linter.unusedSimpArgs false
def spec_l2Slice.f (a0_0 : Int) (a0_1 : Int) (a0_2 : Int) (a0_3 : Int) (a1 : Int) (a2 : Int) (a3 : Int) : Option (Int × Int × Int × Int) := some (a0_0, wrap64 (a0_1 + a1), wrap64 (a2 - a1), wrap64 (a3 - a1))
set_option maxHeartbeats 8000000 in
set_option maxRecDepth 100000 in
theorem spec_l2Slice.calls (a0_0 : Int) (a0_1 : Int) (a0_2 : Int) (a0_3 : Int) (a1 : Int) (a2 : Int) (a3 : Int) (r1 : Int) (r2 : Int) (r3 : Int) (r4 : Int) (w : World) (h : spec_l2Slice.f a0_0 a0_1 a0_2 a0_3 a1 a2 a3 = some (r1, r2, r3, r4)) :
    Calls Tryd.prog 97 #[.agg #[.int .i64 a0_0, .int .i64 a0_1, .int .i64 a0_2, .int .i64 a0_3], .int .i64 a1, .int .i64 a2, .int .i64 a3] w fun e w' => e = .returned (.agg #[.int .i64 r1, .int .i64 r2, .int .i64 r3, .int .i64 r4]) ∧ Below w.heap.size w w' := by
 have hu28 := Tryd.underlying28
 have HB := am (Below.refl w.heap.size w)
 have H : (some (a0_0, wrap64 (a0_1 + a1), wrap64 (a2 - a1), wrap64 (a3 - a1))) = some (r1, r2, r3, r4) := h
 clear h
 simp only [Option.some.injEq, Prod.mk.injEq] at H
 obtain ⟨rfl, rfl, rfl, rfl⟩ := H
 go_enter Tryd.func97, Tryd.ntmps97
 go_wp2_with (first | ((with_reducible refine gate_dst (N := 4) rfl ?_); refine bE 4 #[.int .i64 a0_0, .int .i64 a0_1, .int .i64 a0_2, .int .i64 a0_3] 28 ?_; intro gb368 hg w5 hbox hb; have BK368 := am hbox; have GW368 := gB hg HB; have GE368 := gB hg HB; replace HB := hB hb HB; clear hb hbox hg) | ((with_reducible refine gate_dst (N := 8) rfl ?_); refine bE 8 #[.int .i64 0, .int .i64 0, .int .i64 0, .int .i64 0] 28 ?_; intro gb369 hg w6 hbox hb; have BK369 := am hbox; have GW369 := gB hg HB; have GE369 := gB hg HB; replace HB := hB hb HB; have NB368_369 := nL hg BK368; have NB369_368 := nG hg BK368; replace BK368 := bB hb BK368; clear hb hbox hg; have hnb7 := NB368_369.out; have hnc7 := NB369_368.out; obtain ⟨_, _, _, _, _, _, _, _⟩ := z4 BK368; obtain ⟨_, _, _, _, _, _, _, _⟩ := z4 BK369))
 refine bodyPost_ret (results_cell_row rfl _ _ gb369 28 #[.int .i64 a0_0, .int .i64 (wrap64 (a0_1 + a1)), .int .i64 (wrap64 (a2 - a1)), .int .i64 (wrap64 (a3 - a1))] (0, 0) _ rfl (by (with_reducible repeat (first | apply blk_drewN | apply blk_drew | apply blk_alloc)); refine blk_put (cs := #[.int .i64 a0_0, .int .i64 (wrap64 (a0_1 + a1)), .int .i64 (wrap64 (a2 - a1)), .int .i64 0]) ?_ 3 _ rfl; (with_reducible repeat (first | apply blk_drewN | apply blk_drew | apply blk_alloc)); refine blk_put (cs := #[.int .i64 a0_0, .int .i64 (wrap64 (a0_1 + a1)), .int .i64 0, .int .i64 0]) ?_ 2 _ rfl; (with_reducible repeat (first | apply blk_drewN | apply blk_drew | apply blk_alloc)); refine blk_put (cs := #[.int .i64 a0_0, .int .i64 0, .int .i64 0, .int .i64 0]) ?_ 1 _ rfl; (with_reducible repeat (first | apply blk_drewN | apply blk_drew | apply blk_alloc)); refine blk_put (cs := #[.int .i64 0, .int .i64 0, .int .i64 0, .int .i64 0]) ?_ 0 _ rfl; (with_reducible repeat (first | apply blk_drewN | apply blk_drew | apply blk_alloc)); exact BK369.out) Tryd.underlying28 rfl (by kernel_rfl)) rfl ?_
 exact ⟨by first | rfl | (simp [*, errW_none, errW_some] <;> rfl), bs HB⟩
def spec_l1Cur_one.f (s0_0 : List Int) (s0_1 : Int) (s0_2 : Int) (a1 : Int) : Option (Bool × Int × Int) := (spec_l1Cur_pick.f s0_0 s0_1 s0_2 a1).bind fun bt370 => (some ((bt370.1 == 0), bt370.2.1, bt370.2.2))
set_option maxHeartbeats 8000000 in
set_option maxRecDepth 100000 in
theorem spec_l1Cur_one.calls (g : Nat) (s0_0 : List Int) (s0_1 : Int) (s0_2 : Int) (a1 : Int) (r1 : Bool) (r2 : Int) (r3 : Int) (w0 w : World) (hI : IsS85 w0 w g s0_0 s0_1 s0_2) (hB : Below w0.heap.size w0 w) (h : spec_l1Cur_one.f s0_0 s0_1 s0_2 a1 = some (r1, r2, r3)) :
    Calls Tryd.prog 108 #[.pointer (some ⟨g, 0, none⟩), .int .i64 a1] w fun e w' => e = .returned (.bool r1) ∧ IsS85 w0 w' g s0_0 r2 r3 ∧ Below w0.heap.size w0 w' ∧ KeepBut w w' g none := by
 have HI0 := am hI
 have HK := am (KeepBut.refl w g none)
 have HL := am hB.size
 clear hI
 have HW0 := am hB.size
 have HB := am hB
 clear hB
 have H : ((spec_l1Cur_pick.f s0_0 s0_1 s0_2 a1).bind fun bt370 => (some ((bt370.1 == 0), bt370.2.1, bt370.2.2))) = some (r1, r2, r3) := h
 clear h
 replace H := Option.bind_eq_some_iff.mp H
 obtain ⟨⟨t370, t371, t372⟩, A30, H⟩ := H
 try dsimp only at H
 have A3 := am A30
 clear A30
 simp only [Option.some.injEq, Prod.mk.injEq] at H
 obtain ⟨rfl, rfl, rfl⟩ := H
 go_enter Tryd.func108, Tryd.ntmps108
 go_wp2_with (first | ((with_reducible refine gate_callee (f := 95) rfl ?_); refine gL 7 Tryd.func95 #[.pointer (some ⟨g, 0, none⟩), .int .i64 a1] ?_; (with_reducible refine (spec_l1Cur_pick.calls g s0_0 s0_1 s0_2 a1 t370 t371 t372 w0 _ ?side1 ?side2 A3.out).mono ?_); (case side1 => exact ii HI0); (case side2 => exact bi HB); rintro e w4 ⟨rfl, hi, hb, hk⟩; refine ⟨_, rfl, ?_⟩; replace HK := kT HK hk; replace HB := am hb; replace HI0 := am hi; (try clear hb); (try clear hk); (try clear hi)))
 go_ret
 exact ⟨by first | rfl | (simp [*, errW_none, errW_some] <;> rfl), ii HI0, bi HB, ke HK⟩
mutual
def spec_l1Cur_window.j0 : Nat → Bool → List Int → Int → Int → List (List Int) → Option (Int × Int × Int × Int × Int × Int)
  | 0, _, _, _, _, _ => none
  | k + 1, x17, x1000, x1001, x1002, x374000 => if x17 = true then ((spec_l1Cur_among.f x1000 x1001 x1002 (([0, (-1), 16] : List Int))).bind fun bt381 => ((spec_l1Cur_among.f x1000 bt381.2.1 bt381.2.2 (([0, 1] : List Int))).bind fun bt387 => ((spec_l1Cur_among.f x1000 bt387.2.1 bt387.2.2 (([1, 0, 2] : List Int))).bind fun bt393 => (some (bt381.1, bt387.1, 1, bt393.1, bt393.2.1, bt393.2.2))))) else ((spec_l1Least.f (x374000.length : Int) 3).bind fun t396 => ((spec_l1Cur_pick.f x1000 x1001 x1002 t396).bind fun bt397 => (if 0 ≤ bt397.1 then (if bt397.1 < (x374000.length : Int) then ((spec_l1Least.f ((rd_L1 x374000 bt397.1).length : Int) 9).bind fun t401 => ((spec_l1Cur_pick.f x1000 bt397.2.1 bt397.2.2 (wrap64 (t401 + 1))).bind fun bt402 => ((spec_l1Most.f (wrap64 (((rd_L1 x374000 bt397.1).length : Int) - bt402.1)) 0).bind fun t405 => ((spec_l1Cur_pick.f x1000 bt402.2.1 bt402.2.2 (wrap64 (t405 + 1))).bind fun bt406 => ((spec_l1Cur_one.f x1000 bt406.2.1 bt406.2.2 2).bind fun bt409 => (if bt409.1 = true then ((spec_l1Cur_pick.f x1000 bt409.2.1 bt409.2.2 5).bind fun bt412 => ((spec_l1Least.f bt406.1 bt412.1).bind fun t415 => (spec_l1Cur_window.j1 k bt397.1 ((rd_L1 x374000 bt397.1).length : Int) bt402.1 t415 x1000 bt412.2.1 bt412.2.2))) else (spec_l1Cur_window.j1 k bt397.1 ((rd_L1 x374000 bt397.1).length : Int) bt402.1 bt406.1 x1000 bt409.2.1 bt409.2.2))))))) else (none)) else (none))))
def spec_l1Cur_window.j1 : Nat → Int → Int → Int → Int → List Int → Int → Int → Option (Int × Int × Int × Int × Int × Int)
  | 0, _, _, _, _, _, _, _ => none
  | k + 1, x5, x6, x7, x8, x1000, x1001, x1002 => (spec_l1Most.f (wrap64 (x6 - x7)) 0).bind fun t416 => ((spec_l1Cur_one.f x1000 x1001 x1002 3).bind fun bt418 => (if bt418.1 = true then ((spec_l1Cur_pick.f x1000 bt418.2.1 bt418.2.2 (wrap64 ((wrap64 (t416 - x8)) + 1))).bind fun bt421 => (spec_l1Cur_window.j2 k x6 x1000 bt421.2.1 bt421.2.2 x5 x7 x8 (wrap64 (x8 + bt421.1)))) else (spec_l1Cur_window.j2 k x6 x1000 bt418.2.1 bt418.2.2 x5 x7 x8 t416)))
def spec_l1Cur_window.j2 : Nat → Int → List Int → Int → Int → Int → Int → Int → Int → Option (Int × Int × Int × Int × Int × Int)
  | 0, _, _, _, _, _, _, _, _ => none
  | k + 1, x6, x1000, x1001, x1002, x418000, x418001, x418002, x418003 => (spec_l1Cur_pick.f x1000 x1001 x1002 60).bind fun bt424 => (if bt424.1 = 0 then ((spec_l1Cur_among.f x1000 bt424.2.1 bt424.2.2 (([(-1), x6, 4611686018427387904] : List Int))).bind fun bt430 => (some (x418000, bt430.1, x418002, x418003, bt430.2.1, bt430.2.2))) else (if bt424.1 = 1 then ((spec_l1Cur_among.f x1000 bt424.2.1 bt424.2.2 (([(-1), wrap64 (x418003 + 1)] : List Int))).bind fun bt436 => (some (x418000, x418001, bt436.1, x418003, bt436.2.1, bt436.2.2))) else (if bt424.1 = 2 then ((spec_l1Cur_among.f x1000 bt424.2.1 bt424.2.2 (([wrap64 (x418003 + 1), (-1), 4611686018427387904] : List Int))).bind fun bt442 => (some (x418000, x418001, x418002, bt442.1, bt442.2.1, bt442.2.2))) else (some (x418000, x418001, x418002, x418003, bt424.2.1, bt424.2.2)))))
end
def spec_l1Cur_window.f (k : Nat) (s0_0 : List Int) (s0_1 : Int) (s0_2 : Int) (l1_0 : List (List Int)) : Option (Int × Int × Int × Int × Int × Int) := if (l1_0.length : Int) = 0 then (spec_l1Cur_window.j0 k true s0_0 s0_1 s0_2 l1_0) else ((spec_l1Cur_one.f s0_0 s0_1 s0_2 40).bind fun bt375 => (spec_l1Cur_window.j0 k bt375.1 s0_0 bt375.2.1 bt375.2.2 l1_0))
def spec_l1Cur_window.T11 : Bool × List (List Nat × List Nat) := (true, [([], []), ([0], [0]), ([], []), ([], []), ([3], [3]), ([], []), ([5], [5]), ([4, 6], [4, 6]), ([7], [7]), ([2, 8], [2, 8]), ([1, 9], [1, 9]), ([0, 1, 2, 3, 4, 5, 6, 7, 8, 9, 10], []), ([11, 10, 9, 0, 1, 2, 3, 4, 5, 6, 7, 8, 9, 10], [10, 11])])
def spec_l1Cur_window.B11 : List Nat := [0, 1, 0, 0, 8, 0, 32, 120, 248, 508, 1023, 2047, 4095]
theorem spec_l1Cur_window.tab11 : rtab .any (opsOf Tryd.f107 11) = spec_l1Cur_window.T11 := by kernel_rfl
theorem spec_l1Cur_window.bits11 : waitsOk spec_l1Cur_window.T11.2 spec_l1Cur_window.B11 = true := by kernel_rfl
set_option maxHeartbeats 8000000 in
set_option maxRecDepth 100000 in
theorem spec_l1Cur_window.calls (k : Nat) (g : Nat) (s0_0 : List Int) (s0_1 : Int) (s0_2 : Int) (A1_0 : Option Addr) (c1_0 : Nat) (l1_0 : List (List Int)) (r1 : Int) (r2 : Int) (r3 : Int) (r4 : Int) (r5 : Int) (r6 : Int) (w0 w : World) (hI : IsS85 w0 w g s0_0 s0_1 s0_2) (hB : Below w0.heap.size w0 w) (hr1_0 : ∀ W_, KeepBut w W_ g none → Kd.C (Kd.slice 5 (Kd.int .u8)) W_ A1_0 l1_0.length l1_0) (hc1_0 : l1_0.length ≤ c1_0) (h : spec_l1Cur_window.f k s0_0 s0_1 s0_2 l1_0 = some (r1, r2, r3, r4, r5, r6)) :
    Calls Tryd.prog 107 #[.pointer (some ⟨g, 0, none⟩), .agg #[.slice A1_0 l1_0.length c1_0]] w fun e w' => e = .returned (.agg #[.int .i64 r1, .int .i64 r2, .int .i64 r3, .int .i64 r4]) ∧ IsS85 w0 w' g s0_0 r5 r6 ∧ Below w0.heap.size w0 w' ∧ KeepBut w w' g none := by
 have hu26 := Tryd.underlying26
 have hu28 := Tryd.underlying28
 have HR1_0 := am hr1_0
 have HC1_0 := am hc1_0
 clear hr1_0 hc1_0
 have HI0 := am hI
 have HK := am (KeepBut.refl w g none)
 have HL := am hB.size
 clear hI
 have HW0 := am hB.size
 have HB := am hB
 clear hB
 have H : (if (l1_0.length : Int) = 0 then (spec_l1Cur_window.j0 k true s0_0 s0_1 s0_2 l1_0) else ((spec_l1Cur_one.f s0_0 s0_1 s0_2 40).bind fun bt375 => (spec_l1Cur_window.j0 k bt375.1 s0_0 bt375.2.1 bt375.2.2 l1_0))) = some (r1, r2, r3, r4, r5, r6) := h
 clear h
 have HC3 := am H
 clear H
 go_enter Tryd.func107, Tryd.ntmps107
 go_upto_region 1 with (first | ((with_reducible refine gate_dst (N := 3) rfl ?_); refine bE 3 #[.slice A1_0 l1_0.length c1_0] 26 ?_; intro gb373 hg w4 hbox hb; replace HB := hB hb HB; have BK373 := am hbox; have GW373 := gK hg HK; replace HK := kB hb HK; have GE373 := gT HW0 GW373; have NB0_373 := nLI hg HI0; have NB373_0 := nGI hg HI0; replace HI0 := iB hb HI0; clear hb hbox hg) | ((with_reducible refine gate_dst (N := 4) rfl ?_); refine bE 4 #[.int .i64 0, .int .i64 0, .int .i64 0, .int .i64 0] 28 ?_; intro gb374 hg w5 hbox hb; replace HB := hB hb HB; have BK374 := am hbox; have GW374 := gK hg HK; replace HK := kB hb HK; have GE374 := gT HW0 GW374; have NB373_374 := nL hg BK373; have NB374_373 := nG hg BK373; replace BK373 := bB hb BK373; have NB0_374 := nLI hg HI0; have NB374_0 := nGI hg HI0; replace HI0 := iB hb HI0; clear hb hbox hg))
 (try simp only [Act.put, List.setIfInBounds_toArray, List.set_cons_zero, List.set_cons_succ])
 go_cut [17] (fun v17 wc => ∃ (kq : Nat) (x17_2 : Bool) (x1001_2 : Int) (x1002_2 : Int), v17 = .bool x17_2 ∧ Aside0 (spec_l1Cur_window.j0 kq x17_2 s0_0 x1001_2 x1002_2 l1_0 = some (r1, r2, r3, r4, r5, r6)) ∧ Aside0 (kq ≤ k) ∧ Aside0 (wc.heap[gb373]? = some (.cells #[(.slice A1_0 l1_0.length c1_0)] 26 (0, 0))) ∧ Aside0 (wc.heap[gb374]? = some (.cells #[.int .i64 0, .int .i64 0, .int .i64 0, .int .i64 0] 28 (0, 0))) ∧ Aside0 (IsS85 w0 wc g s0_0 x1001_2 x1002_2) ∧ Aside0 (KeepBut w wc g none) ∧ Aside0 (Below w0.heap.size w0 wc))
 case first =>
  have H := HC3.out
  clear HC3
  by_cases c6 : (l1_0.length : Int) = 0
  ·rw [if_pos c6] at H
   have c6b0 : ((l1_0.length : Int) == 0) = true := beq_iff_eq.mpr c6
   have c6b1 : ((l1_0.length : Int) != 0) = false := bne_eq_false_iff_eq.mpr c6
   clear c6
   (first | rw [c6b0] | (simp only [i64_w, i32_w]; rw [c6b0]) | skip)
   have H' := am H
   clear H
   have hnb7 := NB373_374.out
   have hnc7 := NB374_373.out
   have hnb8 := NB373_0.out
   have hnc8 := NB0_373.out
   obtain ⟨_, _⟩ := z1 BK373
   go_wp2
   go_meet
   case rel => exact ⟨_, (true), (s0_1), (s0_2), (by first | rfl | (simp; done) | (simp [*]; done)), H', ⟨by first | omega | exact Nat.le_refl _⟩, ⟨kk BK373⟩, ⟨kk BK374⟩, ⟨ii HI0⟩, ⟨ke HK⟩, ⟨bi HB⟩⟩
  ·rw [if_neg c6] at H
   have c6b0 : ((l1_0.length : Int) == 0) = false := beq_eq_false_iff_ne.mpr c6
   have c6b1 : ((l1_0.length : Int) != 0) = true := bne_iff_ne.mpr c6
   have c6b2 : ¬ (l1_0 = []) := fun h_ => c6 (by rw [h_]; rfl)
   (first | rw [c6b0] | (simp only [i64_w, i32_w]; rw [c6b0]) | skip)
   replace H := Option.bind_eq_some_iff.mp H
   obtain ⟨⟨t375, t376, t377⟩, A100, H⟩ := H
   try dsimp only at H
   have A10 := am A100
   clear A100
   have H' := am H
   clear H
   have hnb11 := NB373_374.out
   have hnc11 := NB374_373.out
   have hnb12 := NB373_0.out
   have hnc12 := NB0_373.out
   obtain ⟨_, _⟩ := z1 BK373
   go_wp2_with (first | (go_at_call 108; (with_reducible refine (spec_l1Cur_one.calls g s0_0 s0_1 s0_2 40 t375 t376 t377 w0 _ ?side1 ?side2 A10.out).mono ?_); (case side1 => exact ii HI0); (case side2 => exact bi HB); rintro e w14 ⟨rfl, hi, hb, hk⟩; replace BK373 := bk hk BK373 NB373_0; replace BK374 := bk hk BK374 NB374_0; replace HK := kT HK hk; replace HB := am hb; replace HI0 := am hi; (try clear hb); (try clear hk); (try clear hi)))
   go_meet
   case rel => exact ⟨_, (t375), (t376), (t377), (by first | rfl | (simp; done) | (simp [*]; done)), H', ⟨by first | omega | exact Nat.le_refl _⟩, ⟨kk BK373⟩, ⟨kk BK374⟩, ⟨ii HI0⟩, ⟨ke HK⟩, ⟨bi HB⟩⟩
 case rest =>
  clear HC3
  try clear c1
  try clear p2
  try clear c6
  try clear c6b0
  try clear c6b1
  try clear c6b2
  try clear c7
  try clear c8
  try clear c10
  try clear c11
  try clear c12
  obtain ⟨kq, x17_2, x1001_2, x1002_2, rfl, HA, HJ2, BK373, BK374, HI0, HK, HB⟩ := hcut
  cases kq with
  | zero => exact absurd HA.out (by simp [spec_l1Cur_window.j0])
  | succ kj2 =>
   have H := HA.out
   clear HA
   simp only [spec_l1Cur_window.j0] at H
   by_cases c15 : x17_2 = true
   ·subst c15
    have H1 : ((spec_l1Cur_among.f s0_0 x1001_2 x1002_2 (([0, (-1), 16] : List Int))).bind fun bt381 => ((spec_l1Cur_among.f s0_0 bt381.2.1 bt381.2.2 (([0, 1] : List Int))).bind fun bt387 => ((spec_l1Cur_among.f s0_0 bt387.2.1 bt387.2.2 (([1, 0, 2] : List Int))).bind fun bt393 => (some (bt381.1, bt387.1, 1, bt393.1, bt393.2.1, bt393.2.2))))) = some (r1, r2, r3, r4, r5, r6) := by rw [if_pos rfl] at H; exact H
    clear H
    have H := H1
    clear H1
    obtain ⟨y378, hy378⟩ : ∃ y_ : List Int, y_ = (([0, (-1), 16] : List Int)) := ⟨_, rfl⟩
    replace H : ((spec_l1Cur_among.f s0_0 x1001_2 x1002_2 y378).bind fun bt381 => ((spec_l1Cur_among.f s0_0 bt381.2.1 bt381.2.2 (([0, 1] : List Int))).bind fun bt387 => ((spec_l1Cur_among.f s0_0 bt387.2.1 bt387.2.2 (([1, 0, 2] : List Int))).bind fun bt393 => (some (bt381.1, bt387.1, 1, bt393.1, bt393.2.1, bt393.2.2))))) = some (r1, r2, r3, r4, r5, r6) := by first | (rw [hy378]; with_reducible exact H) | (have H2_ := (Option.bind_some _ _).symm.trans H; rw [hy378]; with_reducible exact H2_) | (have H2_ := (Option.bind_some _ _).symm.trans H; with_reducible exact H2_) | with_reducible exact H | (rw [hy378]; exact H) | exact H
    have Ny378 := am hy378
    clear hy378
    replace H := Option.bind_eq_some_iff.mp H
    obtain ⟨⟨t381, t382, t383⟩, A160, H⟩ := H
    try dsimp only at H
    have A16 := am A160
    clear A160
    obtain ⟨y384, hy384⟩ : ∃ y_ : List Int, y_ = (([0, 1] : List Int)) := ⟨_, rfl⟩
    replace H : ((spec_l1Cur_among.f s0_0 t382 t383 y384).bind fun bt387 => ((spec_l1Cur_among.f s0_0 bt387.2.1 bt387.2.2 (([1, 0, 2] : List Int))).bind fun bt393 => (some (t381, bt387.1, 1, bt393.1, bt393.2.1, bt393.2.2)))) = some (r1, r2, r3, r4, r5, r6) := by first | (rw [hy384]; with_reducible exact H) | (have H2_ := (Option.bind_some _ _).symm.trans H; rw [hy384]; with_reducible exact H2_) | (have H2_ := (Option.bind_some _ _).symm.trans H; with_reducible exact H2_) | with_reducible exact H | (rw [hy384]; exact H) | exact H
    have Ny384 := am hy384
    clear hy384
    replace H := Option.bind_eq_some_iff.mp H
    obtain ⟨⟨t387, t388, t389⟩, A170, H⟩ := H
    try dsimp only at H
    have A17 := am A170
    clear A170
    obtain ⟨y390, hy390⟩ : ∃ y_ : List Int, y_ = (([1, 0, 2] : List Int)) := ⟨_, rfl⟩
    replace H : ((spec_l1Cur_among.f s0_0 t388 t389 y390).bind fun bt393 => (some (t381, t387, 1, bt393.1, bt393.2.1, bt393.2.2))) = some (r1, r2, r3, r4, r5, r6) := by first | (rw [hy390]; with_reducible exact H) | (have H2_ := (Option.bind_some _ _).symm.trans H; rw [hy390]; with_reducible exact H2_) | (have H2_ := (Option.bind_some _ _).symm.trans H; with_reducible exact H2_) | with_reducible exact H | (rw [hy390]; exact H) | exact H
    have Ny390 := am hy390
    clear hy390
    replace H := Option.bind_eq_some_iff.mp H
    obtain ⟨⟨t393, t394, t395⟩, A180, H⟩ := H
    try dsimp only at H
    have A18 := am A180
    clear A180
    simp only [Option.some.injEq, Prod.mk.injEq] at H
    obtain ⟨rfl, rfl, rfl, rfl, rfl, rfl⟩ := H
    go_wp2_with (first | ((with_reducible refine gate_dst (N := 19) rfl ?_); refine Kd.R_lit (Kd.int .i64) _ 3 ?hg (N := 19) ?hd (xs := ([0, (-1), 16] : List Int)) (inner := [.int .i64 0, .int .i64 (-1), .int .i64 16]) (ok := fun _ => True) (okp := fun _ => True) ?hr ?hp (fun _ hk => hk) trivial (Below.refl _ _) (Nat.le_refl _) (by simp) ?_; (case hd => rfl); (case hg => rfl); (case hr => first | (go_simp; done) | (go_simp; rfl)); (case hp => exact (Reps.one (show Kd.M (Kd.int .i64) _ _ _ 0 [.int .i64 0] from rfl) (Reps.one (show Kd.M (Kd.int .i64) _ _ _ (-1) [.int .i64 (-1)] from rfl) (Reps.one (show Kd.M (Kd.int .i64) _ _ _ 16 [.int .i64 16] from rfl) (Reps.none _ _))))); intro v379 w19 ho20 hb hg_ hnew_; clear hg_ hnew_; (first | rw [← Ny378.out] at ho20 | (simp only [Int.reduceToNat] at ho20; rw [← Ny378.out] at ho20)); have HO380 := am (Kd.R_lower ho20 (keep_size (w := w) (g := g) (row := none) (ke HK))); replace BK373 := bB hb BK373; replace BK374 := bB hb BK374; replace HI0 := iB hb HI0; replace HK := kB hb HK; replace HB := hB hb HB; clear hb ho20; obtain ⟨Ao21, co21, eo21⟩ := Kd.R_slice HO380.out; subst eo21) | ((with_reducible refine gate_callee (f := 102) rfl ?_); refine gL 20 Tryd.func102 #[.pointer (some ⟨g, 0, none⟩), .slice Ao21 y378.length co21] ?_; (with_reducible refine (spec_l1Cur_among.calls g s0_0 x1001_2 x1002_2 _ _ y378 t381 t382 t383 w0 _ ?side1 ?side2 ?side3 ?side4 ?side5 A16.out).mono ?_); (case side1 => exact ii HI0); (case side2 => exact bi HB); (case side3 => exact cc (Kd.R_reads' HO380.out).2.2); (case side4 => exact (Kd.R_reads' HO380.out).2.1); (case side5 => exact far_slice (IsS85.own_ne HI0.out HO380.out (by decide))); rintro e w22 ⟨rfl, hi, hb, hk⟩; refine ⟨_, rfl, ?_⟩; replace BK373 := bk hk BK373 NB373_0; replace BK374 := bk hk BK374 NB374_0; replace HO380 := am (Kd.R_mono (Kd.R_keep (IsS85.apart (ii HI0) (rr HO380) (by decide)) hk (fun _ h => h.2)) (fun _ h => h.1)); replace HK := kT HK hk; replace HB := am hb; replace HI0 := am hi; (try clear hb); (try clear hk); (try clear hi)) | ((with_reducible refine gate_dst (N := 22) rfl ?_); refine Kd.R_lit (Kd.int .i64) _ 3 ?hg (N := 22) ?hd (xs := ([0, 1] : List Int)) (inner := [.int .i64 0, .int .i64 1]) (ok := fun _ => True) (okp := fun _ => True) ?hr ?hp (fun _ hk => hk) trivial (Below.refl _ _) (Nat.le_refl _) (by simp) ?_; (case hd => rfl); (case hg => rfl); (case hr => first | (go_simp; done) | (go_simp; rfl)); (case hp => exact (Reps.one (show Kd.M (Kd.int .i64) _ _ _ 0 [.int .i64 0] from rfl) (Reps.one (show Kd.M (Kd.int .i64) _ _ _ 1 [.int .i64 1] from rfl) (Reps.none _ _)))); intro v385 w23 ho24 hb hg_ hnew_; clear hg_ hnew_; (first | rw [← Ny384.out] at ho24 | (simp only [Int.reduceToNat] at ho24; rw [← Ny384.out] at ho24)); have HO386 := am (Kd.R_lower (Kd.R_new' ho24 (Kd.R_lt (rr HO380))) (keep_size (w := w) (g := g) (row := none) (ke HK))); replace HO380 := am (Kd.R_elder' (rr HO380) (Kd.R_base ho24) hb); replace BK373 := bB hb BK373; replace BK374 := bB hb BK374; replace HI0 := iB hb HI0; replace HK := kB hb HK; replace HB := hB hb HB; clear hb ho24; obtain ⟨Ao25, co25, eo25⟩ := Kd.R_slice HO386.out; subst eo25) | ((with_reducible refine gate_callee (f := 102) rfl ?_); refine gL 23 Tryd.func102 #[.pointer (some ⟨g, 0, none⟩), .slice Ao25 y384.length co25] ?_; (with_reducible refine (spec_l1Cur_among.calls g s0_0 t382 t383 _ _ y384 t387 t388 t389 w0 _ ?side1 ?side2 ?side3 ?side4 ?side5 A17.out).mono ?_); (case side1 => exact ii HI0); (case side2 => exact bi HB); (case side3 => exact cc (Kd.R_reads' HO386.out).2.2); (case side4 => exact (Kd.R_reads' HO386.out).2.1); (case side5 => exact far_slice (IsS85.own_ne HI0.out HO386.out (by decide))); rintro e w26 ⟨rfl, hi, hb, hk⟩; refine ⟨_, rfl, ?_⟩; replace BK373 := bk hk BK373 NB373_0; replace BK374 := bk hk BK374 NB374_0; replace HO380 := am (Kd.R_mono (Kd.R_keep (IsS85.apart (ii HI0) (rr HO380) (by decide)) hk (fun _ h => h.2)) (fun _ h => h.1)); replace HO386 := am (Kd.R_mono (Kd.R_keep (IsS85.apart (ii HI0) (rr HO386) (by decide)) hk (fun _ h => h.2)) (fun _ h => h.1)); replace HK := kT HK hk; replace HB := am hb; replace HI0 := am hi; (try clear hb); (try clear hk); (try clear hi)) | ((with_reducible refine gate_dst (N := 25) rfl ?_); refine Kd.R_lit (Kd.int .i64) _ 3 ?hg (N := 25) ?hd (xs := ([1, 0, 2] : List Int)) (inner := [.int .i64 1, .int .i64 0, .int .i64 2]) (ok := fun _ => True) (okp := fun _ => True) ?hr ?hp (fun _ hk => hk) trivial (Below.refl _ _) (Nat.le_refl _) (by simp) ?_; (case hd => rfl); (case hg => rfl); (case hr => first | (go_simp; done) | (go_simp; rfl)); (case hp => exact (Reps.one (show Kd.M (Kd.int .i64) _ _ _ 1 [.int .i64 1] from rfl) (Reps.one (show Kd.M (Kd.int .i64) _ _ _ 0 [.int .i64 0] from rfl) (Reps.one (show Kd.M (Kd.int .i64) _ _ _ 2 [.int .i64 2] from rfl) (Reps.none _ _))))); intro v391 w27 ho28 hb hg_ hnew_; clear hg_ hnew_; (first | rw [← Ny390.out] at ho28 | (simp only [Int.reduceToNat] at ho28; rw [← Ny390.out] at ho28)); have HO392 := am (Kd.R_lower (Kd.R_new' (Kd.R_new' ho28 (Kd.R_lt (rr HO380))) (Kd.R_lt (rr HO386))) (keep_size (w := w) (g := g) (row := none) (ke HK))); replace HO380 := am (Kd.R_elder' (rr HO380) (Kd.R_base ho28) hb); replace HO386 := am (Kd.R_elder' (rr HO386) (Kd.R_base ho28) hb); replace BK373 := bB hb BK373; replace BK374 := bB hb BK374; replace HI0 := iB hb HI0; replace HK := kB hb HK; replace HB := hB hb HB; clear hb ho28; obtain ⟨Ao29, co29, eo29⟩ := Kd.R_slice HO392.out; subst eo29) | ((with_reducible refine gate_callee (f := 102) rfl ?_); refine gL 26 Tryd.func102 #[.pointer (some ⟨g, 0, none⟩), .slice Ao29 y390.length co29] ?_; (with_reducible refine (spec_l1Cur_among.calls g s0_0 t388 t389 _ _ y390 t393 t394 t395 w0 _ ?side1 ?side2 ?side3 ?side4 ?side5 A18.out).mono ?_); (case side1 => exact ii HI0); (case side2 => exact bi HB); (case side3 => exact cc (Kd.R_reads' HO392.out).2.2); (case side4 => exact (Kd.R_reads' HO392.out).2.1); (case side5 => exact far_slice (IsS85.own_ne HI0.out HO392.out (by decide))); rintro e w30 ⟨rfl, hi, hb, hk⟩; refine ⟨_, rfl, ?_⟩; replace BK373 := bk hk BK373 NB373_0; replace BK374 := bk hk BK374 NB374_0; replace HO380 := am (Kd.R_mono (Kd.R_keep (IsS85.apart (ii HI0) (rr HO380) (by decide)) hk (fun _ h => h.2)) (fun _ h => h.1)); replace HO386 := am (Kd.R_mono (Kd.R_keep (IsS85.apart (ii HI0) (rr HO386) (by decide)) hk (fun _ h => h.2)) (fun _ h => h.1)); replace HO392 := am (Kd.R_mono (Kd.R_keep (IsS85.apart (ii HI0) (rr HO392) (by decide)) hk (fun _ h => h.2)) (fun _ h => h.1)); replace HK := kT HK hk; replace HB := am hb; replace HI0 := am hi; (try clear hb); (try clear hk); (try clear hi); have hnb31 := NB374_373.out; have hnc31 := NB373_374.out; have hnb32 := NB374_0.out; have hnc32 := NB0_374.out; obtain ⟨_, _, _, _, _, _, _, _⟩ := z4 BK374))
    refine bodyPost_ret (results_cell_row rfl _ _ gb374 28 #[.int .i64 t381, .int .i64 t387, .int .i64 1, .int .i64 t393] (0, 0) _ rfl (by (with_reducible repeat (first | apply blk_drewN | apply blk_drew | apply blk_alloc)); refine blk_put (cs := #[.int .i64 t381, .int .i64 t387, .int .i64 1, .int .i64 0]) ?_ 3 _ rfl; (with_reducible repeat (first | apply blk_drewN | apply blk_drew | apply blk_alloc)); refine blk_put (cs := #[.int .i64 t381, .int .i64 t387, .int .i64 0, .int .i64 0]) ?_ 2 _ rfl; (with_reducible repeat (first | apply blk_drewN | apply blk_drew | apply blk_alloc)); refine blk_put (cs := #[.int .i64 t381, .int .i64 0, .int .i64 0, .int .i64 0]) ?_ 1 _ rfl; (with_reducible repeat (first | apply blk_drewN | apply blk_drew | apply blk_alloc)); refine blk_put (cs := #[.int .i64 0, .int .i64 0, .int .i64 0, .int .i64 0]) ?_ 0 _ rfl; (with_reducible repeat (first | apply blk_drewN | apply blk_drew | apply blk_alloc)); exact BK374.out) Tryd.underlying28 rfl (by kernel_rfl)) rfl ?_
    exact ⟨by first | rfl | (simp [*, errW_none, errW_some] <;> rfl), ii HI0, bi HB, ke HK⟩
   ·replace c15 := Bool.eq_false_iff.mpr c15
    subst c15
    have H1 : ((spec_l1Least.f (l1_0.length : Int) 3).bind fun t396 => ((spec_l1Cur_pick.f s0_0 x1001_2 x1002_2 t396).bind fun bt397 => (if 0 ≤ bt397.1 then (if bt397.1 < (l1_0.length : Int) then ((spec_l1Least.f ((rd_L1 l1_0 bt397.1).length : Int) 9).bind fun t401 => ((spec_l1Cur_pick.f s0_0 bt397.2.1 bt397.2.2 (wrap64 (t401 + 1))).bind fun bt402 => ((spec_l1Most.f (wrap64 (((rd_L1 l1_0 bt397.1).length : Int) - bt402.1)) 0).bind fun t405 => ((spec_l1Cur_pick.f s0_0 bt402.2.1 bt402.2.2 (wrap64 (t405 + 1))).bind fun bt406 => ((spec_l1Cur_one.f s0_0 bt406.2.1 bt406.2.2 2).bind fun bt409 => (if bt409.1 = true then ((spec_l1Cur_pick.f s0_0 bt409.2.1 bt409.2.2 5).bind fun bt412 => ((spec_l1Least.f bt406.1 bt412.1).bind fun t415 => (spec_l1Cur_window.j1 kj2 bt397.1 ((rd_L1 l1_0 bt397.1).length : Int) bt402.1 t415 s0_0 bt412.2.1 bt412.2.2))) else (spec_l1Cur_window.j1 kj2 bt397.1 ((rd_L1 l1_0 bt397.1).length : Int) bt402.1 bt406.1 s0_0 bt409.2.1 bt409.2.2))))))) else (none)) else (none)))) = some (r1, r2, r3, r4, r5, r6) := by rw [if_neg (show ¬ (false = true) by decide)] at H; exact H
    clear H
    have H := H1
    clear H1
    replace H := Option.bind_eq_some_iff.mp H
    obtain ⟨t396, A340, H⟩ := H
    try dsimp only at H
    have A34 := am A340
    clear A340
    replace H := Option.bind_eq_some_iff.mp H
    obtain ⟨⟨t397, t398, t399⟩, A350, H⟩ := H
    try dsimp only at H
    have A35 := am A350
    clear A350
    by_cases c36 : 0 ≤ t397
    ·rw [if_pos c36] at H
     have c36b0 : decide (0 ≤ t397) = true := decide_eq_true c36
     clear c36
     by_cases c37 : t397 < (l1_0.length : Int)
     ·rw [if_pos c37] at H
      have c37b0 : decide (t397 < (l1_0.length : Int)) = true := decide_eq_true c37
      clear c37
      replace H := Option.bind_eq_some_iff.mp H
      obtain ⟨t401, A380, H⟩ := H
      try dsimp only at H
      have A38 := am A380
      clear A380
      replace H := Option.bind_eq_some_iff.mp H
      obtain ⟨⟨t402, t403, t404⟩, A390, H⟩ := H
      try dsimp only at H
      have A39 := am A390
      clear A390
      replace H := Option.bind_eq_some_iff.mp H
      obtain ⟨t405, A400, H⟩ := H
      try dsimp only at H
      have A40 := am A400
      clear A400
      replace H := Option.bind_eq_some_iff.mp H
      obtain ⟨⟨t406, t407, t408⟩, A410, H⟩ := H
      try dsimp only at H
      have A41 := am A410
      clear A410
      replace H := Option.bind_eq_some_iff.mp H
      obtain ⟨⟨t409, t410, t411⟩, A420, H⟩ := H
      try dsimp only at H
      have A42 := am A420
      clear A420
      have HC43 := am H
      clear H
      have hnb44 := NB373_374.out
      have hnc44 := NB374_373.out
      have hnb45 := NB373_0.out
      have hnc45 := NB0_373.out
      obtain ⟨_, _⟩ := z1 BK373
      go_upto_if 53 with (first | ((with_reducible refine gate_callee (f := 111) rfl ?_); refine gL 32 Tryd.func111 #[.int .i64 (l1_0.length : Int), .int .i64 3] ?_; (with_reducible refine (spec_l1Least.calls (l1_0.length : Int) 3 t396 _ A34.out).mono ?_); rintro e w' ⟨rfl, ⟨nd, rfl⟩⟩; refine ⟨_, rfl, ?_⟩) | ((with_reducible refine gate_callee (f := 95) rfl ?_); refine gL 33 Tryd.func95 #[.pointer (some ⟨g, 0, none⟩), .int .i64 t396] ?_; (with_reducible refine (spec_l1Cur_pick.calls g s0_0 x1001_2 x1002_2 t396 t397 t398 t399 w0 _ ?side1 ?side2 A35.out).mono ?_); (case side1 => exact ii HI0); (case side2 => exact bi HB); rintro e w47 ⟨rfl, hi, hb, hk⟩; refine ⟨_, rfl, ?_⟩; replace BK373 := bk hk BK373 NB373_0; replace BK374 := bk hk BK374 NB374_0; replace HK := kT HK hk; replace HB := am hb; replace HI0 := am hi; (try clear hb); (try clear hk); (try clear hi); obtain ⟨_, _⟩ := z1 BK373; have p400 : 0 ≤ (t397 : Int) := of_decide_eq_true (by assumption); have q400 : t397 < (l1_0.length : Int) := of_decide_eq_true (by assumption); obtain ⟨ad400, A400_0, c400_0, e400, hx400_0, hl400_0, hi400_0⟩ := at_L1 (Kd.C_foot_now HR1_0.out HK.out) t397 p400 q400; cases e400; have HR400_0 := am hi400_0; have HC400_0 := am hl400_0; clear hi400_0 hl400_0; replace p400 := eq_true p400; replace q400 := eq_true q400) | ((with_reducible refine gate_callee (f := 111) rfl ?_); refine gL 42 Tryd.func111 #[.int .i64 ((rd_L1 l1_0 t397).length : Int), .int .i64 9] ?_; (with_reducible refine (spec_l1Least.calls ((rd_L1 l1_0 t397).length : Int) 9 t401 _ A38.out).mono ?_); rintro e w' ⟨rfl, ⟨nd, rfl⟩⟩; refine ⟨_, rfl, ?_⟩) | ((with_reducible refine gate_callee (f := 95) rfl ?_); refine gL 44 Tryd.func95 #[.pointer (some ⟨g, 0, none⟩), .int .i64 (wrap64 (t401 + 1))] ?_; (with_reducible refine (spec_l1Cur_pick.calls g s0_0 t398 t399 (wrap64 (t401 + 1)) t402 t403 t404 w0 _ ?side1 ?side2 A39.out).mono ?_); (case side1 => exact ii HI0); (case side2 => exact bi HB); rintro e w49 ⟨rfl, hi, hb, hk⟩; refine ⟨_, rfl, ?_⟩; replace BK373 := bk hk BK373 NB373_0; replace BK374 := bk hk BK374 NB374_0; replace HK := kT HK hk; replace HB := am hb; replace HI0 := am hi; (try clear hb); (try clear hk); (try clear hi)) | ((with_reducible refine gate_callee (f := 67) rfl ?_); refine gL 49 Tryd.func67 #[.int .i64 (wrap64 (((rd_L1 l1_0 t397).length : Int) - t402)), .int .i64 0] ?_; (with_reducible refine (spec_l1Most.calls (wrap64 (((rd_L1 l1_0 t397).length : Int) - t402)) 0 t405 _ A40.out).mono ?_); rintro e w' ⟨rfl, ⟨nd, rfl⟩⟩; refine ⟨_, rfl, ?_⟩) | ((with_reducible refine gate_callee (f := 95) rfl ?_); refine gL 51 Tryd.func95 #[.pointer (some ⟨g, 0, none⟩), .int .i64 (wrap64 (t405 + 1))] ?_; (with_reducible refine (spec_l1Cur_pick.calls g s0_0 t403 t404 (wrap64 (t405 + 1)) t406 t407 t408 w0 _ ?side1 ?side2 A41.out).mono ?_); (case side1 => exact ii HI0); (case side2 => exact bi HB); rintro e w50 ⟨rfl, hi, hb, hk⟩; refine ⟨_, rfl, ?_⟩; replace BK373 := bk hk BK373 NB373_0; replace BK374 := bk hk BK374 NB374_0; replace HK := kT HK hk; replace HB := am hb; replace HI0 := am hi; (try clear hb); (try clear hk); (try clear hi)) | ((with_reducible refine gate_callee (f := 108) rfl ?_); refine gL 53 Tryd.func108 #[.pointer (some ⟨g, 0, none⟩), .int .i64 2] ?_; (with_reducible refine (spec_l1Cur_one.calls g s0_0 t407 t408 2 t409 t410 t411 w0 _ ?side1 ?side2 A42.out).mono ?_); (case side1 => exact ii HI0); (case side2 => exact bi HB); rintro e w51 ⟨rfl, hi, hb, hk⟩; refine ⟨_, rfl, ?_⟩; replace BK373 := bk hk BK373 NB373_0; replace BK374 := bk hk BK374 NB374_0; replace HK := kT HK hk; replace HB := am hb; replace HI0 := am hi; (try clear hb); (try clear hk); (try clear hi)))
      (try simp only [Act.put, List.setIfInBounds_toArray, List.set_cons_zero, List.set_cons_succ])
      go_cut [8] (fun v8 wc => ∃ (kq : Nat) (x8_42 : Int) (x1001_42 : Int) (x1002_42 : Int), v8 = .int .i64 x8_42 ∧ Aside0 (spec_l1Cur_window.j1 kq t397 ((rd_L1 l1_0 t397).length : Int) t402 x8_42 s0_0 x1001_42 x1002_42 = some (r1, r2, r3, r4, r5, r6)) ∧ Aside0 (kq ≤ kj2) ∧ Aside0 (wc.heap[gb373]? = some (.cells #[(.slice (some ad400) l1_0.length c1_0)] 26 (0, 0))) ∧ Aside0 (wc.heap[gb374]? = some (.cells #[.int .i64 0, .int .i64 0, .int .i64 0, .int .i64 0] 28 (0, 0))) ∧ Aside0 (IsS85 w0 wc g s0_0 x1001_42 x1002_42) ∧ Aside0 (KeepBut w wc g none) ∧ Aside0 (Below w0.heap.size w0 wc))
      case first =>
       have H := HC43.out
       clear HC43
       by_cases c52 : t409 = true
       ·subst c52
        have H1 : ((spec_l1Cur_pick.f s0_0 t410 t411 5).bind fun bt412 => ((spec_l1Least.f t406 bt412.1).bind fun t415 => (spec_l1Cur_window.j1 kj2 t397 ((rd_L1 l1_0 t397).length : Int) t402 t415 s0_0 bt412.2.1 bt412.2.2))) = some (r1, r2, r3, r4, r5, r6) := by rw [if_pos rfl] at H; exact H
        clear H
        have H := H1
        clear H1
        replace H := Option.bind_eq_some_iff.mp H
        obtain ⟨⟨t412, t413, t414⟩, A530, H⟩ := H
        try dsimp only at H
        have A53 := am A530
        clear A530
        replace H := Option.bind_eq_some_iff.mp H
        obtain ⟨t415, A540, H⟩ := H
        try dsimp only at H
        have A54 := am A540
        clear A540
        have H' := am H
        clear H
        go_wp2_with (first | ((with_reducible refine gate_callee (f := 95) rfl ?_); refine gL 56 Tryd.func95 #[.pointer (some ⟨g, 0, none⟩), .int .i64 5] ?_; (with_reducible refine (spec_l1Cur_pick.calls g s0_0 t410 t411 5 t412 t413 t414 w0 _ ?side1 ?side2 A53.out).mono ?_); (case side1 => exact ii HI0); (case side2 => exact bi HB); rintro e w55 ⟨rfl, hi, hb, hk⟩; refine ⟨_, rfl, ?_⟩; replace BK373 := bk hk BK373 NB373_0; replace BK374 := bk hk BK374 NB374_0; replace HK := kT HK hk; replace HB := am hb; replace HI0 := am hi; (try clear hb); (try clear hk); (try clear hi)) | ((with_reducible refine gate_callee (f := 111) rfl ?_); refine gL 57 Tryd.func111 #[.int .i64 t406, .int .i64 t412] ?_; (with_reducible refine (spec_l1Least.calls t406 t412 t415 _ A54.out).mono ?_); rintro e w' ⟨rfl, ⟨nd, rfl⟩⟩; refine ⟨_, rfl, ?_⟩))
        go_meet
        case rel => exact ⟨_, (t415), (t413), (t414), (by first | rfl | (simp; done) | (simp [*]; done)), H', ⟨by have := HJ2.out; first | omega | exact Nat.le_refl _⟩, ⟨kk BK373⟩, ⟨kk BK374⟩, ⟨ii HI0⟩, ⟨ke HK⟩, ⟨bi HB⟩⟩
       ·replace c52 := Bool.eq_false_iff.mpr c52
        subst c52
        have H1 : (spec_l1Cur_window.j1 kj2 t397 ((rd_L1 l1_0 t397).length : Int) t402 t406 s0_0 t410 t411) = some (r1, r2, r3, r4, r5, r6) := by rw [if_neg (show ¬ (false = true) by decide)] at H; exact H
        clear H
        have H := H1
        clear H1
        have H' := am H
        clear H
        go_wp2
        go_meet
        case rel => exact ⟨_, (t406), (t410), (t411), (by first | rfl | (simp; done) | (simp [*]; done)), H', ⟨by have := HJ2.out; first | omega | exact Nat.le_refl _⟩, ⟨kk BK373⟩, ⟨kk BK374⟩, ⟨ii HI0⟩, ⟨ke HK⟩, ⟨bi HB⟩⟩
      case rest =>
       clear HC43
       try clear c1
       try clear p2
       try clear c3
       try clear c4
       try clear p4
       try clear q4
       try clear hx4
       try clear c5
       try clear c6
       try clear c6b0
       try clear c6b1
       try clear c6b2
       try clear p6
       try clear c7
       try clear c8
       try clear c9
       try clear c10
       try clear c11
       try clear c12
       try clear c15
       try clear c31
       try clear c32
       try clear c36
       try clear c36b0
       try clear c37
       try clear c37b0
       try clear c40
       try clear p40
       try clear q40
       try clear hx40
       try clear c44
       try clear c45
       try clear c52
       try clear hx400_0
       try clear p2
       try clear p400
       try clear q400
       obtain ⟨kq, x8_42, x1001_42, x1002_42, rfl, HA, HJ42, BK373, BK374, HI0, HK, HB⟩ := hcut
       cases kq with
       | zero => exact absurd HA.out (by simp [spec_l1Cur_window.j1])
       | succ kj42 =>
        have H := HA.out
        clear HA
        simp only [spec_l1Cur_window.j1] at H
        replace H := Option.bind_eq_some_iff.mp H
        obtain ⟨t416, A560, H⟩ := H
        try dsimp only at H
        have A56 := am A560
        clear A560
        replace H := Option.bind_eq_some_iff.mp H
        obtain ⟨⟨t418, t419, t420⟩, A570, H⟩ := H
        try dsimp only at H
        have A57 := am A570
        clear A570
        have HC58 := am H
        clear H
        go_upto_if 67 with (first | ((with_reducible refine gate_callee (f := 67) rfl ?_); refine gL 64 Tryd.func67 #[.int .i64 (wrap64 (((rd_L1 l1_0 t397).length : Int) - t402)), .int .i64 0] ?_; (with_reducible refine (spec_l1Most.calls (wrap64 (((rd_L1 l1_0 t397).length : Int) - t402)) 0 t416 _ A56.out).mono ?_); rintro e w' ⟨rfl, ⟨nd, rfl⟩⟩; refine ⟨_, rfl, ?_⟩; (try (rw [drewN_self wc]; generalize hq_ : World.drewN wc _ = wc; have n0_ : Aside0 (wc.heap[gb373]? = some (.cells #[.slice (some ad400) l1_0.length c1_0] 26 (0, 0))) := ⟨by rw [← hq_]; exact (kk BK373)⟩; have n1_ : Aside0 (wc.heap[gb374]? = some (.cells #[.int .i64 0, .int .i64 0, .int .i64 0, .int .i64 0] 28 (0, 0))) := ⟨by rw [← hq_]; exact (kk BK374)⟩; have n2_ : Aside0 (IsS85 w0 wc g s0_0 x1001_42 x1002_42) := ⟨by rw [← hq_]; exact (ii HI0)⟩; have n3_ : Aside0 (KeepBut w wc g none) := ⟨by rw [← hq_]; exact (ke HK)⟩; have n4_ : Aside0 (Below w0.heap.size w0 wc) := ⟨by rw [← hq_]; exact (bi HB)⟩; clear BK373 BK374 HI0 HK HB hq_; have BK373 := n0_; have BK374 := n1_; have HI0 := n2_; have HK := n3_; have HB := n4_; clear n0_ n1_ n2_ n3_ n4_))) | ((with_reducible refine gate_dst (N := 9) rfl ?_); refine bE 9 #[.int .i64 0, .int .i64 0, .int .i64 0, .int .i64 0] 28 ?_; intro gb417 hg w59 hbox hb; replace HB := hB hb HB; have BK417 := am hbox; have GW417 := gK hg HK; replace HK := kB hb HK; have GE417 := gT HW0 GW417; have NB373_417 := nL hg BK373; have NB417_373 := nG hg BK373; replace BK373 := bB hb BK373; have NB374_417 := nL hg BK374; have NB417_374 := nG hg BK374; replace BK374 := bB hb BK374; have NB0_417 := nLI hg HI0; have NB417_0 := nGI hg HI0; replace HI0 := iB hb HI0; clear hb hbox hg; have hnb60 := NB417_373.out; have hnc60 := NB373_417.out; have hnb61 := NB417_374.out; have hnc61 := NB374_417.out; have hnb62 := NB417_0.out; have hnc62 := NB0_417.out; obtain ⟨_, _, _, _, _, _, _, _⟩ := z4 BK417) | ((with_reducible refine gate_callee (f := 108) rfl ?_); refine gL 67 Tryd.func108 #[.pointer (some ⟨g, 0, none⟩), .int .i64 3] ?_; (with_reducible refine (spec_l1Cur_one.calls g s0_0 x1001_42 x1002_42 3 t418 t419 t420 w0 _ ?side1 ?side2 A57.out).mono ?_); (case side1 => exact ii HI0); (case side2 => exact bi HB); rintro e w64 ⟨rfl, hi, hb, hk⟩; refine ⟨_, rfl, ?_⟩; replace BK373 := am (KeepBut.blk hk (g' := gb373) (o := .cells #[.slice (some ad400) l1_0.length c1_0] 26 (0, 0)) (by (with_reducible repeat (first | apply blk_drewN | apply blk_drew | apply blk_alloc)); refine blk_far ?_ NB373_417.out _; (with_reducible repeat (first | apply blk_drewN | apply blk_drew | apply blk_alloc)); refine blk_far ?_ NB373_417.out _; (with_reducible repeat (first | apply blk_drewN | apply blk_drew | apply blk_alloc)); refine blk_far ?_ NB373_417.out _; (with_reducible repeat (first | apply blk_drewN | apply blk_drew | apply blk_alloc)); refine blk_far ?_ NB373_417.out _; (with_reducible repeat (first | apply blk_drewN | apply blk_drew | apply blk_alloc)); exact BK373.out) NB373_0.out (by simp)); replace BK374 := am (KeepBut.blk hk (g' := gb374) (o := .cells #[.int .i64 0, .int .i64 0, .int .i64 0, .int .i64 0] 28 (0, 0)) (by (with_reducible repeat (first | apply blk_drewN | apply blk_drew | apply blk_alloc)); refine blk_far ?_ NB374_417.out _; (with_reducible repeat (first | apply blk_drewN | apply blk_drew | apply blk_alloc)); refine blk_far ?_ NB374_417.out _; (with_reducible repeat (first | apply blk_drewN | apply blk_drew | apply blk_alloc)); refine blk_far ?_ NB374_417.out _; (with_reducible repeat (first | apply blk_drewN | apply blk_drew | apply blk_alloc)); refine blk_far ?_ NB374_417.out _; (with_reducible repeat (first | apply blk_drewN | apply blk_drew | apply blk_alloc)); exact BK374.out) NB374_0.out (by simp)); replace BK417 := am (KeepBut.blk hk (g' := gb417) (o := .cells #[.int .i64 t397, .int .i64 t402, .int .i64 x8_42, .int .i64 t416] 28 (0, 0)) (by (with_reducible repeat (first | apply blk_drewN | apply blk_drew | apply blk_alloc)); refine blk_put (cs := #[.int .i64 t397, .int .i64 t402, .int .i64 x8_42, .int .i64 0]) ?_ 3 _ rfl; (with_reducible repeat (first | apply blk_drewN | apply blk_drew | apply blk_alloc)); refine blk_put (cs := #[.int .i64 t397, .int .i64 t402, .int .i64 0, .int .i64 0]) ?_ 2 _ rfl; (with_reducible repeat (first | apply blk_drewN | apply blk_drew | apply blk_alloc)); refine blk_put (cs := #[.int .i64 t397, .int .i64 0, .int .i64 0, .int .i64 0]) ?_ 1 _ rfl; (with_reducible repeat (first | apply blk_drewN | apply blk_drew | apply blk_alloc)); refine blk_put (cs := #[.int .i64 0, .int .i64 0, .int .i64 0, .int .i64 0]) ?_ 0 _ rfl; (with_reducible repeat (first | apply blk_drewN | apply blk_drew | apply blk_alloc)); exact BK417.out) NB417_0.out (by simp)); replace HK := kT HK hk; replace HB := am hb; replace HI0 := am hi; (try clear hb); (try clear hk); (try clear hi)))
        (try simp only [Act.put, List.setIfInBounds_toArray, List.set_cons_zero, List.set_cons_succ])
        go_cut [] (fun wc => ∃ (kq : Nat) (x1001_57 : Int) (x1002_57 : Int) (x418003_57 : Int), Aside0 (spec_l1Cur_window.j2 kq ((rd_L1 l1_0 t397).length : Int) s0_0 x1001_57 x1002_57 t397 t402 x8_42 x418003_57 = some (r1, r2, r3, r4, r5, r6)) ∧ Aside0 (kq ≤ kj42) ∧ Aside0 (wc.heap[gb373]? = some (.cells #[(.slice (some ad400) l1_0.length c1_0)] 26 (0, 0))) ∧ Aside0 (wc.heap[gb374]? = some (.cells #[.int .i64 0, .int .i64 0, .int .i64 0, .int .i64 0] 28 (0, 0))) ∧ Aside0 (wc.heap[gb417]? = some (.cells #[.int .i64 t397, .int .i64 t402, .int .i64 x8_42, .int .i64 x418003_57] 28 (0, 0))) ∧ Aside0 (IsS85 w0 wc g s0_0 x1001_57 x1002_57) ∧ Aside0 (KeepBut w wc g none) ∧ Aside0 (Below w0.heap.size w0 wc))
        case first =>
         have H := HC58.out
         clear HC58
         by_cases c65 : t418 = true
         ·subst c65
          have H1 : ((spec_l1Cur_pick.f s0_0 t419 t420 (wrap64 ((wrap64 (t416 - x8_42)) + 1))).bind fun bt421 => (spec_l1Cur_window.j2 kj42 ((rd_L1 l1_0 t397).length : Int) s0_0 bt421.2.1 bt421.2.2 t397 t402 x8_42 (wrap64 (x8_42 + bt421.1)))) = some (r1, r2, r3, r4, r5, r6) := by rw [if_pos rfl] at H; exact H
          clear H
          have H := H1
          clear H1
          replace H := Option.bind_eq_some_iff.mp H
          obtain ⟨⟨t421, t422, t423⟩, A660, H⟩ := H
          try dsimp only at H
          have A66 := am A660
          clear A660
          have H' := am H
          clear H
          try go_wp2
          replace BK373 := am (blk_drew BK373.out)
          replace BK374 := am (blk_drew BK374.out)
          replace BK417 := am (blk_drew BK417.out)
          replace HI0 := am (IsS85.drew HI0.out)
          replace HK := am (keep_drew HK.out)
          replace HB := am (below_drew1 HB.out)
          refine start_ (n := 13) (S := fun w' => w'.cell? ⟨gb417, 0, none⟩ = some (.int .i64 t397) ∧ w'.cell? ⟨gb417, 1, none⟩ = some (.int .i64 t402) ∧ w'.cell? ⟨gb417, 2, none⟩ = some (.int .i64 x8_42) ∧ w'.cell? ⟨gb417, 3, none⟩ = some (.int .i64 t416)) (ds := [12]) #[ff, ff, ff, ff, ff, ff, ff, ff, ff, ff, ff, ff, ff] (by kernel_rfl) rfl rfl ⟨(blk_cell BK417.out 0).trans rfl, (blk_cell BK417.out 1).trans rfl, (blk_cell BK417.out 2).trans rfl, (blk_cell BK417.out 3).trans rfl⟩ (fun hHeld => ?_); refine with_tabW spec_l1Cur_window.tab11 spec_l1Cur_window.bits11 (fun HT_ HW_ => ?_)
          generalize w64.drew = w67 at BK373 BK374 BK417 HI0 HK HB hHeld ⊢
          refine pS 0 68 HT_ ?_
          refine pS 2 70 HT_ ?_
          refine pS 3 71 HT_ ?_
          refine pS 5 73 HT_ ?_
          refine tS 1 69 HT_ HW_ hHeld ?_
          refine tS 4 72 HT_ HW_ hHeld ?_
          refine tS 6 74 HT_ HW_ hHeld ?_
          refine pS 7 75 HT_ ?_
          refine pS 8 76 HT_ ?_
          refine one_ (i := 9) (N := some 77) #[tt, tt, tt, tt, tt, tt, tt, tt, tt, tt, ff, ff, ff] rfl rfl (one_of HT_.out (by kernel_rfl)) (by decide) (fun K hK => ?_)
          refine goes_ Tryd.func95 (by kernel_rfl) rfl #[.pointer (some ⟨g, 0, none⟩), .int .i64 (wrap64 ((wrap64 (t416 - x8_42)) + 1))] (by rfl) rfl rfl (by (try simp only [List.map_toArray, List.map_cons, List.map_nil]); first | done | rfl | (simp only [List.length_drop, List.length_take]; rfl)) ?_
          with_reducible refine (spec_l1Cur_pick.calls g s0_0 t419 t420 (wrap64 ((wrap64 (t416 - x8_42)) + 1)) t421 t422 t423 w0 _ ?side1 ?side2 A66.out).mono ?_
          (case side1 => exact ii HI0)
          (case side2 => exact bi HB)
          rintro e w68 ⟨rfl, hi, hb, hk⟩
          refine ⟨_, rfl, ?_⟩
          replace BK373 := bk hk BK373 NB373_0
          replace BK374 := bk hk BK374 NB374_0
          replace BK417 := bk hk BK417 NB417_0
          replace HK := kT HK hk
          replace HB := am hb
          replace HI0 := am hi
          (try clear hb)
          (try clear hb2)
          (try clear hk)
          (try clear hi)
          refine hK.out _ _ ⟨(blk_cell BK417.out 0).trans rfl, (blk_cell BK417.out 1).trans rfl, (blk_cell BK417.out 2).trans rfl, (blk_cell BK417.out 3).trans rfl⟩ (fun hHeld => ?_)
          clear hK K
          refine nP 77 ?_
          refine pS 10 78 HT_ ?_
          refine pS 11 79 HT_ ?_
          refine last_ (i := 12) (N := none) #[tt, tt, tt, tt, tt, tt, tt, tt, tt, tt, tt, tt, tt] rfl rfl (one_of HT_.out (by kernel_rfl)) (by decide) (fun K hK => ?_)
          have hs69 : w68.cell? ⟨gb417, 3, none⟩ = some (.int .i64 t416) := (blk_cell BK417.out 3).trans rfl
          have hfs69 := blk_frozen BK417.out 3
          have hns69_0 := NB373_417.out
          have hns69_1 := NB374_417.out
          have hms69_0 := NB417_373.out
          have hms69_1 := NB417_374.out
          refine skip_ (w1 := ?_) (by rfl) rfl ?_ ?_
          rotate_left
          ·go_simp
           rfl
          refine hK.out _ _ ?_
          clear hK K
          refine done_ (done_of HT_.out (by kernel_rfl)) ?_
          try go_wp2
          go_meet
          case rel => exact ⟨_, (t422), (t423), (wrap64 (x8_42 + t421)), H', ⟨by have := HJ2.out; have := HJ42.out; first | omega | exact Nat.le_refl _⟩, ⟨by (with_reducible repeat (first | apply blk_drewN | apply blk_drew | apply blk_alloc)); refine blk_far ?_ NB373_417.out _; (with_reducible repeat (first | apply blk_drewN | apply blk_drew | apply blk_alloc)); exact BK373.out⟩, ⟨by (with_reducible repeat (first | apply blk_drewN | apply blk_drew | apply blk_alloc)); refine blk_far ?_ NB374_417.out _; (with_reducible repeat (first | apply blk_drewN | apply blk_drew | apply blk_alloc)); exact BK374.out⟩, ⟨by (with_reducible repeat (first | apply blk_drewN | apply blk_drew | apply blk_alloc)); refine blk_put (cs := #[.int .i64 t397, .int .i64 t402, .int .i64 x8_42, .int .i64 t416]) ?_ 3 _ rfl; (with_reducible repeat (first | apply blk_drewN | apply blk_drew | apply blk_alloc)); exact BK417.out⟩, ⟨ii HI0⟩, ⟨ke HK⟩, ⟨bi HB⟩⟩
         ·replace c65 := Bool.eq_false_iff.mpr c65
          subst c65
          have H1 : (spec_l1Cur_window.j2 kj42 ((rd_L1 l1_0 t397).length : Int) s0_0 t419 t420 t397 t402 x8_42 t416) = some (r1, r2, r3, r4, r5, r6) := by rw [if_neg (show ¬ (false = true) by decide)] at H; exact H
          clear H
          have H := H1
          clear H1
          have H' := am H
          clear H
          go_wp2
          go_meet
          case rel => exact ⟨_, (t419), (t420), (t416), H', ⟨by have := HJ2.out; have := HJ42.out; first | omega | exact Nat.le_refl _⟩, ⟨kk BK373⟩, ⟨kk BK374⟩, ⟨kk BK417⟩, ⟨ii HI0⟩, ⟨ke HK⟩, ⟨bi HB⟩⟩
        case rest =>
         clear HC58
         try clear c1
         try clear p2
         try clear c3
         try clear c4
         try clear p4
         try clear q4
         try clear hx4
         try clear c5
         try clear c6
         try clear c6b0
         try clear c6b1
         try clear c6b2
         try clear p6
         try clear c7
         try clear c8
         try clear c9
         try clear c10
         try clear c11
         try clear c12
         try clear c15
         try clear c31
         try clear c32
         try clear c36
         try clear c36b0
         try clear c37
         try clear c37b0
         try clear c40
         try clear p40
         try clear q40
         try clear hx40
         try clear c44
         try clear c45
         try clear c52
         try clear c60
         try clear c61
         try clear c62
         try clear p64
         try clear c65
         try clear c67
         try clear hx400_0
         try clear p2
         try clear p4
         try clear p40
         try clear p400
         try clear p6
         try clear q4
         try clear q40
         try clear q400
         obtain ⟨kq, x1001_57, x1002_57, x418003_57, HA, HJ57, BK373, BK374, BK417, HI0, HK, HB⟩ := hcut
         cases kq with
         | zero => exact absurd HA.out (by simp [spec_l1Cur_window.j2])
         | succ kj57 =>
          have H := HA.out
          clear HA
          simp only [spec_l1Cur_window.j2] at H
          replace H := Option.bind_eq_some_iff.mp H
          obtain ⟨⟨t424, t425, t426⟩, A700, H⟩ := H
          try dsimp only at H
          have A70 := am A700
          clear A700
          by_cases c71 : t424 = 0
          ·rw [if_pos c71] at H
           have c71b0 : (t424 == 0) = true := beq_iff_eq.mpr c71
           have c71b1 : (t424 != 0) = false := bne_eq_false_iff_eq.mpr c71
           clear c71
           obtain ⟨y427, hy427⟩ : ∃ y_ : List Int, y_ = (([(-1), ((rd_L1 l1_0 t397).length : Int), 4611686018427387904] : List Int)) := ⟨_, rfl⟩
           replace H : ((spec_l1Cur_among.f s0_0 t425 t426 y427).bind fun bt430 => (some (t397, bt430.1, x8_42, x418003_57, bt430.2.1, bt430.2.2))) = some (r1, r2, r3, r4, r5, r6) := by first | (rw [hy427]; with_reducible exact H) | (have H2_ := (Option.bind_some _ _).symm.trans H; rw [hy427]; with_reducible exact H2_) | (have H2_ := (Option.bind_some _ _).symm.trans H; with_reducible exact H2_) | with_reducible exact H | (rw [hy427]; exact H) | exact H
           have Ny427 := am hy427
           clear hy427
           replace H := Option.bind_eq_some_iff.mp H
           obtain ⟨⟨t430, t431, t432⟩, A720, H⟩ := H
           try dsimp only at H
           have A72 := am A720
           clear A720
           simp only [Option.some.injEq, Prod.mk.injEq] at H
           obtain ⟨rfl, rfl, rfl, rfl, rfl, rfl⟩ := H
           go_wp2_with (first | ((with_reducible refine gate_callee (f := 95) rfl ?_); refine gL 81 Tryd.func95 #[.pointer (some ⟨g, 0, none⟩), .int .i64 60] ?_; (with_reducible refine (spec_l1Cur_pick.calls g s0_0 x1001_57 x1002_57 60 t424 t425 t426 w0 _ ?side1 ?side2 A70.out).mono ?_); (case side1 => exact ii HI0); (case side2 => exact bi HB); rintro e w73 ⟨rfl, hi, hb, hk⟩; refine ⟨_, rfl, ?_⟩; replace BK373 := bk hk BK373 NB373_0; replace BK374 := bk hk BK374 NB374_0; replace BK417 := bk hk BK417 NB417_0; replace HK := kT HK hk; replace HB := am hb; replace HI0 := am hi; (try clear hb); (try clear hk); (try clear hi)) | ((with_reducible refine gate_dst (N := 86) rfl ?_); refine Kd.R_lit (Kd.int .i64) _ 3 ?hg (N := 86) ?hd (xs := ([(-1), ((rd_L1 l1_0 t397).length : Int), 4611686018427387904] : List Int)) (inner := [.int .i64 (-1), .int .i64 ((rd_L1 l1_0 t397).length : Int), .int .i64 4611686018427387904]) (ok := fun _ => True) (okp := fun _ => True) ?hr ?hp (fun _ hk => hk) trivial (Below.refl _ _) (Nat.le_refl _) (by simp) ?_; (case hd => rfl); (case hg => rfl); (case hr => first | (go_simp; done) | (go_simp; rfl)); (case hp => exact (Reps.one (show Kd.M (Kd.int .i64) _ _ _ (-1) [.int .i64 (-1)] from rfl) (Reps.one (show Kd.M (Kd.int .i64) _ _ _ ((rd_L1 l1_0 t397).length : Int) [.int .i64 ((rd_L1 l1_0 t397).length : Int)] from rfl) (Reps.one (show Kd.M (Kd.int .i64) _ _ _ 4611686018427387904 [.int .i64 4611686018427387904] from rfl) (Reps.none _ _))))); intro v428 w74 ho75 hb hg_ hnew_; clear hg_ hnew_; (first | rw [← Ny427.out] at ho75 | (simp only [Int.reduceToNat] at ho75; rw [← Ny427.out] at ho75)); have HO429 := am (Kd.R_lower ho75 (keep_size (w := w) (g := g) (row := none) (ke HK))); replace BK373 := bB hb BK373; replace BK374 := bB hb BK374; replace BK417 := bB hb BK417; replace HI0 := iB hb HI0; replace HK := kB hb HK; replace HB := hB hb HB; clear hb ho75; obtain ⟨Ao76, co76, eo76⟩ := Kd.R_slice HO429.out; subst eo76) | ((with_reducible refine gate_callee (f := 102) rfl ?_); refine gL 87 Tryd.func102 #[.pointer (some ⟨g, 0, none⟩), .slice Ao76 y427.length co76] ?_; (with_reducible refine (spec_l1Cur_among.calls g s0_0 t425 t426 _ _ y427 t430 t431 t432 w0 _ ?side1 ?side2 ?side3 ?side4 ?side5 A72.out).mono ?_); (case side1 => exact ii HI0); (case side2 => exact bi HB); (case side3 => exact cc (Kd.R_reads' HO429.out).2.2); (case side4 => exact (Kd.R_reads' HO429.out).2.1); (case side5 => exact far_slice (IsS85.own_ne HI0.out HO429.out (by decide))); rintro e w77 ⟨rfl, hi, hb, hk⟩; refine ⟨_, rfl, ?_⟩; replace BK373 := bk hk BK373 NB373_0; replace BK374 := bk hk BK374 NB374_0; replace BK417 := bk hk BK417 NB417_0; replace HO429 := am (Kd.R_mono (Kd.R_keep (IsS85.apart (ii HI0) (rr HO429) (by decide)) hk (fun _ h => h.2)) (fun _ h => h.1)); replace HK := kT HK hk; replace HB := am hb; replace HI0 := am hi; (try clear hb); (try clear hk); (try clear hi); have hnb78 := NB417_373.out; have hnc78 := NB373_417.out; have hnb79 := NB417_374.out; have hnc79 := NB374_417.out; have hnb80 := NB417_0.out; have hnc80 := NB0_417.out; obtain ⟨_, _, _, _, _, _, _, _⟩ := z4 BK417; have hnb82 := NB374_373.out; have hnc82 := NB373_374.out; have hnb83 := NB374_0.out; have hnc83 := NB0_374.out; obtain ⟨_, _, _, _, _, _, _, _⟩ := z4 BK374))
           refine bodyPost_ret (results_cell_row rfl _ _ gb374 28 #[.int .i64 t397, .int .i64 t430, .int .i64 x8_42, .int .i64 x418003_57] (0, 0) _ rfl (by (with_reducible repeat (first | apply blk_drewN | apply blk_drew | apply blk_alloc)); refine blk_put (cs := #[.int .i64 t397, .int .i64 t430, .int .i64 x8_42, .int .i64 0]) ?_ 3 _ rfl; (with_reducible repeat (first | apply blk_drewN | apply blk_drew | apply blk_alloc)); refine blk_put (cs := #[.int .i64 t397, .int .i64 t430, .int .i64 0, .int .i64 0]) ?_ 2 _ rfl; (with_reducible repeat (first | apply blk_drewN | apply blk_drew | apply blk_alloc)); refine blk_put (cs := #[.int .i64 t397, .int .i64 0, .int .i64 0, .int .i64 0]) ?_ 1 _ rfl; (with_reducible repeat (first | apply blk_drewN | apply blk_drew | apply blk_alloc)); refine blk_put (cs := #[.int .i64 0, .int .i64 0, .int .i64 0, .int .i64 0]) ?_ 0 _ rfl; (with_reducible repeat (first | apply blk_drewN | apply blk_drew | apply blk_alloc)); refine blk_far ?_ NB374_417.out _; (with_reducible repeat (first | apply blk_drewN | apply blk_drew | apply blk_alloc)); exact BK374.out) Tryd.underlying28 rfl (by kernel_rfl)) rfl ?_
           exact ⟨by first | rfl | (simp [*, errW_none, errW_some] <;> rfl), ii HI0, bi HB, ke HK⟩
          ·rw [if_neg c71] at H
           have c71b0 : (t424 == 0) = false := beq_eq_false_iff_ne.mpr c71
           have c71b1 : (t424 != 0) = true := bne_iff_ne.mpr c71
           by_cases c85 : t424 = 1
           ·rw [if_pos c85] at H
            have c85b0 : (t424 == 1) = true := beq_iff_eq.mpr c85
            have c85b1 : (t424 != 1) = false := bne_eq_false_iff_eq.mpr c85
            clear c85
            obtain ⟨y433, hy433⟩ : ∃ y_ : List Int, y_ = (([(-1), wrap64 (x418003_57 + 1)] : List Int)) := ⟨_, rfl⟩
            replace H : ((spec_l1Cur_among.f s0_0 t425 t426 y433).bind fun bt436 => (some (t397, t402, bt436.1, x418003_57, bt436.2.1, bt436.2.2))) = some (r1, r2, r3, r4, r5, r6) := by first | (rw [hy433]; with_reducible exact H) | (have H2_ := (Option.bind_some _ _).symm.trans H; rw [hy433]; with_reducible exact H2_) | (have H2_ := (Option.bind_some _ _).symm.trans H; with_reducible exact H2_) | with_reducible exact H | (rw [hy433]; exact H) | exact H
            have Ny433 := am hy433
            clear hy433
            replace H := Option.bind_eq_some_iff.mp H
            obtain ⟨⟨t436, t437, t438⟩, A860, H⟩ := H
            try dsimp only at H
            have A86 := am A860
            clear A860
            simp only [Option.some.injEq, Prod.mk.injEq] at H
            obtain ⟨rfl, rfl, rfl, rfl, rfl, rfl⟩ := H
            go_wp2_with (first | ((with_reducible refine gate_callee (f := 95) rfl ?_); refine gL 81 Tryd.func95 #[.pointer (some ⟨g, 0, none⟩), .int .i64 60] ?_; (with_reducible refine (spec_l1Cur_pick.calls g s0_0 x1001_57 x1002_57 60 t424 t425 t426 w0 _ ?side1 ?side2 A70.out).mono ?_); (case side1 => exact ii HI0); (case side2 => exact bi HB); rintro e w87 ⟨rfl, hi, hb, hk⟩; refine ⟨_, rfl, ?_⟩; replace BK373 := bk hk BK373 NB373_0; replace BK374 := bk hk BK374 NB374_0; replace BK417 := bk hk BK417 NB417_0; replace HK := kT HK hk; replace HB := am hb; replace HI0 := am hi; (try clear hb); (try clear hk); (try clear hi); have hnb88 := NB417_373.out; have hnc88 := NB373_417.out; have hnb89 := NB417_374.out; have hnc89 := NB374_417.out; have hnb90 := NB417_0.out; have hnc90 := NB0_417.out; obtain ⟨_, _, _, _, _, _, _, _⟩ := z4 BK417) | ((with_reducible refine gate_dst (N := 95) rfl ?_); refine Kd.R_lit (Kd.int .i64) _ 3 ?hg (N := 95) ?hd (xs := ([(-1), wrap64 (x418003_57 + 1)] : List Int)) (inner := [.int .i64 (-1), .int .i64 (wrap64 (x418003_57 + 1))]) (ok := fun _ => True) (okp := fun _ => True) ?hr ?hp (fun _ hk => hk) trivial (Below.refl _ _) (Nat.le_refl _) (by simp) ?_; (case hd => rfl); (case hg => rfl); (case hr => first | (go_simp; done) | (go_simp; rfl)); (case hp => exact (Reps.one (show Kd.M (Kd.int .i64) _ _ _ (-1) [.int .i64 (-1)] from rfl) (Reps.one (show Kd.M (Kd.int .i64) _ _ _ (wrap64 (x418003_57 + 1)) [.int .i64 (wrap64 (x418003_57 + 1))] from rfl) (Reps.none _ _)))); intro v434 w92 ho93 hb hg_ hnew_; clear hg_ hnew_; (first | rw [← Ny433.out] at ho93 | (simp only [Int.reduceToNat] at ho93; rw [← Ny433.out] at ho93)); have HO435 := am (Kd.R_lower ho93 (keep_size (w := w) (g := g) (row := none) (ke HK))); replace BK373 := bB hb BK373; replace BK374 := bB hb BK374; replace BK417 := bB hb BK417; replace HI0 := iB hb HI0; replace HK := kB hb HK; replace HB := hB hb HB; clear hb ho93; obtain ⟨Ao94, co94, eo94⟩ := Kd.R_slice HO435.out; subst eo94) | ((with_reducible refine gate_callee (f := 102) rfl ?_); refine gL 96 Tryd.func102 #[.pointer (some ⟨g, 0, none⟩), .slice Ao94 y433.length co94] ?_; (with_reducible refine (spec_l1Cur_among.calls g s0_0 t425 t426 _ _ y433 t436 t437 t438 w0 _ ?side1 ?side2 ?side3 ?side4 ?side5 A86.out).mono ?_); (case side1 => exact ii HI0); (case side2 => exact bi HB); (case side3 => exact cc (Kd.R_reads' HO435.out).2.2); (case side4 => exact (Kd.R_reads' HO435.out).2.1); (case side5 => exact far_slice (IsS85.own_ne HI0.out HO435.out (by decide))); rintro e w95 ⟨rfl, hi, hb, hk⟩; refine ⟨_, rfl, ?_⟩; replace BK373 := bk hk BK373 NB373_0; replace BK374 := bk hk BK374 NB374_0; replace BK417 := bk hk BK417 NB417_0; replace HO435 := am (Kd.R_mono (Kd.R_keep (IsS85.apart (ii HI0) (rr HO435) (by decide)) hk (fun _ h => h.2)) (fun _ h => h.1)); replace HK := kT HK hk; replace HB := am hb; replace HI0 := am hi; (try clear hb); (try clear hk); (try clear hi); obtain ⟨_, _, _, _, _, _, _, _⟩ := z4 BK417; have hnb97 := NB374_373.out; have hnc97 := NB373_374.out; have hnb98 := NB374_0.out; have hnc98 := NB0_374.out; obtain ⟨_, _, _, _, _, _, _, _⟩ := z4 BK374))
            refine bodyPost_ret (results_cell_row rfl _ _ gb374 28 #[.int .i64 t397, .int .i64 t402, .int .i64 t436, .int .i64 x418003_57] (0, 0) _ rfl (by (with_reducible repeat (first | apply blk_drewN | apply blk_drew | apply blk_alloc)); refine blk_put (cs := #[.int .i64 t397, .int .i64 t402, .int .i64 t436, .int .i64 0]) ?_ 3 _ rfl; (with_reducible repeat (first | apply blk_drewN | apply blk_drew | apply blk_alloc)); refine blk_put (cs := #[.int .i64 t397, .int .i64 t402, .int .i64 0, .int .i64 0]) ?_ 2 _ rfl; (with_reducible repeat (first | apply blk_drewN | apply blk_drew | apply blk_alloc)); refine blk_put (cs := #[.int .i64 t397, .int .i64 0, .int .i64 0, .int .i64 0]) ?_ 1 _ rfl; (with_reducible repeat (first | apply blk_drewN | apply blk_drew | apply blk_alloc)); refine blk_put (cs := #[.int .i64 0, .int .i64 0, .int .i64 0, .int .i64 0]) ?_ 0 _ rfl; (with_reducible repeat (first | apply blk_drewN | apply blk_drew | apply blk_alloc)); refine blk_far ?_ NB374_417.out _; (with_reducible repeat (first | apply blk_drewN | apply blk_drew | apply blk_alloc)); exact BK374.out) Tryd.underlying28 rfl (by kernel_rfl)) rfl ?_
            exact ⟨by first | rfl | (simp [*, errW_none, errW_some] <;> rfl), ii HI0, bi HB, ke HK⟩
           ·rw [if_neg c85] at H
            have c85b0 : (t424 == 1) = false := beq_eq_false_iff_ne.mpr c85
            have c85b1 : (t424 != 1) = true := bne_iff_ne.mpr c85
            by_cases c100 : t424 = 2
            ·rw [if_pos c100] at H
             have c100b0 : (t424 == 2) = true := beq_iff_eq.mpr c100
             have c100b1 : (t424 != 2) = false := bne_eq_false_iff_eq.mpr c100
             clear c100
             obtain ⟨y439, hy439⟩ : ∃ y_ : List Int, y_ = (([wrap64 (x418003_57 + 1), (-1), 4611686018427387904] : List Int)) := ⟨_, rfl⟩
             replace H : ((spec_l1Cur_among.f s0_0 t425 t426 y439).bind fun bt442 => (some (t397, t402, x8_42, bt442.1, bt442.2.1, bt442.2.2))) = some (r1, r2, r3, r4, r5, r6) := by first | (rw [hy439]; with_reducible exact H) | (have H2_ := (Option.bind_some _ _).symm.trans H; rw [hy439]; with_reducible exact H2_) | (have H2_ := (Option.bind_some _ _).symm.trans H; with_reducible exact H2_) | with_reducible exact H | (rw [hy439]; exact H) | exact H
             have Ny439 := am hy439
             clear hy439
             replace H := Option.bind_eq_some_iff.mp H
             obtain ⟨⟨t442, t443, t444⟩, A1010, H⟩ := H
             try dsimp only at H
             have A101 := am A1010
             clear A1010
             simp only [Option.some.injEq, Prod.mk.injEq] at H
             obtain ⟨rfl, rfl, rfl, rfl, rfl, rfl⟩ := H
             go_wp2_with (first | ((with_reducible refine gate_callee (f := 95) rfl ?_); refine gL 81 Tryd.func95 #[.pointer (some ⟨g, 0, none⟩), .int .i64 60] ?_; (with_reducible refine (spec_l1Cur_pick.calls g s0_0 x1001_57 x1002_57 60 t424 t425 t426 w0 _ ?side1 ?side2 A70.out).mono ?_); (case side1 => exact ii HI0); (case side2 => exact bi HB); rintro e w102 ⟨rfl, hi, hb, hk⟩; refine ⟨_, rfl, ?_⟩; replace BK373 := bk hk BK373 NB373_0; replace BK374 := bk hk BK374 NB374_0; replace BK417 := bk hk BK417 NB417_0; replace HK := kT HK hk; replace HB := am hb; replace HI0 := am hi; (try clear hb); (try clear hk); (try clear hi); have hnb103 := NB417_373.out; have hnc103 := NB373_417.out; have hnb104 := NB417_374.out; have hnc104 := NB374_417.out; have hnb105 := NB417_0.out; have hnc105 := NB0_417.out; obtain ⟨_, _, _, _, _, _, _, _⟩ := z4 BK417) | ((with_reducible refine gate_dst (N := 104) rfl ?_); refine Kd.R_lit (Kd.int .i64) _ 3 ?hg (N := 104) ?hd (xs := ([wrap64 (x418003_57 + 1), (-1), 4611686018427387904] : List Int)) (inner := [.int .i64 (wrap64 (x418003_57 + 1)), .int .i64 (-1), .int .i64 4611686018427387904]) (ok := fun _ => True) (okp := fun _ => True) ?hr ?hp (fun _ hk => hk) trivial (Below.refl _ _) (Nat.le_refl _) (by simp) ?_; (case hd => rfl); (case hg => rfl); (case hr => first | (go_simp; done) | (go_simp; rfl)); (case hp => exact (Reps.one (show Kd.M (Kd.int .i64) _ _ _ (wrap64 (x418003_57 + 1)) [.int .i64 (wrap64 (x418003_57 + 1))] from rfl) (Reps.one (show Kd.M (Kd.int .i64) _ _ _ (-1) [.int .i64 (-1)] from rfl) (Reps.one (show Kd.M (Kd.int .i64) _ _ _ 4611686018427387904 [.int .i64 4611686018427387904] from rfl) (Reps.none _ _))))); intro v440 w107 ho108 hb hg_ hnew_; clear hg_ hnew_; (first | rw [← Ny439.out] at ho108 | (simp only [Int.reduceToNat] at ho108; rw [← Ny439.out] at ho108)); have HO441 := am (Kd.R_lower ho108 (keep_size (w := w) (g := g) (row := none) (ke HK))); replace BK373 := bB hb BK373; replace BK374 := bB hb BK374; replace BK417 := bB hb BK417; replace HI0 := iB hb HI0; replace HK := kB hb HK; replace HB := hB hb HB; clear hb ho108; obtain ⟨Ao109, co109, eo109⟩ := Kd.R_slice HO441.out; subst eo109) | ((with_reducible refine gate_callee (f := 102) rfl ?_); refine gL 105 Tryd.func102 #[.pointer (some ⟨g, 0, none⟩), .slice Ao109 y439.length co109] ?_; (with_reducible refine (spec_l1Cur_among.calls g s0_0 t425 t426 _ _ y439 t442 t443 t444 w0 _ ?side1 ?side2 ?side3 ?side4 ?side5 A101.out).mono ?_); (case side1 => exact ii HI0); (case side2 => exact bi HB); (case side3 => exact cc (Kd.R_reads' HO441.out).2.2); (case side4 => exact (Kd.R_reads' HO441.out).2.1); (case side5 => exact far_slice (IsS85.own_ne HI0.out HO441.out (by decide))); rintro e w110 ⟨rfl, hi, hb, hk⟩; refine ⟨_, rfl, ?_⟩; replace BK373 := bk hk BK373 NB373_0; replace BK374 := bk hk BK374 NB374_0; replace BK417 := bk hk BK417 NB417_0; replace HO441 := am (Kd.R_mono (Kd.R_keep (IsS85.apart (ii HI0) (rr HO441) (by decide)) hk (fun _ h => h.2)) (fun _ h => h.1)); replace HK := kT HK hk; replace HB := am hb; replace HI0 := am hi; (try clear hb); (try clear hk); (try clear hi); obtain ⟨_, _, _, _, _, _, _, _⟩ := z4 BK417; have hnb112 := NB374_373.out; have hnc112 := NB373_374.out; have hnb113 := NB374_0.out; have hnc113 := NB0_374.out; obtain ⟨_, _, _, _, _, _, _, _⟩ := z4 BK374))
             refine bodyPost_ret (results_cell_row rfl _ _ gb374 28 #[.int .i64 t397, .int .i64 t402, .int .i64 x8_42, .int .i64 t442] (0, 0) _ rfl (by (with_reducible repeat (first | apply blk_drewN | apply blk_drew | apply blk_alloc)); refine blk_put (cs := #[.int .i64 t397, .int .i64 t402, .int .i64 x8_42, .int .i64 0]) ?_ 3 _ rfl; (with_reducible repeat (first | apply blk_drewN | apply blk_drew | apply blk_alloc)); refine blk_put (cs := #[.int .i64 t397, .int .i64 t402, .int .i64 0, .int .i64 0]) ?_ 2 _ rfl; (with_reducible repeat (first | apply blk_drewN | apply blk_drew | apply blk_alloc)); refine blk_put (cs := #[.int .i64 t397, .int .i64 0, .int .i64 0, .int .i64 0]) ?_ 1 _ rfl; (with_reducible repeat (first | apply blk_drewN | apply blk_drew | apply blk_alloc)); refine blk_put (cs := #[.int .i64 0, .int .i64 0, .int .i64 0, .int .i64 0]) ?_ 0 _ rfl; (with_reducible repeat (first | apply blk_drewN | apply blk_drew | apply blk_alloc)); refine blk_far ?_ NB374_417.out _; (with_reducible repeat (first | apply blk_drewN | apply blk_drew | apply blk_alloc)); exact BK374.out) Tryd.underlying28 rfl (by kernel_rfl)) rfl ?_
             exact ⟨by first | rfl | (simp [*, errW_none, errW_some] <;> rfl), ii HI0, bi HB, ke HK⟩
            ·rw [if_neg c100] at H
             have c100b0 : (t424 == 2) = false := beq_eq_false_iff_ne.mpr c100
             have c100b1 : (t424 != 2) = true := bne_iff_ne.mpr c100
             simp only [Option.some.injEq, Prod.mk.injEq] at H
             obtain ⟨rfl, rfl, rfl, rfl, rfl, rfl⟩ := H
             go_wp2_with (first | ((with_reducible refine gate_callee (f := 95) rfl ?_); refine gL 81 Tryd.func95 #[.pointer (some ⟨g, 0, none⟩), .int .i64 60] ?_; (with_reducible refine (spec_l1Cur_pick.calls g s0_0 x1001_57 x1002_57 60 t424 t425 t426 w0 _ ?side1 ?side2 A70.out).mono ?_); (case side1 => exact ii HI0); (case side2 => exact bi HB); rintro e w115 ⟨rfl, hi, hb, hk⟩; refine ⟨_, rfl, ?_⟩; replace BK373 := bk hk BK373 NB373_0; replace BK374 := bk hk BK374 NB374_0; replace BK417 := bk hk BK417 NB417_0; replace HK := kT HK hk; replace HB := am hb; replace HI0 := am hi; (try clear hb); (try clear hk); (try clear hi); have hnb116 := NB417_373.out; have hnc116 := NB373_417.out; have hnb117 := NB417_374.out; have hnc117 := NB374_417.out; have hnb118 := NB417_0.out; have hnc118 := NB0_417.out; obtain ⟨_, _, _, _, _, _, _, _⟩ := z4 BK417; have hnb120 := NB374_373.out; have hnc120 := NB373_374.out; have hnb121 := NB374_0.out; have hnc121 := NB0_374.out; obtain ⟨_, _, _, _, _, _, _, _⟩ := z4 BK374))
             refine bodyPost_ret (results_cell_row rfl _ _ gb374 28 #[.int .i64 t397, .int .i64 t402, .int .i64 x8_42, .int .i64 x418003_57] (0, 0) _ rfl (by (with_reducible repeat (first | apply blk_drewN | apply blk_drew | apply blk_alloc)); refine blk_put (cs := #[.int .i64 t397, .int .i64 t402, .int .i64 x8_42, .int .i64 0]) ?_ 3 _ rfl; (with_reducible repeat (first | apply blk_drewN | apply blk_drew | apply blk_alloc)); refine blk_put (cs := #[.int .i64 t397, .int .i64 t402, .int .i64 0, .int .i64 0]) ?_ 2 _ rfl; (with_reducible repeat (first | apply blk_drewN | apply blk_drew | apply blk_alloc)); refine blk_put (cs := #[.int .i64 t397, .int .i64 0, .int .i64 0, .int .i64 0]) ?_ 1 _ rfl; (with_reducible repeat (first | apply blk_drewN | apply blk_drew | apply blk_alloc)); refine blk_put (cs := #[.int .i64 0, .int .i64 0, .int .i64 0, .int .i64 0]) ?_ 0 _ rfl; (with_reducible repeat (first | apply blk_drewN | apply blk_drew | apply blk_alloc)); exact BK374.out) Tryd.underlying28 rfl (by kernel_rfl)) rfl ?_
             exact ⟨by first | rfl | (simp [*, errW_none, errW_some] <;> rfl), ii HI0, bi HB, ke HK⟩
     ·rw [if_neg c37] at H
      exact absurd H (by simp)
    ·rw [if_neg c36] at H
     exact absurd H (by simp)
def spec_l1Cur_pair.j0 : Nat → Bool → List Int → Int → Int → Int → Int → Int → Int → Int → Int → Int → Int → Option (Int × Int × Int × Int × Int × Int × Int × Int × Int × Int)
  | 0, _, _, _, _, _, _, _, _, _, _, _, _ => none
  | k + 1, x22, x1000, x1001, x1002, x461000, x461001, x461002, x461003, x462000, x462001, x462002, x462003 => if x22 = true then ((spec_l1Cur_pick.f x1000 x1001 x1002 (wrap64 (x461003 + 1))).bind fun bt466 => ((spec_l1Cur_pick.f x1000 bt466.2.1 bt466.2.2 (wrap64 ((wrap64 (x461003 - bt466.1)) + 1))).bind fun bt469 => ((spec_l2Slice.f x461000 x461001 x461002 x461003 bt466.1 (wrap64 (bt466.1 + bt469.1)) x461003).bind fun bt472 => (some (x461000, x461001, x461002, x461003, bt472.1, bt472.2.1, bt472.2.2.1, bt472.2.2.2, bt469.2.1, bt469.2.2))))) else (some (x461000, x461001, x461002, x461003, x462000, x462001, x462002, x462003, x1001, x1002))
def spec_l1Cur_pair.f (k : Nat) (s0_0 : List Int) (s0_1 : Int) (s0_2 : Int) (l1_0 : List (List Int)) : Option (Int × Int × Int × Int × Int × Int × Int × Int × Int × Int) := (spec_l1Cur_window.f k s0_0 s0_1 s0_2 l1_0).bind fun bt448 => ((spec_l1Cur_window.f k s0_0 bt448.2.2.2.2.1 bt448.2.2.2.2.2 l1_0).bind fun bt454 => ((spec_l2Window.f k l1_0 bt448.1 bt448.2.1 bt448.2.2.1 bt448.2.2.2.1).bind fun t462 => (if t462 = true then ((spec_l1Cur_one.f s0_0 bt454.2.2.2.2.1 bt454.2.2.2.2.2 3).bind fun bt463 => (spec_l1Cur_pair.j0 k (!bt463.1) s0_0 bt463.2.1 bt463.2.2 bt448.1 bt448.2.1 bt448.2.2.1 bt448.2.2.2.1 bt454.1 bt454.2.1 bt454.2.2.1 bt454.2.2.2.1)) else (spec_l1Cur_pair.j0 k false s0_0 bt454.2.2.2.2.1 bt454.2.2.2.2.2 bt448.1 bt448.2.1 bt448.2.2.1 bt448.2.2.2.1 bt454.1 bt454.2.1 bt454.2.2.1 bt454.2.2.2.1))))
def spec_l1Cur_pair.T1 : Bool × List (List Nat × List Nat) := (true, [([], []), ([], []), ([0, 1], [0, 1]), ([], []), ([], []), ([3, 4, 2], [3, 4]), ([], []), ([], []), ([6, 2, 5, 0, 1, 2, 6, 7], [2, 6]), ([7, 5, 8, 0, 1, 2, 3, 4, 5, 6, 7, 8], [5, 7])])
def spec_l1Cur_pair.B1 : List Nat := [0, 0, 3, 0, 0, 31, 0, 0, 255, 511]
theorem spec_l1Cur_pair.tab1 : rtab .any (opsOf Tryd.f62 1) = spec_l1Cur_pair.T1 := by kernel_rfl
theorem spec_l1Cur_pair.bits1 : waitsOk spec_l1Cur_pair.T1.2 spec_l1Cur_pair.B1 = true := by kernel_rfl
def spec_l1Cur_pair.T4 : Bool × List (List Nat × List Nat) := (true, [([], []), ([], []), ([], []), ([], []), ([], []), ([4], [4]), ([], []), ([5, 6], [5, 6]), ([7], [7]), ([3, 8], [3, 8]), ([2, 9], [2, 9]), ([], []), ([11], [11]), ([0, 1, 10, 12, 9], [0, 1, 10, 12]), ([13, 13, 0, 1, 2, 3, 4, 5, 6, 7, 8, 9, 10, 11, 12, 13], [13])])
def spec_l1Cur_pair.B4 : List Nat := [0, 0, 0, 0, 0, 16, 0, 112, 240, 504, 1020, 0, 2048, 8191, 16383]
theorem spec_l1Cur_pair.tab4 : rtab .any (opsOf Tryd.f62 4) = spec_l1Cur_pair.T4 := by kernel_rfl
theorem spec_l1Cur_pair.bits4 : waitsOk spec_l1Cur_pair.T4.2 spec_l1Cur_pair.B4 = true := by kernel_rfl
set_option maxHeartbeats 8000000 in
set_option maxRecDepth 100000 in
theorem spec_l1Cur_pair.calls (k : Nat) (g : Nat) (s0_0 : List Int) (s0_1 : Int) (s0_2 : Int) (A1_0 : Option Addr) (c1_0 : Nat) (l1_0 : List (List Int)) (r1 : Int) (r2 : Int) (r3 : Int) (r4 : Int) (r5 : Int) (r6 : Int) (r7 : Int) (r8 : Int) (r9 : Int) (r10 : Int) (w0 w : World) (hI : IsS85 w0 w g s0_0 s0_1 s0_2) (hB : Below w0.heap.size w0 w) (hr1_0 : ∀ W_, KeepBut w W_ g none → Kd.C (Kd.slice 5 (Kd.int .u8)) W_ A1_0 l1_0.length l1_0) (hc1_0 : l1_0.length ≤ c1_0) (h : spec_l1Cur_pair.f k s0_0 s0_1 s0_2 l1_0 = some (r1, r2, r3, r4, r5, r6, r7, r8, r9, r10)) :
    Calls Tryd.prog 62 #[.pointer (some ⟨g, 0, none⟩), .agg #[.slice A1_0 l1_0.length c1_0]] w fun e w' => e = .returned (.tuple #[.agg #[.int .i64 r1, .int .i64 r2, .int .i64 r3, .int .i64 r4], .agg #[.int .i64 r5, .int .i64 r6, .int .i64 r7, .int .i64 r8]]) ∧ IsS85 w0 w' g s0_0 r9 r10 ∧ Below w0.heap.size w0 w' ∧ KeepBut w w' g none := by
 have hu26 := Tryd.underlying26
 have hu28 := Tryd.underlying28
 have HR := am hr1_0
 have HC := am hc1_0
 have HI := am hI
 have HB := am hB
 clear hr1_0 hc1_0 hI hB
 have H := h
 rw [spec_l1Cur_pair.f] at H
 clear h
 obtain ⟨⟨p0, p1, p2, p3, a1, q1⟩, A1, H⟩ := Option.bind_eq_some_iff.mp H
 have E1 := am A1
 clear A1
 dsimp only at H
 obtain ⟨⟨z0, z1, z2, z3, a2, q2⟩, A2, H⟩ := Option.bind_eq_some_iff.mp H
 have E2 := am A2
 clear A2
 dsimp only at H
 have HH := am H
 clear H
 go_enter Tryd.func62, Tryd.ntmps62
 go_upto_region 1 with (first | ((with_reducible refine gate_dst (N := 3) rfl ?_); refine bE 3 #[.slice A1_0 l1_0.length c1_0] 26 ?_; intro g3 hg w3 hx hb; have HG3 := am hg; have HX3 := am hx; have HD3 := am hb; clear hg hx hb) | ((with_reducible refine gate_dst (N := 4) rfl ?_); refine bE 4 #[.int .i64 0, .int .i64 0, .int .i64 0, .int .i64 0] 28 ?_; intro g4 hg w4 hx hb; have HG4 := am hg; have HX4 := am hx; have HD4 := am hb; clear hg hx hb) | ((with_reducible refine gate_dst (N := 5) rfl ?_); refine bE 5 #[.int .i64 0, .int .i64 0, .int .i64 0, .int .i64 0] 28 ?_; intro g5 hg w5 hx hb; have HG5 := am hg; have HX5 := am hx; have HD5 := am hb; clear hg hx hb))
 have X3 := am (blk_below HX3.out HD4.out)
 have I3 := am (HI.out.below HD3.out)
 have I4 := am (I3.out.below HD4.out)
 have HP : Aside0 (PIn w0 w w5 g g3 g4 g5 A1_0 c1_0 l1_0 s0_0 s0_1 s0_2) := ⟨⟨blk_below X3.out HD5.out, blk_below HX4.out HD5.out, HX5.out, I4.out.below HD5.out, KpB.below (KpB.below (KpB.below (KeepBut.refl w g none) HD3.out) HD4.out) HD5.out, below_step (below_step (below_step HB.out HD3.out) HD4.out) HD5.out, by rw [HG3.out]; exact Nat.ne_of_gt HI.out.lt, by rw [HG4.out]; exact Nat.ne_of_gt I3.out.lt, by rw [HG5.out]; exact Nat.ne_of_gt I4.out.lt, by rw [HG4.out]; exact Nat.ne_of_lt (blk_lt HX3.out), by rw [HG5.out]; exact Nat.ne_of_lt (blk_lt X3.out), by rw [HG5.out]; exact Nat.ne_of_lt (blk_lt HX4.out), HB.out.size, Nat.le_of_eq HG3.out.symm, by rw [HG4.out]; exact HD3.out.size, by rw [HG5.out]; exact Nat.le_trans HD3.out.size HD4.out.size⟩⟩
 clear X3 I3 I4 HI HB HG3 HG4 HG5 HX3 HX4 HX5 HD3 HD4 HD5
 replace HP := am HP.out.drew
 refine start_ (n := 10) (S := fun w' => w'.cell? ⟨g3, 0, none⟩ = some (.slice A1_0 l1_0.length c1_0)) (ds := []) #[false, false, false, false, false, false, false, false, false, false] (by kernel_rfl) rfl rfl ((blk_cell HP.out.o3 0).trans rfl) (fun hHeld => ?_)
 refine with_tabW spec_l1Cur_pair.tab1 spec_l1Cur_pair.bits1 (fun HT_ HW_ => ?_)
 generalize w5.drew = wd at HP hHeld ⊢
 refine pT #[true, false, false, false, false, false, false, false, false, false] 0 9 HT_ ?_
 refine pT #[true, false, false, true, false, false, false, false, false, false] 3 12 HT_ ?_
 refine tT #[true, true, false, true, false, false, false, false, false, false] 1 10 HT_ HW_ hHeld ?_
 refine tT #[true, true, false, true, true, false, false, false, false, false] 4 13 HT_ HW_ hHeld ?_
 refine join_ (σ := Nat × Nat) 2 #[true, true, true, true, true, true, true, true, false, false] (fun s_ => [(11, .agg #[.int .i64 p0, .int .i64 p1, .int .i64 p2, .int .i64 p3]), (14, .agg #[.int .i64 z0, .int .i64 z1, .int .i64 z2, .int .i64 z3]), (6, .pointer (some ⟨s_.1, 0, none⟩)), (7, .pointer (some ⟨s_.2, 0, none⟩))]) (fun s_ w' => (w'.cell? ⟨g3, 0, none⟩ = some (.slice A1_0 l1_0.length c1_0)) ∧ PIn w0 w w' g g3 g4 g5 A1_0 c1_0 l1_0 s0_0 a2 q2 ∧ w'.heap[s_.1]? = some (C4 0 0 0 0) ∧ NX s_.1 g g3 g4 g5 w.heap.size ∧ w'.heap[s_.2]? = some (C4 0 0 0 0) ∧ NX s_.2 g g3 g4 g5 w.heap.size ∧ s_.1 ≠ s_.2) ?_ ?_
 rotate_left
 ·intro hJ2_5_6_7
  refine join_ (σ := Nat) 3 #[true, true, true, true, true, true, true, false, false, false] (fun s_ => [(11, .agg #[.int .i64 p0, .int .i64 p1, .int .i64 p2, .int .i64 p3]), (14, .agg #[.int .i64 z0, .int .i64 z1, .int .i64 z2, .int .i64 z3]), (6, .pointer (some ⟨s_, 0, none⟩))]) (fun s_ w' => (w'.cell? ⟨g3, 0, none⟩ = some (.slice A1_0 l1_0.length c1_0)) ∧ PIn w0 w w' g g3 g4 g5 A1_0 c1_0 l1_0 s0_0 a2 q2 ∧ w'.heap[s_]? = some (C4 0 0 0 0) ∧ NX s_ g g3 g4 g5 w.heap.size) ?_ ?_
  rotate_left
  ·intro hJ2_5_6
   refine join_ (σ := Nat) 3 #[true, true, true, true, true, true, false, true, false, false] (fun s_ => [(11, .agg #[.int .i64 p0, .int .i64 p1, .int .i64 p2, .int .i64 p3]), (14, .agg #[.int .i64 z0, .int .i64 z1, .int .i64 z2, .int .i64 z3]), (7, .pointer (some ⟨s_, 0, none⟩))]) (fun s_ w' => (w'.cell? ⟨g3, 0, none⟩ = some (.slice A1_0 l1_0.length c1_0)) ∧ PIn w0 w w' g g3 g4 g5 A1_0 c1_0 l1_0 s0_0 a2 q2 ∧ w'.heap[s_]? = some (C4 0 0 0 0) ∧ NX s_ g g3 g4 g5 w.heap.size) ?_ ?_
   rotate_left
   ·intro hJ2_5_7
    refine join_ (σ := Nat × Nat) 3 #[true, true, true, true, true, false, true, true, false, false] (fun s_ => [(11, .agg #[.int .i64 p0, .int .i64 p1, .int .i64 p2, .int .i64 p3]), (6, .pointer (some ⟨s_.1, 0, none⟩)), (7, .pointer (some ⟨s_.2, 0, none⟩))]) (fun s_ w' => (w'.cell? ⟨g3, 0, none⟩ = some (.slice A1_0 l1_0.length c1_0)) ∧ PIn w0 w w' g g3 g4 g5 A1_0 c1_0 l1_0 s0_0 a1 q1 ∧ w'.heap[s_.1]? = some (C4 0 0 0 0) ∧ NX s_.1 g g3 g4 g5 w.heap.size ∧ w'.heap[s_.2]? = some (C4 0 0 0 0) ∧ NX s_.2 g g3 g4 g5 w.heap.size ∧ s_.1 ≠ s_.2) ?_ ?_
    rotate_left
    ·intro hJ2_6_7
     refine join_ (σ := Unit) 4 #[true, true, true, true, true, true, false, false, false, false] (fun s_ => [(11, .agg #[.int .i64 p0, .int .i64 p1, .int .i64 p2, .int .i64 p3]), (14, .agg #[.int .i64 z0, .int .i64 z1, .int .i64 z2, .int .i64 z3])]) (fun s_ w' => (w'.cell? ⟨g3, 0, none⟩ = some (.slice A1_0 l1_0.length c1_0)) ∧ PIn w0 w w' g g3 g4 g5 A1_0 c1_0 l1_0 s0_0 a2 q2) ?_ ?_
     rotate_left
     ·intro hJ2_5
      refine join_ (σ := Nat) 4 #[true, true, true, true, true, false, true, false, false, false] (fun s_ => [(11, .agg #[.int .i64 p0, .int .i64 p1, .int .i64 p2, .int .i64 p3]), (6, .pointer (some ⟨s_, 0, none⟩))]) (fun s_ w' => (w'.cell? ⟨g3, 0, none⟩ = some (.slice A1_0 l1_0.length c1_0)) ∧ PIn w0 w w' g g3 g4 g5 A1_0 c1_0 l1_0 s0_0 a1 q1 ∧ w'.heap[s_]? = some (C4 0 0 0 0) ∧ NX s_ g g3 g4 g5 w.heap.size) ?_ ?_
      rotate_left
      ·intro hJ2_6
       refine join_ (σ := Nat) 4 #[true, true, true, true, true, false, false, true, false, false] (fun s_ => [(11, .agg #[.int .i64 p0, .int .i64 p1, .int .i64 p2, .int .i64 p3]), (7, .pointer (some ⟨s_, 0, none⟩))]) (fun s_ w' => (w'.cell? ⟨g3, 0, none⟩ = some (.slice A1_0 l1_0.length c1_0)) ∧ PIn w0 w w' g g3 g4 g5 A1_0 c1_0 l1_0 s0_0 a1 q1 ∧ w'.heap[s_]? = some (C4 0 0 0 0) ∧ NX s_ g g3 g4 g5 w.heap.size) ?_ ?_
       rotate_left
       ·intro hJ2_7
        refine join_ (σ := Nat × Nat) 4 #[true, true, false, true, true, false, true, true, false, false] (fun s_ => [(6, .pointer (some ⟨s_.1, 0, none⟩)), (7, .pointer (some ⟨s_.2, 0, none⟩))]) (fun s_ w' => (w'.cell? ⟨g3, 0, none⟩ = some (.slice A1_0 l1_0.length c1_0)) ∧ PIn w0 w w' g g3 g4 g5 A1_0 c1_0 l1_0 s0_0 s0_1 s0_2 ∧ w'.heap[s_.1]? = some (C4 0 0 0 0) ∧ NX s_.1 g g3 g4 g5 w.heap.size ∧ w'.heap[s_.2]? = some (C4 0 0 0 0) ∧ NX s_.2 g g3 g4 g5 w.heap.size ∧ s_.1 ≠ s_.2) ?_ ?_
        rotate_left
        ·intro hJ6_7
         refine join_ (σ := Unit) 5 #[true, true, true, true, true, false, false, false, false, false] (fun s_ => [(11, .agg #[.int .i64 p0, .int .i64 p1, .int .i64 p2, .int .i64 p3])]) (fun s_ w' => (w'.cell? ⟨g3, 0, none⟩ = some (.slice A1_0 l1_0.length c1_0)) ∧ PIn w0 w w' g g3 g4 g5 A1_0 c1_0 l1_0 s0_0 a1 q1) ?_ ?_
         rotate_left
         ·intro hJ2
          refine join_ (σ := Nat) 5 #[true, true, false, true, true, false, true, false, false, false] (fun s_ => [(6, .pointer (some ⟨s_, 0, none⟩))]) (fun s_ w' => (w'.cell? ⟨g3, 0, none⟩ = some (.slice A1_0 l1_0.length c1_0)) ∧ PIn w0 w w' g g3 g4 g5 A1_0 c1_0 l1_0 s0_0 s0_1 s0_2 ∧ w'.heap[s_]? = some (C4 0 0 0 0) ∧ NX s_ g g3 g4 g5 w.heap.size) ?_ ?_
          rotate_left
          ·intro hJ6
           refine join_ (σ := Nat) 5 #[true, true, false, true, true, false, false, true, false, false] (fun s_ => [(7, .pointer (some ⟨s_, 0, none⟩))]) (fun s_ w' => (w'.cell? ⟨g3, 0, none⟩ = some (.slice A1_0 l1_0.length c1_0)) ∧ PIn w0 w w' g g3 g4 g5 A1_0 c1_0 l1_0 s0_0 s0_1 s0_2 ∧ w'.heap[s_]? = some (C4 0 0 0 0) ∧ NX s_ g g3 g4 g5 w.heap.size) ?_ ?_
           rotate_left
           ·intro hJ7
            refine three_ (i := 2) (j := 6) (k := 7) (Ni := some 11) (Nj := some 6) (Nk := some 7) #[true, true, true, true, true, false, false, false, false, false] #[true, true, false, true, true, false, true, false, false, false] #[true, true, false, true, true, false, false, true, false, false] rfl rfl rfl rfl rfl rfl (three_of HT_.out (by kernel_rfl)) (by decide) (by decide) (by decide) (fun K hK => ?_) (fun K hK => ?_) (fun K hK => ?_)
            ·skip
             refine goes_ Tryd.func107 (by kernel_rfl) rfl #[.pointer (some ⟨g, 0, none⟩), .agg #[.slice A1_0 l1_0.length c1_0]] (by rfl) rfl rfl (by (try simp only [List.map_toArray, List.map_cons, List.map_nil]); first | done | rfl) ?_
             with_reducible refine (spec_l1Cur_window.calls k g s0_0 s0_1 s0_2 _ _ l1_0 p0 p1 p2 p3 a1 q1 w0 _ HP.out.st HP.out.bw (fun W_ h_ => HR.out W_ (KeepBut.trans HP.out.kp h_ (.inl rfl))) HC.out E1.out).mono ?_
             rintro e w_ ⟨rfl, hi, hb, hk⟩
             refine ⟨_, rfl, ?_⟩
             refine hK.out _ _ ((blk_cell (HP.out.call hi hb hk).o3 0).trans rfl) (fun hHeld => ?_)
             clear hK K
             refine nP 11 ?_
             exact nR (hJ2 () _ ⟨hHeld, HP.out.call hi hb hk⟩)
            ·skip
             refine box_step ?hg (N := 6) ?hd (cs := #[.int .i64 0, .int .i64 0, .int .i64 0, .int .i64 0]) (t := 28) ?hr ?_
             (case hd => rfl)
             (case hg => rfl)
             (case hr => first | (go_simp; done) | (go_simp; rfl))
             intro g6 hg w_ hbox hb
             refine hK.out _ _ ((blk_cell (HP.out.below hb).o3 0).trans rfl) (fun hHeld => ?_)
             clear hK K
             refine nP 6 ?_
             exact nR (hJ6 g6 _ ⟨hHeld, HP.out.below hb, hbox, HP.out.new hg⟩)
            ·skip
             refine box_step ?hg (N := 7) ?hd (cs := #[.int .i64 0, .int .i64 0, .int .i64 0, .int .i64 0]) (t := 28) ?hr ?_
             (case hd => rfl)
             (case hg => rfl)
             (case hr => first | (go_simp; done) | (go_simp; rfl))
             intro g7 hg w_ hbox hb
             refine hK.out _ _ ((blk_cell (HP.out.below hb).o3 0).trans rfl) (fun hHeld => ?_)
             clear hK K
             refine nP 7 ?_
             exact nR (hJ7 g7 _ ⟨hHeld, HP.out.below hb, hbox, HP.out.new hg⟩)
           rintro g7 w_ ⟨hS_, h0_, ho7, hn7⟩
           have HP := am h0_
           have O7 := am ho7
           have N7 := am hn7
           clear h0_ ho7 hn7
           have hHeld : w_.cell? ⟨g3, 0, none⟩ = some (.slice A1_0 l1_0.length c1_0) := hS_
           refine nQ ?_
           refine two_ (i := 2) (j := 6) (Ni := some 11) (Nj := some 6) #[true, true, true, true, true, false, false, true, false, false] #[true, true, false, true, true, false, true, true, false, false] rfl rfl rfl rfl (two_of HT_.out (by kernel_rfl)) (by decide) (by decide) (fun K hK => ?_) (fun K hK => ?_)
           ·skip
            refine goes_ Tryd.func107 (by kernel_rfl) rfl #[.pointer (some ⟨g, 0, none⟩), .agg #[.slice A1_0 l1_0.length c1_0]] (by rfl) rfl rfl (by (try simp only [List.map_toArray, List.map_cons, List.map_nil]); first | done | rfl) ?_
            with_reducible refine (spec_l1Cur_window.calls k g s0_0 s0_1 s0_2 _ _ l1_0 p0 p1 p2 p3 a1 q1 w0 _ HP.out.st HP.out.bw (fun W_ h_ => HR.out W_ (KeepBut.trans HP.out.kp h_ (.inl rfl))) HC.out E1.out).mono ?_
            rintro e w_ ⟨rfl, hi, hb, hk⟩
            refine ⟨_, rfl, ?_⟩
            refine hK.out _ _ ((blk_cell (HP.out.call hi hb hk).o3 0).trans rfl) (fun hHeld => ?_)
            clear hK K
            refine nP 11 ?_
            exact nR (hJ2_7 g7 _ ⟨hHeld, HP.out.call hi hb hk, KeepBut.blk hk O7.out N7.out.ng (by simp), N7.out⟩)
           ·skip
            refine box_step ?hg (N := 6) ?hd (cs := #[.int .i64 0, .int .i64 0, .int .i64 0, .int .i64 0]) (t := 28) ?hr ?_
            (case hd => rfl)
            (case hg => rfl)
            (case hr => first | (go_simp; done) | (go_simp; rfl))
            intro g6 hg w_ hbox hb
            refine hK.out _ _ ((blk_cell (HP.out.below hb).o3 0).trans rfl) (fun hHeld => ?_)
            clear hK K
            refine nP 6 ?_
            exact nR (hJ6_7 (g6, g7) _ ⟨hHeld, HP.out.below hb, hbox, HP.out.new hg, blk_below O7.out hb, N7.out, (by rw [hg]; exact Nat.ne_of_gt (blk_lt O7.out))⟩)
          rintro g6 w_ ⟨hS_, h0_, ho6, hn6⟩
          have HP := am h0_
          have O6 := am ho6
          have N6 := am hn6
          clear h0_ ho6 hn6
          have hHeld : w_.cell? ⟨g3, 0, none⟩ = some (.slice A1_0 l1_0.length c1_0) := hS_
          refine nQ ?_
          refine two_ (i := 2) (j := 7) (Ni := some 11) (Nj := some 7) #[true, true, true, true, true, false, true, false, false, false] #[true, true, false, true, true, false, true, true, false, false] rfl rfl rfl rfl (two_of HT_.out (by kernel_rfl)) (by decide) (by decide) (fun K hK => ?_) (fun K hK => ?_)
          ·skip
           refine goes_ Tryd.func107 (by kernel_rfl) rfl #[.pointer (some ⟨g, 0, none⟩), .agg #[.slice A1_0 l1_0.length c1_0]] (by rfl) rfl rfl (by (try simp only [List.map_toArray, List.map_cons, List.map_nil]); first | done | rfl) ?_
           with_reducible refine (spec_l1Cur_window.calls k g s0_0 s0_1 s0_2 _ _ l1_0 p0 p1 p2 p3 a1 q1 w0 _ HP.out.st HP.out.bw (fun W_ h_ => HR.out W_ (KeepBut.trans HP.out.kp h_ (.inl rfl))) HC.out E1.out).mono ?_
           rintro e w_ ⟨rfl, hi, hb, hk⟩
           refine ⟨_, rfl, ?_⟩
           refine hK.out _ _ ((blk_cell (HP.out.call hi hb hk).o3 0).trans rfl) (fun hHeld => ?_)
           clear hK K
           refine nP 11 ?_
           exact nR (hJ2_6 g6 _ ⟨hHeld, HP.out.call hi hb hk, KeepBut.blk hk O6.out N6.out.ng (by simp), N6.out⟩)
          ·skip
           refine box_step ?hg (N := 7) ?hd (cs := #[.int .i64 0, .int .i64 0, .int .i64 0, .int .i64 0]) (t := 28) ?hr ?_
           (case hd => rfl)
           (case hg => rfl)
           (case hr => first | (go_simp; done) | (go_simp; rfl))
           intro g7 hg w_ hbox hb
           refine hK.out _ _ ((blk_cell (HP.out.below hb).o3 0).trans rfl) (fun hHeld => ?_)
           clear hK K
           refine nP 7 ?_
           exact nR (hJ6_7 (g6, g7) _ ⟨hHeld, HP.out.below hb, blk_below O6.out hb, N6.out, hbox, HP.out.new hg, (by rw [hg]; exact Nat.ne_of_lt (blk_lt O6.out))⟩)
         rintro _ w_ ⟨hS_, h0_⟩
         have HP := am h0_
         clear h0_
         have hHeld : w_.cell? ⟨g3, 0, none⟩ = some (.slice A1_0 l1_0.length c1_0) := hS_
         refine nQ ?_
         refine three_ (i := 5) (j := 6) (k := 7) (Ni := some 14) (Nj := some 6) (Nk := some 7) #[true, true, true, true, true, true, false, false, false, false] #[true, true, true, true, true, false, true, false, false, false] #[true, true, true, true, true, false, false, true, false, false] rfl rfl rfl rfl rfl rfl (three_of HT_.out (by kernel_rfl)) (by decide) (by decide) (by decide) (fun K hK => ?_) (fun K hK => ?_) (fun K hK => ?_)
         ·skip
          refine goes_ Tryd.func107 (by kernel_rfl) rfl #[.pointer (some ⟨g, 0, none⟩), .agg #[.slice A1_0 l1_0.length c1_0]] (by rfl) rfl rfl (by (try simp only [List.map_toArray, List.map_cons, List.map_nil]); first | done | rfl) ?_
          with_reducible refine (spec_l1Cur_window.calls k g s0_0 a1 q1 _ _ l1_0 z0 z1 z2 z3 a2 q2 w0 _ HP.out.st HP.out.bw (fun W_ h_ => HR.out W_ (KeepBut.trans HP.out.kp h_ (.inl rfl))) HC.out E2.out).mono ?_
          rintro e w_ ⟨rfl, hi, hb, hk⟩
          refine ⟨_, rfl, ?_⟩
          refine hK.out _ _ ((blk_cell (HP.out.call hi hb hk).o3 0).trans rfl) (fun hHeld => ?_)
          clear hK K
          refine nP 14 ?_
          exact nR (hJ2_5 () _ ⟨hHeld, HP.out.call hi hb hk⟩)
         ·skip
          refine box_step ?hg (N := 6) ?hd (cs := #[.int .i64 0, .int .i64 0, .int .i64 0, .int .i64 0]) (t := 28) ?hr ?_
          (case hd => rfl)
          (case hg => rfl)
          (case hr => first | (go_simp; done) | (go_simp; rfl))
          intro g6 hg w_ hbox hb
          refine hK.out _ _ ((blk_cell (HP.out.below hb).o3 0).trans rfl) (fun hHeld => ?_)
          clear hK K
          refine nP 6 ?_
          exact nR (hJ2_6 g6 _ ⟨hHeld, HP.out.below hb, hbox, HP.out.new hg⟩)
         ·skip
          refine box_step ?hg (N := 7) ?hd (cs := #[.int .i64 0, .int .i64 0, .int .i64 0, .int .i64 0]) (t := 28) ?hr ?_
          (case hd => rfl)
          (case hg => rfl)
          (case hr => first | (go_simp; done) | (go_simp; rfl))
          intro g7 hg w_ hbox hb
          refine hK.out _ _ ((blk_cell (HP.out.below hb).o3 0).trans rfl) (fun hHeld => ?_)
          clear hK K
          refine nP 7 ?_
          exact nR (hJ2_7 g7 _ ⟨hHeld, HP.out.below hb, hbox, HP.out.new hg⟩)
        rintro ⟨g6, g7⟩ w_ ⟨hS_, h0_, ho6, hn6, ho7, hn7, hne⟩
        have HP := am h0_
        have O6 := am ho6
        have N6 := am hn6
        have O7 := am ho7
        have N7 := am hn7
        have NE := am hne
        clear h0_ ho6 hn6 ho7 hn7 hne
        have hHeld : w_.cell? ⟨g3, 0, none⟩ = some (.slice A1_0 l1_0.length c1_0) := hS_
        refine nQ ?_
        refine one_ (i := 2) (N := some 11) #[true, true, true, true, true, false, true, true, false, false] rfl rfl (one_of HT_.out (by kernel_rfl)) (by decide) (fun K hK => ?_)
        ·skip
         refine goes_ Tryd.func107 (by kernel_rfl) rfl #[.pointer (some ⟨g, 0, none⟩), .agg #[.slice A1_0 l1_0.length c1_0]] (by rfl) rfl rfl (by (try simp only [List.map_toArray, List.map_cons, List.map_nil]); first | done | rfl) ?_
         with_reducible refine (spec_l1Cur_window.calls k g s0_0 s0_1 s0_2 _ _ l1_0 p0 p1 p2 p3 a1 q1 w0 _ HP.out.st HP.out.bw (fun W_ h_ => HR.out W_ (KeepBut.trans HP.out.kp h_ (.inl rfl))) HC.out E1.out).mono ?_
         rintro e w_ ⟨rfl, hi, hb, hk⟩
         refine ⟨_, rfl, ?_⟩
         refine hK.out _ _ ((blk_cell (HP.out.call hi hb hk).o3 0).trans rfl) (fun hHeld => ?_)
         clear hK K
         refine nP 11 ?_
         exact nR (hJ2_6_7 (g6, g7) _ ⟨hHeld, HP.out.call hi hb hk, KeepBut.blk hk O6.out N6.out.ng (by simp), N6.out, KeepBut.blk hk O7.out N7.out.ng (by simp), N7.out, NE.out⟩)
       rintro g7 w_ ⟨hS_, h0_, ho7, hn7⟩
       have HP := am h0_
       have O7 := am ho7
       have N7 := am hn7
       clear h0_ ho7 hn7
       have hHeld : w_.cell? ⟨g3, 0, none⟩ = some (.slice A1_0 l1_0.length c1_0) := hS_
       refine nQ ?_
       refine two_ (i := 5) (j := 6) (Ni := some 14) (Nj := some 6) #[true, true, true, true, true, true, false, true, false, false] #[true, true, true, true, true, false, true, true, false, false] rfl rfl rfl rfl (two_of HT_.out (by kernel_rfl)) (by decide) (by decide) (fun K hK => ?_) (fun K hK => ?_)
       ·skip
        refine goes_ Tryd.func107 (by kernel_rfl) rfl #[.pointer (some ⟨g, 0, none⟩), .agg #[.slice A1_0 l1_0.length c1_0]] (by rfl) rfl rfl (by (try simp only [List.map_toArray, List.map_cons, List.map_nil]); first | done | rfl) ?_
        with_reducible refine (spec_l1Cur_window.calls k g s0_0 a1 q1 _ _ l1_0 z0 z1 z2 z3 a2 q2 w0 _ HP.out.st HP.out.bw (fun W_ h_ => HR.out W_ (KeepBut.trans HP.out.kp h_ (.inl rfl))) HC.out E2.out).mono ?_
        rintro e w_ ⟨rfl, hi, hb, hk⟩
        refine ⟨_, rfl, ?_⟩
        refine hK.out _ _ ((blk_cell (HP.out.call hi hb hk).o3 0).trans rfl) (fun hHeld => ?_)
        clear hK K
        refine nP 14 ?_
        exact nR (hJ2_5_7 g7 _ ⟨hHeld, HP.out.call hi hb hk, KeepBut.blk hk O7.out N7.out.ng (by simp), N7.out⟩)
       ·skip
        refine box_step ?hg (N := 6) ?hd (cs := #[.int .i64 0, .int .i64 0, .int .i64 0, .int .i64 0]) (t := 28) ?hr ?_
        (case hd => rfl)
        (case hg => rfl)
        (case hr => first | (go_simp; done) | (go_simp; rfl))
        intro g6 hg w_ hbox hb
        refine hK.out _ _ ((blk_cell (HP.out.below hb).o3 0).trans rfl) (fun hHeld => ?_)
        clear hK K
        refine nP 6 ?_
        exact nR (hJ2_6_7 (g6, g7) _ ⟨hHeld, HP.out.below hb, hbox, HP.out.new hg, blk_below O7.out hb, N7.out, (by rw [hg]; exact Nat.ne_of_gt (blk_lt O7.out))⟩)
      rintro g6 w_ ⟨hS_, h0_, ho6, hn6⟩
      have HP := am h0_
      have O6 := am ho6
      have N6 := am hn6
      clear h0_ ho6 hn6
      have hHeld : w_.cell? ⟨g3, 0, none⟩ = some (.slice A1_0 l1_0.length c1_0) := hS_
      refine nQ ?_
      refine two_ (i := 5) (j := 7) (Ni := some 14) (Nj := some 7) #[true, true, true, true, true, true, true, false, false, false] #[true, true, true, true, true, false, true, true, false, false] rfl rfl rfl rfl (two_of HT_.out (by kernel_rfl)) (by decide) (by decide) (fun K hK => ?_) (fun K hK => ?_)
      ·skip
       refine goes_ Tryd.func107 (by kernel_rfl) rfl #[.pointer (some ⟨g, 0, none⟩), .agg #[.slice A1_0 l1_0.length c1_0]] (by rfl) rfl rfl (by (try simp only [List.map_toArray, List.map_cons, List.map_nil]); first | done | rfl) ?_
       with_reducible refine (spec_l1Cur_window.calls k g s0_0 a1 q1 _ _ l1_0 z0 z1 z2 z3 a2 q2 w0 _ HP.out.st HP.out.bw (fun W_ h_ => HR.out W_ (KeepBut.trans HP.out.kp h_ (.inl rfl))) HC.out E2.out).mono ?_
       rintro e w_ ⟨rfl, hi, hb, hk⟩
       refine ⟨_, rfl, ?_⟩
       refine hK.out _ _ ((blk_cell (HP.out.call hi hb hk).o3 0).trans rfl) (fun hHeld => ?_)
       clear hK K
       refine nP 14 ?_
       exact nR (hJ2_5_6 g6 _ ⟨hHeld, HP.out.call hi hb hk, KeepBut.blk hk O6.out N6.out.ng (by simp), N6.out⟩)
      ·skip
       refine box_step ?hg (N := 7) ?hd (cs := #[.int .i64 0, .int .i64 0, .int .i64 0, .int .i64 0]) (t := 28) ?hr ?_
       (case hd => rfl)
       (case hg => rfl)
       (case hr => first | (go_simp; done) | (go_simp; rfl))
       intro g7 hg w_ hbox hb
       refine hK.out _ _ ((blk_cell (HP.out.below hb).o3 0).trans rfl) (fun hHeld => ?_)
       clear hK K
       refine nP 7 ?_
       exact nR (hJ2_6_7 (g6, g7) _ ⟨hHeld, HP.out.below hb, blk_below O6.out hb, N6.out, hbox, HP.out.new hg, (by rw [hg]; exact Nat.ne_of_lt (blk_lt O6.out))⟩)
     rintro _ w_ ⟨hS_, h0_⟩
     have HP := am h0_
     clear h0_
     have hHeld : w_.cell? ⟨g3, 0, none⟩ = some (.slice A1_0 l1_0.length c1_0) := hS_
     refine nQ ?_
     refine two_ (i := 6) (j := 7) (Ni := some 6) (Nj := some 7) #[true, true, true, true, true, true, true, false, false, false] #[true, true, true, true, true, true, false, true, false, false] rfl rfl rfl rfl (two_of HT_.out (by kernel_rfl)) (by decide) (by decide) (fun K hK => ?_) (fun K hK => ?_)
     ·skip
      refine box_step ?hg (N := 6) ?hd (cs := #[.int .i64 0, .int .i64 0, .int .i64 0, .int .i64 0]) (t := 28) ?hr ?_
      (case hd => rfl)
      (case hg => rfl)
      (case hr => first | (go_simp; done) | (go_simp; rfl))
      intro g6 hg w_ hbox hb
      refine hK.out _ _ ((blk_cell (HP.out.below hb).o3 0).trans rfl) (fun hHeld => ?_)
      clear hK K
      refine nP 6 ?_
      exact nR (hJ2_5_6 g6 _ ⟨hHeld, HP.out.below hb, hbox, HP.out.new hg⟩)
     ·skip
      refine box_step ?hg (N := 7) ?hd (cs := #[.int .i64 0, .int .i64 0, .int .i64 0, .int .i64 0]) (t := 28) ?hr ?_
      (case hd => rfl)
      (case hg => rfl)
      (case hr => first | (go_simp; done) | (go_simp; rfl))
      intro g7 hg w_ hbox hb
      refine hK.out _ _ ((blk_cell (HP.out.below hb).o3 0).trans rfl) (fun hHeld => ?_)
      clear hK K
      refine nP 7 ?_
      exact nR (hJ2_5_7 g7 _ ⟨hHeld, HP.out.below hb, hbox, HP.out.new hg⟩)
    rintro ⟨g6, g7⟩ w_ ⟨hS_, h0_, ho6, hn6, ho7, hn7, hne⟩
    have HP := am h0_
    have O6 := am ho6
    have N6 := am hn6
    have O7 := am ho7
    have N7 := am hn7
    have NE := am hne
    clear h0_ ho6 hn6 ho7 hn7 hne
    have hHeld : w_.cell? ⟨g3, 0, none⟩ = some (.slice A1_0 l1_0.length c1_0) := hS_
    refine nQ ?_
    refine one_ (i := 5) (N := some 14) #[true, true, true, true, true, true, true, true, false, false] rfl rfl (one_of HT_.out (by kernel_rfl)) (by decide) (fun K hK => ?_)
    ·skip
     refine goes_ Tryd.func107 (by kernel_rfl) rfl #[.pointer (some ⟨g, 0, none⟩), .agg #[.slice A1_0 l1_0.length c1_0]] (by rfl) rfl rfl (by (try simp only [List.map_toArray, List.map_cons, List.map_nil]); first | done | rfl) ?_
     with_reducible refine (spec_l1Cur_window.calls k g s0_0 a1 q1 _ _ l1_0 z0 z1 z2 z3 a2 q2 w0 _ HP.out.st HP.out.bw (fun W_ h_ => HR.out W_ (KeepBut.trans HP.out.kp h_ (.inl rfl))) HC.out E2.out).mono ?_
     rintro e w_ ⟨rfl, hi, hb, hk⟩
     refine ⟨_, rfl, ?_⟩
     refine hK.out _ _ ((blk_cell (HP.out.call hi hb hk).o3 0).trans rfl) (fun hHeld => ?_)
     clear hK K
     refine nP 14 ?_
     exact nR (hJ2_5_6_7 (g6, g7) _ ⟨hHeld, HP.out.call hi hb hk, KeepBut.blk hk O6.out N6.out.ng (by simp), N6.out, KeepBut.blk hk O7.out N7.out.ng (by simp), N7.out, NE.out⟩)
   rintro g7 w_ ⟨hS_, h0_, ho7, hn7⟩
   have HP := am h0_
   have O7 := am ho7
   have N7 := am hn7
   clear h0_ ho7 hn7
   have hHeld : w_.cell? ⟨g3, 0, none⟩ = some (.slice A1_0 l1_0.length c1_0) := hS_
   refine nQ ?_
   refine one_ (i := 6) (N := some 6) #[true, true, true, true, true, true, true, true, false, false] rfl rfl (one_of HT_.out (by kernel_rfl)) (by decide) (fun K hK => ?_)
   ·skip
    refine box_step ?hg (N := 6) ?hd (cs := #[.int .i64 0, .int .i64 0, .int .i64 0, .int .i64 0]) (t := 28) ?hr ?_
    (case hd => rfl)
    (case hg => rfl)
    (case hr => first | (go_simp; done) | (go_simp; rfl))
    intro g6 hg w_ hbox hb
    refine hK.out _ _ ((blk_cell (HP.out.below hb).o3 0).trans rfl) (fun hHeld => ?_)
    clear hK K
    refine nP 6 ?_
    exact nR (hJ2_5_6_7 (g6, g7) _ ⟨hHeld, HP.out.below hb, hbox, HP.out.new hg, blk_below O7.out hb, N7.out, (by rw [hg]; exact Nat.ne_of_gt (blk_lt O7.out))⟩)
  rintro g6 w_ ⟨hS_, h0_, ho6, hn6⟩
  have HP := am h0_
  have O6 := am ho6
  have N6 := am hn6
  clear h0_ ho6 hn6
  have hHeld : w_.cell? ⟨g3, 0, none⟩ = some (.slice A1_0 l1_0.length c1_0) := hS_
  refine nQ ?_
  refine one_ (i := 7) (N := some 7) #[true, true, true, true, true, true, true, true, false, false] rfl rfl (one_of HT_.out (by kernel_rfl)) (by decide) (fun K hK => ?_)
  ·skip
   refine box_step ?hg (N := 7) ?hd (cs := #[.int .i64 0, .int .i64 0, .int .i64 0, .int .i64 0]) (t := 28) ?hr ?_
   (case hd => rfl)
   (case hg => rfl)
   (case hr => first | (go_simp; done) | (go_simp; rfl))
   intro g7 hg w_ hbox hb
   refine hK.out _ _ ((blk_cell (HP.out.below hb).o3 0).trans rfl) (fun hHeld => ?_)
   clear hK K
   refine nP 7 ?_
   exact nR (hJ2_5_6_7 (g6, g7) _ ⟨hHeld, HP.out.below hb, blk_below O6.out hb, N6.out, hbox, HP.out.new hg, (by rw [hg]; exact Nat.ne_of_lt (blk_lt O6.out))⟩)
 rintro ⟨g6, g7⟩ w_ ⟨hS_, h0_, ho6, hn6, ho7, hn7, hne⟩
 have HP := am h0_
 have O6 := am ho6
 have N6 := am hn6
 have O7 := am ho7
 have N7 := am hn7
 have NE := am hne
 clear h0_ ho6 hn6 ho7 hn7 hne
 have hHeld : w_.cell? ⟨g3, 0, none⟩ = some (.slice A1_0 l1_0.length c1_0) := hS_
 refine nQ ?_
 have hy6_0 : w_.cell? ⟨g6, 0, none⟩ = some (.int .i64 0) := (blk_cell O6.out 0).trans rfl
 have hy6f_0 := blk_frozen O6.out 0
 have hy6_1 : w_.cell? ⟨g6, 1, none⟩ = some (.int .i64 0) := (blk_cell O6.out 1).trans rfl
 have hy6f_1 := blk_frozen O6.out 1
 have hy6_2 : w_.cell? ⟨g6, 2, none⟩ = some (.int .i64 0) := (blk_cell O6.out 2).trans rfl
 have hy6f_2 := blk_frozen O6.out 2
 have hy6_3 : w_.cell? ⟨g6, 3, none⟩ = some (.int .i64 0) := (blk_cell O6.out 3).trans rfl
 have hy6f_3 := blk_frozen O6.out 3
 have hy7_0 : w_.cell? ⟨g7, 0, none⟩ = some (.int .i64 0) := (blk_cell O7.out 0).trans rfl
 have hy7f_0 := blk_frozen O7.out 0
 have hy7_1 : w_.cell? ⟨g7, 1, none⟩ = some (.int .i64 0) := (blk_cell O7.out 1).trans rfl
 have hy7f_1 := blk_frozen O7.out 1
 have hy7_2 : w_.cell? ⟨g7, 2, none⟩ = some (.int .i64 0) := (blk_cell O7.out 2).trans rfl
 have hy7f_2 := blk_frozen O7.out 2
 have hy7_3 : w_.cell? ⟨g7, 3, none⟩ = some (.int .i64 0) := (blk_cell O7.out 3).trans rfl
 have hy7f_3 := blk_frozen O7.out 3
 have hm67 := NE.out
 have hm76 := NE.out.symm
 refine one_ (i := 8) (N := none) #[true, true, true, true, true, true, true, true, true, false] rfl rfl (one_of HT_.out (by kernel_rfl)) (by decide) (fun K hK => ?_)
 refine skip_ (w1 := ?_) (by rfl) rfl ?_ ?_
 rotate_left
 ·go_simp
  rfl
 refine hK.out _ _ ((blk_cell (HP.out.put N6.out p0 p1 p2 p3).o3 0).trans rfl) (fun hHeld => ?_)
 clear hK K
 refine one_ (i := 9) (N := none) #[true, true, true, true, true, true, true, true, true, true] rfl rfl (one_of HT_.out (by kernel_rfl)) (by decide) (fun K hK => ?_)
 refine skip_ (w1 := ?_) (by rfl) rfl ?_ ?_
 rotate_left
 ·go_simp
  rfl
 refine hK.out _ _ ((blk_cell ((HP.out.put N6.out p0 p1 p2 p3).put N7.out z0 z1 z2 z3).o3 0).trans rfl) (fun hHeld => ?_)
 clear hK K
 refine done_ (done_of HT_.out (by kernel_rfl)) ?_
 go_upto_region 2 with (fail)
 replace HP := am ((HP.out.put N6.out p0 p1 p2 p3).put N7.out z0 z1 z2 z3)
 replace O6 := (show Aside0 ((set4 (set4 w_ g6 p0 p1 p2 p3) g7 z0 z1 z2 z3).heap[g6]? = some (C4 p0 p1 p2 p3)) from ⟨far4 (put4 O6.out) NE.out⟩)
 replace O7 := (show Aside0 ((set4 (set4 w_ g6 p0 p1 p2 p3) g7 z0 z1 z2 z3).heap[g7]? = some (C4 z0 z1 z2 z3)) from ⟨put4 (far4 O7.out NE.out.symm)⟩)
 clear hHeld hy6_0 hy6_1 hy6_2 hy6_3 hy7_0 hy7_1 hy7_2 hy7_3 hy6f_0 hy6f_1 hy6f_2 hy6f_3 hy7f_0 hy7f_1 hy7f_2 hy7f_3
 refine hideW ?_
 intro wx hW
 replace hW : wx = set4 (set4 w_ g6 p0 p1 p2 p3) g7 z0 z1 z2 z3 := hW
 rw [← hW] at HP O6 O7
 clear hW
 go_cut [22] (fun v22 wc => ∃ (kq : Nat) (b : Bool) (a q : Int), v22 = .bool b ∧ Aside0 (spec_l1Cur_pair.j0 kq b s0_0 a q p0 p1 p2 p3 z0 z1 z2 z3 = some (r1, r2, r3, r4, r5, r6, r7, r8, r9, r10)) ∧ Aside0 (PIn w0 w wc g g3 g4 g5 A1_0 c1_0 l1_0 s0_0 a q) ∧ Aside0 (wc.heap[g6]? = some (C4 p0 p1 p2 p3)) ∧ Aside0 (wc.heap[g7]? = some (C4 z0 z1 z2 z3)))
 case first =>
  obtain ⟨t0, A3, H⟩ := Option.bind_eq_some_iff.mp HH.out
  have E3 := am A3
  clear A3
  have hzm : wx.cell? ⟨g3, 0, none⟩ = some (.slice A1_0 l1_0.length c1_0) := (blk_cell HP.out.o3 0).trans rfl
  have hy6_0 : wx.cell? ⟨g6, 0, none⟩ = some (.int .i64 p0) := (blk_cell O6.out 0).trans rfl
  have hy6f_0 := blk_frozen O6.out 0
  have hy6_1 : wx.cell? ⟨g6, 1, none⟩ = some (.int .i64 p1) := (blk_cell O6.out 1).trans rfl
  have hy6f_1 := blk_frozen O6.out 1
  have hy6_2 : wx.cell? ⟨g6, 2, none⟩ = some (.int .i64 p2) := (blk_cell O6.out 2).trans rfl
  have hy6f_2 := blk_frozen O6.out 2
  have hy6_3 : wx.cell? ⟨g6, 3, none⟩ = some (.int .i64 p3) := (blk_cell O6.out 3).trans rfl
  have hy6f_3 := blk_frozen O6.out 3
  go_wp2_with (go_at_fn 96; fail)
  refine (spec_l2Window.calls k _ _ l1_0 p0 p1 p2 p3 t0 _ (HR.out _ HP.out.kp) HC.out E3.out).mono ?_
  rintro e w9 ⟨rfl, hb⟩
  replace HP := am (HP.out.below hb)
  replace O6 := am (blk_below O6.out hb)
  replace O7 := am (blk_below O7.out hb)
  clear hb
  cases t0 with
  | true =>
   rw [if_pos rfl] at H
   obtain ⟨⟨o, a3, q3⟩, A4, H⟩ := Option.bind_eq_some_iff.mp H
   have E4 := am A4
   clear A4
   dsimp only at H
   have HJ := am H
   clear H
   go_wp2_with (go_at_call 108; refine (spec_l1Cur_one.calls g s0_0 a2 q2 3 o a3 q3 w0 _ HP.out.st HP.out.bw E4.out).mono ?_; rintro e w10 ⟨rfl, hi, hb, hk⟩; replace O6 := am (KeepBut.blk hk O6.out N6.out.ng (by simp)); replace O7 := am (KeepBut.blk hk O7.out N7.out.ng (by simp)); replace HP := am (HP.out.call hi hb hk); clear hi hb hk)
   go_meet
   case rel => exact ⟨k, !o, a3, q3, rfl, HJ, HP, O6, O7⟩
  | false =>
   rw [if_neg Bool.false_ne_true] at H
   have HJ := am H
   clear H
   go_wp2
   go_meet
   case rel => exact ⟨k, false, a2, q2, rfl, HJ, HP, O6, O7⟩
 case rest =>
  clear HP O6 O7 HH
  obtain ⟨kq, b, a3, q3, rfl, HA, HP, O6, O7⟩ := hcut
  cases kq with
  | zero => exact absurd HA.out (by simp [spec_l1Cur_pair.j0])
  | succ kj =>
   have H := HA.out
   clear HA
   simp only [spec_l1Cur_pair.j0] at H
   cases b with
   | false =>
    rw [if_neg Bool.false_ne_true] at H
    simp only [Option.some.injEq, Prod.mk.injEq] at H
    obtain ⟨rfl, rfl, rfl, rfl, rfl, rfl, rfl, rfl, rfl, rfl⟩ := H
    try go_wp2
    replace HP := am HP.out.drew
    replace O6 := am (blk_drew O6.out)
    replace O7 := am (blk_drew O7.out)
    refine start_ (n := 4) (S := fun w' => w'.cell? ⟨g6, 0, none⟩ = some (.int .i64 p0) ∧ w'.cell? ⟨g6, 1, none⟩ = some (.int .i64 p1) ∧ w'.cell? ⟨g6, 2, none⟩ = some (.int .i64 p2) ∧ w'.cell? ⟨g6, 3, none⟩ = some (.int .i64 p3) ∧ w'.cell? ⟨g7, 0, none⟩ = some (.int .i64 z0) ∧ w'.cell? ⟨g7, 1, none⟩ = some (.int .i64 z1) ∧ w'.cell? ⟨g7, 2, none⟩ = some (.int .i64 z2) ∧ w'.cell? ⟨g7, 3, none⟩ = some (.int .i64 z3)) (ds := []) #[false, false, false, false] (by kernel_rfl) rfl rfl ⟨(blk_cell O6.out 0).trans rfl, (blk_cell O6.out 1).trans rfl, (blk_cell O6.out 2).trans rfl, (blk_cell O6.out 3).trans rfl, (blk_cell O7.out 0).trans rfl, (blk_cell O7.out 1).trans rfl, (blk_cell O7.out 2).trans rfl, (blk_cell O7.out 3).trans rfl⟩ (fun hHeld => ?_)
    generalize wc.drew = wz at HP O6 O7 hHeld ⊢
    refine tM #[true, false, false, false] 0 42 hHeld ?_
    refine tM #[true, true, false, false] 1 43 hHeld ?_
    have hy4_0 : wz.cell? ⟨g4, 0, none⟩ = some (.int .i64 0) := (blk_cell HP.out.o4 0).trans rfl
    have hy4f_0 := blk_frozen HP.out.o4 0
    have hy4_1 : wz.cell? ⟨g4, 1, none⟩ = some (.int .i64 0) := (blk_cell HP.out.o4 1).trans rfl
    have hy4f_1 := blk_frozen HP.out.o4 1
    have hy4_2 : wz.cell? ⟨g4, 2, none⟩ = some (.int .i64 0) := (blk_cell HP.out.o4 2).trans rfl
    have hy4f_2 := blk_frozen HP.out.o4 2
    have hy4_3 : wz.cell? ⟨g4, 3, none⟩ = some (.int .i64 0) := (blk_cell HP.out.o4 3).trans rfl
    have hy4f_3 := blk_frozen HP.out.o4 3
    have hy5_0 : wz.cell? ⟨g5, 0, none⟩ = some (.int .i64 0) := (blk_cell HP.out.o5 0).trans rfl
    have hy5f_0 := blk_frozen HP.out.o5 0
    have hy5_1 : wz.cell? ⟨g5, 1, none⟩ = some (.int .i64 0) := (blk_cell HP.out.o5 1).trans rfl
    have hy5f_1 := blk_frozen HP.out.o5 1
    have hy5_2 : wz.cell? ⟨g5, 2, none⟩ = some (.int .i64 0) := (blk_cell HP.out.o5 2).trans rfl
    have hy5f_2 := blk_frozen HP.out.o5 2
    have hy5_3 : wz.cell? ⟨g5, 3, none⟩ = some (.int .i64 0) := (blk_cell HP.out.o5 3).trans rfl
    have hy5f_3 := blk_frozen HP.out.o5 3
    have hm45 := HP.out.e45
    have hm54 := HP.out.e45.symm
    refine one_ (i := 2) (N := none) #[true, true, true, false] rfl rfl (by kernel_rfl) (by decide) (fun K hK => ?_)
    refine skip_ (w1 := ?_) (by rfl) rfl ?_ ?_
    rotate_left
    ·go_simp
     rfl
    refine hK.out _ _ ⟨(blk_cell (far4 O6.out N6.out.n4) 0).trans rfl, (blk_cell (far4 O6.out N6.out.n4) 1).trans rfl, (blk_cell (far4 O6.out N6.out.n4) 2).trans rfl, (blk_cell (far4 O6.out N6.out.n4) 3).trans rfl, (blk_cell (far4 O7.out N7.out.n4) 0).trans rfl, (blk_cell (far4 O7.out N7.out.n4) 1).trans rfl, (blk_cell (far4 O7.out N7.out.n4) 2).trans rfl, (blk_cell (far4 O7.out N7.out.n4) 3).trans rfl⟩ (fun hHeld => ?_)
    clear hK K
    refine one_ (i := 3) (N := none) #[true, true, true, true] rfl rfl (by kernel_rfl) (by decide) (fun K hK => ?_)
    refine skip_ (w1 := ?_) (by rfl) rfl ?_ ?_
    rotate_left
    ·go_simp
     rfl
    refine hK.out _ _ ⟨(blk_cell (far4 (far4 O6.out N6.out.n4) N6.out.n5) 0).trans rfl, (blk_cell (far4 (far4 O6.out N6.out.n4) N6.out.n5) 1).trans rfl, (blk_cell (far4 (far4 O6.out N6.out.n4) N6.out.n5) 2).trans rfl, (blk_cell (far4 (far4 O6.out N6.out.n4) N6.out.n5) 3).trans rfl, (blk_cell (far4 (far4 O7.out N7.out.n4) N7.out.n5) 0).trans rfl, (blk_cell (far4 (far4 O7.out N7.out.n4) N7.out.n5) 1).trans rfl, (blk_cell (far4 (far4 O7.out N7.out.n4) N7.out.n5) 2).trans rfl, (blk_cell (far4 (far4 O7.out N7.out.n4) N7.out.n5) 3).trans rfl⟩ (fun hHeld => ?_)
    clear hK K
    refine done_ (by kernel_rfl) ?_
    try go_wp2
    obtain ⟨f1, f2, f3, f4, f5⟩ := HP.out.fin p0 p1 p2 p3 z0 z1 z2 z3
    refine bodyPost_ret (results_cc rfl _ _ g4 g5 28 28 #[.int .i64 p0, .int .i64 p1, .int .i64 p2, .int .i64 p3] #[.int .i64 z0, .int .i64 z1, .int .i64 z2, .int .i64 z3] (0, 0) (0, 0) _ _ rfl f1 Tryd.underlying28 rfl (by kernel_rfl) rfl f2 Tryd.underlying28 rfl (by kernel_rfl)) rfl ?_
    exact ⟨rfl, f3, f4, f5⟩
   | true =>
    rw [if_pos rfl] at H
    obtain ⟨⟨i, a4, q4⟩, A5, H⟩ := Option.bind_eq_some_iff.mp H
    have E5 := am A5
    clear A5
    dsimp only at H
    obtain ⟨⟨jj, a5, q5⟩, A6, H⟩ := Option.bind_eq_some_iff.mp H
    have E6 := am A6
    clear A6
    dsimp only at H
    obtain ⟨⟨y0, y1, y2, y3⟩, A7, H⟩ := Option.bind_eq_some_iff.mp H
    have E7 := am A7
    clear A7
    simp only [Option.some.injEq, Prod.mk.injEq] at H
    obtain ⟨rfl, rfl, rfl, rfl, rfl, rfl, rfl, rfl, rfl, rfl⟩ := H
    have hy6_0 : wc.cell? ⟨g6, 0, none⟩ = some (.int .i64 p0) := (blk_cell O6.out 0).trans rfl
    have hy6f_0 := blk_frozen O6.out 0
    have hy6_1 : wc.cell? ⟨g6, 1, none⟩ = some (.int .i64 p1) := (blk_cell O6.out 1).trans rfl
    have hy6f_1 := blk_frozen O6.out 1
    have hy6_2 : wc.cell? ⟨g6, 2, none⟩ = some (.int .i64 p2) := (blk_cell O6.out 2).trans rfl
    have hy6f_2 := blk_frozen O6.out 2
    have hy6_3 : wc.cell? ⟨g6, 3, none⟩ = some (.int .i64 p3) := (blk_cell O6.out 3).trans rfl
    have hy6f_3 := blk_frozen O6.out 3
    go_wp2_with (go_at_fn 95; fail)
    refine (spec_l1Cur_pick.calls g s0_0 a3 q3 (wrap64 (p3 + 1)) i a4 q4 w0 _ HP.out.st HP.out.bw E5.out).mono ?_
    rintro e w11 ⟨rfl, hi, hb, hk⟩
    replace O6 := am (KeepBut.blk hk O6.out N6.out.ng (by simp))
    replace O7 := am (KeepBut.blk hk O7.out N7.out.ng (by simp))
    replace HP := am (HP.out.call hi hb hk)
    clear hi hb hk hy6_0 hy6_1 hy6_2 hy6_3 hy6f_0 hy6f_1 hy6f_2 hy6f_3
    try go_wp2
    replace HP := am HP.out.drew
    replace O6 := am (blk_drew O6.out)
    replace O7 := am (blk_drew O7.out)
    refine start_ (n := 15) (S := fun w' => w'.cell? ⟨g6, 0, none⟩ = some (.int .i64 p0) ∧ w'.cell? ⟨g6, 1, none⟩ = some (.int .i64 p1) ∧ w'.cell? ⟨g6, 2, none⟩ = some (.int .i64 p2) ∧ w'.cell? ⟨g6, 3, none⟩ = some (.int .i64 p3)) (ds := []) #[false, false, false, false, false, false, false, false, false, false, false, false, false, false, false] (by kernel_rfl) rfl rfl ⟨(blk_cell O6.out 0).trans rfl, (blk_cell O6.out 1).trans rfl, (blk_cell O6.out 2).trans rfl, (blk_cell O6.out 3).trans rfl⟩ (fun hHeld => ?_)
    refine with_tabW spec_l1Cur_pair.tab4 spec_l1Cur_pair.bits4 (fun HT_ HW_ => ?_)
    generalize w11.drew = w12 at HP O6 O7 hHeld ⊢
    refine pT #[false, true, false, false, false, false, false, false, false, false, false, false, false, false, false] 1 29 HT_ ?_
    refine pT #[false, true, true, false, false, false, false, false, false, false, false, false, false, false, false] 2 30 HT_ ?_
    refine pT #[false, true, true, true, false, false, false, false, false, false, false, false, false, false, false] 3 31 HT_ ?_
    refine pT #[false, true, true, true, true, false, false, false, false, false, false, false, false, false, false] 4 32 HT_ ?_
    refine pT #[false, true, true, true, true, false, true, false, false, false, false, false, false, false, false] 6 34 HT_ ?_
    refine pT #[false, true, true, true, true, false, true, false, false, false, false, true, false, false, false] 11 39 HT_ ?_
    refine tT #[true, true, true, true, true, false, true, false, false, false, false, true, false, false, false] 0 28 HT_ HW_ hHeld ?_
    refine tT #[true, true, true, true, true, true, true, false, false, false, false, true, false, false, false] 5 33 HT_ HW_ hHeld ?_
    refine pT #[true, true, true, true, true, true, true, true, false, false, false, true, false, false, false] 7 35 HT_ ?_
    refine pT #[true, true, true, true, true, true, true, true, true, false, false, true, false, false, false] 8 36 HT_ ?_
    refine tT #[true, true, true, true, true, true, true, true, true, false, false, true, true, false, false] 12 40 HT_ HW_ hHeld ?_
    refine one_ (i := 9) (N := some 37) #[true, true, true, true, true, true, true, true, true, true, false, true, true, false, false] rfl rfl (by kernel_rfl) (by decide) (fun K hK => ?_)
    refine goes_ Tryd.func95 (by kernel_rfl) rfl #[.pointer (some ⟨g, 0, none⟩), .int .i64 (wrap64 ((wrap64 (p3 - i)) + 1))] (by rfl) rfl rfl (by (try simp only [List.map_toArray, List.map_cons, List.map_nil]); first | done | rfl) ?_
    with_reducible refine (spec_l1Cur_pick.calls g s0_0 a4 q4 (wrap64 ((wrap64 (p3 - i)) + 1)) jj _ _ w0 _ HP.out.st HP.out.bw E6.out).mono ?_
    rintro e w13 ⟨rfl, hi, hb, hk⟩
    refine ⟨_, rfl, ?_⟩
    replace O6 := am (KeepBut.blk hk O6.out N6.out.ng (by simp))
    replace O7 := am (KeepBut.blk hk O7.out N7.out.ng (by simp))
    replace HP := am (HP.out.call hi hb hk)
    clear hi hb hk
    refine hK.out _ _ ⟨(blk_cell O6.out 0).trans rfl, (blk_cell O6.out 1).trans rfl, (blk_cell O6.out 2).trans rfl, (blk_cell O6.out 3).trans rfl⟩ (fun hHeld => ?_)
    clear hK K
    refine nP 37 ?_
    refine pT #[true, true, true, true, true, true, true, true, true, true, true, true, true, false, false] 10 38 HT_ ?_
    refine one_ (i := 13) (N := some 41) #[true, true, true, true, true, true, true, true, true, true, true, true, true, true, false] rfl rfl (by kernel_rfl) (by decide) (fun K hK => ?_)
    refine goes_ Tryd.func97 (by kernel_rfl) rfl #[.agg #[.int .i64 p0, .int .i64 p1, .int .i64 p2, .int .i64 p3], .int .i64 i, .int .i64 (wrap64 (i + jj)), .int .i64 p3] (by rfl) rfl rfl (by (try simp only [List.map_toArray, List.map_cons, List.map_nil]); first | done | rfl) ?_
    with_reducible refine (spec_l2Slice.calls p0 p1 p2 p3 i (wrap64 (i + jj)) p3 _ _ _ _ _ E7.out).mono ?_
    rintro e w14 ⟨rfl, hb⟩
    refine ⟨_, rfl, ?_⟩
    replace O6 := am (blk_below O6.out hb)
    replace O7 := am (blk_below O7.out hb)
    replace HP := am (HP.out.below hb)
    clear hb
    refine hK.out _ _ ⟨(blk_cell O6.out 0).trans rfl, (blk_cell O6.out 1).trans rfl, (blk_cell O6.out 2).trans rfl, (blk_cell O6.out 3).trans rfl⟩ (fun hHeld => ?_)
    clear hK K
    refine nP 41 ?_
    have hy7_0 : w14.cell? ⟨g7, 0, none⟩ = some (.int .i64 z0) := (blk_cell O7.out 0).trans rfl
    have hy7f_0 := blk_frozen O7.out 0
    have hy7_1 : w14.cell? ⟨g7, 1, none⟩ = some (.int .i64 z1) := (blk_cell O7.out 1).trans rfl
    have hy7f_1 := blk_frozen O7.out 1
    have hy7_2 : w14.cell? ⟨g7, 2, none⟩ = some (.int .i64 z2) := (blk_cell O7.out 2).trans rfl
    have hy7f_2 := blk_frozen O7.out 2
    have hy7_3 : w14.cell? ⟨g7, 3, none⟩ = some (.int .i64 z3) := (blk_cell O7.out 3).trans rfl
    have hy7f_3 := blk_frozen O7.out 3
    refine one_ (i := 14) (N := none) #[true, true, true, true, true, true, true, true, true, true, true, true, true, true, true] rfl rfl (one_of HT_.out (by kernel_rfl)) (by decide) (fun K hK => ?_)
    refine skip_ (w1 := ?_) (by rfl) rfl ?_ ?_
    rotate_left
    ·go_simp
     rfl
    refine hK.out _ _ ⟨(blk_cell (far4 O6.out NE.out) 0).trans rfl, (blk_cell (far4 O6.out NE.out) 1).trans rfl, (blk_cell (far4 O6.out NE.out) 2).trans rfl, (blk_cell (far4 O6.out NE.out) 3).trans rfl⟩ (fun hHeld => ?_)
    clear hK K
    refine done_ (done_of HT_.out (by kernel_rfl)) ?_
    try go_wp2
    replace HP := am (HP.out.put N7.out y0 y1 y2 y3)
    replace O6 := (show Aside0 ((set4 w14 g7 y0 y1 y2 y3).heap[g6]? = some (C4 p0 p1 p2 p3)) from ⟨far4 O6.out NE.out⟩)
    replace O7 := (show Aside0 ((set4 w14 g7 y0 y1 y2 y3).heap[g7]? = some (C4 y0 y1 y2 y3)) from ⟨put4 O7.out⟩)
    clear hHeld hy7_0 hy7_1 hy7_2 hy7_3 hy7f_0 hy7f_1 hy7f_2 hy7f_3
    refine hideW ?_
    intro w15 hW
    replace hW : w15 = set4 w14 g7 y0 y1 y2 y3 := hW
    rw [← hW] at HP O6 O7
    clear hW
    replace HP := am HP.out.drew
    replace O6 := am (blk_drew O6.out)
    replace O7 := am (blk_drew O7.out)
    refine start_ (n := 4) (S := fun w' => w'.cell? ⟨g6, 0, none⟩ = some (.int .i64 p0) ∧ w'.cell? ⟨g6, 1, none⟩ = some (.int .i64 p1) ∧ w'.cell? ⟨g6, 2, none⟩ = some (.int .i64 p2) ∧ w'.cell? ⟨g6, 3, none⟩ = some (.int .i64 p3) ∧ w'.cell? ⟨g7, 0, none⟩ = some (.int .i64 y0) ∧ w'.cell? ⟨g7, 1, none⟩ = some (.int .i64 y1) ∧ w'.cell? ⟨g7, 2, none⟩ = some (.int .i64 y2) ∧ w'.cell? ⟨g7, 3, none⟩ = some (.int .i64 y3)) (ds := []) #[false, false, false, false] (by kernel_rfl) rfl rfl ⟨(blk_cell O6.out 0).trans rfl, (blk_cell O6.out 1).trans rfl, (blk_cell O6.out 2).trans rfl, (blk_cell O6.out 3).trans rfl, (blk_cell O7.out 0).trans rfl, (blk_cell O7.out 1).trans rfl, (blk_cell O7.out 2).trans rfl, (blk_cell O7.out 3).trans rfl⟩ (fun hHeld => ?_)
    generalize w15.drew = wz at HP O6 O7 hHeld ⊢
    refine tM #[true, false, false, false] 0 42 hHeld ?_
    refine tM #[true, true, false, false] 1 43 hHeld ?_
    have hy4_0 : wz.cell? ⟨g4, 0, none⟩ = some (.int .i64 0) := (blk_cell HP.out.o4 0).trans rfl
    have hy4f_0 := blk_frozen HP.out.o4 0
    have hy4_1 : wz.cell? ⟨g4, 1, none⟩ = some (.int .i64 0) := (blk_cell HP.out.o4 1).trans rfl
    have hy4f_1 := blk_frozen HP.out.o4 1
    have hy4_2 : wz.cell? ⟨g4, 2, none⟩ = some (.int .i64 0) := (blk_cell HP.out.o4 2).trans rfl
    have hy4f_2 := blk_frozen HP.out.o4 2
    have hy4_3 : wz.cell? ⟨g4, 3, none⟩ = some (.int .i64 0) := (blk_cell HP.out.o4 3).trans rfl
    have hy4f_3 := blk_frozen HP.out.o4 3
    have hy5_0 : wz.cell? ⟨g5, 0, none⟩ = some (.int .i64 0) := (blk_cell HP.out.o5 0).trans rfl
    have hy5f_0 := blk_frozen HP.out.o5 0
    have hy5_1 : wz.cell? ⟨g5, 1, none⟩ = some (.int .i64 0) := (blk_cell HP.out.o5 1).trans rfl
    have hy5f_1 := blk_frozen HP.out.o5 1
    have hy5_2 : wz.cell? ⟨g5, 2, none⟩ = some (.int .i64 0) := (blk_cell HP.out.o5 2).trans rfl
    have hy5f_2 := blk_frozen HP.out.o5 2
    have hy5_3 : wz.cell? ⟨g5, 3, none⟩ = some (.int .i64 0) := (blk_cell HP.out.o5 3).trans rfl
    have hy5f_3 := blk_frozen HP.out.o5 3
    have hm45 := HP.out.e45
    have hm54 := HP.out.e45.symm
    refine one_ (i := 2) (N := none) #[true, true, true, false] rfl rfl (by kernel_rfl) (by decide) (fun K hK => ?_)
    refine skip_ (w1 := ?_) (by rfl) rfl ?_ ?_
    rotate_left
    ·go_simp
     rfl
    refine hK.out _ _ ⟨(blk_cell (far4 O6.out N6.out.n4) 0).trans rfl, (blk_cell (far4 O6.out N6.out.n4) 1).trans rfl, (blk_cell (far4 O6.out N6.out.n4) 2).trans rfl, (blk_cell (far4 O6.out N6.out.n4) 3).trans rfl, (blk_cell (far4 O7.out N7.out.n4) 0).trans rfl, (blk_cell (far4 O7.out N7.out.n4) 1).trans rfl, (blk_cell (far4 O7.out N7.out.n4) 2).trans rfl, (blk_cell (far4 O7.out N7.out.n4) 3).trans rfl⟩ (fun hHeld => ?_)
    clear hK K
    refine one_ (i := 3) (N := none) #[true, true, true, true] rfl rfl (by kernel_rfl) (by decide) (fun K hK => ?_)
    refine skip_ (w1 := ?_) (by rfl) rfl ?_ ?_
    rotate_left
    ·go_simp
     rfl
    refine hK.out _ _ ⟨(blk_cell (far4 (far4 O6.out N6.out.n4) N6.out.n5) 0).trans rfl, (blk_cell (far4 (far4 O6.out N6.out.n4) N6.out.n5) 1).trans rfl, (blk_cell (far4 (far4 O6.out N6.out.n4) N6.out.n5) 2).trans rfl, (blk_cell (far4 (far4 O6.out N6.out.n4) N6.out.n5) 3).trans rfl, (blk_cell (far4 (far4 O7.out N7.out.n4) N7.out.n5) 0).trans rfl, (blk_cell (far4 (far4 O7.out N7.out.n4) N7.out.n5) 1).trans rfl, (blk_cell (far4 (far4 O7.out N7.out.n4) N7.out.n5) 2).trans rfl, (blk_cell (far4 (far4 O7.out N7.out.n4) N7.out.n5) 3).trans rfl⟩ (fun hHeld => ?_)
    clear hK K
    refine done_ (by kernel_rfl) ?_
    try go_wp2
    obtain ⟨f1, f2, f3, f4, f5⟩ := HP.out.fin p0 p1 p2 p3 y0 y1 y2 y3
    refine bodyPost_ret (results_cc rfl _ _ g4 g5 28 28 #[.int .i64 p0, .int .i64 p1, .int .i64 p2, .int .i64 p3] #[.int .i64 y0, .int .i64 y1, .int .i64 y2, .int .i64 y3] (0, 0) (0, 0) _ _ rfl f1 Tryd.underlying28 rfl (by kernel_rfl) rfl f2 Tryd.underlying28 rfl (by kernel_rfl)) rfl ?_
    exact ⟨rfl, f3, f4, f5⟩
abbrev WinV (x : S28) : Value := .agg #[.int .i64 x.f0, .int .i64 x.f1, .int .i64 x.f2, .int .i64 x.f3]
def PredB (g : Nat) (lb : Array Value) (p : S28 → Bool) (w : World) : Prop :=
  ∀ (W : World) (x : S28), Below w.heap.size w W → Calls Tryd.prog g (#[WinV x] ++ lb) W fun e w' => e = .returned (.bool (p x)) ∧ Below w.heap.size w w'
def firstAt (p : S28 → Bool) : List S28 → Int → Int
  | [], _ => -1
  | x :: xs, i => if p x = true then i else firstAt p xs (i + 1)
theorem firstAt_any (p : S28 → Bool) (l : List S28) : ∀ i : Int, 0 ≤ i → decide (0 ≤ firstAt p l i) = l.any p := by
  induction l with
  | nil => intro i h; rfl
  | cons x xs ih =>
    intro i h
    unfold firstAt
    rw [List.any_cons]
    cases hx : p x with
    | true => rw [if_pos rfl]; simpa using h
    | false => rw [if_neg (by simp), ih (i + 1) (by omega)]; rfl
theorem firstAt_drop (p : S28 → Bool) (l : List S28) (k : Nat) (h : k < l.length) : firstAt p (l.drop k) k = if p (rd_T28 l (k : Int)) = true then (k : Int) else firstAt p (l.drop (k + 1)) ((k + 1 : Nat) : Int) := by
  rw [drop_cons l z28 k h, firstAt]
  rfl
set_option maxHeartbeats 2000000 in
set_option maxRecDepth 100000 in
theorem indexFunc.calls (g : Nat) (lb : Array Value) (p : S28 → Bool) (A0 : Option Addr) (c0 : Nat) (l : List S28) (w : World) (eg : ∀ args w, (callFunc g args).run Tryd.prog w = .ok (.enter g args) w)
    (hp : PredB g lb p w) (hr : Kd.C k28 w A0 l.length l) :
    Calls Tryd.prog 134 #[.slice A0 l.length c0, .func (.func g) #[] lb] w fun e w' => e = .returned (.int .i64 (firstAt p l 0)) ∧ Below w.heap.size w w' := by
 have hmax : l.length ≤ 9223372036854775807 := hr.2.1
 have HP := am hp
 have HR := am hr
 clear hp hr
 go_enter Tryd.func134, Tryd.ntmps134
 go_wp2
 go_loopg [5, 8] l.length (fun gg _ s8 wr => ∃ kk : Nat, kk ≤ l.length ∧ l.length - kk ≤ gg ∧ s8 = .int .i64 kk ∧ Aside0 (Below w.heap.size w wr) ∧ Aside0 (firstAt p l 0 = firstAt p (l.drop kk) kk))
 case atStart => exact ⟨0, Nat.zero_le _, by omega, rfl, ⟨Below.refl _ w⟩, ⟨rfl⟩⟩
 case round =>
  obtain ⟨kk, hkk, hg, rfl, BW, HK⟩ := hrel
  by_cases hlt : kk < l.length
  ·have hltz : (kk : Int) < (l.length : Int) := by omega
   obtain ⟨ad, e0, x0, x1, x2, x3⟩ := at_T28 (Kd.C_below HR.out BW.out) (kk : Int) (by omega) hltz
   cases e0
   simp only [Int.toNat_natCast] at x0 x1 x2 x3
   have hcall := HP.out wr (rd_T28 l (kk : Int)) BW.out
   have HK2 := am (HK.out.trans (firstAt_drop p l kk hlt))
   clear HK
   generalize hy : rd_T28 l (kk : Int) = y at x0 x1 x2 x3 hcall HK2
   clear hy
   cases hq : p y with
   | true =>
    have HQ := am hq
    clear hq
    rw [HQ.out] at hcall
    go_wp2_with (go_at_fn g; refine hcall.mono ?_; rintro e w' ⟨rfl, hb'⟩)
    go_ret
    refine ⟨?_, hb'⟩
    rw [HK2.out, if_pos HQ.out]
    rfl
   | false =>
    have HQ := am hq
    clear hq
    rw [HQ.out] at hcall
    go_wp2_with (go_at_fn g; refine hcall.mono ?_; rintro e w' ⟨rfl, hb'⟩)
    go_roundg (l.length - (kk + 1))
    case measure => omega
    case rel => exact ⟨kk + 1, by omega, by omega, by go_num, ⟨hb'⟩, ⟨by rw [HK2.out, if_neg (by rw [HQ.out]; simp)]⟩⟩
  ·have hltz : ¬ (kk : Int) < (l.length : Int) := by omega
   go_wp2
   go_ret
   refine ⟨?_, BW.out⟩
   rw [HK.out, List.drop_eq_nil_of_le (by omega)]
   rfl
set_option maxHeartbeats 2000000 in
theorem containsFunc.calls (g : Nat) (lb : Array Value) (p : S28 → Bool) (A0 : Option Addr) (c0 : Nat) (l : List S28) (w : World) (eg : ∀ args w, (callFunc g args).run Tryd.prog w = .ok (.enter g args) w)
    (hp : PredB g lb p w) (hr : Kd.C k28 w A0 l.length l) :
    Calls Tryd.prog 109 #[.slice A0 l.length c0, .func (.func g) #[] lb] w fun e w' => e = .returned (.bool (l.any p)) ∧ Below w.heap.size w w' := by
 have HP := am hp
 have HR := am hr
 clear hp hr
 have HE := am (firstAt_any p l 0 (Int.le_refl _))
 go_enter Tryd.func109, Tryd.ntmps109
 go_wp2_with (go_at_call 134; (with_reducible refine (indexFunc.calls g lb p _ _ l _ eg HP.out HR.out).mono ?_); rintro e w' ⟨rfl, hb'⟩)
 go_ret
 refine ⟨?_, hb'⟩
 rw [← HE.out]
 rfl
theorem areOn1.calls (b : Nat) (A0 : Option Addr) (c0 : Nat) (m : List (List Int)) (hm : Fit m) (x : S28) (w : World) (hb : w.heap[b]? = some (.cells #[.slice A0 m.length c0] 26 (0, 0))) (hr : Kd.C (Kd.slice 5 (Kd.int .u8)) w A0 m.length m) (hc : m.length ≤ c0) :
    Calls Tryd.prog 110 #[WinV x, .pointer (some ⟨b, 0, none⟩)] w fun e w' => e = .returned (.bool (!winOn m x.f0 x.f1 x.f2 x.f3)) ∧ Below w.heap.size w w' := by
 have HR := am hr
 have HC := am hc
 have hcell : w.cell? ⟨b, 0, none⟩ = some (.slice A0 m.length c0) := (blk_cell hb 0).trans rfl
 have hlt : b < w.heap.size := blk_lt hb
 clear hr hc hb
 have HW := am (hasWin m hm x.f0 x.f1 x.f2 x.f3)
 go_enter Tryd.func110, Tryd.ntmps110
 go_wp2_with (go_at_call 98; (with_reducible refine (impl_Memory_hasWindow.calls _ _ m x.f0 x.f1 x.f2 x.f3 _ _ ?s1 ?s2 HW.out).mono ?_); (case s1 => exact Kd.C_alloc HR.out _); (case s2 => exact HC.out); rintro e w' ⟨rfl, hb'⟩)
 go_ret
 exact ⟨rfl, below_step (below_alloc (Below.refl _ _) _) hb'⟩
def impl_areOn.f (k : Nat) (m : List (List Int)) (l : List S28) : Option Bool :=
  if m.length ≤ 9223372036854775807 then (impl_IsMemory.f k m).bind fun t => if t = true then some (!l.any fun x => !winOn m x.f0 x.f1 x.f2 x.f3) else some false else none
set_option maxHeartbeats 2000000 in
theorem areOn_yes (A0 : Option Addr) (c0 : Nat) (m : List (List Int)) (A1 : Option Addr) (c1 : Nat) (l : List S28) (k : Nat) (w : World) (hm : Fit m) (hr0 : Kd.C (Kd.slice 5 (Kd.int .u8)) w A0 m.length m) (hc0 : m.length ≤ c0)
    (hr1 : Kd.C k28 w A1 l.length l) (hc1 : l.length ≤ c1) (h : impl_IsMemory.f k m = some true) :
    Calls Tryd.prog 63 #[.agg #[.slice A0 m.length c0], .slice A1 l.length c1] w fun e w' => e = .returned (.bool (!l.any fun x => !winOn m x.f0 x.f1 x.f2 x.f3)) ∧ Below w.heap.size w w' := by
 have HR0 := am hr0
 have HC0 := am hc0
 have HR1 := am hr1
 have H := am h
 have HM := am hm
 clear hr0 hc0 hr1 hc1 h hm
 have eg := enters_of Tryd.func110 (by kernel_rfl) rfl
 go_enter Tryd.func63, Tryd.ntmps63
 go_wp2_with (first | (go_at_call 52; (with_reducible refine (impl_IsMemory.calls k _ _ m true _ ?s1 ?s2 H.out).mono ?_); (case s1 => exact Kd.C_alloc HR0.out _); (case s2 => exact HC0.out); rintro e w1 ⟨rfl, hb1⟩; have HK1 := am (blk_below (blk_new w (.cells #[.slice A0 m.length c0] 26)) hb1); have HB1 := am (below_step (below_alloc (Below.refl w.heap.size w) _) hb1); clear hb1) | (go_at_call 109; (refine (containsFunc.calls 110 #[.pointer (some ⟨w.heap.size, 0, none⟩)] (fun x => !winOn m x.f0 x.f1 x.f2 x.f3) _ _ l _ eg ?s3 ?s4).mono ?_); (case s3 => exact (fun W x hW => (areOn1.calls w.heap.size A0 c0 m HM.out x W (blk_below HK1.out hW) (Kd.C_below (Kd.C_below HR0.out HB1.out) hW) HC0.out).mono fun e w' ⟨he, hb⟩ => ⟨he, below_step hW hb⟩)); (case s4 => exact Kd.C_below HR1.out HB1.out); rintro e w2 ⟨rfl, hb2⟩; have HB2 := am (below_step HB1.out hb2); clear hb2))
 go_ret
 exact ⟨rfl, HB2.out⟩
set_option maxHeartbeats 2000000 in
theorem areOn_no (A0 : Option Addr) (c0 : Nat) (m : List (List Int)) (A1 : Option Addr) (c1 : Nat) (l : List S28) (k : Nat) (w : World) (hr0 : Kd.C (Kd.slice 5 (Kd.int .u8)) w A0 m.length m) (hc0 : m.length ≤ c0)
    (h : impl_IsMemory.f k m = some false) :
    Calls Tryd.prog 63 #[.agg #[.slice A0 m.length c0], .slice A1 l.length c1] w fun e w' => e = .returned (.bool false) ∧ Below w.heap.size w w' := by
 have HR0 := am hr0
 have HC0 := am hc0
 have H := am h
 clear hr0 hc0 h
 go_enter Tryd.func63, Tryd.ntmps63
 go_wp2_with (first | (go_at_call 52; (with_reducible refine (impl_IsMemory.calls k _ _ m false _ ?s1 ?s2 H.out).mono ?_); (case s1 => exact Kd.C_alloc HR0.out _); (case s2 => exact HC0.out); rintro e w1 ⟨rfl, hb1⟩; have HB1 := am (below_step (below_alloc (Below.refl w.heap.size w) _) hb1); clear hb1))
 go_ret
 exact ⟨rfl, HB1.out⟩
theorem fit_of_C {e : Nat} {w : World} {A : Option Addr} {n : Nat} {m : List (List Int)} (h : Kd.C (Kd.slice e (Kd.int .u8)) w A n m) : Fit m := by
  refine ⟨by have := h.1; have := h.2.1; omega, fun a ha => ?_⟩
  obtain ⟨i, hi, rfl⟩ := List.getElem_of_mem ha
  obtain ⟨ad, _, hc⟩ := h.2.2 (by have := h.1; omega)
  obtain ⟨c, _, ⟨A', c', _, _, hC⟩, _⟩ := hc i m[i] (List.getElem?_eq_getElem hi)
  exact hC.2.1
theorem impl_areOn.calls (k : Nat) (A0_0 : Option Addr) (c0_0 : Nat) (l0_0 : List (List Int)) (A1 : Option Addr) (c1 : Nat) (l1 : List S28) (r : Bool) (w : World) (hr0_0 : Kd.C (Kd.slice 5 (Kd.int .u8)) w A0_0 l0_0.length l0_0) (hc0_0 : l0_0.length ≤ c0_0)
    (hr1 : Kd.C k28 w A1 l1.length l1) (hc1 : l1.length ≤ c1) (h : impl_areOn.f k l0_0 l1 = some r) :
    Calls Tryd.prog 63 #[.agg #[.slice A0_0 l0_0.length c0_0], .slice A1 l1.length c1] w fun e w' => e = .returned (.bool r) ∧ Below w.heap.size w w' := by
  unfold impl_areOn.f at h
  have hm := fit_of_C hr0_0
  rw [if_pos hm.1] at h
  obtain ⟨b, hb, h⟩ := Option.bind_eq_some_iff.mp h
  cases b with
  | true =>
    rw [if_pos rfl] at h
    obtain rfl := Option.some.inj h
    exact areOn_yes A0_0 c0_0 l0_0 A1 c1 l1 k w hm hr0_0 hc0_0 hr1 hc1 hb
  | false =>
    rw [if_neg (by simp)] at h
    obtain rfl := Option.some.inj h
    exact areOn_no A0_0 c0_0 l0_0 A1 c1 l1 k w hr0_0 hc0_0 hb
theorem areOn_ev (m : List (List Int)) (hm : Fit m) (l : List S28) : Ev (fun k => impl_areOn.f k m l) (memOk m && l.all fun x => winOn m x.f0 x.f1 x.f2 x.f3) := by
  obtain ⟨K, hK⟩ := isMem m hm.1
  refine ⟨K, fun k hk => ?_⟩
  have e1 := hK k hk
  dsimp only at e1 ⊢
  unfold impl_areOn.f
  rw [if_pos hm.1, e1]
  simp only [Option.bind_some]
  cases memOk m with
  | true => simp [List.all_eq_not_any_not]
  | false => simp
def spec_DrawCommonPlaces.f (k : Nat) (l0 : List Int) : Option ((List (List Int)) × Int × Int × Int × Int × Int × Int × Int × Int) := (spec_l1Cur_memory.f k l0 0 0).bind fun bt480 => ((spec_l1Cur_pair.f k l0 bt480.2.1 bt480.2.2 bt480.1).bind fun bt486 => (some (bt480.1, bt486.1, bt486.2.1, bt486.2.2.1, bt486.2.2.2.1, bt486.2.2.2.2.1, bt486.2.2.2.2.2.1, bt486.2.2.2.2.2.2.1, bt486.2.2.2.2.2.2.2.1)))
set_option maxHeartbeats 8000000 in
set_option maxRecDepth 100000 in
theorem spec_DrawCommonPlaces.calls (k : Nat) (A0 : Option Addr) (c0 : Nat) (l0 : List Int) (r1 : List (List Int)) (r2 : Int) (r3 : Int) (r4 : Int) (r5 : Int) (r6 : Int) (r7 : Int) (r8 : Int) (r9 : Int) (w : World) (hr0 : Kd.C (Kd.int .u8) w A0 l0.length l0) (hc0 : l0.length ≤ c0) (h : spec_DrawCommonPlaces.f k l0 = some (r1, r2, r3, r4, r5, r6, r7, r8, r9)) :
    Calls Tryd.prog 7 #[.slice A0 l0.length c0] w fun e w' => ∃ v0_ : Value, e = .returned (.tuple #[.agg #[v0_], .agg #[.int .i64 r2, .int .i64 r3, .int .i64 r4, .int .i64 r5], .agg #[.int .i64 r6, .int .i64 r7, .int .i64 r8, .int .i64 r9]]) ∧ Kd.S (Kd.slice 5 (Kd.int .u8)) 22 w' w.heap.size (fun _ => True) v0_ r1 ∧ Below w.heap.size w w' := by
 have hu26 := Tryd.underlying26
 have hu28 := Tryd.underlying28
 have hu85 := Tryd.underlying85
 have HR0 := am hr0
 have HC0 := am hc0
 clear hr0 hc0
 have HB := am (Below.refl w.heap.size w)
 have H : ((spec_l1Cur_memory.f k l0 0 0).bind fun bt480 => ((spec_l1Cur_pair.f k l0 bt480.2.1 bt480.2.2 bt480.1).bind fun bt486 => (some (bt480.1, bt486.1, bt486.2.1, bt486.2.2.1, bt486.2.2.2.1, bt486.2.2.2.2.1, bt486.2.2.2.2.2.1, bt486.2.2.2.2.2.2.1, bt486.2.2.2.2.2.2.2.1)))) = some (r1, r2, r3, r4, r5, r6, r7, r8, r9) := h
 clear h
 replace H := Option.bind_eq_some_iff.mp H
 obtain ⟨⟨t480, t483, t484⟩, A20, H⟩ := H
 try dsimp only at H
 have A2 := am A20
 clear A20
 replace H := Option.bind_eq_some_iff.mp H
 obtain ⟨⟨t486, t487, t488, t489, t490, t491, t492, t493, t494, t495⟩, A30, H⟩ := H
 try dsimp only at H
 have A3 := am A30
 clear A30
 simp only [Option.some.injEq, Prod.mk.injEq] at H
 obtain ⟨rfl, rfl, rfl, rfl, rfl, rfl, rfl, rfl, rfl⟩ := H
 go_enter Tryd.func7, Tryd.ntmps7
 try go_wp2_with (first | ((with_reducible refine gate_dst (N := 2) rfl ?_); refine bE 2 #[.slice none 0 0] 26 ?_; intro gb476 hg w4 hbox hb; have BK476 := am hbox; have GW476 := gB hg HB; have GE476 := gB hg HB; replace HB := hB hb HB; clear hb hbox hg) | ((with_reducible refine gate_dst (N := 3) rfl ?_); refine bE 3 #[.int .i64 0, .int .i64 0, .int .i64 0, .int .i64 0] 28 ?_; intro gb477 hg w5 hbox hb; have BK477 := am hbox; have GW477 := gB hg HB; have GE477 := gB hg HB; replace HB := hB hb HB; have NB476_477 := nL hg BK476; have NB477_476 := nG hg BK476; replace BK476 := bB hb BK476; clear hb hbox hg) | ((with_reducible refine gate_dst (N := 4) rfl ?_); refine bE 4 #[.int .i64 0, .int .i64 0, .int .i64 0, .int .i64 0] 28 ?_; intro gb478 hg w6 hbox hb; have BK478 := am hbox; have GW478 := gB hg HB; have GE478 := gB hg HB; replace HB := hB hb HB; have NB476_478 := nL hg BK476; have NB478_476 := nG hg BK476; replace BK476 := bB hb BK476; have NB477_478 := nL hg BK477; have NB478_477 := nG hg BK477; replace BK477 := bB hb BK477; clear hb hbox hg) | ((with_reducible refine gate_dst (N := 11) rfl ?_); refine bE 11 #[.slice A0 l0.length c0, .int .i64 0, .int .u64 0] 85 ?_; intro gb479 hg w7 hbox hb; have HI479 := am ((show IsS85 w w7 gb479 l0 0 0 from ⟨_, _, hbox, (by rw [hg]; exact (below_size (bs HB)) : w.heap.size ≤ gb479), HR0.out⟩)); have GW479 := gB hg HB; have GE479 := gB hg HB; replace HB := hB hb HB; have NB476_479 := nL hg BK476; have NB479_476 := nG hg BK476; replace BK476 := bB hb BK476; have NB477_479 := nL hg BK477; have NB479_477 := nG hg BK477; replace BK477 := bB hb BK477; have NB478_479 := nL hg BK478; have NB479_478 := nG hg BK478; replace BK478 := bB hb BK478; clear hb hbox hg) | ((with_reducible refine gate_callee (f := 61) rfl ?_); refine gL 13 Tryd.func61 #[.pointer (some ⟨gb479, 0, none⟩)] ?_; (with_reducible refine (spec_l1Cur_memory.calls k gb479 l0 0 0 t480 t483 t484 w _ ?side1 ?side2 A2.out).mono ?_); (case side1 => repeat (first | (with_reducible first | exact HI479.out | apply IsS85.alloc | apply IsS85.drewN | apply IsS85.drew | apply IsS85.set_1 | apply IsS85.set_2 | refine IsS85.far ?_ NB479_476.out _ | refine IsS85.far ?_ NB479_477.out _ | refine IsS85.far ?_ NB479_478.out _) | exact HI479.out)); (case side2 => exact bi HB); rintro e w8 ⟨v481, rfl, ho0, hi, hb, hk⟩; refine ⟨_, rfl, ?_⟩; replace BK476 := bk hk BK476 NB476_479; replace BK477 := bk hk BK477 NB477_479; replace BK478 := bk hk BK478 NB478_479; have HO482 := am (Kd.S_lower ho0 (below_size (bi HB))); replace HB := am hb; replace HI479 := am hi; (try clear hb); (try clear hk); (try clear hi); (try clear ho0)) | ((with_reducible refine gate_dst (N := 6) rfl ?_); refine bE 6 #[.slice none 0 0] 26 ?_; intro gb485 hg w9 hbox hb; replace HO482 := sB hb HO482; have BK485 := am hbox; have GW485 := gB hg HB; have GE485 := gB hg HB; replace HB := hB hb HB; have NB476_485 := nL hg BK476; have NB485_476 := nG hg BK476; replace BK476 := bB hb BK476; have NB477_485 := nL hg BK477; have NB485_477 := nG hg BK477; replace BK477 := bB hb BK477; have NB478_485 := nL hg BK478; have NB485_478 := nG hg BK478; replace BK478 := bB hb BK478; have NB479_485 := nLI hg HI479; have NB485_479 := nGI hg HI479; replace HI479 := iB hb HI479; clear hb hbox hg; obtain ⟨Ao10, co10, eo10⟩ := Kd.S_slice HO482.out; subst eo10; have hnb11 := NB485_476.out; have hnc11 := NB476_485.out; have hnb12 := NB485_477.out; have hnc12 := NB477_485.out; have hnb13 := NB485_478.out; have hnc13 := NB478_485.out; have hnb14 := NB485_479.out; have hnc14 := NB479_485.out; obtain ⟨_, _⟩ := z1 BK485) | ((with_reducible refine gate_callee (f := 62) rfl ?_); refine gL 17 Tryd.func62 #[.pointer (some ⟨gb479, 0, none⟩), .agg #[.slice Ao10 t480.length co10]] ?_; (with_reducible refine (spec_l1Cur_pair.calls k gb479 l0 t483 t484 _ _ t480 t486 t487 t488 t489 t490 t491 t492 t493 t494 t495 w _ ?side1 ?side2 ?side3 ?side4 A3.out).mono ?_); (case side1 => repeat (first | (with_reducible first | exact HI479.out | apply IsS85.alloc | apply IsS85.drewN | apply IsS85.drew | apply IsS85.set_1 | apply IsS85.set_2 | refine IsS85.far ?_ NB479_476.out _ | refine IsS85.far ?_ NB479_477.out _ | refine IsS85.far ?_ NB479_478.out _ | refine IsS85.far ?_ NB479_485.out _) | exact HI479.out)); (case side2 => exact bi HB); (case side3 => exact Kd.C_foot_own ((Kd.S_R (IsS85.apartS (show IsS85 w _ gb479 l0 t483 t484 from by repeat (first | (with_reducible first | exact HI479.out | apply IsS85.alloc | apply IsS85.drewN | apply IsS85.drew | apply IsS85.set_1 | apply IsS85.set_2 | refine IsS85.far ?_ NB479_476.out _ | refine IsS85.far ?_ NB479_477.out _ | refine IsS85.far ?_ NB479_478.out _ | refine IsS85.far ?_ NB479_485.out _) | exact HI479.out)) (by (with_reducible repeat (first | apply Kd.S_alloc | apply Kd.S_drewN | apply Kd.S_drew)); exact (Kd.S_mono (Kd.S_far (p := ⟨gb485, 0, none⟩) (Kd.S_types HO482.out BK485.out (by decide)) (fun _ hk => hk.2) (.slice Ao10 t480.length co10)) (fun _ h_ => h_.1))) (by decide)))) (fun _ h_ => h_.2)); (case side4 => exact (Kd.S_reads' HO482.out).2.1); rintro e w16 ⟨rfl, hi, hb, hk⟩; refine ⟨_, rfl, ?_⟩; replace BK476 := am (KeepBut.blk hk (g' := gb476) (o := .cells #[.slice none 0 0] 26 (0, 0)) (by (with_reducible repeat (first | apply blk_drewN | apply blk_drew | apply blk_alloc)); refine blk_far ?_ NB476_485.out _; (with_reducible repeat (first | apply blk_drewN | apply blk_drew | apply blk_alloc)); exact BK476.out) NB476_479.out (by simp)); replace BK477 := am (KeepBut.blk hk (g' := gb477) (o := .cells #[.int .i64 0, .int .i64 0, .int .i64 0, .int .i64 0] 28 (0, 0)) (by (with_reducible repeat (first | apply blk_drewN | apply blk_drew | apply blk_alloc)); refine blk_far ?_ NB477_485.out _; (with_reducible repeat (first | apply blk_drewN | apply blk_drew | apply blk_alloc)); exact BK477.out) NB477_479.out (by simp)); replace BK478 := am (KeepBut.blk hk (g' := gb478) (o := .cells #[.int .i64 0, .int .i64 0, .int .i64 0, .int .i64 0] 28 (0, 0)) (by (with_reducible repeat (first | apply blk_drewN | apply blk_drew | apply blk_alloc)); refine blk_far ?_ NB478_485.out _; (with_reducible repeat (first | apply blk_drewN | apply blk_drew | apply blk_alloc)); exact BK478.out) NB478_479.out (by simp)); replace HO482 := am (Kd.S_mono (Kd.S_keep (IsS85.apartS (show IsS85 w _ gb479 l0 t483 t484 from by repeat (first | (with_reducible first | exact HI479.out | apply IsS85.alloc | apply IsS85.drewN | apply IsS85.drew | apply IsS85.set_1 | apply IsS85.set_2 | refine IsS85.far ?_ NB479_476.out _ | refine IsS85.far ?_ NB479_477.out _ | refine IsS85.far ?_ NB479_478.out _ | refine IsS85.far ?_ NB479_485.out _) | exact HI479.out)) (by (with_reducible repeat (first | apply Kd.S_alloc | apply Kd.S_drewN | apply Kd.S_drew)); exact (Kd.S_mono (Kd.S_far (p := ⟨gb485, 0, none⟩) (Kd.S_types HO482.out BK485.out (by decide)) (fun _ hk => hk.2) (.slice Ao10 t480.length co10)) (fun _ h_ => h_.1))) (by decide)) hk (fun _ h => h.2)) (fun _ h => h.1)); replace BK485 := am (KeepBut.blk hk (g' := gb485) (o := .cells #[.slice Ao10 t480.length co10] 26 (0, 0)) (by (with_reducible repeat (first | apply blk_drewN | apply blk_drew | apply blk_alloc)); refine blk_put (cs := #[.slice none 0 0]) ?_ 0 _ rfl; (with_reducible repeat (first | apply blk_drewN | apply blk_drew | apply blk_alloc)); exact BK485.out) NB485_479.out (by simp)); replace HB := am hb; replace HI479 := am hi; (try clear hb); (try clear hk); (try clear hi)) | ((with_reducible refine gate_dst (N := 7) rfl ?_); refine bE 7 #[.int .i64 0, .int .i64 0, .int .i64 0, .int .i64 0] 28 ?_; intro gb496 hg w17 hbox hb; replace HO482 := sB hb HO482; have BK496 := am hbox; have GW496 := gB hg HB; have GE496 := gB hg HB; replace HB := hB hb HB; have NB476_496 := nL hg BK476; have NB496_476 := nG hg BK476; replace BK476 := bB hb BK476; have NB477_496 := nL hg BK477; have NB496_477 := nG hg BK477; replace BK477 := bB hb BK477; have NB478_496 := nL hg BK478; have NB496_478 := nG hg BK478; replace BK478 := bB hb BK478; have NB485_496 := nL hg BK485; have NB496_485 := nG hg BK485; replace BK485 := bB hb BK485; have NB479_496 := nLI hg HI479; have NB496_479 := nGI hg HI479; replace HI479 := iB hb HI479; clear hb hbox hg) | ((with_reducible refine gate_dst (N := 8) rfl ?_); refine bE 8 #[.int .i64 0, .int .i64 0, .int .i64 0, .int .i64 0] 28 ?_; intro gb497 hg w18 hbox hb; replace HO482 := sB hb HO482; have BK497 := am hbox; have GW497 := gB hg HB; have GE497 := gB hg HB; replace HB := hB hb HB; have NB476_497 := nL hg BK476; have NB497_476 := nG hg BK476; replace BK476 := bB hb BK476; have NB477_497 := nL hg BK477; have NB497_477 := nG hg BK477; replace BK477 := bB hb BK477; have NB478_497 := nL hg BK478; have NB497_478 := nG hg BK478; replace BK478 := bB hb BK478; have NB485_497 := nL hg BK485; have NB497_485 := nG hg BK485; replace BK485 := bB hb BK485; have NB496_497 := nL hg BK496; have NB497_496 := nG hg BK496; replace BK496 := bB hb BK496; have NB479_497 := nLI hg HI479; have NB497_479 := nGI hg HI479; replace HI479 := iB hb HI479; clear hb hbox hg; have hnb19 := NB496_476.out; have hnc19 := NB476_496.out; have hnb20 := NB496_477.out; have hnc20 := NB477_496.out; have hnb21 := NB496_478.out; have hnc21 := NB478_496.out; have hnb22 := NB496_485.out; have hnc22 := NB485_496.out; have hnb23 := NB496_497.out; have hnc23 := NB497_496.out; have hnb24 := NB496_479.out; have hnc24 := NB479_496.out; obtain ⟨_, _, _, _, _, _, _, _⟩ := z4 BK496; have hnb26 := NB497_476.out; have hnc26 := NB476_497.out; have hnb27 := NB497_477.out; have hnc27 := NB477_497.out; have hnb28 := NB497_478.out; have hnc28 := NB478_497.out; have hnb29 := NB497_485.out; have hnc29 := NB485_497.out; have hnb30 := NB497_479.out; have hnc30 := NB479_497.out; obtain ⟨_, _, _, _, _, _, _, _⟩ := z4 BK497))
 have n0_ : Aside0 (Kd.S (Kd.slice 5 (Kd.int .u8)) 22 ((((((((w18.setCell ⟨gb496, 0, none⟩ (.int .i64 t486)).setCell ⟨gb496, 1, none⟩ (.int .i64 t487)).setCell ⟨gb496, 2, none⟩ (.int .i64 t488)).setCell ⟨gb496, 3, none⟩ (.int .i64 t489)).setCell ⟨gb497, 0, none⟩ (.int .i64 t490)).setCell ⟨gb497, 1, none⟩ (.int .i64 t491)).setCell ⟨gb497, 2, none⟩ (.int .i64 t492)).setCell ⟨gb497, 3, none⟩ (.int .i64 t493)) w.heap.size (fun _ => True) (.slice Ao10 t480.length co10) t480) := ⟨by (with_reducible repeat (first | apply Kd.S_alloc | apply Kd.S_drewN | apply Kd.S_drew)); exact Kd.S_mono (Kd.S_far (p := ⟨gb497, 3, none⟩) (Kd.S_far (p := ⟨gb497, 2, none⟩) (Kd.S_far (p := ⟨gb497, 1, none⟩) (Kd.S_far (p := ⟨gb497, 0, none⟩) (Kd.S_far (p := ⟨gb496, 3, none⟩) (Kd.S_far (p := ⟨gb496, 2, none⟩) (Kd.S_far (p := ⟨gb496, 1, none⟩) (Kd.S_far (p := ⟨gb496, 0, none⟩) (Kd.S_types (Kd.S_types HO482.out BK496.out (by decide)) BK497.out (by decide)) (fun _ hk => hk.1.2) (.int .i64 t486)) (fun _ hk => hk.1.2) (.int .i64 t487)) (fun _ hk => hk.1.2) (.int .i64 t488)) (fun _ hk => hk.1.2) (.int .i64 t489)) (fun _ hk => hk.2) (.int .i64 t490)) (fun _ hk => hk.2) (.int .i64 t491)) (fun _ hk => hk.2) (.int .i64 t492)) (fun _ hk => hk.2) (.int .i64 t493)) (fun _ hk => trivial)⟩
 have n1_ : Aside0 (((((((((w18.setCell ⟨gb496, 0, none⟩ (.int .i64 t486)).setCell ⟨gb496, 1, none⟩ (.int .i64 t487)).setCell ⟨gb496, 2, none⟩ (.int .i64 t488)).setCell ⟨gb496, 3, none⟩ (.int .i64 t489)).setCell ⟨gb497, 0, none⟩ (.int .i64 t490)).setCell ⟨gb497, 1, none⟩ (.int .i64 t491)).setCell ⟨gb497, 2, none⟩ (.int .i64 t492)).setCell ⟨gb497, 3, none⟩ (.int .i64 t493)).heap[gb476]? = some (.cells #[.slice none 0 0] 26 (0, 0))) := ⟨by (with_reducible repeat (first | apply blk_drewN | apply blk_drew | apply blk_alloc)); refine blk_far ?_ NB476_497.out _; (with_reducible repeat (first | apply blk_drewN | apply blk_drew | apply blk_alloc)); refine blk_far ?_ NB476_497.out _; (with_reducible repeat (first | apply blk_drewN | apply blk_drew | apply blk_alloc)); refine blk_far ?_ NB476_497.out _; (with_reducible repeat (first | apply blk_drewN | apply blk_drew | apply blk_alloc)); refine blk_far ?_ NB476_497.out _; (with_reducible repeat (first | apply blk_drewN | apply blk_drew | apply blk_alloc)); refine blk_far ?_ NB476_496.out _; (with_reducible repeat (first | apply blk_drewN | apply blk_drew | apply blk_alloc)); refine blk_far ?_ NB476_496.out _; (with_reducible repeat (first | apply blk_drewN | apply blk_drew | apply blk_alloc)); refine blk_far ?_ NB476_496.out _; (with_reducible repeat (first | apply blk_drewN | apply blk_drew | apply blk_alloc)); refine blk_far ?_ NB476_496.out _; (with_reducible repeat (first | apply blk_drewN | apply blk_drew | apply blk_alloc)); exact BK476.out⟩
 have n2_ : Aside0 (((((((((w18.setCell ⟨gb496, 0, none⟩ (.int .i64 t486)).setCell ⟨gb496, 1, none⟩ (.int .i64 t487)).setCell ⟨gb496, 2, none⟩ (.int .i64 t488)).setCell ⟨gb496, 3, none⟩ (.int .i64 t489)).setCell ⟨gb497, 0, none⟩ (.int .i64 t490)).setCell ⟨gb497, 1, none⟩ (.int .i64 t491)).setCell ⟨gb497, 2, none⟩ (.int .i64 t492)).setCell ⟨gb497, 3, none⟩ (.int .i64 t493)).heap[gb477]? = some (.cells #[.int .i64 0, .int .i64 0, .int .i64 0, .int .i64 0] 28 (0, 0))) := ⟨by (with_reducible repeat (first | apply blk_drewN | apply blk_drew | apply blk_alloc)); refine blk_far ?_ NB477_497.out _; (with_reducible repeat (first | apply blk_drewN | apply blk_drew | apply blk_alloc)); refine blk_far ?_ NB477_497.out _; (with_reducible repeat (first | apply blk_drewN | apply blk_drew | apply blk_alloc)); refine blk_far ?_ NB477_497.out _; (with_reducible repeat (first | apply blk_drewN | apply blk_drew | apply blk_alloc)); refine blk_far ?_ NB477_497.out _; (with_reducible repeat (first | apply blk_drewN | apply blk_drew | apply blk_alloc)); refine blk_far ?_ NB477_496.out _; (with_reducible repeat (first | apply blk_drewN | apply blk_drew | apply blk_alloc)); refine blk_far ?_ NB477_496.out _; (with_reducible repeat (first | apply blk_drewN | apply blk_drew | apply blk_alloc)); refine blk_far ?_ NB477_496.out _; (with_reducible repeat (first | apply blk_drewN | apply blk_drew | apply blk_alloc)); refine blk_far ?_ NB477_496.out _; (with_reducible repeat (first | apply blk_drewN | apply blk_drew | apply blk_alloc)); exact BK477.out⟩
 have n3_ : Aside0 (((((((((w18.setCell ⟨gb496, 0, none⟩ (.int .i64 t486)).setCell ⟨gb496, 1, none⟩ (.int .i64 t487)).setCell ⟨gb496, 2, none⟩ (.int .i64 t488)).setCell ⟨gb496, 3, none⟩ (.int .i64 t489)).setCell ⟨gb497, 0, none⟩ (.int .i64 t490)).setCell ⟨gb497, 1, none⟩ (.int .i64 t491)).setCell ⟨gb497, 2, none⟩ (.int .i64 t492)).setCell ⟨gb497, 3, none⟩ (.int .i64 t493)).heap[gb478]? = some (.cells #[.int .i64 0, .int .i64 0, .int .i64 0, .int .i64 0] 28 (0, 0))) := ⟨by (with_reducible repeat (first | apply blk_drewN | apply blk_drew | apply blk_alloc)); refine blk_far ?_ NB478_497.out _; (with_reducible repeat (first | apply blk_drewN | apply blk_drew | apply blk_alloc)); refine blk_far ?_ NB478_497.out _; (with_reducible repeat (first | apply blk_drewN | apply blk_drew | apply blk_alloc)); refine blk_far ?_ NB478_497.out _; (with_reducible repeat (first | apply blk_drewN | apply blk_drew | apply blk_alloc)); refine blk_far ?_ NB478_497.out _; (with_reducible repeat (first | apply blk_drewN | apply blk_drew | apply blk_alloc)); refine blk_far ?_ NB478_496.out _; (with_reducible repeat (first | apply blk_drewN | apply blk_drew | apply blk_alloc)); refine blk_far ?_ NB478_496.out _; (with_reducible repeat (first | apply blk_drewN | apply blk_drew | apply blk_alloc)); refine blk_far ?_ NB478_496.out _; (with_reducible repeat (first | apply blk_drewN | apply blk_drew | apply blk_alloc)); refine blk_far ?_ NB478_496.out _; (with_reducible repeat (first | apply blk_drewN | apply blk_drew | apply blk_alloc)); exact BK478.out⟩
 have n4_ : Aside0 (((((((((w18.setCell ⟨gb496, 0, none⟩ (.int .i64 t486)).setCell ⟨gb496, 1, none⟩ (.int .i64 t487)).setCell ⟨gb496, 2, none⟩ (.int .i64 t488)).setCell ⟨gb496, 3, none⟩ (.int .i64 t489)).setCell ⟨gb497, 0, none⟩ (.int .i64 t490)).setCell ⟨gb497, 1, none⟩ (.int .i64 t491)).setCell ⟨gb497, 2, none⟩ (.int .i64 t492)).setCell ⟨gb497, 3, none⟩ (.int .i64 t493)).heap[gb485]? = some (.cells #[.slice Ao10 t480.length co10] 26 (0, 0))) := ⟨by (with_reducible repeat (first | apply blk_drewN | apply blk_drew | apply blk_alloc)); refine blk_far ?_ NB485_497.out _; (with_reducible repeat (first | apply blk_drewN | apply blk_drew | apply blk_alloc)); refine blk_far ?_ NB485_497.out _; (with_reducible repeat (first | apply blk_drewN | apply blk_drew | apply blk_alloc)); refine blk_far ?_ NB485_497.out _; (with_reducible repeat (first | apply blk_drewN | apply blk_drew | apply blk_alloc)); refine blk_far ?_ NB485_497.out _; (with_reducible repeat (first | apply blk_drewN | apply blk_drew | apply blk_alloc)); refine blk_far ?_ NB485_496.out _; (with_reducible repeat (first | apply blk_drewN | apply blk_drew | apply blk_alloc)); refine blk_far ?_ NB485_496.out _; (with_reducible repeat (first | apply blk_drewN | apply blk_drew | apply blk_alloc)); refine blk_far ?_ NB485_496.out _; (with_reducible repeat (first | apply blk_drewN | apply blk_drew | apply blk_alloc)); refine blk_far ?_ NB485_496.out _; (with_reducible repeat (first | apply blk_drewN | apply blk_drew | apply blk_alloc)); exact BK485.out⟩
 have n5_ : Aside0 (((((((((w18.setCell ⟨gb496, 0, none⟩ (.int .i64 t486)).setCell ⟨gb496, 1, none⟩ (.int .i64 t487)).setCell ⟨gb496, 2, none⟩ (.int .i64 t488)).setCell ⟨gb496, 3, none⟩ (.int .i64 t489)).setCell ⟨gb497, 0, none⟩ (.int .i64 t490)).setCell ⟨gb497, 1, none⟩ (.int .i64 t491)).setCell ⟨gb497, 2, none⟩ (.int .i64 t492)).setCell ⟨gb497, 3, none⟩ (.int .i64 t493)).heap[gb496]? = some (.cells #[.int .i64 t486, .int .i64 t487, .int .i64 t488, .int .i64 t489] 28 (0, 0))) := ⟨by (with_reducible repeat (first | apply blk_drewN | apply blk_drew | apply blk_alloc)); refine blk_far ?_ NB496_497.out _; (with_reducible repeat (first | apply blk_drewN | apply blk_drew | apply blk_alloc)); refine blk_far ?_ NB496_497.out _; (with_reducible repeat (first | apply blk_drewN | apply blk_drew | apply blk_alloc)); refine blk_far ?_ NB496_497.out _; (with_reducible repeat (first | apply blk_drewN | apply blk_drew | apply blk_alloc)); refine blk_far ?_ NB496_497.out _; (with_reducible repeat (first | apply blk_drewN | apply blk_drew | apply blk_alloc)); refine blk_put (cs := #[.int .i64 t486, .int .i64 t487, .int .i64 t488, .int .i64 0]) ?_ 3 _ rfl; (with_reducible repeat (first | apply blk_drewN | apply blk_drew | apply blk_alloc)); refine blk_put (cs := #[.int .i64 t486, .int .i64 t487, .int .i64 0, .int .i64 0]) ?_ 2 _ rfl; (with_reducible repeat (first | apply blk_drewN | apply blk_drew | apply blk_alloc)); refine blk_put (cs := #[.int .i64 t486, .int .i64 0, .int .i64 0, .int .i64 0]) ?_ 1 _ rfl; (with_reducible repeat (first | apply blk_drewN | apply blk_drew | apply blk_alloc)); refine blk_put (cs := #[.int .i64 0, .int .i64 0, .int .i64 0, .int .i64 0]) ?_ 0 _ rfl; (with_reducible repeat (first | apply blk_drewN | apply blk_drew | apply blk_alloc)); exact BK496.out⟩
 have n6_ : Aside0 (((((((((w18.setCell ⟨gb496, 0, none⟩ (.int .i64 t486)).setCell ⟨gb496, 1, none⟩ (.int .i64 t487)).setCell ⟨gb496, 2, none⟩ (.int .i64 t488)).setCell ⟨gb496, 3, none⟩ (.int .i64 t489)).setCell ⟨gb497, 0, none⟩ (.int .i64 t490)).setCell ⟨gb497, 1, none⟩ (.int .i64 t491)).setCell ⟨gb497, 2, none⟩ (.int .i64 t492)).setCell ⟨gb497, 3, none⟩ (.int .i64 t493)).heap[gb497]? = some (.cells #[.int .i64 t490, .int .i64 t491, .int .i64 t492, .int .i64 t493] 28 (0, 0))) := ⟨by (with_reducible repeat (first | apply blk_drewN | apply blk_drew | apply blk_alloc)); refine blk_put (cs := #[.int .i64 t490, .int .i64 t491, .int .i64 t492, .int .i64 0]) ?_ 3 _ rfl; (with_reducible repeat (first | apply blk_drewN | apply blk_drew | apply blk_alloc)); refine blk_put (cs := #[.int .i64 t490, .int .i64 t491, .int .i64 0, .int .i64 0]) ?_ 2 _ rfl; (with_reducible repeat (first | apply blk_drewN | apply blk_drew | apply blk_alloc)); refine blk_put (cs := #[.int .i64 t490, .int .i64 0, .int .i64 0, .int .i64 0]) ?_ 1 _ rfl; (with_reducible repeat (first | apply blk_drewN | apply blk_drew | apply blk_alloc)); refine blk_put (cs := #[.int .i64 0, .int .i64 0, .int .i64 0, .int .i64 0]) ?_ 0 _ rfl; (with_reducible repeat (first | apply blk_drewN | apply blk_drew | apply blk_alloc)); refine blk_far ?_ NB497_496.out _; (with_reducible repeat (first | apply blk_drewN | apply blk_drew | apply blk_alloc)); refine blk_far ?_ NB497_496.out _; (with_reducible repeat (first | apply blk_drewN | apply blk_drew | apply blk_alloc)); refine blk_far ?_ NB497_496.out _; (with_reducible repeat (first | apply blk_drewN | apply blk_drew | apply blk_alloc)); refine blk_far ?_ NB497_496.out _; (with_reducible repeat (first | apply blk_drewN | apply blk_drew | apply blk_alloc)); exact BK497.out⟩
 have n7_ : Aside0 (IsS85 w ((((((((w18.setCell ⟨gb496, 0, none⟩ (.int .i64 t486)).setCell ⟨gb496, 1, none⟩ (.int .i64 t487)).setCell ⟨gb496, 2, none⟩ (.int .i64 t488)).setCell ⟨gb496, 3, none⟩ (.int .i64 t489)).setCell ⟨gb497, 0, none⟩ (.int .i64 t490)).setCell ⟨gb497, 1, none⟩ (.int .i64 t491)).setCell ⟨gb497, 2, none⟩ (.int .i64 t492)).setCell ⟨gb497, 3, none⟩ (.int .i64 t493)) gb479 l0 t494 t495) := ⟨by repeat (first | (with_reducible first | exact HI479.out | apply IsS85.alloc | apply IsS85.drewN | apply IsS85.drew | apply IsS85.set_1 | apply IsS85.set_2 | refine IsS85.far ?_ NB479_476.out _ | refine IsS85.far ?_ NB479_477.out _ | refine IsS85.far ?_ NB479_478.out _ | refine IsS85.far ?_ NB479_485.out _ | refine IsS85.far ?_ NB479_496.out _ | refine IsS85.far ?_ NB479_497.out _) | exact HI479.out)⟩
 have n8_ : Aside0 (Below w.heap.size w ((((((((w18.setCell ⟨gb496, 0, none⟩ (.int .i64 t486)).setCell ⟨gb496, 1, none⟩ (.int .i64 t487)).setCell ⟨gb496, 2, none⟩ (.int .i64 t488)).setCell ⟨gb496, 3, none⟩ (.int .i64 t489)).setCell ⟨gb497, 0, none⟩ (.int .i64 t490)).setCell ⟨gb497, 1, none⟩ (.int .i64 t491)).setCell ⟨gb497, 2, none⟩ (.int .i64 t492)).setCell ⟨gb497, 3, none⟩ (.int .i64 t493))) := ⟨bi HB⟩
 (try clear HO482)
 (try clear BK476)
 (try clear BK477)
 (try clear BK478)
 (try clear BK485)
 (try clear BK496)
 (try clear BK497)
 (try clear HI479)
 (try clear HB)
 generalize ((((((((w18.setCell ⟨gb496, 0, none⟩ (.int .i64 t486)).setCell ⟨gb496, 1, none⟩ (.int .i64 t487)).setCell ⟨gb496, 2, none⟩ (.int .i64 t488)).setCell ⟨gb496, 3, none⟩ (.int .i64 t489)).setCell ⟨gb497, 0, none⟩ (.int .i64 t490)).setCell ⟨gb497, 1, none⟩ (.int .i64 t491)).setCell ⟨gb497, 2, none⟩ (.int .i64 t492)).setCell ⟨gb497, 3, none⟩ (.int .i64 t493)) = w32 at n0_ n1_ n2_ n3_ n4_ n5_ n6_ n7_ n8_ ⊢
 have HO482 := n0_
 have BK476 := n1_
 have BK477 := n2_
 have BK478 := n3_
 have BK485 := n4_
 have BK496 := n5_
 have BK497 := n6_
 have HI479 := n7_
 have HB := n8_
 clear n0_ n1_ n2_ n3_ n4_ n5_ n6_ n7_ n8_
 replace HO482 := am (Kd.S_drew HO482.out)
 replace BK476 := am (blk_drew BK476.out)
 replace BK477 := am (blk_drew BK477.out)
 replace BK478 := am (blk_drew BK478.out)
 replace BK485 := am (blk_drew BK485.out)
 replace BK496 := am (blk_drew BK496.out)
 replace BK497 := am (blk_drew BK497.out)
 replace HI479 := am (IsS85.drew HI479.out)
 replace HB := am (below_drew1 HB.out)
 refine start_ (n := 6) (S := fun w' => w'.cell? ⟨gb485, 0, none⟩ = some (.slice Ao10 t480.length co10) ∧ w'.cell? ⟨gb496, 0, none⟩ = some (.int .i64 t486) ∧ w'.cell? ⟨gb496, 1, none⟩ = some (.int .i64 t487) ∧ w'.cell? ⟨gb496, 2, none⟩ = some (.int .i64 t488) ∧ w'.cell? ⟨gb496, 3, none⟩ = some (.int .i64 t489) ∧ w'.cell? ⟨gb497, 0, none⟩ = some (.int .i64 t490) ∧ w'.cell? ⟨gb497, 1, none⟩ = some (.int .i64 t491) ∧ w'.cell? ⟨gb497, 2, none⟩ = some (.int .i64 t492) ∧ w'.cell? ⟨gb497, 3, none⟩ = some (.int .i64 t493)) (ds := []) #[ff, ff, ff, ff, ff, ff] (by kernel_rfl) rfl rfl ⟨(blk_cell BK485.out 0).trans rfl, (blk_cell BK496.out 0).trans rfl, (blk_cell BK496.out 1).trans rfl, (blk_cell BK496.out 2).trans rfl, (blk_cell BK496.out 3).trans rfl, (blk_cell BK497.out 0).trans rfl, (blk_cell BK497.out 1).trans rfl, (blk_cell BK497.out 2).trans rfl, (blk_cell BK497.out 3).trans rfl⟩ (fun hHeld => ?_)
 generalize w32.drew = w33 at HO482 BK476 BK477 BK478 BK485 BK496 BK497 HI479 HB hHeld ⊢
 refine tM #[tt, ff, ff, ff, ff, ff] 0 20 hHeld ?_
 refine tM #[tt, tt, ff, ff, ff, ff] 1 21 hHeld ?_
 refine tM #[tt, tt, tt, ff, ff, ff] 2 22 hHeld ?_
 refine one_ (i := 3) (N := none) #[tt, tt, tt, tt, ff, ff] rfl rfl (by kernel_rfl) (by decide) (fun K hK => ?_)
 have hs34 : w33.cell? ⟨gb476, 0, none⟩ = some (.slice none 0 0) := (blk_cell BK476.out 0).trans rfl
 have hfs34 := blk_frozen BK476.out 0
 have hns34_1 := NB477_476.out
 have hns34_2 := NB478_476.out
 have hns34_3 := NB485_476.out
 have hns34_4 := NB496_476.out
 have hns34_5 := NB497_476.out
 have hms34_1 := NB476_477.out
 have hms34_2 := NB476_478.out
 have hms34_3 := NB476_485.out
 have hms34_4 := NB476_496.out
 have hms34_5 := NB476_497.out
 refine skip_ (w1 := ?_) (by rfl) rfl ?_ ?_
 rotate_left
 ·go_simp
  rfl
 refine hK.out _ _ ⟨(cf1 NB485_476 hHeld.1), (cf1 NB496_476 hHeld.2.1), (cf1 NB496_476 hHeld.2.2.1), (cf1 NB496_476 hHeld.2.2.2.1), (cf1 NB496_476 hHeld.2.2.2.2.1), (cf1 NB497_476 hHeld.2.2.2.2.2.1), (cf1 NB497_476 hHeld.2.2.2.2.2.2.1), (cf1 NB497_476 hHeld.2.2.2.2.2.2.2.1), (cf1 NB497_476 hHeld.2.2.2.2.2.2.2.2)⟩ (fun hHeld => ?_)
 clear hK K
 refine one_ (i := 4) (N := none) #[tt, tt, tt, tt, tt, ff] rfl rfl (by kernel_rfl) (by decide) (fun K hK => ?_)
 have hs35 : w33.cell? ⟨gb477, 0, none⟩ = some (.int .i64 0) := (blk_cell BK477.out 0).trans rfl
 have hfs35 := blk_frozen BK477.out 0
 have hns35_0 := NB476_477.out
 have hns35_2 := NB478_477.out
 have hns35_3 := NB485_477.out
 have hns35_4 := NB496_477.out
 have hns35_5 := NB497_477.out
 have hms35_0 := NB477_476.out
 have hms35_2 := NB477_478.out
 have hms35_3 := NB477_485.out
 have hms35_4 := NB477_496.out
 have hms35_5 := NB477_497.out
 have hs36 : w33.cell? ⟨gb477, 1, none⟩ = some (.int .i64 0) := (blk_cell BK477.out 1).trans rfl
 have hfs36 := blk_frozen BK477.out 1
 have hns36_0 := NB476_477.out
 have hns36_2 := NB478_477.out
 have hns36_3 := NB485_477.out
 have hns36_4 := NB496_477.out
 have hns36_5 := NB497_477.out
 have hms36_0 := NB477_476.out
 have hms36_2 := NB477_478.out
 have hms36_3 := NB477_485.out
 have hms36_4 := NB477_496.out
 have hms36_5 := NB477_497.out
 have hs37 : w33.cell? ⟨gb477, 2, none⟩ = some (.int .i64 0) := (blk_cell BK477.out 2).trans rfl
 have hfs37 := blk_frozen BK477.out 2
 have hns37_0 := NB476_477.out
 have hns37_2 := NB478_477.out
 have hns37_3 := NB485_477.out
 have hns37_4 := NB496_477.out
 have hns37_5 := NB497_477.out
 have hms37_0 := NB477_476.out
 have hms37_2 := NB477_478.out
 have hms37_3 := NB477_485.out
 have hms37_4 := NB477_496.out
 have hms37_5 := NB477_497.out
 have hs38 : w33.cell? ⟨gb477, 3, none⟩ = some (.int .i64 0) := (blk_cell BK477.out 3).trans rfl
 have hfs38 := blk_frozen BK477.out 3
 have hns38_0 := NB476_477.out
 have hns38_2 := NB478_477.out
 have hns38_3 := NB485_477.out
 have hns38_4 := NB496_477.out
 have hns38_5 := NB497_477.out
 have hms38_0 := NB477_476.out
 have hms38_2 := NB477_478.out
 have hms38_3 := NB477_485.out
 have hms38_4 := NB477_496.out
 have hms38_5 := NB477_497.out
 refine skip_ (w1 := ?_) (by rfl) rfl ?_ ?_
 rotate_left
 ·go_simp
  rfl
 refine hK.out _ _ ⟨(cf4 NB485_477 hHeld.1), (cf4 NB496_477 hHeld.2.1), (cf4 NB496_477 hHeld.2.2.1), (cf4 NB496_477 hHeld.2.2.2.1), (cf4 NB496_477 hHeld.2.2.2.2.1), (cf4 NB497_477 hHeld.2.2.2.2.2.1), (cf4 NB497_477 hHeld.2.2.2.2.2.2.1), (cf4 NB497_477 hHeld.2.2.2.2.2.2.2.1), (cf4 NB497_477 hHeld.2.2.2.2.2.2.2.2)⟩ (fun hHeld => ?_)
 clear hK K
 refine one_ (i := 5) (N := none) #[tt, tt, tt, tt, tt, tt] rfl rfl (by kernel_rfl) (by decide) (fun K hK => ?_)
 have hs39 : w33.cell? ⟨gb478, 0, none⟩ = some (.int .i64 0) := (blk_cell BK478.out 0).trans rfl
 have hfs39 := blk_frozen BK478.out 0
 have hns39_0 := NB476_478.out
 have hns39_1 := NB477_478.out
 have hns39_3 := NB485_478.out
 have hns39_4 := NB496_478.out
 have hns39_5 := NB497_478.out
 have hms39_0 := NB478_476.out
 have hms39_1 := NB478_477.out
 have hms39_3 := NB478_485.out
 have hms39_4 := NB478_496.out
 have hms39_5 := NB478_497.out
 have hs40 : w33.cell? ⟨gb478, 1, none⟩ = some (.int .i64 0) := (blk_cell BK478.out 1).trans rfl
 have hfs40 := blk_frozen BK478.out 1
 have hns40_0 := NB476_478.out
 have hns40_1 := NB477_478.out
 have hns40_3 := NB485_478.out
 have hns40_4 := NB496_478.out
 have hns40_5 := NB497_478.out
 have hms40_0 := NB478_476.out
 have hms40_1 := NB478_477.out
 have hms40_3 := NB478_485.out
 have hms40_4 := NB478_496.out
 have hms40_5 := NB478_497.out
 have hs41 : w33.cell? ⟨gb478, 2, none⟩ = some (.int .i64 0) := (blk_cell BK478.out 2).trans rfl
 have hfs41 := blk_frozen BK478.out 2
 have hns41_0 := NB476_478.out
 have hns41_1 := NB477_478.out
 have hns41_3 := NB485_478.out
 have hns41_4 := NB496_478.out
 have hns41_5 := NB497_478.out
 have hms41_0 := NB478_476.out
 have hms41_1 := NB478_477.out
 have hms41_3 := NB478_485.out
 have hms41_4 := NB478_496.out
 have hms41_5 := NB478_497.out
 have hs42 : w33.cell? ⟨gb478, 3, none⟩ = some (.int .i64 0) := (blk_cell BK478.out 3).trans rfl
 have hfs42 := blk_frozen BK478.out 3
 have hns42_0 := NB476_478.out
 have hns42_1 := NB477_478.out
 have hns42_3 := NB485_478.out
 have hns42_4 := NB496_478.out
 have hns42_5 := NB497_478.out
 have hms42_0 := NB478_476.out
 have hms42_1 := NB478_477.out
 have hms42_3 := NB478_485.out
 have hms42_4 := NB478_496.out
 have hms42_5 := NB478_497.out
 refine skip_ (w1 := ?_) (by rfl) rfl ?_ ?_
 rotate_left
 ·go_simp
  rfl
 refine hK.out _ _ ⟨(cf4 NB485_478 hHeld.1), (cf4 NB496_478 hHeld.2.1), (cf4 NB496_478 hHeld.2.2.1), (cf4 NB496_478 hHeld.2.2.2.1), (cf4 NB496_478 hHeld.2.2.2.2.1), (cf4 NB497_478 hHeld.2.2.2.2.2.1), (cf4 NB497_478 hHeld.2.2.2.2.2.2.1), (cf4 NB497_478 hHeld.2.2.2.2.2.2.2.1), (cf4 NB497_478 hHeld.2.2.2.2.2.2.2.2)⟩ (fun hHeld => ?_)
 clear hK K
 refine done_ (by kernel_rfl) ?_
 try go_wp2
 refine bodyPost_ret (results_list (rs := [.cell 2 26, .cell 3 28, .cell 4 28]) rfl (by simp) (.cell gb476 26 #[.slice Ao10 t480.length co10] (0, 0) _ rfl (by (with_reducible repeat (first | apply blk_drewN | apply blk_drew | apply blk_alloc)); refine blk_far ?_ NB476_478.out _; (with_reducible repeat (first | apply blk_drewN | apply blk_drew | apply blk_alloc)); refine blk_far ?_ NB476_478.out _; (with_reducible repeat (first | apply blk_drewN | apply blk_drew | apply blk_alloc)); refine blk_far ?_ NB476_478.out _; (with_reducible repeat (first | apply blk_drewN | apply blk_drew | apply blk_alloc)); refine blk_far ?_ NB476_478.out _; (with_reducible repeat (first | apply blk_drewN | apply blk_drew | apply blk_alloc)); refine blk_far ?_ NB476_477.out _; (with_reducible repeat (first | apply blk_drewN | apply blk_drew | apply blk_alloc)); refine blk_far ?_ NB476_477.out _; (with_reducible repeat (first | apply blk_drewN | apply blk_drew | apply blk_alloc)); refine blk_far ?_ NB476_477.out _; (with_reducible repeat (first | apply blk_drewN | apply blk_drew | apply blk_alloc)); refine blk_far ?_ NB476_477.out _; (with_reducible repeat (first | apply blk_drewN | apply blk_drew | apply blk_alloc)); refine blk_put (cs := #[.slice none 0 0]) ?_ 0 _ rfl; (with_reducible repeat (first | apply blk_drewN | apply blk_drew | apply blk_alloc)); exact BK476.out) Tryd.underlying26 rfl (by kernel_rfl) (.cell gb477 28 #[.int .i64 t486, .int .i64 t487, .int .i64 t488, .int .i64 t489] (0, 0) _ rfl (by (with_reducible repeat (first | apply blk_drewN | apply blk_drew | apply blk_alloc)); refine blk_far ?_ NB477_478.out _; (with_reducible repeat (first | apply blk_drewN | apply blk_drew | apply blk_alloc)); refine blk_far ?_ NB477_478.out _; (with_reducible repeat (first | apply blk_drewN | apply blk_drew | apply blk_alloc)); refine blk_far ?_ NB477_478.out _; (with_reducible repeat (first | apply blk_drewN | apply blk_drew | apply blk_alloc)); refine blk_far ?_ NB477_478.out _; (with_reducible repeat (first | apply blk_drewN | apply blk_drew | apply blk_alloc)); refine blk_put (cs := #[.int .i64 t486, .int .i64 t487, .int .i64 t488, .int .i64 0]) ?_ 3 _ rfl; (with_reducible repeat (first | apply blk_drewN | apply blk_drew | apply blk_alloc)); refine blk_put (cs := #[.int .i64 t486, .int .i64 t487, .int .i64 0, .int .i64 0]) ?_ 2 _ rfl; (with_reducible repeat (first | apply blk_drewN | apply blk_drew | apply blk_alloc)); refine blk_put (cs := #[.int .i64 t486, .int .i64 0, .int .i64 0, .int .i64 0]) ?_ 1 _ rfl; (with_reducible repeat (first | apply blk_drewN | apply blk_drew | apply blk_alloc)); refine blk_put (cs := #[.int .i64 0, .int .i64 0, .int .i64 0, .int .i64 0]) ?_ 0 _ rfl; (with_reducible repeat (first | apply blk_drewN | apply blk_drew | apply blk_alloc)); refine blk_far ?_ NB477_476.out _; (with_reducible repeat (first | apply blk_drewN | apply blk_drew | apply blk_alloc)); exact BK477.out) Tryd.underlying28 rfl (by kernel_rfl) (.cell gb478 28 #[.int .i64 t490, .int .i64 t491, .int .i64 t492, .int .i64 t493] (0, 0) _ rfl (by (with_reducible repeat (first | apply blk_drewN | apply blk_drew | apply blk_alloc)); refine blk_put (cs := #[.int .i64 t490, .int .i64 t491, .int .i64 t492, .int .i64 0]) ?_ 3 _ rfl; (with_reducible repeat (first | apply blk_drewN | apply blk_drew | apply blk_alloc)); refine blk_put (cs := #[.int .i64 t490, .int .i64 t491, .int .i64 0, .int .i64 0]) ?_ 2 _ rfl; (with_reducible repeat (first | apply blk_drewN | apply blk_drew | apply blk_alloc)); refine blk_put (cs := #[.int .i64 t490, .int .i64 0, .int .i64 0, .int .i64 0]) ?_ 1 _ rfl; (with_reducible repeat (first | apply blk_drewN | apply blk_drew | apply blk_alloc)); refine blk_put (cs := #[.int .i64 0, .int .i64 0, .int .i64 0, .int .i64 0]) ?_ 0 _ rfl; (with_reducible repeat (first | apply blk_drewN | apply blk_drew | apply blk_alloc)); refine blk_far ?_ NB478_477.out _; (with_reducible repeat (first | apply blk_drewN | apply blk_drew | apply blk_alloc)); refine blk_far ?_ NB478_477.out _; (with_reducible repeat (first | apply blk_drewN | apply blk_drew | apply blk_alloc)); refine blk_far ?_ NB478_477.out _; (with_reducible repeat (first | apply blk_drewN | apply blk_drew | apply blk_alloc)); refine blk_far ?_ NB478_477.out _; (with_reducible repeat (first | apply blk_drewN | apply blk_drew | apply blk_alloc)); refine blk_far ?_ NB478_476.out _; (with_reducible repeat (first | apply blk_drewN | apply blk_drew | apply blk_alloc)); exact BK478.out) Tryd.underlying28 rfl (by kernel_rfl) .nil)))) rfl ?_
 exact ⟨_, by first | rfl | (simp [*, errW_none, errW_some] <;> rfl), by (with_reducible repeat (first | apply Kd.S_alloc | apply Kd.S_drewN | apply Kd.S_drew)); exact Kd.S_mono (Kd.S_far (p := ⟨gb478, 3, none⟩) (Kd.S_far (p := ⟨gb478, 2, none⟩) (Kd.S_far (p := ⟨gb478, 1, none⟩) (Kd.S_far (p := ⟨gb478, 0, none⟩) (Kd.S_far (p := ⟨gb477, 3, none⟩) (Kd.S_far (p := ⟨gb477, 2, none⟩) (Kd.S_far (p := ⟨gb477, 1, none⟩) (Kd.S_far (p := ⟨gb477, 0, none⟩) (Kd.S_far (p := ⟨gb476, 0, none⟩) (Kd.S_types (Kd.S_types (Kd.S_types HO482.out BK476.out (by decide)) BK477.out (by decide)) BK478.out (by decide)) (fun _ hk => hk.1.1.2) (.slice Ao10 t480.length co10)) (fun _ hk => hk.1.2) (.int .i64 t486)) (fun _ hk => hk.1.2) (.int .i64 t487)) (fun _ hk => hk.1.2) (.int .i64 t488)) (fun _ hk => hk.1.2) (.int .i64 t489)) (fun _ hk => hk.2) (.int .i64 t490)) (fun _ hk => hk.2) (.int .i64 t491)) (fun _ hk => hk.2) (.int .i64 t492)) (fun _ hk => hk.2) (.int .i64 t493)) (fun _ hk => trivial), bi HB⟩
def impl_CommonPlaces.f (k : Nat) (l0_0 : List (List Int)) (a1_0 : Int) (a1_1 : Int) (a1_2 : Int) (a1_3 : Int) (a2_0 : Int) (a2_1 : Int) (a2_2 : Int) (a2_3 : Int) : Option (Int × Int × Bool) := (impl_areOn.f k l0_0 (([(⟨a1_0, a1_1, a1_2, a1_3⟩ : S28), (⟨a2_0, a2_1, a2_2, a2_3⟩ : S28)] : List (S28)))).bind fun t504 => (if t504 = true then ((impl_common.f a1_0 a1_1 a1_2 a1_3 a2_0 a2_1 a2_2 a2_3).bind fun bt505 => (some (bt505.1, bt505.2, true))) else (some (0, 0, false)))
set_option maxHeartbeats 8000000 in
set_option maxRecDepth 100000 in
theorem impl_CommonPlaces.calls (k : Nat) (A0_0 : Option Addr) (c0_0 : Nat) (l0_0 : List (List Int)) (a1_0 : Int) (a1_1 : Int) (a1_2 : Int) (a1_3 : Int) (a2_0 : Int) (a2_1 : Int) (a2_2 : Int) (a2_3 : Int) (r1 : Int) (r2 : Int) (r3 : Bool) (w : World) (hr0_0 : Kd.C (Kd.slice 5 (Kd.int .u8)) w A0_0 l0_0.length l0_0) (hc0_0 : l0_0.length ≤ c0_0) (h : impl_CommonPlaces.f k l0_0 a1_0 a1_1 a1_2 a1_3 a2_0 a2_1 a2_2 a2_3 = some (r1, r2, r3)) :
    Calls Tryd.prog 8 #[.agg #[.slice A0_0 l0_0.length c0_0], .agg #[.int .i64 a1_0, .int .i64 a1_1, .int .i64 a1_2, .int .i64 a1_3], .agg #[.int .i64 a2_0, .int .i64 a2_1, .int .i64 a2_2, .int .i64 a2_3]] w fun e w' => e = .returned (.tuple #[.int .i64 r1, .int .i64 r2, .bool r3]) ∧ Below w.heap.size w w' := by
 have hu26 := Tryd.underlying26
 have hu28 := Tryd.underlying28
 have HR0_0 := am hr0_0
 have HC0_0 := am hc0_0
 clear hr0_0 hc0_0
 have HB := am (Below.refl w.heap.size w)
 have H : ((impl_areOn.f k l0_0 (([(⟨a1_0, a1_1, a1_2, a1_3⟩ : S28), (⟨a2_0, a2_1, a2_2, a2_3⟩ : S28)] : List (S28)))).bind fun t504 => (if t504 = true then ((impl_common.f a1_0 a1_1 a1_2 a1_3 a2_0 a2_1 a2_2 a2_3).bind fun bt505 => (some (bt505.1, bt505.2, true))) else (some (0, 0, false)))) = some (r1, r2, r3) := h
 clear h
 obtain ⟨y501, hy501⟩ : ∃ y_ : List (S28), y_ = (([(⟨a1_0, a1_1, a1_2, a1_3⟩ : S28), (⟨a2_0, a2_1, a2_2, a2_3⟩ : S28)] : List (S28))) := ⟨_, rfl⟩
 replace H : ((impl_areOn.f k l0_0 y501).bind fun t504 => (if t504 = true then ((impl_common.f a1_0 a1_1 a1_2 a1_3 a2_0 a2_1 a2_2 a2_3).bind fun bt505 => (some (bt505.1, bt505.2, true))) else (some (0, 0, false)))) = some (r1, r2, r3) := by first | (rw [hy501]; with_reducible exact H) | (have H2_ := (Option.bind_some _ _).symm.trans H; rw [hy501]; with_reducible exact H2_) | (have H2_ := (Option.bind_some _ _).symm.trans H; with_reducible exact H2_) | with_reducible exact H | (rw [hy501]; exact H) | exact H
 have Ny501 := am hy501
 clear hy501
 replace H := Option.bind_eq_some_iff.mp H
 obtain ⟨t504, A40, H⟩ := H
 try dsimp only at H
 have A4 := am A40
 clear A40
 by_cases c5 : t504 = true
 ·subst c5
  have H1 : ((impl_common.f a1_0 a1_1 a1_2 a1_3 a2_0 a2_1 a2_2 a2_3).bind fun bt505 => (some (bt505.1, bt505.2, true))) = some (r1, r2, r3) := by rw [if_pos rfl] at H; exact H
  clear H
  have H := H1
  clear H1
  replace H := Option.bind_eq_some_iff.mp H
  obtain ⟨⟨t505, t506⟩, A60, H⟩ := H
  try dsimp only at H
  have A6 := am A60
  clear A60
  simp only [Option.some.injEq, Prod.mk.injEq] at H
  obtain ⟨rfl, rfl, rfl⟩ := H
  go_enter Tryd.func8, Tryd.ntmps8
  go_wp2_with (first | ((with_reducible refine gate_dst (N := 3) rfl ?_); refine bE 3 #[.slice A0_0 l0_0.length c0_0] 26 ?_; intro gb498 hg w7 hbox hb; have BK498 := am hbox; have GW498 := gB hg HB; have GE498 := gB hg HB; replace HB := hB hb HB; clear hb hbox hg) | ((with_reducible refine gate_dst (N := 4) rfl ?_); refine bE 4 #[.int .i64 a1_0, .int .i64 a1_1, .int .i64 a1_2, .int .i64 a1_3] 28 ?_; intro gb499 hg w8 hbox hb; have BK499 := am hbox; have GW499 := gB hg HB; have GE499 := gB hg HB; replace HB := hB hb HB; have NB498_499 := nL hg BK498; have NB499_498 := nG hg BK498; replace BK498 := bB hb BK498; clear hb hbox hg) | ((with_reducible refine gate_dst (N := 5) rfl ?_); refine bE 5 #[.int .i64 a2_0, .int .i64 a2_1, .int .i64 a2_2, .int .i64 a2_3] 28 ?_; intro gb500 hg w9 hbox hb; have BK500 := am hbox; have GW500 := gB hg HB; have GE500 := gB hg HB; replace HB := hB hb HB; have NB498_500 := nL hg BK498; have NB500_498 := nG hg BK498; replace BK498 := bB hb BK498; have NB499_500 := nL hg BK499; have NB500_499 := nG hg BK499; replace BK499 := bB hb BK499; clear hb hbox hg; have hnb10 := NB498_499.out; have hnc10 := NB499_498.out; have hnb11 := NB498_500.out; have hnc11 := NB500_498.out; obtain ⟨_, _⟩ := z1 BK498; have hnb13 := NB499_500.out; have hnc13 := NB500_499.out; obtain ⟨_, _, _, _, _, _, _, _⟩ := z4 BK499; obtain ⟨_, _, _, _, _, _, _, _⟩ := z4 BK500) | ((with_reducible refine gate_dst (N := 14) rfl ?_); refine Kd.R_lit k28 _ 28 ?hg (N := 14) ?hd (xs := ([(⟨a1_0, a1_1, a1_2, a1_3⟩ : S28), (⟨a2_0, a2_1, a2_2, a2_3⟩ : S28)] : List (S28))) (inner := [.int .i64 a1_0, .int .i64 a1_1, .int .i64 a1_2, .int .i64 a1_3, .int .i64 a2_0, .int .i64 a2_1, .int .i64 a2_2, .int .i64 a2_3]) (ok := fun _ => True) (okp := fun _ => True) ?hr ?hp (fun _ hk => hk) trivial (Below.refl _ _) (Nat.le_refl _) (by simp) ?_; (case hd => rfl); (case hg => rfl); (case hr => first | (go_simp; done) | (go_simp; rfl)); (case hp => exact (Reps.c4 (show Kd.M k28 _ _ _ (⟨a1_0, a1_1, a1_2, a1_3⟩ : S28) [.int .i64 a1_0, .int .i64 a1_1, .int .i64 a1_2, .int .i64 a1_3] from (k28_mkM _ _ _ (⟨a1_0, a1_1, a1_2, a1_3⟩ : S28) )) (Reps.c4 (show Kd.M k28 _ _ _ (⟨a2_0, a2_1, a2_2, a2_3⟩ : S28) [.int .i64 a2_0, .int .i64 a2_1, .int .i64 a2_2, .int .i64 a2_3] from (k28_mkM _ _ _ (⟨a2_0, a2_1, a2_2, a2_3⟩ : S28) )) (Reps.none _ _)))); intro v502 w16 ho17 hb hg_ hnew_; clear hg_ hnew_; (first | rw [← Ny501.out] at ho17 | (simp only [Int.reduceToNat] at ho17; rw [← Ny501.out] at ho17)); have HO503 := am (Kd.R_lower (Kd.R_newB (Kd.R_newB ho17 (g := gb499) (o := .cells #[.int .i64 a1_0, .int .i64 a1_1, .int .i64 a1_2, .int .i64 a1_3] 28 (0, 0)) (kk BK499)) (g := gb500) (o := .cells #[.int .i64 a2_0, .int .i64 a2_1, .int .i64 a2_2, .int .i64 a2_3] 28 (0, 0)) (kk BK500)) (below_size (bs HB))); replace BK498 := bB hb BK498; replace BK499 := bB hb BK499; replace BK500 := bB hb BK500; replace HB := hB hb HB; clear hb ho17; obtain ⟨Ao18, co18, eo18⟩ := Kd.R_slice HO503.out; subst eo18) | ((with_reducible refine gate_callee (f := 63) rfl ?_); refine gL 15 Tryd.func63 #[.agg #[.slice A0_0 l0_0.length c0_0], .slice Ao18 y501.length co18] ?_; (with_reducible refine (impl_areOn.calls k _ _ l0_0 _ _ y501 true _ ?side1 ?side2 ?side3 ?side4 A4.out).mono ?_); (case side1 => exact cc (Kd.C_below HR0_0.out HB.out)); (case side2 => exact HC0_0.out); (case side3 => exact cc (Kd.R_reads' HO503.out).2.2); (case side4 => exact (Kd.R_reads' HO503.out).2.1); rintro e w19 ⟨rfl, hb⟩; refine ⟨_, rfl, ?_⟩; replace HO503 := rB hb HO503; replace BK498 := bB hb BK498; replace BK499 := bB hb BK499; replace BK500 := bB hb BK500; replace HB := hB hb HB; (try clear hb); (try clear hk); (try clear hi); obtain ⟨_, _, _, _, _, _, _, _⟩ := z4 BK499; obtain ⟨_, _, _, _, _, _, _, _⟩ := z4 BK500) | ((with_reducible refine gate_callee (f := 64) rfl ?_); refine gL 20 Tryd.func64 #[.agg #[.int .i64 a1_0, .int .i64 a1_1, .int .i64 a1_2, .int .i64 a1_3], .agg #[.int .i64 a2_0, .int .i64 a2_1, .int .i64 a2_2, .int .i64 a2_3]] ?_; (with_reducible refine (impl_common.calls a1_0 a1_1 a1_2 a1_3 a2_0 a2_1 a2_2 a2_3 t505 t506 _ A6.out).mono ?_); rintro e w22 ⟨rfl, hb⟩; refine ⟨_, rfl, ?_⟩; replace HO503 := rB hb HO503; replace BK498 := bB hb BK498; replace BK499 := bB hb BK499; replace BK500 := bB hb BK500; replace HB := hB hb HB; (try clear hb); (try clear hk); (try clear hi)))
  go_ret3
  exact ⟨by first | rfl | (simp [*, errW_none, errW_some] <;> rfl), bs HB⟩
 ·replace c5 := Bool.eq_false_iff.mpr c5
  subst c5
  have H1 : (some (0, 0, false)) = some (r1, r2, r3) := by rw [if_neg (show ¬ (false = true) by decide)] at H; exact H
  clear H
  have H := H1
  clear H1
  simp only [Option.some.injEq, Prod.mk.injEq] at H
  obtain ⟨rfl, rfl, rfl⟩ := H
  go_enter Tryd.func8, Tryd.ntmps8
  go_wp2_with (first | ((with_reducible refine gate_dst (N := 3) rfl ?_); refine bE 3 #[.slice A0_0 l0_0.length c0_0] 26 ?_; intro gb498 hg w23 hbox hb; have BK498 := am hbox; have GW498 := gB hg HB; have GE498 := gB hg HB; replace HB := hB hb HB; clear hb hbox hg) | ((with_reducible refine gate_dst (N := 4) rfl ?_); refine bE 4 #[.int .i64 a1_0, .int .i64 a1_1, .int .i64 a1_2, .int .i64 a1_3] 28 ?_; intro gb499 hg w24 hbox hb; have BK499 := am hbox; have GW499 := gB hg HB; have GE499 := gB hg HB; replace HB := hB hb HB; have NB498_499 := nL hg BK498; have NB499_498 := nG hg BK498; replace BK498 := bB hb BK498; clear hb hbox hg) | ((with_reducible refine gate_dst (N := 5) rfl ?_); refine bE 5 #[.int .i64 a2_0, .int .i64 a2_1, .int .i64 a2_2, .int .i64 a2_3] 28 ?_; intro gb500 hg w25 hbox hb; have BK500 := am hbox; have GW500 := gB hg HB; have GE500 := gB hg HB; replace HB := hB hb HB; have NB498_500 := nL hg BK498; have NB500_498 := nG hg BK498; replace BK498 := bB hb BK498; have NB499_500 := nL hg BK499; have NB500_499 := nG hg BK499; replace BK499 := bB hb BK499; clear hb hbox hg; have hnb26 := NB498_499.out; have hnc26 := NB499_498.out; have hnb27 := NB498_500.out; have hnc27 := NB500_498.out; obtain ⟨_, _⟩ := z1 BK498; have hnb29 := NB499_500.out; have hnc29 := NB500_499.out; obtain ⟨_, _, _, _, _, _, _, _⟩ := z4 BK499; obtain ⟨_, _, _, _, _, _, _, _⟩ := z4 BK500) | ((with_reducible refine gate_dst (N := 14) rfl ?_); refine Kd.R_lit k28 _ 28 ?hg (N := 14) ?hd (xs := ([(⟨a1_0, a1_1, a1_2, a1_3⟩ : S28), (⟨a2_0, a2_1, a2_2, a2_3⟩ : S28)] : List (S28))) (inner := [.int .i64 a1_0, .int .i64 a1_1, .int .i64 a1_2, .int .i64 a1_3, .int .i64 a2_0, .int .i64 a2_1, .int .i64 a2_2, .int .i64 a2_3]) (ok := fun _ => True) (okp := fun _ => True) ?hr ?hp (fun _ hk => hk) trivial (Below.refl _ _) (Nat.le_refl _) (by simp) ?_; (case hd => rfl); (case hg => rfl); (case hr => first | (go_simp; done) | (go_simp; rfl)); (case hp => exact (Reps.c4 (show Kd.M k28 _ _ _ (⟨a1_0, a1_1, a1_2, a1_3⟩ : S28) [.int .i64 a1_0, .int .i64 a1_1, .int .i64 a1_2, .int .i64 a1_3] from (k28_mkM _ _ _ (⟨a1_0, a1_1, a1_2, a1_3⟩ : S28) )) (Reps.c4 (show Kd.M k28 _ _ _ (⟨a2_0, a2_1, a2_2, a2_3⟩ : S28) [.int .i64 a2_0, .int .i64 a2_1, .int .i64 a2_2, .int .i64 a2_3] from (k28_mkM _ _ _ (⟨a2_0, a2_1, a2_2, a2_3⟩ : S28) )) (Reps.none _ _)))); intro v502 w32 ho33 hb hg_ hnew_; clear hg_ hnew_; (first | rw [← Ny501.out] at ho33 | (simp only [Int.reduceToNat] at ho33; rw [← Ny501.out] at ho33)); have HO503 := am (Kd.R_lower (Kd.R_newB (Kd.R_newB ho33 (g := gb499) (o := .cells #[.int .i64 a1_0, .int .i64 a1_1, .int .i64 a1_2, .int .i64 a1_3] 28 (0, 0)) (kk BK499)) (g := gb500) (o := .cells #[.int .i64 a2_0, .int .i64 a2_1, .int .i64 a2_2, .int .i64 a2_3] 28 (0, 0)) (kk BK500)) (below_size (bs HB))); replace BK498 := bB hb BK498; replace BK499 := bB hb BK499; replace BK500 := bB hb BK500; replace HB := hB hb HB; clear hb ho33; obtain ⟨Ao34, co34, eo34⟩ := Kd.R_slice HO503.out; subst eo34) | ((with_reducible refine gate_callee (f := 63) rfl ?_); refine gL 15 Tryd.func63 #[.agg #[.slice A0_0 l0_0.length c0_0], .slice Ao34 y501.length co34] ?_; (with_reducible refine (impl_areOn.calls k _ _ l0_0 _ _ y501 false _ ?side1 ?side2 ?side3 ?side4 A4.out).mono ?_); (case side1 => exact cc (Kd.C_below HR0_0.out HB.out)); (case side2 => exact HC0_0.out); (case side3 => exact cc (Kd.R_reads' HO503.out).2.2); (case side4 => exact (Kd.R_reads' HO503.out).2.1); rintro e w35 ⟨rfl, hb⟩; refine ⟨_, rfl, ?_⟩; replace HO503 := rB hb HO503; replace BK498 := bB hb BK498; replace BK499 := bB hb BK499; replace BK500 := bB hb BK500; replace HB := hB hb HB; (try clear hb); (try clear hk); (try clear hi)))
  go_ret3
  exact ⟨by first | rfl | (simp [*, errW_none, errW_some] <;> rfl), bs HB⟩
def spec_l2Both.f (k : Nat) (l0_0 : List (List Int)) (a1_0 : Int) (a1_1 : Int) (a1_2 : Int) (a1_3 : Int) (a2_0 : Int) (a2_1 : Int) (a2_2 : Int) (a2_3 : Int) : Option (Bool) := (spec_l2Window.f k l0_0 a1_0 a1_1 a1_2 a1_3).bind fun t510 => (if t510 = true then ((spec_l2Window.f k l0_0 a2_0 a2_1 a2_2 a2_3).bind fun t511 => (some t511)) else (some false))
set_option maxHeartbeats 8000000 in
set_option maxRecDepth 100000 in
theorem spec_l2Both.calls (k : Nat) (A0_0 : Option Addr) (c0_0 : Nat) (l0_0 : List (List Int)) (a1_0 : Int) (a1_1 : Int) (a1_2 : Int) (a1_3 : Int) (a2_0 : Int) (a2_1 : Int) (a2_2 : Int) (a2_3 : Int) (r : Bool) (w : World) (hr0_0 : Kd.C (Kd.slice 5 (Kd.int .u8)) w A0_0 l0_0.length l0_0) (hc0_0 : l0_0.length ≤ c0_0) (h : spec_l2Both.f k l0_0 a1_0 a1_1 a1_2 a1_3 a2_0 a2_1 a2_2 a2_3 = some r) :
    Calls Tryd.prog 65 #[.agg #[.slice A0_0 l0_0.length c0_0], .agg #[.int .i64 a1_0, .int .i64 a1_1, .int .i64 a1_2, .int .i64 a1_3], .agg #[.int .i64 a2_0, .int .i64 a2_1, .int .i64 a2_2, .int .i64 a2_3]] w fun e w' => e = .returned (.bool r) ∧ Below w.heap.size w w' := by
 have hu26 := Tryd.underlying26
 have hu28 := Tryd.underlying28
 have HR0_0 := am hr0_0
 have HC0_0 := am hc0_0
 clear hr0_0 hc0_0
 have HB := am (Below.refl w.heap.size w)
 have H : ((spec_l2Window.f k l0_0 a1_0 a1_1 a1_2 a1_3).bind fun t510 => (if t510 = true then ((spec_l2Window.f k l0_0 a2_0 a2_1 a2_2 a2_3).bind fun t511 => (some t511)) else (some false))) = some r := h
 clear h
 replace H := Option.bind_eq_some_iff.mp H
 obtain ⟨t510, A40, H⟩ := H
 try dsimp only at H
 have A4 := am A40
 clear A40
 by_cases c5 : t510 = true
 ·subst c5
  have H1 : ((spec_l2Window.f k l0_0 a2_0 a2_1 a2_2 a2_3).bind fun t511 => (some t511)) = some r := by rw [if_pos rfl] at H; exact H
  clear H
  have H := H1
  clear H1
  replace H := Option.bind_eq_some_iff.mp H
  obtain ⟨t511, A60, H⟩ := H
  try dsimp only at H
  have A6 := am A60
  clear A60
  obtain rfl := Option.some.inj H
  go_enter Tryd.func65, Tryd.ntmps65
  go_wp2_with (first | ((with_reducible refine gate_dst (N := 3) rfl ?_); refine bE 3 #[.slice A0_0 l0_0.length c0_0] 26 ?_; intro gb507 hg w7 hbox hb; have BK507 := am hbox; have GW507 := gB hg HB; have GE507 := gB hg HB; replace HB := hB hb HB; clear hb hbox hg) | ((with_reducible refine gate_dst (N := 4) rfl ?_); refine bE 4 #[.int .i64 a1_0, .int .i64 a1_1, .int .i64 a1_2, .int .i64 a1_3] 28 ?_; intro gb508 hg w8 hbox hb; have BK508 := am hbox; have GW508 := gB hg HB; have GE508 := gB hg HB; replace HB := hB hb HB; have NB507_508 := nL hg BK507; have NB508_507 := nG hg BK507; replace BK507 := bB hb BK507; clear hb hbox hg) | ((with_reducible refine gate_dst (N := 5) rfl ?_); refine bE 5 #[.int .i64 a2_0, .int .i64 a2_1, .int .i64 a2_2, .int .i64 a2_3] 28 ?_; intro gb509 hg w9 hbox hb; have BK509 := am hbox; have GW509 := gB hg HB; have GE509 := gB hg HB; replace HB := hB hb HB; have NB507_509 := nL hg BK507; have NB509_507 := nG hg BK507; replace BK507 := bB hb BK507; have NB508_509 := nL hg BK508; have NB509_508 := nG hg BK508; replace BK508 := bB hb BK508; clear hb hbox hg; have hnb10 := NB507_508.out; have hnc10 := NB508_507.out; have hnb11 := NB507_509.out; have hnc11 := NB509_507.out; obtain ⟨_, _⟩ := z1 BK507; have hnb13 := NB508_509.out; have hnc13 := NB509_508.out; obtain ⟨_, _, _, _, _, _, _, _⟩ := z4 BK508) | ((with_reducible refine gate_callee (f := 96) rfl ?_); refine gL 9 Tryd.func96 #[.agg #[.slice A0_0 l0_0.length c0_0], .agg #[.int .i64 a1_0, .int .i64 a1_1, .int .i64 a1_2, .int .i64 a1_3]] ?_; (with_reducible refine (spec_l2Window.calls k _ _ l0_0 a1_0 a1_1 a1_2 a1_3 true _ ?side1 ?side2 A4.out).mono ?_); (case side1 => exact cc (Kd.C_below HR0_0.out HB.out)); (case side2 => exact HC0_0.out); rintro e w15 ⟨rfl, hb⟩; refine ⟨_, rfl, ?_⟩; replace BK507 := bB hb BK507; replace BK508 := bB hb BK508; replace BK509 := bB hb BK509; replace HB := hB hb HB; (try clear hb); (try clear hk); (try clear hi); obtain ⟨_, _⟩ := z1 BK507; obtain ⟨_, _, _, _, _, _, _, _⟩ := z4 BK509) | (go_at_call 96; (with_reducible refine (spec_l2Window.calls k _ _ l0_0 a2_0 a2_1 a2_2 a2_3 t511 _ ?side1 ?side2 A6.out).mono ?_); (case side1 => exact cc (Kd.C_below HR0_0.out HB.out)); (case side2 => exact HC0_0.out); rintro e w18 ⟨rfl, hb⟩; replace BK507 := bB hb BK507; replace BK508 := bB hb BK508; replace BK509 := bB hb BK509; replace HB := hB hb HB; (try clear hb); (try clear hk); (try clear hi)))
  go_ret
  exact ⟨by first | rfl | (simp [*, errW_none, errW_some] <;> rfl), bs HB⟩
 ·replace c5 := Bool.eq_false_iff.mpr c5
  subst c5
  have H1 : (some false) = some r := by rw [if_neg (show ¬ (false = true) by decide)] at H; exact H
  clear H
  have H := H1
  clear H1
  obtain rfl := Option.some.inj H
  go_enter Tryd.func65, Tryd.ntmps65
  go_wp2_with (first | ((with_reducible refine gate_dst (N := 3) rfl ?_); refine bE 3 #[.slice A0_0 l0_0.length c0_0] 26 ?_; intro gb507 hg w19 hbox hb; have BK507 := am hbox; have GW507 := gB hg HB; have GE507 := gB hg HB; replace HB := hB hb HB; clear hb hbox hg) | ((with_reducible refine gate_dst (N := 4) rfl ?_); refine bE 4 #[.int .i64 a1_0, .int .i64 a1_1, .int .i64 a1_2, .int .i64 a1_3] 28 ?_; intro gb508 hg w20 hbox hb; have BK508 := am hbox; have GW508 := gB hg HB; have GE508 := gB hg HB; replace HB := hB hb HB; have NB507_508 := nL hg BK507; have NB508_507 := nG hg BK507; replace BK507 := bB hb BK507; clear hb hbox hg) | ((with_reducible refine gate_dst (N := 5) rfl ?_); refine bE 5 #[.int .i64 a2_0, .int .i64 a2_1, .int .i64 a2_2, .int .i64 a2_3] 28 ?_; intro gb509 hg w21 hbox hb; have BK509 := am hbox; have GW509 := gB hg HB; have GE509 := gB hg HB; replace HB := hB hb HB; have NB507_509 := nL hg BK507; have NB509_507 := nG hg BK507; replace BK507 := bB hb BK507; have NB508_509 := nL hg BK508; have NB509_508 := nG hg BK508; replace BK508 := bB hb BK508; clear hb hbox hg; have hnb22 := NB507_508.out; have hnc22 := NB508_507.out; have hnb23 := NB507_509.out; have hnc23 := NB509_507.out; obtain ⟨_, _⟩ := z1 BK507; have hnb25 := NB508_509.out; have hnc25 := NB509_508.out; obtain ⟨_, _, _, _, _, _, _, _⟩ := z4 BK508) | ((with_reducible refine gate_callee (f := 96) rfl ?_); refine gL 9 Tryd.func96 #[.agg #[.slice A0_0 l0_0.length c0_0], .agg #[.int .i64 a1_0, .int .i64 a1_1, .int .i64 a1_2, .int .i64 a1_3]] ?_; (with_reducible refine (spec_l2Window.calls k _ _ l0_0 a1_0 a1_1 a1_2 a1_3 false _ ?side1 ?side2 A4.out).mono ?_); (case side1 => exact cc (Kd.C_below HR0_0.out HB.out)); (case side2 => exact HC0_0.out); rintro e w27 ⟨rfl, hb⟩; refine ⟨_, rfl, ?_⟩; replace BK507 := bB hb BK507; replace BK508 := bB hb BK508; replace BK509 := bB hb BK509; replace HB := hB hb HB; (try clear hb); (try clear hk); (try clear hi)))
  go_ret
  exact ⟨by first | rfl | (simp [*, errW_none, errW_some] <;> rfl), bs HB⟩
def spec_CommonPlaces.f (k : Nat) (l0_0 : List (List Int)) (a1_0 : Int) (a1_1 : Int) (a1_2 : Int) (a1_3 : Int) (a2_0 : Int) (a2_1 : Int) (a2_2 : Int) (a2_3 : Int) : Option (Int × Int × Bool) := (spec_l2Both.f k l0_0 a1_0 a1_1 a1_2 a1_3 a2_0 a2_1 a2_2 a2_3).bind fun t515 => (if t515 = true then ((spec_l2Overlap.f a1_0 a1_1 a1_2 a1_3 a2_0 a2_1 a2_2 a2_3).bind fun t516 => (if t516 = 0 then (some (0, (-1), true)) else ((spec_l1Most.f a1_1 a2_1).bind fun t517 => (some (t516, t517, true))))) else (some (0, 0, false)))
set_option maxHeartbeats 8000000 in
set_option maxRecDepth 100000 in
theorem spec_CommonPlaces.calls (k : Nat) (A0_0 : Option Addr) (c0_0 : Nat) (l0_0 : List (List Int)) (a1_0 : Int) (a1_1 : Int) (a1_2 : Int) (a1_3 : Int) (a2_0 : Int) (a2_1 : Int) (a2_2 : Int) (a2_3 : Int) (r1 : Int) (r2 : Int) (r3 : Bool) (w : World) (hr0_0 : Kd.C (Kd.slice 5 (Kd.int .u8)) w A0_0 l0_0.length l0_0) (hc0_0 : l0_0.length ≤ c0_0) (h : spec_CommonPlaces.f k l0_0 a1_0 a1_1 a1_2 a1_3 a2_0 a2_1 a2_2 a2_3 = some (r1, r2, r3)) :
    Calls Tryd.prog 9 #[.agg #[.slice A0_0 l0_0.length c0_0], .agg #[.int .i64 a1_0, .int .i64 a1_1, .int .i64 a1_2, .int .i64 a1_3], .agg #[.int .i64 a2_0, .int .i64 a2_1, .int .i64 a2_2, .int .i64 a2_3]] w fun e w' => e = .returned (.tuple #[.int .i64 r1, .int .i64 r2, .bool r3]) ∧ Below w.heap.size w w' := by
 have hu26 := Tryd.underlying26
 have hu28 := Tryd.underlying28
 have HR0_0 := am hr0_0
 have HC0_0 := am hc0_0
 clear hr0_0 hc0_0
 have HB := am (Below.refl w.heap.size w)
 have H : ((spec_l2Both.f k l0_0 a1_0 a1_1 a1_2 a1_3 a2_0 a2_1 a2_2 a2_3).bind fun t515 => (if t515 = true then ((spec_l2Overlap.f a1_0 a1_1 a1_2 a1_3 a2_0 a2_1 a2_2 a2_3).bind fun t516 => (if t516 = 0 then (some (0, (-1), true)) else ((spec_l1Most.f a1_1 a2_1).bind fun t517 => (some (t516, t517, true))))) else (some (0, 0, false)))) = some (r1, r2, r3) := h
 clear h
 replace H := Option.bind_eq_some_iff.mp H
 obtain ⟨t515, A40, H⟩ := H
 try dsimp only at H
 have A4 := am A40
 clear A40
 by_cases c5 : t515 = true
 ·subst c5
  have H1 : ((spec_l2Overlap.f a1_0 a1_1 a1_2 a1_3 a2_0 a2_1 a2_2 a2_3).bind fun t516 => (if t516 = 0 then (some (0, (-1), true)) else ((spec_l1Most.f a1_1 a2_1).bind fun t517 => (some (t516, t517, true))))) = some (r1, r2, r3) := by rw [if_pos rfl] at H; exact H
  clear H
  have H := H1
  clear H1
  replace H := Option.bind_eq_some_iff.mp H
  obtain ⟨t516, A60, H⟩ := H
  try dsimp only at H
  have A6 := am A60
  clear A60
  by_cases c7 : t516 = 0
  ·rw [if_pos c7] at H
   have c7b0 : (t516 == 0) = true := beq_iff_eq.mpr c7
   have c7b1 : (t516 != 0) = false := bne_eq_false_iff_eq.mpr c7
   clear c7
   simp only [Option.some.injEq, Prod.mk.injEq] at H
   obtain ⟨rfl, rfl, rfl⟩ := H
   go_enter Tryd.func9, Tryd.ntmps9
   go_wp2_with (first | ((with_reducible refine gate_dst (N := 3) rfl ?_); refine bE 3 #[.slice A0_0 l0_0.length c0_0] 26 ?_; intro gb512 hg w8 hbox hb; have BK512 := am hbox; have GW512 := gB hg HB; have GE512 := gB hg HB; replace HB := hB hb HB; clear hb hbox hg) | ((with_reducible refine gate_dst (N := 4) rfl ?_); refine bE 4 #[.int .i64 a1_0, .int .i64 a1_1, .int .i64 a1_2, .int .i64 a1_3] 28 ?_; intro gb513 hg w9 hbox hb; have BK513 := am hbox; have GW513 := gB hg HB; have GE513 := gB hg HB; replace HB := hB hb HB; have NB512_513 := nL hg BK512; have NB513_512 := nG hg BK512; replace BK512 := bB hb BK512; clear hb hbox hg) | ((with_reducible refine gate_dst (N := 5) rfl ?_); refine bE 5 #[.int .i64 a2_0, .int .i64 a2_1, .int .i64 a2_2, .int .i64 a2_3] 28 ?_; intro gb514 hg w10 hbox hb; have BK514 := am hbox; have GW514 := gB hg HB; have GE514 := gB hg HB; replace HB := hB hb HB; have NB512_514 := nL hg BK512; have NB514_512 := nG hg BK512; replace BK512 := bB hb BK512; have NB513_514 := nL hg BK513; have NB514_513 := nG hg BK513; replace BK513 := bB hb BK513; clear hb hbox hg; have hnb11 := NB512_513.out; have hnc11 := NB513_512.out; have hnb12 := NB512_514.out; have hnc12 := NB514_512.out; obtain ⟨_, _⟩ := z1 BK512; have hnb14 := NB513_514.out; have hnc14 := NB514_513.out; obtain ⟨_, _, _, _, _, _, _, _⟩ := z4 BK513; obtain ⟨_, _, _, _, _, _, _, _⟩ := z4 BK514) | ((with_reducible refine gate_callee (f := 65) rfl ?_); refine gL 13 Tryd.func65 #[.agg #[.slice A0_0 l0_0.length c0_0], .agg #[.int .i64 a1_0, .int .i64 a1_1, .int .i64 a1_2, .int .i64 a1_3], .agg #[.int .i64 a2_0, .int .i64 a2_1, .int .i64 a2_2, .int .i64 a2_3]] ?_; (with_reducible refine (spec_l2Both.calls k _ _ l0_0 a1_0 a1_1 a1_2 a1_3 a2_0 a2_1 a2_2 a2_3 true _ ?side1 ?side2 A4.out).mono ?_); (case side1 => exact cc (Kd.C_below HR0_0.out HB.out)); (case side2 => exact HC0_0.out); rintro e w17 ⟨rfl, hb⟩; refine ⟨_, rfl, ?_⟩; replace BK512 := bB hb BK512; replace BK513 := bB hb BK513; replace BK514 := bB hb BK514; replace HB := hB hb HB; (try clear hb); (try clear hk); (try clear hi); obtain ⟨_, _, _, _, _, _, _, _⟩ := z4 BK513; obtain ⟨_, _, _, _, _, _, _, _⟩ := z4 BK514) | ((with_reducible refine gate_callee (f := 66) rfl ?_); refine gL 17 Tryd.func66 #[.agg #[.int .i64 a1_0, .int .i64 a1_1, .int .i64 a1_2, .int .i64 a1_3], .agg #[.int .i64 a2_0, .int .i64 a2_1, .int .i64 a2_2, .int .i64 a2_3]] ?_; (with_reducible refine (spec_l2Overlap.calls a1_0 a1_1 a1_2 a1_3 a2_0 a2_1 a2_2 a2_3 t516 _ A6.out).mono ?_); rintro e w20 ⟨rfl, hb⟩; refine ⟨_, rfl, ?_⟩; replace BK512 := bB hb BK512; replace BK513 := bB hb BK513; replace BK514 := bB hb BK514; replace HB := hB hb HB; (try clear hb); (try clear hk); (try clear hi)))
   go_ret3
   exact ⟨by first | rfl | (simp [*, errW_none, errW_some] <;> rfl), bs HB⟩
  ·rw [if_neg c7] at H
   have c7b0 : (t516 == 0) = false := beq_eq_false_iff_ne.mpr c7
   have c7b1 : (t516 != 0) = true := bne_iff_ne.mpr c7
   replace H := Option.bind_eq_some_iff.mp H
   obtain ⟨t517, A210, H⟩ := H
   try dsimp only at H
   have A21 := am A210
   clear A210
   simp only [Option.some.injEq, Prod.mk.injEq] at H
   obtain ⟨rfl, rfl, rfl⟩ := H
   go_enter Tryd.func9, Tryd.ntmps9
   go_wp2_with (first | ((with_reducible refine gate_dst (N := 3) rfl ?_); refine bE 3 #[.slice A0_0 l0_0.length c0_0] 26 ?_; intro gb512 hg w22 hbox hb; have BK512 := am hbox; have GW512 := gB hg HB; have GE512 := gB hg HB; replace HB := hB hb HB; clear hb hbox hg) | ((with_reducible refine gate_dst (N := 4) rfl ?_); refine bE 4 #[.int .i64 a1_0, .int .i64 a1_1, .int .i64 a1_2, .int .i64 a1_3] 28 ?_; intro gb513 hg w23 hbox hb; have BK513 := am hbox; have GW513 := gB hg HB; have GE513 := gB hg HB; replace HB := hB hb HB; have NB512_513 := nL hg BK512; have NB513_512 := nG hg BK512; replace BK512 := bB hb BK512; clear hb hbox hg) | ((with_reducible refine gate_dst (N := 5) rfl ?_); refine bE 5 #[.int .i64 a2_0, .int .i64 a2_1, .int .i64 a2_2, .int .i64 a2_3] 28 ?_; intro gb514 hg w24 hbox hb; have BK514 := am hbox; have GW514 := gB hg HB; have GE514 := gB hg HB; replace HB := hB hb HB; have NB512_514 := nL hg BK512; have NB514_512 := nG hg BK512; replace BK512 := bB hb BK512; have NB513_514 := nL hg BK513; have NB514_513 := nG hg BK513; replace BK513 := bB hb BK513; clear hb hbox hg; have hnb25 := NB512_513.out; have hnc25 := NB513_512.out; have hnb26 := NB512_514.out; have hnc26 := NB514_512.out; obtain ⟨_, _⟩ := z1 BK512; have hnb28 := NB513_514.out; have hnc28 := NB514_513.out; obtain ⟨_, _, _, _, _, _, _, _⟩ := z4 BK513; obtain ⟨_, _, _, _, _, _, _, _⟩ := z4 BK514) | ((with_reducible refine gate_callee (f := 65) rfl ?_); refine gL 13 Tryd.func65 #[.agg #[.slice A0_0 l0_0.length c0_0], .agg #[.int .i64 a1_0, .int .i64 a1_1, .int .i64 a1_2, .int .i64 a1_3], .agg #[.int .i64 a2_0, .int .i64 a2_1, .int .i64 a2_2, .int .i64 a2_3]] ?_; (with_reducible refine (spec_l2Both.calls k _ _ l0_0 a1_0 a1_1 a1_2 a1_3 a2_0 a2_1 a2_2 a2_3 true _ ?side1 ?side2 A4.out).mono ?_); (case side1 => exact cc (Kd.C_below HR0_0.out HB.out)); (case side2 => exact HC0_0.out); rintro e w31 ⟨rfl, hb⟩; refine ⟨_, rfl, ?_⟩; replace BK512 := bB hb BK512; replace BK513 := bB hb BK513; replace BK514 := bB hb BK514; replace HB := hB hb HB; (try clear hb); (try clear hk); (try clear hi); obtain ⟨_, _, _, _, _, _, _, _⟩ := z4 BK513; obtain ⟨_, _, _, _, _, _, _, _⟩ := z4 BK514) | ((with_reducible refine gate_callee (f := 66) rfl ?_); refine gL 17 Tryd.func66 #[.agg #[.int .i64 a1_0, .int .i64 a1_1, .int .i64 a1_2, .int .i64 a1_3], .agg #[.int .i64 a2_0, .int .i64 a2_1, .int .i64 a2_2, .int .i64 a2_3]] ?_; (with_reducible refine (spec_l2Overlap.calls a1_0 a1_1 a1_2 a1_3 a2_0 a2_1 a2_2 a2_3 t516 _ A6.out).mono ?_); rintro e w34 ⟨rfl, hb⟩; refine ⟨_, rfl, ?_⟩; replace BK512 := bB hb BK512; replace BK513 := bB hb BK513; replace BK514 := bB hb BK514; replace HB := hB hb HB; (try clear hb); (try clear hk); (try clear hi); obtain ⟨_, _, _, _, _, _, _, _⟩ := z4 BK513; obtain ⟨_, _, _, _, _, _, _, _⟩ := z4 BK514) | ((with_reducible refine gate_callee (f := 67) rfl ?_); refine gL 25 Tryd.func67 #[.int .i64 a1_1, .int .i64 a2_1] ?_; (with_reducible refine (spec_l1Most.calls a1_1 a2_1 t517 _ A21.out).mono ?_); rintro e w' ⟨rfl, ⟨nd, rfl⟩⟩; refine ⟨_, rfl, ?_⟩))
   go_ret3
   exact ⟨by first | rfl | (simp [*, errW_none, errW_some] <;> rfl), bs HB⟩
 ·replace c5 := Bool.eq_false_iff.mpr c5
  subst c5
  have H1 : (some (0, 0, false)) = some (r1, r2, r3) := by rw [if_neg (show ¬ (false = true) by decide)] at H; exact H
  clear H
  have H := H1
  clear H1
  simp only [Option.some.injEq, Prod.mk.injEq] at H
  obtain ⟨rfl, rfl, rfl⟩ := H
  go_enter Tryd.func9, Tryd.ntmps9
  go_wp2_with (first | ((with_reducible refine gate_dst (N := 3) rfl ?_); refine bE 3 #[.slice A0_0 l0_0.length c0_0] 26 ?_; intro gb512 hg w37 hbox hb; have BK512 := am hbox; have GW512 := gB hg HB; have GE512 := gB hg HB; replace HB := hB hb HB; clear hb hbox hg) | ((with_reducible refine gate_dst (N := 4) rfl ?_); refine bE 4 #[.int .i64 a1_0, .int .i64 a1_1, .int .i64 a1_2, .int .i64 a1_3] 28 ?_; intro gb513 hg w38 hbox hb; have BK513 := am hbox; have GW513 := gB hg HB; have GE513 := gB hg HB; replace HB := hB hb HB; have NB512_513 := nL hg BK512; have NB513_512 := nG hg BK512; replace BK512 := bB hb BK512; clear hb hbox hg) | ((with_reducible refine gate_dst (N := 5) rfl ?_); refine bE 5 #[.int .i64 a2_0, .int .i64 a2_1, .int .i64 a2_2, .int .i64 a2_3] 28 ?_; intro gb514 hg w39 hbox hb; have BK514 := am hbox; have GW514 := gB hg HB; have GE514 := gB hg HB; replace HB := hB hb HB; have NB512_514 := nL hg BK512; have NB514_512 := nG hg BK512; replace BK512 := bB hb BK512; have NB513_514 := nL hg BK513; have NB514_513 := nG hg BK513; replace BK513 := bB hb BK513; clear hb hbox hg; have hnb40 := NB512_513.out; have hnc40 := NB513_512.out; have hnb41 := NB512_514.out; have hnc41 := NB514_512.out; obtain ⟨_, _⟩ := z1 BK512; have hnb43 := NB513_514.out; have hnc43 := NB514_513.out; obtain ⟨_, _, _, _, _, _, _, _⟩ := z4 BK513; obtain ⟨_, _, _, _, _, _, _, _⟩ := z4 BK514) | ((with_reducible refine gate_callee (f := 65) rfl ?_); refine gL 13 Tryd.func65 #[.agg #[.slice A0_0 l0_0.length c0_0], .agg #[.int .i64 a1_0, .int .i64 a1_1, .int .i64 a1_2, .int .i64 a1_3], .agg #[.int .i64 a2_0, .int .i64 a2_1, .int .i64 a2_2, .int .i64 a2_3]] ?_; (with_reducible refine (spec_l2Both.calls k _ _ l0_0 a1_0 a1_1 a1_2 a1_3 a2_0 a2_1 a2_2 a2_3 false _ ?side1 ?side2 A4.out).mono ?_); (case side1 => exact cc (Kd.C_below HR0_0.out HB.out)); (case side2 => exact HC0_0.out); rintro e w46 ⟨rfl, hb⟩; refine ⟨_, rfl, ?_⟩; replace BK512 := bB hb BK512; replace BK513 := bB hb BK513; replace BK514 := bB hb BK514; replace HB := hB hb HB; (try clear hb); (try clear hk); (try clear hi)))
  go_ret3
  exact ⟨by first | rfl | (simp [*, errW_none, errW_some] <;> rfl), bs HB⟩
def impl_DoShare.f (k : Nat) (l0_0 : List (List Int)) (a1_0 : Int) (a1_1 : Int) (a1_2 : Int) (a1_3 : Int) (a2_0 : Int) (a2_1 : Int) (a2_2 : Int) (a2_3 : Int) : Option (Bool × Bool) := (impl_areOn.f k l0_0 (([(⟨a1_0, a1_1, a1_2, a1_3⟩ : S28), (⟨a2_0, a2_1, a2_2, a2_3⟩ : S28)] : List (S28)))).bind fun t524 => (if t524 = true then ((impl_areShared.f a1_0 a1_1 a1_2 a1_3 a2_0 a2_1 a2_2 a2_3).bind fun t525 => (some (t525, true))) else (some (false, false)))
set_option maxHeartbeats 8000000 in
set_option maxRecDepth 100000 in
theorem impl_DoShare.calls (k : Nat) (A0_0 : Option Addr) (c0_0 : Nat) (l0_0 : List (List Int)) (a1_0 : Int) (a1_1 : Int) (a1_2 : Int) (a1_3 : Int) (a2_0 : Int) (a2_1 : Int) (a2_2 : Int) (a2_3 : Int) (r1 : Bool) (r2 : Bool) (w : World) (hr0_0 : Kd.C (Kd.slice 5 (Kd.int .u8)) w A0_0 l0_0.length l0_0) (hc0_0 : l0_0.length ≤ c0_0) (h : impl_DoShare.f k l0_0 a1_0 a1_1 a1_2 a1_3 a2_0 a2_1 a2_2 a2_3 = some (r1, r2)) :
    Calls Tryd.prog 10 #[.agg #[.slice A0_0 l0_0.length c0_0], .agg #[.int .i64 a1_0, .int .i64 a1_1, .int .i64 a1_2, .int .i64 a1_3], .agg #[.int .i64 a2_0, .int .i64 a2_1, .int .i64 a2_2, .int .i64 a2_3]] w fun e w' => e = .returned (.tuple #[.bool r1, .bool r2]) ∧ Below w.heap.size w w' := by
 have hu26 := Tryd.underlying26
 have hu28 := Tryd.underlying28
 have HR0_0 := am hr0_0
 have HC0_0 := am hc0_0
 clear hr0_0 hc0_0
 have HB := am (Below.refl w.heap.size w)
 have H : ((impl_areOn.f k l0_0 (([(⟨a1_0, a1_1, a1_2, a1_3⟩ : S28), (⟨a2_0, a2_1, a2_2, a2_3⟩ : S28)] : List (S28)))).bind fun t524 => (if t524 = true then ((impl_areShared.f a1_0 a1_1 a1_2 a1_3 a2_0 a2_1 a2_2 a2_3).bind fun t525 => (some (t525, true))) else (some (false, false)))) = some (r1, r2) := h
 clear h
 obtain ⟨y521, hy521⟩ : ∃ y_ : List (S28), y_ = (([(⟨a1_0, a1_1, a1_2, a1_3⟩ : S28), (⟨a2_0, a2_1, a2_2, a2_3⟩ : S28)] : List (S28))) := ⟨_, rfl⟩
 replace H : ((impl_areOn.f k l0_0 y521).bind fun t524 => (if t524 = true then ((impl_areShared.f a1_0 a1_1 a1_2 a1_3 a2_0 a2_1 a2_2 a2_3).bind fun t525 => (some (t525, true))) else (some (false, false)))) = some (r1, r2) := by first | (rw [hy521]; with_reducible exact H) | (have H2_ := (Option.bind_some _ _).symm.trans H; rw [hy521]; with_reducible exact H2_) | (have H2_ := (Option.bind_some _ _).symm.trans H; with_reducible exact H2_) | with_reducible exact H | (rw [hy521]; exact H) | exact H
 have Ny521 := am hy521
 clear hy521
 replace H := Option.bind_eq_some_iff.mp H
 obtain ⟨t524, A40, H⟩ := H
 try dsimp only at H
 have A4 := am A40
 clear A40
 by_cases c5 : t524 = true
 ·subst c5
  have H1 : ((impl_areShared.f a1_0 a1_1 a1_2 a1_3 a2_0 a2_1 a2_2 a2_3).bind fun t525 => (some (t525, true))) = some (r1, r2) := by rw [if_pos rfl] at H; exact H
  clear H
  have H := H1
  clear H1
  replace H := Option.bind_eq_some_iff.mp H
  obtain ⟨t525, A60, H⟩ := H
  try dsimp only at H
  have A6 := am A60
  clear A60
  simp only [Option.some.injEq, Prod.mk.injEq] at H
  obtain ⟨rfl, rfl⟩ := H
  go_enter Tryd.func10, Tryd.ntmps10
  go_wp2_with (first | ((with_reducible refine gate_dst (N := 3) rfl ?_); refine bE 3 #[.slice A0_0 l0_0.length c0_0] 26 ?_; intro gb518 hg w7 hbox hb; have BK518 := am hbox; have GW518 := gB hg HB; have GE518 := gB hg HB; replace HB := hB hb HB; clear hb hbox hg) | ((with_reducible refine gate_dst (N := 4) rfl ?_); refine bE 4 #[.int .i64 a1_0, .int .i64 a1_1, .int .i64 a1_2, .int .i64 a1_3] 28 ?_; intro gb519 hg w8 hbox hb; have BK519 := am hbox; have GW519 := gB hg HB; have GE519 := gB hg HB; replace HB := hB hb HB; have NB518_519 := nL hg BK518; have NB519_518 := nG hg BK518; replace BK518 := bB hb BK518; clear hb hbox hg) | ((with_reducible refine gate_dst (N := 5) rfl ?_); refine bE 5 #[.int .i64 a2_0, .int .i64 a2_1, .int .i64 a2_2, .int .i64 a2_3] 28 ?_; intro gb520 hg w9 hbox hb; have BK520 := am hbox; have GW520 := gB hg HB; have GE520 := gB hg HB; replace HB := hB hb HB; have NB518_520 := nL hg BK518; have NB520_518 := nG hg BK518; replace BK518 := bB hb BK518; have NB519_520 := nL hg BK519; have NB520_519 := nG hg BK519; replace BK519 := bB hb BK519; clear hb hbox hg; have hnb10 := NB518_519.out; have hnc10 := NB519_518.out; have hnb11 := NB518_520.out; have hnc11 := NB520_518.out; obtain ⟨_, _⟩ := z1 BK518; have hnb13 := NB519_520.out; have hnc13 := NB520_519.out; obtain ⟨_, _, _, _, _, _, _, _⟩ := z4 BK519; obtain ⟨_, _, _, _, _, _, _, _⟩ := z4 BK520) | ((with_reducible refine gate_dst (N := 11) rfl ?_); refine Kd.R_lit k28 _ 28 ?hg (N := 11) ?hd (xs := ([(⟨a1_0, a1_1, a1_2, a1_3⟩ : S28), (⟨a2_0, a2_1, a2_2, a2_3⟩ : S28)] : List (S28))) (inner := [.int .i64 a1_0, .int .i64 a1_1, .int .i64 a1_2, .int .i64 a1_3, .int .i64 a2_0, .int .i64 a2_1, .int .i64 a2_2, .int .i64 a2_3]) (ok := fun _ => True) (okp := fun _ => True) ?hr ?hp (fun _ hk => hk) trivial (Below.refl _ _) (Nat.le_refl _) (by simp) ?_; (case hd => rfl); (case hg => rfl); (case hr => first | (go_simp; done) | (go_simp; rfl)); (case hp => exact (Reps.c4 (show Kd.M k28 _ _ _ (⟨a1_0, a1_1, a1_2, a1_3⟩ : S28) [.int .i64 a1_0, .int .i64 a1_1, .int .i64 a1_2, .int .i64 a1_3] from (k28_mkM _ _ _ (⟨a1_0, a1_1, a1_2, a1_3⟩ : S28) )) (Reps.c4 (show Kd.M k28 _ _ _ (⟨a2_0, a2_1, a2_2, a2_3⟩ : S28) [.int .i64 a2_0, .int .i64 a2_1, .int .i64 a2_2, .int .i64 a2_3] from (k28_mkM _ _ _ (⟨a2_0, a2_1, a2_2, a2_3⟩ : S28) )) (Reps.none _ _)))); intro v522 w16 ho17 hb hg_ hnew_; clear hg_ hnew_; (first | rw [← Ny521.out] at ho17 | (simp only [Int.reduceToNat] at ho17; rw [← Ny521.out] at ho17)); have HO523 := am (Kd.R_lower (Kd.R_newB (Kd.R_newB ho17 (g := gb519) (o := .cells #[.int .i64 a1_0, .int .i64 a1_1, .int .i64 a1_2, .int .i64 a1_3] 28 (0, 0)) (kk BK519)) (g := gb520) (o := .cells #[.int .i64 a2_0, .int .i64 a2_1, .int .i64 a2_2, .int .i64 a2_3] 28 (0, 0)) (kk BK520)) (below_size (bs HB))); replace BK518 := bB hb BK518; replace BK519 := bB hb BK519; replace BK520 := bB hb BK520; replace HB := hB hb HB; clear hb ho17; obtain ⟨Ao18, co18, eo18⟩ := Kd.R_slice HO523.out; subst eo18) | ((with_reducible refine gate_callee (f := 63) rfl ?_); refine gL 12 Tryd.func63 #[.agg #[.slice A0_0 l0_0.length c0_0], .slice Ao18 y521.length co18] ?_; (with_reducible refine (impl_areOn.calls k _ _ l0_0 _ _ y521 true _ ?side1 ?side2 ?side3 ?side4 A4.out).mono ?_); (case side1 => exact cc (Kd.C_below HR0_0.out HB.out)); (case side2 => exact HC0_0.out); (case side3 => exact cc (Kd.R_reads' HO523.out).2.2); (case side4 => exact (Kd.R_reads' HO523.out).2.1); rintro e w19 ⟨rfl, hb⟩; refine ⟨_, rfl, ?_⟩; replace HO523 := rB hb HO523; replace BK518 := bB hb BK518; replace BK519 := bB hb BK519; replace BK520 := bB hb BK520; replace HB := hB hb HB; (try clear hb); (try clear hk); (try clear hi); obtain ⟨_, _, _, _, _, _, _, _⟩ := z4 BK519; obtain ⟨_, _, _, _, _, _, _, _⟩ := z4 BK520) | ((with_reducible refine gate_callee (f := 68) rfl ?_); refine gL 16 Tryd.func68 #[.agg #[.int .i64 a1_0, .int .i64 a1_1, .int .i64 a1_2, .int .i64 a1_3], .agg #[.int .i64 a2_0, .int .i64 a2_1, .int .i64 a2_2, .int .i64 a2_3]] ?_; (with_reducible refine (impl_areShared.calls a1_0 a1_1 a1_2 a1_3 a2_0 a2_1 a2_2 a2_3 t525 _ A6.out).mono ?_); rintro e w22 ⟨rfl, hb⟩; refine ⟨_, rfl, ?_⟩; replace HO523 := rB hb HO523; replace BK518 := bB hb BK518; replace BK519 := bB hb BK519; replace BK520 := bB hb BK520; replace HB := hB hb HB; (try clear hb); (try clear hk); (try clear hi)))
  go_ret2
  exact ⟨by first | rfl | (simp [*, errW_none, errW_some] <;> rfl), bs HB⟩
 ·replace c5 := Bool.eq_false_iff.mpr c5
  subst c5
  have H1 : (some (false, false)) = some (r1, r2) := by rw [if_neg (show ¬ (false = true) by decide)] at H; exact H
  clear H
  have H := H1
  clear H1
  simp only [Option.some.injEq, Prod.mk.injEq] at H
  obtain ⟨rfl, rfl⟩ := H
  go_enter Tryd.func10, Tryd.ntmps10
  go_wp2_with (first | ((with_reducible refine gate_dst (N := 3) rfl ?_); refine bE 3 #[.slice A0_0 l0_0.length c0_0] 26 ?_; intro gb518 hg w23 hbox hb; have BK518 := am hbox; have GW518 := gB hg HB; have GE518 := gB hg HB; replace HB := hB hb HB; clear hb hbox hg) | ((with_reducible refine gate_dst (N := 4) rfl ?_); refine bE 4 #[.int .i64 a1_0, .int .i64 a1_1, .int .i64 a1_2, .int .i64 a1_3] 28 ?_; intro gb519 hg w24 hbox hb; have BK519 := am hbox; have GW519 := gB hg HB; have GE519 := gB hg HB; replace HB := hB hb HB; have NB518_519 := nL hg BK518; have NB519_518 := nG hg BK518; replace BK518 := bB hb BK518; clear hb hbox hg) | ((with_reducible refine gate_dst (N := 5) rfl ?_); refine bE 5 #[.int .i64 a2_0, .int .i64 a2_1, .int .i64 a2_2, .int .i64 a2_3] 28 ?_; intro gb520 hg w25 hbox hb; have BK520 := am hbox; have GW520 := gB hg HB; have GE520 := gB hg HB; replace HB := hB hb HB; have NB518_520 := nL hg BK518; have NB520_518 := nG hg BK518; replace BK518 := bB hb BK518; have NB519_520 := nL hg BK519; have NB520_519 := nG hg BK519; replace BK519 := bB hb BK519; clear hb hbox hg; have hnb26 := NB518_519.out; have hnc26 := NB519_518.out; have hnb27 := NB518_520.out; have hnc27 := NB520_518.out; obtain ⟨_, _⟩ := z1 BK518; have hnb29 := NB519_520.out; have hnc29 := NB520_519.out; obtain ⟨_, _, _, _, _, _, _, _⟩ := z4 BK519; obtain ⟨_, _, _, _, _, _, _, _⟩ := z4 BK520) | ((with_reducible refine gate_dst (N := 11) rfl ?_); refine Kd.R_lit k28 _ 28 ?hg (N := 11) ?hd (xs := ([(⟨a1_0, a1_1, a1_2, a1_3⟩ : S28), (⟨a2_0, a2_1, a2_2, a2_3⟩ : S28)] : List (S28))) (inner := [.int .i64 a1_0, .int .i64 a1_1, .int .i64 a1_2, .int .i64 a1_3, .int .i64 a2_0, .int .i64 a2_1, .int .i64 a2_2, .int .i64 a2_3]) (ok := fun _ => True) (okp := fun _ => True) ?hr ?hp (fun _ hk => hk) trivial (Below.refl _ _) (Nat.le_refl _) (by simp) ?_; (case hd => rfl); (case hg => rfl); (case hr => first | (go_simp; done) | (go_simp; rfl)); (case hp => exact (Reps.c4 (show Kd.M k28 _ _ _ (⟨a1_0, a1_1, a1_2, a1_3⟩ : S28) [.int .i64 a1_0, .int .i64 a1_1, .int .i64 a1_2, .int .i64 a1_3] from (k28_mkM _ _ _ (⟨a1_0, a1_1, a1_2, a1_3⟩ : S28) )) (Reps.c4 (show Kd.M k28 _ _ _ (⟨a2_0, a2_1, a2_2, a2_3⟩ : S28) [.int .i64 a2_0, .int .i64 a2_1, .int .i64 a2_2, .int .i64 a2_3] from (k28_mkM _ _ _ (⟨a2_0, a2_1, a2_2, a2_3⟩ : S28) )) (Reps.none _ _)))); intro v522 w32 ho33 hb hg_ hnew_; clear hg_ hnew_; (first | rw [← Ny521.out] at ho33 | (simp only [Int.reduceToNat] at ho33; rw [← Ny521.out] at ho33)); have HO523 := am (Kd.R_lower (Kd.R_newB (Kd.R_newB ho33 (g := gb519) (o := .cells #[.int .i64 a1_0, .int .i64 a1_1, .int .i64 a1_2, .int .i64 a1_3] 28 (0, 0)) (kk BK519)) (g := gb520) (o := .cells #[.int .i64 a2_0, .int .i64 a2_1, .int .i64 a2_2, .int .i64 a2_3] 28 (0, 0)) (kk BK520)) (below_size (bs HB))); replace BK518 := bB hb BK518; replace BK519 := bB hb BK519; replace BK520 := bB hb BK520; replace HB := hB hb HB; clear hb ho33; obtain ⟨Ao34, co34, eo34⟩ := Kd.R_slice HO523.out; subst eo34) | ((with_reducible refine gate_callee (f := 63) rfl ?_); refine gL 12 Tryd.func63 #[.agg #[.slice A0_0 l0_0.length c0_0], .slice Ao34 y521.length co34] ?_; (with_reducible refine (impl_areOn.calls k _ _ l0_0 _ _ y521 false _ ?side1 ?side2 ?side3 ?side4 A4.out).mono ?_); (case side1 => exact cc (Kd.C_below HR0_0.out HB.out)); (case side2 => exact HC0_0.out); (case side3 => exact cc (Kd.R_reads' HO523.out).2.2); (case side4 => exact (Kd.R_reads' HO523.out).2.1); rintro e w35 ⟨rfl, hb⟩; refine ⟨_, rfl, ?_⟩; replace HO523 := rB hb HO523; replace BK518 := bB hb BK518; replace BK519 := bB hb BK519; replace BK520 := bB hb BK520; replace HB := hB hb HB; (try clear hb); (try clear hk); (try clear hi)))
  go_ret2
  exact ⟨by first | rfl | (simp [*, errW_none, errW_some] <;> rfl), bs HB⟩
def spec_DoShare.f (k : Nat) (l0_0 : List (List Int)) (a1_0 : Int) (a1_1 : Int) (a1_2 : Int) (a1_3 : Int) (a2_0 : Int) (a2_1 : Int) (a2_2 : Int) (a2_3 : Int) : Option (Bool × Bool) := (spec_l2Both.f k l0_0 a1_0 a1_1 a1_2 a1_3 a2_0 a2_1 a2_2 a2_3).bind fun t529 => (if t529 = true then ((spec_l2Overlap.f a1_0 a1_1 a1_2 a1_3 a2_0 a2_1 a2_2 a2_3).bind fun t530 => (some (decide (t530 > 0), true))) else (some (false, false)))
set_option maxHeartbeats 8000000 in
set_option maxRecDepth 100000 in
theorem spec_DoShare.calls (k : Nat) (A0_0 : Option Addr) (c0_0 : Nat) (l0_0 : List (List Int)) (a1_0 : Int) (a1_1 : Int) (a1_2 : Int) (a1_3 : Int) (a2_0 : Int) (a2_1 : Int) (a2_2 : Int) (a2_3 : Int) (r1 : Bool) (r2 : Bool) (w : World) (hr0_0 : Kd.C (Kd.slice 5 (Kd.int .u8)) w A0_0 l0_0.length l0_0) (hc0_0 : l0_0.length ≤ c0_0) (h : spec_DoShare.f k l0_0 a1_0 a1_1 a1_2 a1_3 a2_0 a2_1 a2_2 a2_3 = some (r1, r2)) :
    Calls Tryd.prog 11 #[.agg #[.slice A0_0 l0_0.length c0_0], .agg #[.int .i64 a1_0, .int .i64 a1_1, .int .i64 a1_2, .int .i64 a1_3], .agg #[.int .i64 a2_0, .int .i64 a2_1, .int .i64 a2_2, .int .i64 a2_3]] w fun e w' => e = .returned (.tuple #[.bool r1, .bool r2]) ∧ Below w.heap.size w w' := by
 have hu26 := Tryd.underlying26
 have hu28 := Tryd.underlying28
 have HR0_0 := am hr0_0
 have HC0_0 := am hc0_0
 clear hr0_0 hc0_0
 have HB := am (Below.refl w.heap.size w)
 have H : ((spec_l2Both.f k l0_0 a1_0 a1_1 a1_2 a1_3 a2_0 a2_1 a2_2 a2_3).bind fun t529 => (if t529 = true then ((spec_l2Overlap.f a1_0 a1_1 a1_2 a1_3 a2_0 a2_1 a2_2 a2_3).bind fun t530 => (some (decide (t530 > 0), true))) else (some (false, false)))) = some (r1, r2) := h
 clear h
 replace H := Option.bind_eq_some_iff.mp H
 obtain ⟨t529, A40, H⟩ := H
 try dsimp only at H
 have A4 := am A40
 clear A40
 by_cases c5 : t529 = true
 ·subst c5
  have H1 : ((spec_l2Overlap.f a1_0 a1_1 a1_2 a1_3 a2_0 a2_1 a2_2 a2_3).bind fun t530 => (some (decide (t530 > 0), true))) = some (r1, r2) := by rw [if_pos rfl] at H; exact H
  clear H
  have H := H1
  clear H1
  replace H := Option.bind_eq_some_iff.mp H
  obtain ⟨t530, A60, H⟩ := H
  try dsimp only at H
  have A6 := am A60
  clear A60
  simp only [Option.some.injEq, Prod.mk.injEq] at H
  obtain ⟨rfl, rfl⟩ := H
  go_enter Tryd.func11, Tryd.ntmps11
  go_wp2_with (first | ((with_reducible refine gate_dst (N := 3) rfl ?_); refine bE 3 #[.slice A0_0 l0_0.length c0_0] 26 ?_; intro gb526 hg w7 hbox hb; have BK526 := am hbox; have GW526 := gB hg HB; have GE526 := gB hg HB; replace HB := hB hb HB; clear hb hbox hg) | ((with_reducible refine gate_dst (N := 4) rfl ?_); refine bE 4 #[.int .i64 a1_0, .int .i64 a1_1, .int .i64 a1_2, .int .i64 a1_3] 28 ?_; intro gb527 hg w8 hbox hb; have BK527 := am hbox; have GW527 := gB hg HB; have GE527 := gB hg HB; replace HB := hB hb HB; have NB526_527 := nL hg BK526; have NB527_526 := nG hg BK526; replace BK526 := bB hb BK526; clear hb hbox hg) | ((with_reducible refine gate_dst (N := 5) rfl ?_); refine bE 5 #[.int .i64 a2_0, .int .i64 a2_1, .int .i64 a2_2, .int .i64 a2_3] 28 ?_; intro gb528 hg w9 hbox hb; have BK528 := am hbox; have GW528 := gB hg HB; have GE528 := gB hg HB; replace HB := hB hb HB; have NB526_528 := nL hg BK526; have NB528_526 := nG hg BK526; replace BK526 := bB hb BK526; have NB527_528 := nL hg BK527; have NB528_527 := nG hg BK527; replace BK527 := bB hb BK527; clear hb hbox hg; have hnb10 := NB526_527.out; have hnc10 := NB527_526.out; have hnb11 := NB526_528.out; have hnc11 := NB528_526.out; obtain ⟨_, _⟩ := z1 BK526; have hnb13 := NB527_528.out; have hnc13 := NB528_527.out; obtain ⟨_, _, _, _, _, _, _, _⟩ := z4 BK527; obtain ⟨_, _, _, _, _, _, _, _⟩ := z4 BK528) | ((with_reducible refine gate_callee (f := 65) rfl ?_); refine gL 11 Tryd.func65 #[.agg #[.slice A0_0 l0_0.length c0_0], .agg #[.int .i64 a1_0, .int .i64 a1_1, .int .i64 a1_2, .int .i64 a1_3], .agg #[.int .i64 a2_0, .int .i64 a2_1, .int .i64 a2_2, .int .i64 a2_3]] ?_; (with_reducible refine (spec_l2Both.calls k _ _ l0_0 a1_0 a1_1 a1_2 a1_3 a2_0 a2_1 a2_2 a2_3 true _ ?side1 ?side2 A4.out).mono ?_); (case side1 => exact cc (Kd.C_below HR0_0.out HB.out)); (case side2 => exact HC0_0.out); rintro e w16 ⟨rfl, hb⟩; refine ⟨_, rfl, ?_⟩; replace BK526 := bB hb BK526; replace BK527 := bB hb BK527; replace BK528 := bB hb BK528; replace HB := hB hb HB; (try clear hb); (try clear hk); (try clear hi); obtain ⟨_, _, _, _, _, _, _, _⟩ := z4 BK527; obtain ⟨_, _, _, _, _, _, _, _⟩ := z4 BK528) | ((with_reducible refine gate_callee (f := 66) rfl ?_); refine gL 15 Tryd.func66 #[.agg #[.int .i64 a1_0, .int .i64 a1_1, .int .i64 a1_2, .int .i64 a1_3], .agg #[.int .i64 a2_0, .int .i64 a2_1, .int .i64 a2_2, .int .i64 a2_3]] ?_; (with_reducible refine (spec_l2Overlap.calls a1_0 a1_1 a1_2 a1_3 a2_0 a2_1 a2_2 a2_3 t530 _ A6.out).mono ?_); rintro e w19 ⟨rfl, hb⟩; refine ⟨_, rfl, ?_⟩; replace BK526 := bB hb BK526; replace BK527 := bB hb BK527; replace BK528 := bB hb BK528; replace HB := hB hb HB; (try clear hb); (try clear hk); (try clear hi)))
  go_ret2
  exact ⟨by first | rfl | (simp [*, errW_none, errW_some] <;> rfl), bs HB⟩
 ·replace c5 := Bool.eq_false_iff.mpr c5
  subst c5
  have H1 : (some (false, false)) = some (r1, r2) := by rw [if_neg (show ¬ (false = true) by decide)] at H; exact H
  clear H
  have H := H1
  clear H1
  simp only [Option.some.injEq, Prod.mk.injEq] at H
  obtain ⟨rfl, rfl⟩ := H
  go_enter Tryd.func11, Tryd.ntmps11
  go_wp2_with (first | ((with_reducible refine gate_dst (N := 3) rfl ?_); refine bE 3 #[.slice A0_0 l0_0.length c0_0] 26 ?_; intro gb526 hg w20 hbox hb; have BK526 := am hbox; have GW526 := gB hg HB; have GE526 := gB hg HB; replace HB := hB hb HB; clear hb hbox hg) | ((with_reducible refine gate_dst (N := 4) rfl ?_); refine bE 4 #[.int .i64 a1_0, .int .i64 a1_1, .int .i64 a1_2, .int .i64 a1_3] 28 ?_; intro gb527 hg w21 hbox hb; have BK527 := am hbox; have GW527 := gB hg HB; have GE527 := gB hg HB; replace HB := hB hb HB; have NB526_527 := nL hg BK526; have NB527_526 := nG hg BK526; replace BK526 := bB hb BK526; clear hb hbox hg) | ((with_reducible refine gate_dst (N := 5) rfl ?_); refine bE 5 #[.int .i64 a2_0, .int .i64 a2_1, .int .i64 a2_2, .int .i64 a2_3] 28 ?_; intro gb528 hg w22 hbox hb; have BK528 := am hbox; have GW528 := gB hg HB; have GE528 := gB hg HB; replace HB := hB hb HB; have NB526_528 := nL hg BK526; have NB528_526 := nG hg BK526; replace BK526 := bB hb BK526; have NB527_528 := nL hg BK527; have NB528_527 := nG hg BK527; replace BK527 := bB hb BK527; clear hb hbox hg; have hnb23 := NB526_527.out; have hnc23 := NB527_526.out; have hnb24 := NB526_528.out; have hnc24 := NB528_526.out; obtain ⟨_, _⟩ := z1 BK526; have hnb26 := NB527_528.out; have hnc26 := NB528_527.out; obtain ⟨_, _, _, _, _, _, _, _⟩ := z4 BK527; obtain ⟨_, _, _, _, _, _, _, _⟩ := z4 BK528) | ((with_reducible refine gate_callee (f := 65) rfl ?_); refine gL 11 Tryd.func65 #[.agg #[.slice A0_0 l0_0.length c0_0], .agg #[.int .i64 a1_0, .int .i64 a1_1, .int .i64 a1_2, .int .i64 a1_3], .agg #[.int .i64 a2_0, .int .i64 a2_1, .int .i64 a2_2, .int .i64 a2_3]] ?_; (with_reducible refine (spec_l2Both.calls k _ _ l0_0 a1_0 a1_1 a1_2 a1_3 a2_0 a2_1 a2_2 a2_3 false _ ?side1 ?side2 A4.out).mono ?_); (case side1 => exact cc (Kd.C_below HR0_0.out HB.out)); (case side2 => exact HC0_0.out); rintro e w29 ⟨rfl, hb⟩; refine ⟨_, rfl, ?_⟩; replace BK526 := bB hb BK526; replace BK527 := bB hb BK527; replace BK528 := bB hb BK528; replace HB := hB hb HB; (try clear hb); (try clear hk); (try clear hi)))
  go_ret2
  exact ⟨by first | rfl | (simp [*, errW_none, errW_some] <;> rfl), bs HB⟩
def impl_Window_wide.f (a0_0 : Int) (a0_1 : Int) (a0_2 : Int) (a0_3 : Int) : Option (Int × Int × Int × Int) := some (a0_0, a0_1, a0_3, a0_3)
set_option maxHeartbeats 8000000 in
set_option maxRecDepth 100000 in
theorem impl_Window_wide.calls (a0_0 : Int) (a0_1 : Int) (a0_2 : Int) (a0_3 : Int) (r1 : Int) (r2 : Int) (r3 : Int) (r4 : Int) (w : World) (h : impl_Window_wide.f a0_0 a0_1 a0_2 a0_3 = some (r1, r2, r3, r4)) :
    Calls Tryd.prog 69 #[.agg #[.int .i64 a0_0, .int .i64 a0_1, .int .i64 a0_2, .int .i64 a0_3]] w fun e w' => e = .returned (.agg #[.int .i64 r1, .int .i64 r2, .int .i64 r3, .int .i64 r4]) ∧ Below w.heap.size w w' := by
 have hu28 := Tryd.underlying28
 have HB := am (Below.refl w.heap.size w)
 have H : (some (a0_0, a0_1, a0_3, a0_3)) = some (r1, r2, r3, r4) := h
 clear h
 simp only [Option.some.injEq, Prod.mk.injEq] at H
 obtain ⟨rfl, rfl, rfl, rfl⟩ := H
 go_enter Tryd.func69, Tryd.ntmps69
 go_wp2_with (first | ((with_reducible refine gate_dst (N := 1) rfl ?_); refine bE 1 #[.int .i64 a0_0, .int .i64 a0_1, .int .i64 a0_2, .int .i64 a0_3] 28 ?_; intro gb531 hg w2 hbox hb; have BK531 := am hbox; have GW531 := gB hg HB; have GE531 := gB hg HB; replace HB := hB hb HB; clear hb hbox hg) | ((with_reducible refine gate_dst (N := 2) rfl ?_); refine bE 2 #[.int .i64 0, .int .i64 0, .int .i64 0, .int .i64 0] 28 ?_; intro gb532 hg w3 hbox hb; have BK532 := am hbox; have GW532 := gB hg HB; have GE532 := gB hg HB; replace HB := hB hb HB; have NB531_532 := nL hg BK531; have NB532_531 := nG hg BK531; replace BK531 := bB hb BK531; clear hb hbox hg; have hnb4 := NB531_532.out; have hnc4 := NB532_531.out; obtain ⟨_, _, _, _, _, _, _, _⟩ := z4 BK531; obtain ⟨_, _, _, _, _, _, _, _⟩ := z4 BK532))
 refine bodyPost_ret (results_cell_row rfl _ _ gb532 28 #[.int .i64 a0_0, .int .i64 a0_1, .int .i64 a0_3, .int .i64 a0_3] (0, 0) _ rfl (by (with_reducible repeat (first | apply blk_drewN | apply blk_drew | apply blk_alloc)); refine blk_put (cs := #[.int .i64 a0_0, .int .i64 a0_1, .int .i64 a0_3, .int .i64 0]) ?_ 3 _ rfl; (with_reducible repeat (first | apply blk_drewN | apply blk_drew | apply blk_alloc)); refine blk_put (cs := #[.int .i64 a0_0, .int .i64 a0_1, .int .i64 0, .int .i64 0]) ?_ 2 _ rfl; (with_reducible repeat (first | apply blk_drewN | apply blk_drew | apply blk_alloc)); refine blk_put (cs := #[.int .i64 a0_0, .int .i64 0, .int .i64 0, .int .i64 0]) ?_ 1 _ rfl; (with_reducible repeat (first | apply blk_drewN | apply blk_drew | apply blk_alloc)); refine blk_put (cs := #[.int .i64 0, .int .i64 0, .int .i64 0, .int .i64 0]) ?_ 0 _ rfl; (with_reducible repeat (first | apply blk_drewN | apply blk_drew | apply blk_alloc)); exact BK532.out) Tryd.underlying28 rfl (by kernel_rfl)) rfl ?_
 exact ⟨by first | rfl | (simp [*, errW_none, errW_some] <;> rfl), bs HB⟩
end Go.Proofs.YthnchjgffocigaaDoor.P
end
