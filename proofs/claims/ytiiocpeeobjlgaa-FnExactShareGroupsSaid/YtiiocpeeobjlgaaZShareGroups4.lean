/- The texts YtiiocpeeobjlgaaNums, YtiiocpeeobjlgaaTrodQ, without what the row does not need: words for rows in memory, contracts of functions, plain lemmas, the row. -/
import Derived.Test.YtiiocpeeobjlgaaZShareGroups3
import Derived.Lib.Hide
import Derived.StillTailTactics
section
namespace Go.Proofs.Ytiiocpeeobjlgaa.P
open Go.RowKit Go.Proofs.YtiiocpeeobjlgaaW.PrintWords Go.Proofs.YtiiocpeeobjlgaaW.PrintLast Go.Proofs.YtiiocpeeobjlgaaW.PrintMore
set_option linter.unusedVariables false
set_option linter.unusedSimpArgs false
def PredN (g : Nat) (lb : Array Value) (p : Int → S56 → Bool) (n : Nat) (w : World) : Prop :=
  ∀ (W : World) (i : Nat) (x : S56), i < n → Below w.heap.size w W → Calls Try.prog g (#[.int .i64 (i : Int), WinV x] ++ lb) W fun e w' => e = .returned (.bool (p (i : Int) x)) ∧ Below W.heap.size W w'
def PredL (g : Nat) (lb : Array Value) (p : Int → S56 → Bool) (l : List S56) (w : World) : Prop :=
  ∀ (W : World) (i : Nat), i < l.length → Below w.heap.size w W → Calls Try.prog g (#[.int .i64 (i : Int), WinV (rd_T56 l (i : Int))] ++ lb) W fun e w' => e = .returned (.bool (p (i : Int) (rd_T56 l (i : Int)))) ∧ Below W.heap.size W w'
def numsF (p : Int → S56 → Bool) : List S56 → Int → List Int
  | [], _ => []
  | x :: xs, i => if p i x = true then i :: numsF p xs (i + 1) else numsF p xs (i + 1)
theorem numsF_drop (p : Int → S56 → Bool) (l : List S56) (k : Nat) (h : k < l.length) : numsF p (l.drop k) k = if p (k : Int) (rd_T56 l (k : Int)) = true then (k : Int) :: numsF p (l.drop (k + 1)) ((k + 1 : Nat) : Int) else numsF p (l.drop (k + 1)) ((k + 1 : Nat) : Int) := by
  rw [drop_cons l z56 k h, numsF]
  rfl
set_option maxHeartbeats 4000000 in
set_option maxRecDepth 100000 in
theorem numbersOfL.calls (g : Nat) (lb : Array Value) (p : Int → S56 → Bool) (A0 : Option Addr) (c0 : Nat) (l : List S56) (w : World) (eg : ∀ args w, (callFunc g args).run Try.prog w = .ok (.enter g args) w)
    (hp : PredL g lb p l w) (hr : Kd.C k56 w A0 l.length l) (hlen : l.length ≤ 1048576) :
    Calls Try.prog 47 #[.slice A0 l.length c0, .func (.func g) #[] lb] w fun e w' => ∃ v0_ : Value, e = .returned v0_ ∧ Kd.R (Kd.int .i64) 3 w' w.heap.size (fun _ => True) v0_ (numsF p l 0) ∧ Below w.heap.size w w' := by
  have hmax : l.length ≤ 9223372036854775807 := hr.2.1
  have HP := Aside0.mk hp
  have HR := Aside0.mk hr
  have HL := Aside0.mk hlen
  clear hp hr hlen
  have HB := Aside0.mk (Below.refl w.heap.size w)
  obtain ⟨y0, hy0⟩ : ∃ y_ : List Int, y_ = ([] : List Int) := ⟨_, rfl⟩
  have Ny0 := Aside0.mk hy0
  clear hy0
  go_enter Try.func47, Try.ntmps47
  go_wp2_with (first | ((with_reducible refine gate_dst (N := 8) rfl ?_); refine Kd.R_lit (Kd.int .i64) _ 3 ?hg (N := 8) ?hd (xs := ([] : List Int)) (inner := []) (ok := fun _ => True) (okp := fun _ => True) ?hr ?hp (fun _ hk => hk) trivial (Below.refl _ _) (Nat.le_refl _) (by simp) ?_; (case hd => rfl); (case hg => rfl); (case hr => first | (go_simp; done) | (go_simp; rfl)); (case hp => exact (Reps.none _ _)); intro v328 w4 ho5 hb hg_ hnew_; clear hg_ hnew_; (first | rw [← Ny0.out] at ho5 | (simp only [Int.reduceToNat] at ho5; rw [← Ny0.out] at ho5)); have n0_ := Aside0.mk (Kd.R_lower ho5 (below_size (by repeat (first | (with_reducible first | exact HB.out | apply below_alloc | apply pw_below_drewN | apply below_drew1) | exact HB.out)))); have n1_ := Aside0.mk (below_step (by repeat (first | (with_reducible first | exact HB.out | apply below_alloc | apply pw_below_drewN | apply below_drew1) | exact HB.out)) hb); clear HB; have HO5 := n0_; have HB := n1_; clear n0_ n1_; clear hb ho5))
  go_loopg [5, 11] l.length (fun gg s5 s11 wr => ∃ (kk : Nat) (acc : List Int), kk ≤ l.length ∧ l.length - kk ≤ gg ∧ s11 = .int .i64 kk ∧ Aside0 (Below w.heap.size w wr) ∧ Aside0 (Kd.R (Kd.int .i64) 3 wr w.heap.size (fun _ => True) s5 acc) ∧ Aside0 (acc ++ numsF p (l.drop kk) kk = numsF p l 0) ∧ Aside0 (acc.length ≤ kk))
  case atStart => exact ⟨0, y0, Nat.zero_le _, by omega, rfl, ⟨by repeat (first | (with_reducible first | exact HB.out | apply below_alloc | apply pw_below_drewN | apply below_drew1) | exact HB.out)⟩, ⟨by (with_reducible repeat (first | apply Kd.R_alloc | apply Kd.R_drewN | apply Kd.R_drew)); exact HO5.out⟩, ⟨by rw [Ny0.out]; rfl⟩, ⟨by rw [Ny0.out]; simp⟩⟩
  case round =>
    clear HB HO5 Ny0
    obtain ⟨kk, acc, hkk, hg, rfl, HB, HO, HK, HA⟩ := hrel
    by_cases hlt : kk < l.length
    · have hltz : (kk : Int) < (l.length : Int) := by omega
      obtain ⟨ad, e0, x0, x1, x2, x3⟩ := at_T56 (Kd.C_below HR.out HB.out) (kk : Int) (by omega) hltz
      cases e0
      simp only [Int.toNat_natCast] at x0 x1 x2 x3
      have HK2 := Aside0.mk ((congrArg (fun z => acc ++ z) (numsF_drop p l kk hlt)).symm.trans HK.out)
      clear HK
      have HQ0 := Aside0.mk (fun W hW => HP.out W kk hlt hW)
      generalize hy : rd_T56 l (kk : Int) = y at x0 x1 x2 x3 HQ0 HK2
      clear hy
      cases hq : p (kk : Int) y with
      | true =>
        have HQ := Aside0.mk hq
        clear hq
        have HC := Aside0.mk (fun W hW => by have := HQ0.out W hW; rw [HQ.out] at this; exact this)
        have HK := Aside0.mk (HK2.out)
        obtain ⟨y1, hy1⟩ : ∃ y_ : List Int, y_ = acc ++ [(kk : Int)] := ⟨_, rfl⟩
        have Ny1 := Aside0.mk hy1
        clear hy1 HQ0 HK2
        go_wp2_with (first | (go_at_fn g; refine (HC.out _ (below_alloc HB.out _)).mono ?_; rintro e w11 ⟨rfl, hb⟩; have n0_ := Aside0.mk (Kd.R_below (Kd.R_alloc HO.out _) hb); have n1_ := Aside0.mk (below_step (below_alloc HB.out _) hb); clear HO HB; have HO := n0_; have HB := n1_; clear n0_ n1_ hb) | ((with_reducible refine gate_builtin (b := .append) (xs := #[.tmp 20, .tmp 22]) rfl ?_); at_builtin; refine Kd.R_append (Kd.int .i64) (w0 := w) w.heap.size rfl (.tmp 20) (.tmp 22) 51 3 (.int .i64 0) 8 rfl Try.underlying51 info3 rfl (by decide) (by omega) u5 acc (kk : Int) [.int .i64 (kk : Int)] (fun _ => True) (fun _ => False) rfl rfl ?aP (fun _ hk => hk.elim) ?aF ?aO ?aB ?aS ?aL ?_; (case aP => exact rfl); (case aB => exact (by repeat (first | (with_reducible first | exact HB.out | apply below_alloc | apply pw_below_drewN | apply below_drew1) | exact HB.out))); (case aF => exact (fun _ _ => trivial)); (case aO => exact (by (with_reducible repeat (first | apply Kd.R_alloc | apply Kd.R_drewN | apply Kd.R_drew)); exact HO.out)); (case aS => exact (below_size (by repeat (first | (with_reducible first | exact HB.out | apply below_alloc | apply pw_below_drewN | apply below_drew1) | exact HB.out)))); (case aL => have := HA.out; have := HL.out; omega); intro v333 w12 ho hb hg hat; rw [← Ny1.out] at ho; have n0_ := Aside0.mk (hb); have n1_ := Aside0.mk (ho); clear HB; clear HO; have HB := n0_; have HO := n1_; clear n0_ n1_; clear ho hb hg hat))
        go_roundg (l.length - (kk + 1))
        case measure => omega
        case rel => exact ⟨kk + 1, y1, by omega, by omega, by go_num, ⟨by repeat (first | (with_reducible first | exact HB.out | apply below_alloc | apply pw_below_drewN | apply below_drew1) | exact HB.out)⟩, ⟨by (with_reducible repeat (first | apply Kd.R_alloc | apply Kd.R_drewN | apply Kd.R_drew)); exact HO.out⟩, ⟨by rw [Ny1.out, List.append_assoc]; have h := HK.out; rw [if_pos HQ.out] at h; exact h⟩, ⟨by rw [Ny1.out, List.length_append]; have := HA.out; simp; omega⟩⟩
      | false =>
        have HQ := Aside0.mk hq
        clear hq
        have HC := Aside0.mk (fun W hW => by have := HQ0.out W hW; rw [HQ.out] at this; exact this)
        have HK := Aside0.mk (HK2.out)
        clear HQ0 HK2
        go_wp2_with (first | (go_at_fn g; refine (HC.out _ (below_alloc HB.out _)).mono ?_; rintro e w11 ⟨rfl, hb⟩; have n0_ := Aside0.mk (Kd.R_below (Kd.R_alloc HO.out _) hb); have n1_ := Aside0.mk (below_step (below_alloc HB.out _) hb); clear HO HB; have HO := n0_; have HB := n1_; clear n0_ n1_ hb))
        go_roundg (l.length - (kk + 1))
        case measure => omega
        case rel => exact ⟨kk + 1, acc, by omega, by omega, by go_num, ⟨by repeat (first | (with_reducible first | exact HB.out | apply below_alloc | apply pw_below_drewN | apply below_drew1) | exact HB.out)⟩, ⟨by (with_reducible repeat (first | apply Kd.R_alloc | apply Kd.R_drewN | apply Kd.R_drew)); exact HO.out⟩, ⟨by have h := HK.out; rw [if_neg (by rw [HQ.out]; simp)] at h; exact h⟩, ⟨by have := HA.out; omega⟩⟩
    · have hltz : ¬ (kk : Int) < (l.length : Int) := by omega
      go_wp2
      go_ret
      have e1 : acc = numsF p l 0 := by have h := HK.out; rw [List.drop_eq_nil_of_le (by omega)] at h; simpa [numsF] using h
      exact ⟨_, rfl, by rw [← e1]; (with_reducible repeat (first | apply Kd.R_alloc | apply Kd.R_drewN | apply Kd.R_drew)); exact HO.out, by repeat (first | (with_reducible first | exact HB.out | apply below_alloc | apply pw_below_drewN | apply below_drew1) | exact HB.out)⟩
theorem numbersOf.calls (g : Nat) (lb : Array Value) (p : Int → S56 → Bool) (A0 : Option Addr) (c0 : Nat) (l : List S56) (w : World) (eg : ∀ args w, (callFunc g args).run Try.prog w = .ok (.enter g args) w)
    (hp : PredN g lb p l.length w) (hr : Kd.C k56 w A0 l.length l) (hlen : l.length ≤ 1048576) :
    Calls Try.prog 47 #[.slice A0 l.length c0, .func (.func g) #[] lb] w fun e w' => ∃ v0_ : Value, e = .returned v0_ ∧ Kd.R (Kd.int .i64) 3 w' w.heap.size (fun _ => True) v0_ (numsF p l 0) ∧ Below w.heap.size w w' := numbersOfL.calls g lb p A0 c0 l w eg (fun W i hi hW => hp W i _ hi hW) hr hlen
end Go.Proofs.Ytiiocpeeobjlgaa.P
end
section
namespace Go.Proofs.Ytiiocpeeobjlgaa.P
open Go.RowKit Go.Proofs.YtiiocpeeobjlgaaW.PrintWords Go.Proofs.YtiiocpeeobjlgaaW.PrintLast Go.Proofs.YtiiocpeeobjlgaaW.PrintMore
set_option linter.unusedVariables false
set_option linter.unusedSimpArgs false
theorem onAll_each {m : List (List Int)} {l : List S56} (h : watched m l = true) : memOk m = true ∧ (∀ x ∈ l, winOn m x.f0 x.f1 x.f2 x.f3 = true) ∧ l.length ≤ 12 := by
  unfold watched onAll at h
  simp only [Bool.and_eq_true, decide_eq_true_eq, List.all_eq_true] at h
  exact ⟨h.1, h.2.1, h.2.2⟩
theorem win_lt {m : List (List Int)} {x : S56} (hok : memOk m = true) (h : winOn m x.f0 x.f1 x.f2 x.f3 = true) : 0 ≤ x.f1 ∧ 0 ≤ x.f2 ∧ x.f2 ≤ x.f3 ∧ x.f3 ≤ 64 ∧ x.f1 + x.f3 ≤ 64 := by
  obtain ⟨_, _, h0, h1, h2, h3, h4, h5, h6⟩ := win_sm hok h
  have hlt : x.f0.toNat < m.length := by omega
  have := memOk_each hok _ (getD_mem m [] x.f0.toNat hlt)
  omega
end Go.Proofs.Ytiiocpeeobjlgaa.P
end
