/- Words for rows in memory, contracts of functions, plain lemmas. -/
import Derived.Test.YthnchjgffocigaaDoorZSharing4
section
namespace Go.Proofs.YthnchjgffocigaaDoor.P
open Go.RowKit Go.Proofs.YthnchjgffocigaaDoorW.PrintWords Go.Proofs.YthnchjgffocigaaDoorW.PrintLast Go.Proofs.YthnchjgffocigaaDoorW.PrintMore
set_option linter.unusedVariables false
set_option linter.unusedSimpArgs false
section
variable {l : List Int} (hc : IsCode l)
include hc
theorem pick_any (a s n : Int) (h0 : 0 ≤ a) (h1 : a ≤ 1099511627774) (hm : n ≤ 1099511627776) : ∃ x a' s', spec_l1Cur_pick.f l a s n = some (x, a', s') ∧ 0 ≤ x ∧ (x < n ∨ x = 0) ∧ a ≤ a' ∧ a' ≤ a + 2 := by
  by_cases h : 1 ≤ n
  · obtain ⟨x, a', s', e, g0, g1, g2⟩ := pick_ok hc a s n h0 h1 h hm
    exact ⟨x, a', s', e, g0, .inl g1, g2⟩
  · exact ⟨0, a, s, by rw [spec_l1Cur_pick.f, if_pos (by omega)], by omega, .inr rfl, by omega, by omega⟩
theorem among_ok (a s : Int) (h0 : 0 ≤ a) (h1 : a ≤ 1099511627774) (t : List Int) (hn : 1 ≤ t.length) (hm : t.length ≤ 1000000) : ∃ x a' s', spec_l1Cur_among.f l a s t = some (x, a', s') ∧ x ∈ t ∧ a ≤ a' ∧ a' ≤ a + 2 := by
  obtain ⟨i, a', s', e, g0, g1, g2⟩ := pick_ok hc a s (t.length : Int) h0 h1 (by omega) (by omega)
  rw [spec_l1Cur_among.f, e, Option.bind_some, if_pos g0, if_pos g1]
  refine ⟨_, _, _, rfl, ?_, g2⟩
  unfold rd
  rw [List.getD_eq_getElem?_getD, List.getElem?_eq_getElem (by omega : i.toNat < t.length)]
  exact List.getElem_mem _
theorem bytes_l0 (n : Nat) (hn : n ≤ 100) : ∀ (d i : Nat) (acc : List Int) (a s : Int), i + d = n → acc.length = i → 0 ≤ a → a + 2 * (d : Int) ≤ 2000000000 →
    ∃ bs a' s', Ev (fun k => spec_l1Cur_bytesOf.l0 k (n : Int) acc (i : Int) l a s) (bs, a', s') ∧ bs.length = n ∧ a ≤ a' ∧ a' ≤ a + 2 * (d : Int)
  | 0, i, acc, a, s, hd, hl, h0, h1 => ⟨acc, a, s, Ev.end_ fun k => by rw [spec_l1Cur_bytesOf.l0, if_neg (by omega)], by omega, by omega, by omega⟩
  | d + 1, i, acc, a, s, hd, hl, h0, h1 => by
    obtain ⟨x, a1, s1, e, -, g1, g2⟩ := among_ok hc a s h0 (by omega) [0, 1, 2, 3, 65, 66, 255, 16] (by simp) (by simp)
    obtain ⟨bs, a', s', hE, q1, q2, q3⟩ := bytes_l0 n hn d (i + 1) (acc ++ [x % 256]) a1 s1 (by omega) (by simp; omega) (by omega) (by omega)
    refine ⟨bs, a', s', Ev.step (fun k => ?_) hE, q1, by omega, by omega⟩
    rw [spec_l1Cur_bytesOf.l0, if_pos (by omega), e, Option.bind_some, if_pos (by omega), wrap_succ i (by omega)]
theorem bytes_ok (n : Int) (hn0 : 0 ≤ n) (hn : n ≤ 100) (a s : Int) (h0 : 0 ≤ a) (h1 : a ≤ 1000000000) : ∃ bs a' s', Ev (fun k => spec_l1Cur_bytesOf.f k l a s n) (bs, a', s') ∧ (bs.length : Int) = n ∧ a ≤ a' ∧ a' ≤ a + 200 := by
  obtain ⟨m, rfl⟩ : ∃ m : Nat, n = (m : Int) := ⟨n.toNat, by omega⟩
  obtain ⟨bs, a', s', hE, q1, q2, q3⟩ := bytes_l0 hc m (by omega) m 0 [] a s (by omega) rfl h0 (by omega)
  exact ⟨bs, a', s', hE, by omega, q2, by omega⟩
end
def Rows65 (m : List (List Int)) : Prop := ∀ r ∈ m, r.length ≤ 65
theorem Rows65.snoc {m : List (List Int)} {r : List Int} (h : Rows65 m) (hr : r.length ≤ 65) : Rows65 (m ++ [r]) := fun x hx => by
  rcases List.mem_append.1 hx with hx | hx
  · exact h x hx
  · rw [List.mem_singleton.1 hx]; exact hr
section
variable {l : List Int} (hc : IsCode l)
theorem mem_l1 (a s : Int) : ∀ (d : Nat) (ms : List (List Int)), ms.length + d = 17 → Rows65 ms → ∃ m, Ev (fun k => spec_l1Cur_memory.l1 k l a s ms) (m, a, s) ∧ m.length ≤ 17 ∧ Rows65 m
  | 0, ms, hd, hr => ⟨ms, Ev.end_ fun k => by rw [spec_l1Cur_memory.l1, if_neg (by omega)], by omega, hr⟩
  | d + 1, ms, hd, hr => by
    obtain ⟨m, hE, q1, q2⟩ := mem_l1 a s d (ms ++ [[1]]) (by simp; omega) (hr.snoc (by simp))
    refine ⟨m, Ev.step (fun k => ?_) hE, q1, q2⟩
    rw [spec_l1Cur_memory.l1, if_pos (by omega), if_pos (by omega)]
include hc
theorem mem_l0 : ∀ (d : Nat) (ms : List (List Int)) (a s : Int), ms.length + d ≤ 16 → Rows65 ms → 0 ≤ a → a + 300 * ((d : Int) + 1) ≤ 1000000000 →
    ∃ m a' s', Ev (fun k => spec_l1Cur_memory.l0 k (d : Int) l a s ms) (m, a', s') ∧ m.length ≤ 17 ∧ Rows65 m ∧ a ≤ a' ∧ a' ≤ a + 300 * ((d : Int) + 1)
  | 0, ms, a, s, hd, hr, h0, h1 => by
    obtain ⟨x, a1, s1, e, g0, g1, g2, g3⟩ := pick_ok hc a s 50 h0 (by omega) (by omega) (by omega)
    have e0 : ∀ k, spec_l1Cur_memory.l0 (k + 1) ((0 : Nat) : Int) l a s ms = if x = 0 then some (ms ++ [[]], a1, s1) else if x = 1 then ((spec_l1Cur_bytesOf.f k l a1 s1 65).bind fun bt => some (ms ++ [bt.1], bt.2.1, bt.2.2)) else if x = 2 then spec_l1Cur_memory.l1 k l a1 s1 ms else some (ms, a1, s1) := by
      intro k
      have hl : ms.length < 5864062014805 := by omega
      rw [spec_l1Cur_memory.l0, if_neg (by omega), e, Option.bind_some]
      simp only [if_pos hl]
    by_cases hx0 : x = 0
    · exact ⟨ms ++ [[]], a1, s1, Ev.end_ fun k => by rw [e0, if_pos hx0], by simp; omega, hr.snoc (by simp), by omega, by omega⟩
    · by_cases hx1 : x = 1
      · obtain ⟨bs, a2, s2, hE, q1, q2, q3⟩ := bytes_ok hc 65 (by omega) (by omega) a1 s1 (by omega) (by omega)
        refine ⟨ms ++ [bs], a2, s2, Ev.step (f := fun k => (spec_l1Cur_bytesOf.f k l a1 s1 65).bind fun bt => some (ms ++ [bt.1], bt.2.1, bt.2.2)) (fun k => by rw [e0, if_neg hx0, if_pos hx1]) ?_, by simp; omega, hr.snoc (by omega), by omega, by omega⟩
        exact Ev.bind (f := fun _ bt => some (ms ++ [bt.1], bt.2.1, bt.2.2)) hE (Ev.now _)
      · by_cases hx2 : x = 2
        · obtain ⟨m, hE, q1, q2⟩ := mem_l1 (l := l) a1 s1 (17 - ms.length) ms (by omega) hr
          exact ⟨m, a1, s1, Ev.step (fun k => by rw [e0, if_neg hx0, if_neg hx1, if_pos hx2]) hE, q1, q2, by omega, by omega⟩
        · exact ⟨ms, a1, s1, Ev.end_ fun k => by rw [e0, if_neg hx0, if_neg hx1, if_neg hx2], by omega, hr, by omega, by omega⟩
  | d + 1, ms, a, s, hd, hr, h0, h1 => by
    obtain ⟨n, a1, s1, e, hn, g1, g2⟩ := among_ok hc a s h0 (by omega) [8, 12, 4, 16, 1, 2, 20, 64] (by simp) (by simp)
    have hn2 : 0 ≤ n ∧ n ≤ 64 := by simp at hn; omega
    obtain ⟨bs, a2, s2, ⟨K1, hE⟩, q1, q2, q3⟩ := bytes_ok hc n hn2.1 (by omega) a1 s1 (by omega) (by omega)
    obtain ⟨m, a', s', ⟨K2, hF⟩, r1, r2, r3, r4⟩ := mem_l0 d (ms ++ [bs]) a2 s2 (by simp; omega) (hr.snoc (by omega)) (by omega) (by omega)
    refine ⟨m, a', s', ⟨K1 + K2 + 1, fun k hk => ?_⟩, r1, r2, by omega, by omega⟩
    obtain ⟨k, rfl⟩ : ∃ j, k = j + 1 := ⟨k - 1, by omega⟩
    have f1 := hE k (by omega)
    have f2 := hF k (by omega)
    dsimp only at f1 f2 ⊢
    have hw : wrap64 (((d + 1 : Nat) : Int) - 1) = (d : Int) := by unfold wrap64; omega
    rw [spec_l1Cur_memory.l0, if_pos (by omega), e, Option.bind_some]
    dsimp only
    rw [f1, Option.bind_some, if_pos (by omega), hw]
    exact f2
theorem memory_ok (a s : Int) (h0 : 0 ≤ a) (h1 : a ≤ 100000000) : ∃ m a' s', Ev (fun k => spec_l1Cur_memory.f k l a s) (m, a', s') ∧ m.length ≤ 17 ∧ Rows65 m ∧ a ≤ a' ∧ a' ≤ a + 10000 := by
  obtain ⟨n, a1, s1, e, hn, g1, g2⟩ := among_ok hc a s h0 (by omega) [2, 1, 3, 2, 0, 16] (by simp) (by simp)
  have hn2 : 0 ≤ n ∧ n ≤ 16 := by simp at hn; omega
  obtain ⟨d, rfl⟩ : ∃ d : Nat, n = (d : Int) := ⟨n.toNat, by omega⟩
  obtain ⟨m, a', s', hE, q1, q2, q3, q4⟩ := mem_l0 hc d [] a1 s1 (by simp; omega) (fun r hr => by cases hr) (by omega) (by omega)
  refine ⟨m, a', s', Ev.congr (fun k => ?_) hE, q1, q2, by omega, by omega⟩
  rw [spec_l1Cur_memory.f, e, Option.bind_some]
end
def BW (x : Int) : Prop := -2 ≤ x ∧ x ≤ 4611686018427388000
def BS (x : Int) : Prop := -2 ≤ x ∧ x ≤ 3000
section
variable {l : List Int} (hc : IsCode l)
include hc
theorem win_j2 (z : Int) (hz : BS z) (a s : Int) (h0 : 0 ≤ a) (h1 : a ≤ 1000000000) (x0 x1 x2 x3 : Int) (b0 : BS x0) (b1 : BS x1) (b2 : BS x2) (b3 : BS x3) :
    ∃ y0 y1 y2 y3 a' s', (∀ k, spec_l1Cur_window.j2 (k + 1) z l a s x0 x1 x2 x3 = some (y0, y1, y2, y3, a', s')) ∧ BW y0 ∧ BW y1 ∧ BW y2 ∧ BW y3 ∧ a ≤ a' ∧ a' ≤ a + 4 := by
  unfold BS at b0 b1 b2 b3 hz
  unfold BW
  obtain ⟨p, a1, s1, e, -, -, g2, g3⟩ := pick_ok hc a s 60 h0 (by omega) (by omega) (by omega)
  have hw : wrap64 (x3 + 1) = x3 + 1 := by unfold wrap64; omega
  by_cases h : p = 0
  · obtain ⟨q, a2, s2, e2, hq, g4, g5⟩ := among_ok hc a1 s1 (by omega) (by omega) [(-1), z, 4611686018427387904] (by simp) (by simp)
    have hq2 : -2 ≤ q ∧ q ≤ 4611686018427387904 := by simp at hq; omega
    exact ⟨x0, q, x2, x3, a2, s2, fun k => by rw [spec_l1Cur_window.j2, e, Option.bind_some, if_pos h, e2, Option.bind_some], by omega, by omega, by omega, by omega, by omega, by omega⟩
  · by_cases h' : p = 1
    · obtain ⟨q, a2, s2, e2, hq, g4, g5⟩ := among_ok hc a1 s1 (by omega) (by omega) [(-1), wrap64 (x3 + 1)] (by simp) (by simp)
      have hq2 : -2 ≤ q ∧ q ≤ 4611686018427387904 := by rw [hw] at hq; simp at hq; omega
      exact ⟨x0, x1, q, x3, a2, s2, fun k => by rw [spec_l1Cur_window.j2, e, Option.bind_some, if_neg h, if_pos h', e2, Option.bind_some], by omega, by omega, by omega, by omega, by omega, by omega⟩
    · by_cases h2 : p = 2
      · obtain ⟨q, a2, s2, e2, hq, g4, g5⟩ := among_ok hc a1 s1 (by omega) (by omega) [wrap64 (x3 + 1), (-1), 4611686018427387904] (by simp) (by simp)
        have hq2 : -2 ≤ q ∧ q ≤ 4611686018427387904 := by rw [hw] at hq; simp at hq; omega
        exact ⟨x0, x1, x2, q, a2, s2, fun k => by rw [spec_l1Cur_window.j2, e, Option.bind_some, if_neg h, if_neg h', if_pos h2, e2, Option.bind_some], by omega, by omega, by omega, by omega, by omega, by omega⟩
      · exact ⟨x0, x1, x2, x3, a1, s1, fun k => by rw [spec_l1Cur_window.j2, e, Option.bind_some, if_neg h, if_neg h', if_neg h2], by omega, by omega, by omega, by omega, by omega, by omega⟩
theorem win_j1 (x5 x6 x7 x8 : Int) (b5 : 0 ≤ x5 ∧ x5 ≤ 100) (b6 : 0 ≤ x6 ∧ x6 ≤ 100) (b7 : 0 ≤ x7 ∧ x7 ≤ 200) (b8 : 0 ≤ x8 ∧ x8 ≤ 200) (a s : Int) (h0 : 0 ≤ a) (h1 : a ≤ 999999990) :
    ∃ y0 y1 y2 y3 a' s', (∀ k, spec_l1Cur_window.j1 (k + 2) x5 x6 x7 x8 l a s = some (y0, y1, y2, y3, a', s')) ∧ BW y0 ∧ BW y1 ∧ BW y2 ∧ BW y3 ∧ a ≤ a' ∧ a' ≤ a + 8 := by
  have hw : wrap64 (x6 - x7) = x6 - x7 := by unfold wrap64; omega
  have hm := mx_bd (x6 - x7) 0
  obtain ⟨b, a1, s1, e, g2, g3⟩ := one_ok hc a s 3 h0 (by omega) (by omega) (by omega)
  generalize hT : mx (x6 - x7) 0 = t at hm
  cases b with
  | true =>
    have hw2 : wrap64 (wrap64 (t - x8) + 1) = t - x8 + 1 := by unfold wrap64; omega
    obtain ⟨p, a2, s2, e2, q0, q1, q2, q3⟩ := pick_any hc a1 s1 (t - x8 + 1) (by omega) (by omega) (by omega)
    have hw3 : wrap64 (x8 + p) = x8 + p := by unfold wrap64; omega
    obtain ⟨y0, y1, y2, y3, a', s', hE, r0, r1, r2, r3, r4, r5⟩ := win_j2 hc x6 (by unfold BS; omega) a2 s2 (by omega) (by omega) x5 x7 x8 (x8 + p) (by unfold BS; omega) (by unfold BS; omega) (by unfold BS; omega) (by unfold BS; omega)
    refine ⟨y0, y1, y2, y3, a', s', fun k => ?_, r0, r1, r2, r3, by omega, by omega⟩
    rw [spec_l1Cur_window.j1, hw, most_eq, Option.bind_some, e, Option.bind_some, if_pos rfl, hT, hw2, e2, Option.bind_some, hw3]
    exact hE k
  | false =>
    obtain ⟨y0, y1, y2, y3, a', s', hE, r0, r1, r2, r3, r4, r5⟩ := win_j2 hc x6 (by unfold BS; omega) a1 s1 (by omega) (by omega) x5 x7 x8 t (by unfold BS; omega) (by unfold BS; omega) (by unfold BS; omega) (by unfold BS; omega)
    refine ⟨y0, y1, y2, y3, a', s', fun k => ?_, r0, r1, r2, r3, by omega, by omega⟩
    rw [spec_l1Cur_window.j1, hw, most_eq, Option.bind_some, e, Option.bind_some, if_neg Bool.false_ne_true, hT]
    exact hE k
theorem win_j0 (b : Bool) (m : List (List Int)) (hm : m.length ≤ 100) (hr : Rows65 m) (hb : b = false → 1 ≤ m.length) (a s : Int) (h0 : 0 ≤ a) (h1 : a ≤ 999999900) :
    ∃ y0 y1 y2 y3 a' s', (∀ k, spec_l1Cur_window.j0 (k + 3) b l a s m = some (y0, y1, y2, y3, a', s')) ∧ BW y0 ∧ BW y1 ∧ BW y2 ∧ BW y3 ∧ a ≤ a' ∧ a' ≤ a + 30 := by
  cases b with
  | true =>
    obtain ⟨p, a1, s1, e1, hp, g1, g2⟩ := among_ok hc a s h0 (by omega) [0, (-1), 16] (by simp) (by simp)
    obtain ⟨q, a2, s2, e2, hq, g3, g4⟩ := among_ok hc a1 s1 (by omega) (by omega) [0, 1] (by simp) (by simp)
    obtain ⟨t, a3, s3, e3, ht, g5, g6⟩ := among_ok hc a2 s2 (by omega) (by omega) [1, 0, 2] (by simp) (by simp)
    refine ⟨p, q, 1, t, a3, s3, fun k => by rw [spec_l1Cur_window.j0, if_pos rfl, e1, Option.bind_some, e2, Option.bind_some, e3, Option.bind_some], ?_, ?_, ?_, ?_, by omega, by omega⟩
    · unfold BW; simp at hp; omega
    · unfold BW; simp at hq; omega
    · unfold BW; omega
    · unfold BW; simp at ht; omega
  | false =>
    have hb := hb rfl
    have hn := mn_bd (m.length : Int) 3
    generalize hN : mn (m.length : Int) 3 = n at hn
    obtain ⟨p, a1, s1, e1, p0, p1, g1, g2⟩ := pick_ok hc a s n h0 (by omega) (by omega) (by omega)
    have hsz : (rd_L1 m p).length ≤ 65 := by
      have : rd_L1 m p ∈ m := by
        unfold rd_L1
        exact getD_mem m [] p.toNat (by omega)
      exact hr _ this
    generalize hZ : (rd_L1 m p).length = z at hsz
    have hn2 := mn_bd (z : Int) 9
    generalize hM : mn (z : Int) 9 = n2 at hn2
    have hw1 : wrap64 (n2 + 1) = n2 + 1 := by unfold wrap64; omega
    obtain ⟨st, a2, s2, e2, q0, q1, g3, g4⟩ := pick_ok hc a1 s1 (n2 + 1) (by omega) (by omega) (by omega) (by omega)
    have hw2 : wrap64 ((z : Int) - st) = z - st := by unfold wrap64; omega
    have hx := mx_bd ((z : Int) - st) 0
    generalize hX : mx ((z : Int) - st) 0 = n3 at hx
    have hw3 : wrap64 (n3 + 1) = n3 + 1 := by unfold wrap64; omega
    obtain ⟨len, a3, s3, e3, r0, r1, g5, g6⟩ := pick_ok hc a2 s2 (n3 + 1) (by omega) (by omega) (by omega) (by omega)
    obtain ⟨o, a4, s4, e4, g7, g8⟩ := one_ok hc a3 s3 2 (by omega) (by omega) (by omega) (by omega)
    have e0 : ∀ k, spec_l1Cur_window.j0 (k + 3) false l a s m = if o = true then ((spec_l1Cur_pick.f l a4 s4 5).bind fun bt412 => ((spec_l1Least.f len bt412.1).bind fun t415 => (spec_l1Cur_window.j1 (k + 2) p (z : Int) st t415 l bt412.2.1 bt412.2.2))) else spec_l1Cur_window.j1 (k + 2) p (z : Int) st len l a4 s4 := by
      intro k
      rw [spec_l1Cur_window.j0, if_neg (by decide), least_eq, Option.bind_some, hN, e1, Option.bind_some, if_pos p0, if_pos (by omega)]
      dsimp only
      rw [hZ, least_eq, Option.bind_some, hM, hw1, e2, Option.bind_some]
      dsimp only
      rw [hw2, most_eq, Option.bind_some, hX, hw3, e3, Option.bind_some]
      dsimp only
      rw [e4, Option.bind_some]
    cases o with
    | true =>
      obtain ⟨p5, a5, s5, e5, t0, t1, g9, g10⟩ := pick_ok hc a4 s4 5 (by omega) (by omega) (by omega) (by omega)
      have hn5 := mn_bd len p5
      generalize hL : mn len p5 = len2 at hn5
      obtain ⟨y0, y1, y2, y3, a', s', hE, u0, u1, u2, u3, u4, u5⟩ := win_j1 hc p (z : Int) st len2 (by omega) (by omega) (by omega) (by omega) a5 s5 (by omega) (by omega)
      refine ⟨y0, y1, y2, y3, a', s', fun k => ?_, u0, u1, u2, u3, by omega, by omega⟩
      rw [e0, if_pos rfl, e5, Option.bind_some]
      dsimp only
      rw [least_eq, Option.bind_some, hL]
      exact hE k
    | false =>
      obtain ⟨y0, y1, y2, y3, a', s', hE, u0, u1, u2, u3, u4, u5⟩ := win_j1 hc p (z : Int) st len (by omega) (by omega) (by omega) (by omega) a4 s4 (by omega) (by omega)
      refine ⟨y0, y1, y2, y3, a', s', fun k => ?_, u0, u1, u2, u3, by omega, by omega⟩
      rw [e0, if_neg (by decide)]
      exact hE k
theorem window_ok (m : List (List Int)) (hm : m.length ≤ 100) (hr : Rows65 m) (a s : Int) (h0 : 0 ≤ a) (h1 : a ≤ 999999000) :
    ∃ y0 y1 y2 y3 a' s', (∀ k, spec_l1Cur_window.f (k + 3) l a s m = some (y0, y1, y2, y3, a', s')) ∧ BW y0 ∧ BW y1 ∧ BW y2 ∧ BW y3 ∧ a ≤ a' ∧ a' ≤ a + 40 := by
  by_cases h : (m.length : Int) = 0
  · obtain ⟨y0, y1, y2, y3, a', s', hE, u0, u1, u2, u3, u4, u5⟩ := win_j0 hc true m hm hr (fun e => by cases e) a s h0 (by omega)
    exact ⟨y0, y1, y2, y3, a', s', fun k => by rw [spec_l1Cur_window.f, if_pos h]; exact hE k, u0, u1, u2, u3, u4, by omega⟩
  · obtain ⟨b, a1, s1, e, g2, g3⟩ := one_ok hc a s 40 h0 (by omega) (by omega) (by omega)
    obtain ⟨y0, y1, y2, y3, a', s', hE, u0, u1, u2, u3, u4, u5⟩ := win_j0 hc b m hm hr (fun _ => by omega) a1 s1 (by omega) (by omega)
    exact ⟨y0, y1, y2, y3, a', s', fun k => by rw [spec_l1Cur_window.f, if_neg h, e, Option.bind_some]; exact hE k, u0, u1, u2, u3, by omega, by omega⟩
end
theorem Rows65.fit' {m : List (List Int)} (h : Rows65 m) (hl : m.length ≤ 100) : Fit m := ⟨by omega, fun r hr => by have := h r hr; omega⟩
section
variable {l : List Int} (hc : IsCode l)
include hc
theorem pair_j0 (b : Bool) (a s : Int) (h0 : 0 ≤ a) (h1 : a ≤ 999990000) (x0 x1 x2 x3 z0 z1 z2 z3 : Int) (hb : b = true → (0 ≤ x1 ∧ x1 ≤ 1000 ∧ 0 ≤ x3 ∧ x3 ≤ 1000)) (b0 : BW x0) (c0 : BW z0) (c1 : BW z1) (c2 : BW z2) (c3 : BW z3) :
    ∃ y0 y1 y2 y3 a' s', (∀ k, spec_l1Cur_pair.j0 (k + 1) b l a s x0 x1 x2 x3 z0 z1 z2 z3 = some (x0, x1, x2, x3, y0, y1, y2, y3, a', s')) ∧ BW y0 ∧ BW y1 ∧ BW y2 ∧ BW y3 ∧ a ≤ a' ∧ a' ≤ a + 4 := by
  cases b with
  | true =>
    obtain ⟨g0, g1, g2, g3⟩ := hb rfl
    have w1 : wrap64 (x3 + 1) = x3 + 1 := wrap_in (by omega) (by omega)
    obtain ⟨i, a1, s1, e1, p0, p1, q0, q1⟩ := pick_ok hc a s (x3 + 1) h0 (by omega) (by omega) (by omega)
    have w2 : wrap64 (wrap64 (x3 - i) + 1) = x3 - i + 1 := by unfold wrap64; omega
    obtain ⟨j, a2, s2, e2, p2, p3, q2, q3⟩ := pick_ok hc a1 s1 (x3 - i + 1) (by omega) (by omega) (by omega) (by omega)
    have w3 : wrap64 (i + j) = i + j := wrap_in (by omega) (by omega)
    have w4 : wrap64 (x1 + i) = x1 + i := wrap_in (by omega) (by omega)
    have w5 : wrap64 (i + j - i) = j := by unfold wrap64; omega
    have w6 : wrap64 (x3 - i) = x3 - i := wrap_in (by omega) (by omega)
    refine ⟨x0, x1 + i, j, x3 - i, a2, s2, fun k => ?_, b0, by unfold BW; omega, by unfold BW; omega, by unfold BW; omega, by omega, by omega⟩
    rw [spec_l1Cur_pair.j0, if_pos rfl, w1, e1, Option.bind_some]
    dsimp only
    rw [w2, e2, Option.bind_some]
    dsimp only
    rw [spec_l2Slice.f, Option.bind_some, w3, w4, w5, w6]
  | false => exact ⟨z0, z1, z2, z3, a, s, fun k => by rw [spec_l1Cur_pair.j0, if_neg Bool.false_ne_true], c0, c1, c2, c3, by omega, by omega⟩
theorem pair_ok (m : List (List Int)) (hm : m.length ≤ 100) (hr : Rows65 m) (a s : Int) (h0 : 0 ≤ a) (h1 : a ≤ 999980000) :
    ∃ x0 x1 x2 x3 y0 y1 y2 y3 a' s', Ev (fun k => spec_l1Cur_pair.f k l a s m) (x0, x1, x2, x3, y0, y1, y2, y3, a', s') ∧ (BW x0 ∧ BW x1 ∧ BW x2 ∧ BW x3) ∧ (BW y0 ∧ BW y1 ∧ BW y2 ∧ BW y3) ∧ a ≤ a' ∧ a' ≤ a + 100 := by
  obtain ⟨x0, x1, x2, x3, a1, s1, e1, b0, b1, b2, b3, g1, g2⟩ := window_ok hc m hm hr a s h0 (by omega)
  obtain ⟨z0, z1, z2, z3, a2, s2, e2, c0, c1, c2, c3, g3, g4⟩ := window_ok hc m hm hr a1 s1 (by omega) (by omega)
  have hf := hr.fit' hm
  obtain ⟨K, hK⟩ := l2Win m hf x0 x1 x2 x3 (by unfold BW at b1; omega)
  cases hw : memOk m && winOn m x0 x1 x2 x3 with
  | true =>
    rw [hw] at hK
    rw [Bool.and_eq_true] at hw
    have hlt := win_lt (x := ⟨x0, x1, x2, x3⟩) hw.1 hw.2
    dsimp only at hlt
    obtain ⟨o, a3, s3, e3, g5, g6⟩ := one_ok hc a2 s2 3 (by omega) (by omega) (by omega) (by omega)
    obtain ⟨y0, y1, y2, y3, a', s', hE, d0, d1, d2, d3, g7, g8⟩ := pair_j0 hc (!o) a3 s3 (by omega) (by omega) x0 x1 x2 x3 z0 z1 z2 z3 (fun _ => by omega) b0 c0 c1 c2 c3
    refine ⟨x0, x1, x2, x3, y0, y1, y2, y3, a', s', ⟨K + 3, fun k hk => ?_⟩, ⟨b0, b1, b2, b3⟩, ⟨d0, d1, d2, d3⟩, by omega, by omega⟩
    obtain ⟨k, rfl⟩ : ∃ j, k = j + 3 := ⟨k - 3, by omega⟩
    have f1 := hK (k + 3) (by omega)
    dsimp only at f1 ⊢
    rw [spec_l1Cur_pair.f, e1 k, Option.bind_some]
    dsimp only
    rw [e2 k, Option.bind_some]
    dsimp only
    rw [f1, Option.bind_some, if_pos rfl, e3, Option.bind_some]
    exact hE (k + 2)
  | false =>
    rw [hw] at hK
    obtain ⟨y0, y1, y2, y3, a', s', hE, d0, d1, d2, d3, g7, g8⟩ := pair_j0 hc false a2 s2 (by omega) (by omega) x0 x1 x2 x3 z0 z1 z2 z3 (fun h => by cases h) b0 c0 c1 c2 c3
    refine ⟨x0, x1, x2, x3, y0, y1, y2, y3, a', s', ⟨K + 3, fun k hk => ?_⟩, ⟨b0, b1, b2, b3⟩, ⟨d0, d1, d2, d3⟩, by omega, by omega⟩
    obtain ⟨k, rfl⟩ : ∃ j, k = j + 3 := ⟨k - 3, by omega⟩
    have f1 := hK (k + 3) (by omega)
    dsimp only at f1 ⊢
    rw [spec_l1Cur_pair.f, e1 k, Option.bind_some]
    dsimp only
    rw [e2 k, Option.bind_some]
    dsimp only
    rw [f1, Option.bind_some, if_neg Bool.false_ne_true]
    exact hE (k + 2)
end
set_option linter.unusedSectionVars false
def AllBW (l : List S28) : Prop := ∀ x ∈ l, BW x.f0 ∧ BW x.f1 ∧ BW x.f2 ∧ BW x.f3
theorem AllBW.snoc {l : List S28} (h : AllBW l) {x0 x1 x2 x3 : Int} (b0 : BW x0) (b1 : BW x1) (b2 : BW x2) (b3 : BW x3) : AllBW (l ++ [⟨x0, x1, x2, x3⟩]) := fun x hx => by
  rcases List.mem_append.1 hx with hx | hx
  · exact h x hx
  · rw [List.mem_singleton.1 hx]; exact ⟨b0, b1, b2, b3⟩
section
variable {c : List Int} (hc : IsCode c) (m : List (List Int)) (hm : m.length ≤ 100) (hr : Rows65 m)
include hc hm hr
theorem watch_l1 : ∀ (d : Nat) (x : List S28) (a s : Int), x.length + d = 13 → AllBW x → 0 ≤ a → a + 50 * (d : Int) ≤ 999990000 →
    ∃ l a' s', Ev (fun k => spec_l1Cur_watched3.l1 k x c a s m) (m, l, a', s') ∧ l.length ≤ 13 ∧ AllBW l ∧ a ≤ a' ∧ a' ≤ a + 50 * (d : Int)
  | 0, x, a, s, hd, hb, h0, h1 => ⟨x, a, s, Ev.end_ fun k => by rw [spec_l1Cur_watched3.l1, if_neg (by omega)], by omega, hb, by omega, by omega⟩
  | d + 1, x, a, s, hd, hb, h0, h1 => by
    obtain ⟨y0, y1, y2, y3, a1, s1, e, b0, b1, b2, b3, g1, g2⟩ := window_ok hc m hm hr a s h0 (by omega)
    obtain ⟨l, a', s', ⟨K, hK⟩, q1, q2, q3, q4⟩ := watch_l1 d (x ++ [⟨y0, y1, y2, y3⟩]) a1 s1 (by simp; omega) (hb.snoc b0 b1 b2 b3) (by omega) (by omega)
    refine ⟨l, a', s', ⟨K + 4, fun k hk => ?_⟩, q1, q2, by omega, by omega⟩
    obtain ⟨k, rfl⟩ : ∃ j, k = j + 4 := ⟨k - 4, by omega⟩
    have e1 := hK (k + 3) (by omega)
    have e2 := e k
    dsimp only at e1 ⊢
    rw [spec_l1Cur_watched3.l1, if_pos (by omega), e2, Option.bind_some]
    dsimp only
    rw [if_pos (by omega)]
    exact e1
theorem watch_l0 : ∀ (d : Nat) (x : List S28) (a s : Int), x.length + d ≤ 7 → AllBW x → 0 ≤ a → a + 110 * (d : Int) ≤ 999970000 →
    ∃ l a' s', Ev (fun k => spec_l1Cur_watched3.l0 k x (d : Int) c a s m) (m, l, a', s') ∧ l.length ≤ 13 ∧ AllBW l ∧ a ≤ a' ∧ a' ≤ a + 110 * (d : Int) + 700
  | 0, x, a, s, hd, hb, h0, h1 => by
    obtain ⟨o, a1, s1, e, g1, g2⟩ := one_ok hc a s 40 h0 (by omega) (by omega) (by omega)
    cases o with
    | true =>
      obtain ⟨l, a', s', hE, q1, q2, q3, q4⟩ := watch_l1 hc m hm hr (13 - x.length) x a1 s1 (by omega) hb (by omega) (by omega)
      refine ⟨l, a', s', Ev.step (fun k => ?_) hE, q1, q2, by omega, by omega⟩
      rw [spec_l1Cur_watched3.l0, if_neg (by omega), e, Option.bind_some, if_pos rfl]
    | false =>
      refine ⟨x, a1, s1, Ev.end_ fun k => ?_, by omega, hb, by omega, by omega⟩
      rw [spec_l1Cur_watched3.l0, if_neg (by omega), e, Option.bind_some, if_neg Bool.false_ne_true]
  | 1, x, a, s, hd, hb, h0, h1 => by
    obtain ⟨x0, x1, x2, x3, y0, y1, y2, y3, a1, s1, ⟨K1, e⟩, ⟨b0, b1, b2, b3⟩, ⟨c0, c1, c2, c3⟩, g1, g2⟩ := pair_ok hc m hm hr a s h0 (by omega)
    obtain ⟨l, a', s', ⟨K, hK⟩, q1, q2, q3, q4⟩ := watch_l0 0 (x ++ [⟨x0, x1, x2, x3⟩]) a1 s1 (by simp; omega) (hb.snoc b0 b1 b2 b3) (by omega) (by omega)
    refine ⟨l, a', s', ⟨K + K1 + 1, fun k hk => ?_⟩, q1, q2, by omega, by omega⟩
    obtain ⟨k, rfl⟩ : ∃ j, k = j + 1 := ⟨k - 1, by omega⟩
    have e1 := hK k (by omega)
    have e2 := e k (by omega)
    dsimp only at e1 e2 ⊢
    rw [spec_l1Cur_watched3.l0, if_pos (by omega), e2, Option.bind_some]
    dsimp only
    rw [if_pos (by omega), Option.bind_some, if_neg (by omega), show wrap64 (((1 : Nat) : Int) - 1) = ((0 : Nat) : Int) from by rw [wrap_in (by omega) (by omega)]; omega]
    exact e1
  | d + 2, x, a, s, hd, hb, h0, h1 => by
    obtain ⟨x0, x1, x2, x3, y0, y1, y2, y3, a1, s1, ⟨K1, e⟩, ⟨b0, b1, b2, b3⟩, ⟨c0, c1, c2, c3⟩, g1, g2⟩ := pair_ok hc m hm hr a s h0 (by omega)
    obtain ⟨o, a2, s2, e3, g3, g4⟩ := one_ok hc a1 s1 2 (by omega) (by omega) (by omega) (by omega)
    have w1 : wrap64 (((d + 2 : Nat) : Int) - 1) = ((d + 1 : Nat) : Int) := by rw [wrap_in (by omega) (by omega)]; omega
    have w2 : wrap64 (((d + 1 : Nat) : Int) - 1) = (d : Int) := by rw [wrap_in (by omega) (by omega)]; omega
    cases o with
    | true =>
      obtain ⟨l, a', s', ⟨K, hK⟩, q1, q2, q3, q4⟩ := watch_l0 d (x ++ [⟨x0, x1, x2, x3⟩] ++ [⟨y0, y1, y2, y3⟩]) a2 s2 (by simp; omega) ((hb.snoc b0 b1 b2 b3).snoc c0 c1 c2 c3) (by omega) (by omega)
      refine ⟨l, a', s', ⟨K + K1 + 1, fun k hk => ?_⟩, q1, q2, by omega, by omega⟩
      obtain ⟨k, rfl⟩ : ∃ j, k = j + 1 := ⟨k - 1, by omega⟩
      have e1 := hK k (by omega)
      have e2 := e k (by omega)
      dsimp only at e1 e2 ⊢
      rw [spec_l1Cur_watched3.l0, if_pos (by omega), e2, Option.bind_some]
      dsimp only
      rw [if_pos (by omega), Option.bind_some, if_pos (by omega), e3, Option.bind_some, if_pos rfl, if_pos (by simp; omega), w1, w2]
      exact e1
    | false =>
      obtain ⟨l, a', s', ⟨K, hK⟩, q1, q2, q3, q4⟩ := watch_l0 (d + 1) (x ++ [⟨x0, x1, x2, x3⟩]) a2 s2 (by simp; omega) (hb.snoc b0 b1 b2 b3) (by omega) (by omega)
      refine ⟨l, a', s', ⟨K + K1 + 1, fun k hk => ?_⟩, q1, q2, by omega, by omega⟩
      obtain ⟨k, rfl⟩ : ∃ j, k = j + 1 := ⟨k - 1, by omega⟩
      have e1 := hK k (by omega)
      have e2 := e k (by omega)
      dsimp only at e1 e2 ⊢
      rw [spec_l1Cur_watched3.l0, if_pos (by omega), e2, Option.bind_some]
      dsimp only
      rw [if_pos (by omega), Option.bind_some, if_pos (by omega), e3, Option.bind_some, if_neg Bool.false_ne_true, w1]
      exact e1
theorem place_j0 (b : Bool) (x a s : Int) (h0 : 0 ≤ a) (h1 : a ≤ 999990000) (hb : b = false → 0 ≤ x ∧ x < (m.length : Int)) :
    ∃ p a' s', ∀ k, spec_l1Cur_place3.j0 (k + 1) x b c a s m = some (x, p, a', s') := by
  cases b with
  | true =>
    obtain ⟨p, a1, s1, e, -, -⟩ := among_ok hc a s h0 (by omega) [(-1), 64, 4611686018427387904] (by simp) (by simp)
    exact ⟨p, a1, s1, fun k => by rw [spec_l1Cur_place3.j0, if_pos rfl, e, Option.bind_some]⟩
  | false =>
    obtain ⟨g0, g1⟩ := hb rfl
    have h2 := mn_bd ((rd_L1 m x).length : Int) 12
    have h3 := mx_bd 1 (mn ((rd_L1 m x).length : Int) 12)
    obtain ⟨p, a1, s1, e, -, -, -⟩ := pick_any hc a s (mx 1 (mn ((rd_L1 m x).length : Int) 12)) h0 (by omega) (by omega)
    exact ⟨p, a1, s1, fun k => by rw [spec_l1Cur_place3.j0, if_neg Bool.false_ne_true, if_pos g0, if_pos g1, least_eq, Option.bind_some, most_eq, Option.bind_some, e, Option.bind_some]⟩
theorem place_ok (a s : Int) (h0 : 0 ≤ a) (h1 : a ≤ 999980000) : ∃ x p a' s', ∀ k, spec_l1Cur_place3.f (k + 1) c a s m = some (x, p, a', s') := by
  have h2 := mn_bd (m.length : Int) 3
  have h3 := mx_bd 1 (mn (m.length : Int) 3)
  obtain ⟨x, a1, s1, e1, x0, -, p1, p2⟩ := pick_any hc a s (mx 1 (mn (m.length : Int) 3)) h0 (by omega) (by omega)
  obtain ⟨o, a2, s2, e2, p3, p4⟩ := one_ok hc a1 s1 24 (by omega) (by omega) (by omega) (by omega)
  cases o with
  | true =>
    obtain ⟨p, a3, s3, e3, -, -⟩ := among_ok hc a2 s2 (by omega) (by omega) [(-1), (m.length : Int), 4611686018427387904] (by simp) (by simp)
    exact ⟨p, 0, a3, s3, fun k => by rw [spec_l1Cur_place3.f, least_eq, Option.bind_some, most_eq, Option.bind_some, e1, Option.bind_some]; dsimp only; rw [e2, Option.bind_some, if_pos rfl, e3, Option.bind_some]⟩
  | false =>
    by_cases hx : x ≥ (m.length : Int)
    · obtain ⟨p, a3, s3, e3⟩ := place_j0 hc m hm hr true x a2 s2 (by omega) (by omega) (fun h => by cases h)
      exact ⟨x, p, a3, s3, fun k => by rw [spec_l1Cur_place3.f, least_eq, Option.bind_some, most_eq, Option.bind_some, e1, Option.bind_some]; dsimp only; rw [e2, Option.bind_some, if_neg Bool.false_ne_true, if_pos hx, e3]⟩
    · obtain ⟨o2, a4, s4, e4, p5, p6⟩ := one_ok hc a2 s2 24 (by omega) (by omega) (by omega) (by omega)
      obtain ⟨p, a3, s3, e3⟩ := place_j0 hc m hm hr o2 x a4 s4 (by omega) (by omega) (fun _ => by omega)
      exact ⟨x, p, a3, s3, fun k => by rw [spec_l1Cur_place3.f, least_eq, Option.bind_some, most_eq, Option.bind_some, e1, Option.bind_some]; dsimp only; rw [e2, Option.bind_some, if_neg Bool.false_ne_true, if_neg hx, e4, Option.bind_some, e3]⟩
end
section
variable {c : List Int} (hc : IsCode c)
include hc
theorem watched3_ok (a s : Int) (h0 : 0 ≤ a) (h1 : a ≤ 100000000) : ∃ m l a' s', Ev (fun k => spec_l1Cur_watched3.f k c a s) (m, l, a', s') ∧ m.length ≤ 17 ∧ Rows65 m ∧ l.length ≤ 13 ∧ AllBW l ∧ a ≤ a' ∧ a' ≤ a + 20000 := by
  obtain ⟨m, a1, s1, ⟨K1, e1⟩, q1, q2, g1, g2⟩ := memory_ok hc a s h0 h1
  obtain ⟨n, a2, s2, e2, hn, g3, g4⟩ := among_ok hc a1 s1 (by omega) (by omega) [3, 4, 2, 5, 1, 0, 7] (by simp) (by simp)
  have hn2 : 0 ≤ n ∧ n ≤ 7 := by simp at hn; omega
  obtain ⟨d, rfl⟩ : ∃ d : Nat, n = (d : Int) := ⟨n.toNat, by omega⟩
  obtain ⟨l, a', s', ⟨K, hK⟩, q3, q4, q5, q6⟩ := watch_l0 hc m (by omega) q2 d [] a2 s2 (by simp; omega) (fun x hx => by cases hx) (by omega) (by omega)
  refine ⟨m, l, a', s', ⟨K + K1, fun k hk => ?_⟩, q1, q2, q3, q4, by omega, by omega⟩
  have f1 := e1 k (by omega)
  have f2 := hK k (by omega)
  dsimp only at f1 f2 ⊢
  rw [spec_l1Cur_watched3.f, f1, Option.bind_some]
  dsimp only
  rw [e2, Option.bind_some]
  exact f2
theorem drawC_ok : ∃ m x0 x1 x2 x3 y0 y1 y2 y3, Ev (fun k => spec_DrawCommonPlaces.f k c) (m, x0, x1, x2, x3, y0, y1, y2, y3) ∧ m.length ≤ 17 ∧ Rows65 m ∧ (BW x0 ∧ BW x1 ∧ BW x2 ∧ BW x3) ∧ (BW y0 ∧ BW y1 ∧ BW y2 ∧ BW y3) := by
  obtain ⟨m, a1, s1, ⟨K1, e1⟩, q1, q2, g1, g2⟩ := memory_ok hc 0 0 (by omega) (by omega)
  obtain ⟨x0, x1, x2, x3, y0, y1, y2, y3, a', s', ⟨K, hK⟩, b, b', -, -⟩ := pair_ok hc m (by omega) q2 a1 s1 (by omega) (by omega)
  refine ⟨m, x0, x1, x2, x3, y0, y1, y2, y3, ⟨K + K1, fun k hk => ?_⟩, q1, q2, b, b'⟩
  have f1 := e1 k (by omega)
  have f2 := hK k (by omega)
  dsimp only at f1 f2 ⊢
  rw [spec_DrawCommonPlaces.f, f1, Option.bind_some]
  dsimp only
  rw [f2, Option.bind_some]
theorem drawK_ok : ∃ m l a, Ev (fun k => spec_DrawNoticedCounts.f k c) (m, l, a) ∧ m.length ≤ 17 ∧ Rows65 m ∧ l.length ≤ 13 ∧ AllBW l := by
  obtain ⟨m, l, a1, s1, ⟨K1, e1⟩, q1, q2, q3, q4, g1, g2⟩ := watched3_ok hc 0 0 (by omega) (by omega)
  obtain ⟨x, p, a', s', hE⟩ := place_ok hc m (by omega) q2 a1 s1 (by omega) (by omega)
  refine ⟨m, l, x, ⟨K1 + 1, fun k hk => ?_⟩, q1, q2, q3, q4⟩
  obtain ⟨k, rfl⟩ : ∃ j, k = j + 1 := ⟨k - 1, by omega⟩
  have f1 := e1 (k + 1) (by omega)
  dsimp only at f1 ⊢
  rw [spec_DrawNoticedCounts.f, spec_DrawNoticedBy.f, f1, Option.bind_some]
  dsimp only
  rw [hE, Option.bind_some, Option.bind_some]
end
theorem cut1_ok (l : List Int) (hc : IsCode l) : IsCode (cut1 l) := by
  unfold cut1
  split
  · intro x hx
    simp at hx
    omega
  · intro x hx
    rcases List.mem_append.1 hx with hx | hx
    · exact hc x (List.mem_of_mem_drop hx)
    · simp at hx; omega
end Go.Proofs.YthnchjgffocigaaDoor.P
end
