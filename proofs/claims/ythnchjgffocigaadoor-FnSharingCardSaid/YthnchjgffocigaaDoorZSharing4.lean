/- Words for rows in memory, contracts of functions, plain lemmas. -/
import Derived.Test.YthnchjgffocigaaDoorZSharing3
import Derived.StillTailTactics
import Derived.Shelf.Abstract
import Derived.ChangeKeysEq
import Derived.ProofKit
import Derived.Lib.SmallJoins
import Derived.Deep.Slices
import Derived.Deep.Strs
import Derived.WalkKit
import Derived.Lib.EndianBits
section
namespace Go.Proofs.YthnchjgffocigaaDoor.P
open Go.RowKit Go.Proofs.YthnchjgffocigaaDoorW.PrintWords Go.Proofs.YthnchjgffocigaaDoorW.PrintLast Go.Proofs.YthnchjgffocigaaDoorW.PrintMore
set_option linter.unusedVariables false
set_option linter.unusedSimpArgs false
abbrev kII : Kd (List Int) := Kd.slice 3 (Kd.int .i64)
def Own (w : World) (base : Nat) (v : Value) (outs : List (List Int)) (rows : List (Value × List Int)) : Prop :=
  ∃ col : Nat → Nat, Kd.S kII 39 w base (fun k => col k = 0) v outs ∧ ∀ j p, rows[j]? = some p → Kd.R (Kd.int .i64) 3 w base (fun k => col k = j + 1) p.1 p.2
def rc (col : Nat → Nat) (n c : Nat) : Nat → Nat := fun k => if k < n then col k else c
theorem rc_lt {col : Nat → Nat} {n c k : Nat} (h : k < n) : rc col n c k = col k := if_pos h
theorem rc_ge {col : Nat → Nat} {n c k : Nat} (h : n ≤ k) : rc col n c k = c := if_neg (by omega)
def rg (col : Nat → Nat) (n j : Nat) : Nat → Nat := fun k => if k < n then (if col k = j + 1 then 0 else col k) else 0
theorem rg_in {col : Nat → Nat} {n j k : Nat} (h : k < n) (h2 : col k = j + 1) : rg col n j k = 0 := by unfold rg; rw [if_pos h, if_pos h2]
theorem rg_lt {col : Nat → Nat} {n j k : Nat} (h : k < n) (h2 : ¬ col k = j + 1) : rg col n j k = col k := by unfold rg; rw [if_pos h, if_neg h2]
theorem rg_ge {col : Nat → Nat} {n j k : Nat} (h : n ≤ k) : rg col n j k = 0 := if_neg (by omega)
section
variable {w w1 : World} {base : Nat} {v : Value} {outs : List (List Int)} {rows : List (Value × List Int)}
theorem Own.below (h : Own w base v outs rows) (hb : Below w.heap.size w w1) : Own w1 base v outs rows := by
  obtain ⟨col, hs, hr⟩ := h
  exact ⟨col, Kd.S_below hs hb, fun j p hj => Kd.R_below (hr j p hj) hb⟩
theorem Own.drew (h : Own w base v outs rows) : Own w.drew base v outs rows := h.below (below_drew (Below.refl _ _))
theorem Own.drewN (h : Own w base v outs rows) (m : Nat) : Own (w.drewN m) base v outs rows := h.below (pw_below_drewN (Below.refl _ _) m)
theorem Own.alloc (h : Own w base v outs rows) (o : Obj) : Own (w.alloc o) base v outs rows := h.below (below_alloc (Below.refl _ _) o)
theorem Own.start (h : Kd.S kII 39 w base (fun _ => True) v outs) : Own w base v outs [] := ⟨fun _ => 0, Kd.S_mono h (fun _ _ => rfl), fun j p hj => by simp at hj⟩
theorem Own.outs_ (h : Own w base v outs rows) : Kd.S kII 39 w base (fun _ => True) v outs := by
  obtain ⟨col, hs, hr⟩ := h
  exact Kd.S_mono hs (fun _ _ => trivial)
theorem Own.row (h : Own w base v outs rows) (j : Nat) {p : Value × List Int} (hj : rows[j]? = some p) : Kd.R (Kd.int .i64) 3 w base (fun _ => True) p.1 p.2 := by
  obtain ⟨col, hs, hr⟩ := h
  exact Kd.R_mono (hr j p hj) (fun _ _ => trivial)
theorem Own.new {ok : Nat → Prop} {u : Value} {xs : List Int} {rows' : List (Value × List Int)} (h : Own w base v outs rows) (j : Nat) (hb : Below w.heap.size w w1) (hbase : base ≤ w.heap.size) (hn : Kd.R (Kd.int .i64) 3 w1 w.heap.size ok u xs)
    (hrows : ∀ i p, rows'[i]? = some p → (i = j ∧ p = (u, xs)) ∨ (i ≠ j ∧ rows[i]? = some p)) : Own w1 base v outs rows' := by
  obtain ⟨col, hs, hr⟩ := h
  refine ⟨rc col w.heap.size (j + 1), ?_, fun i p hi => ?_⟩
  · exact Kd.S_below (Kd.S_mono (Kd.S_bound hs) (fun k hk => (rc_lt hk.2.2.1).trans hk.1)) hb
  · rcases hrows i p hi with ⟨rfl, rfl⟩ | ⟨hne, hi'⟩
    · exact Kd.R_mono (Kd.R_lower (Kd.R_bound hn) hbase) (fun k hk => rc_ge hk.2.1)
    · exact Kd.R_below (Kd.R_mono (Kd.R_bound (hr i p hi')) (fun k hk => (rc_lt hk.2.2.1).trans hk.1)) hb
theorem Own.push {ok : Nat → Prop} {u : Value} {xs : List Int} (h : Own w base v outs rows) (hb : Below w.heap.size w w1) (hbase : base ≤ w.heap.size) (hn : Kd.R (Kd.int .i64) 3 w1 w.heap.size ok u xs) : Own w1 base v outs (rows ++ [(u, xs)]) := by
  refine h.new rows.length hb hbase hn (fun i p hi => ?_)
  by_cases h1 : i < rows.length
  · rw [List.getElem?_append_left h1] at hi
    exact .inr ⟨by omega, hi⟩
  · rw [List.getElem?_append_right (by omega)] at hi
    by_cases h2 : i = rows.length
    · subst h2
      simp at hi
      exact .inl ⟨rfl, hi.symm⟩
    · rw [List.getElem?_eq_none (by simp; omega)] at hi
      cases hi
theorem Own.set {ok : Nat → Prop} {u : Value} {xs : List Int} (h : Own w base v outs rows) (j : Nat) (hb : Below w.heap.size w w1) (hbase : base ≤ w.heap.size) (hn : Kd.R (Kd.int .i64) 3 w1 w.heap.size ok u xs) : Own w1 base v outs (rows.set j (u, xs)) := by
  refine h.new j hb hbase hn (fun i p hi => ?_)
  rw [List.getElem?_set] at hi
  by_cases h1 : j = i
  · subst h1
    rw [if_pos rfl] at hi
    by_cases h2 : j < rows.length
    · rw [if_pos h2] at hi
      exact .inl ⟨rfl, (Option.some.inj hi).symm⟩
    · rw [if_neg h2] at hi; cases hi
  · rw [if_neg h1] at hi
    exact .inr ⟨fun e => h1 e.symm, hi⟩
theorem Own.app (h : Own w base v outs rows) (j : Nat) {p : Value × List Int} (hj : rows[j]? = some p) : ∃ ok : Nat → Prop, (∀ k, w.heap.size ≤ k → ok k) ∧ Kd.R (Kd.int .i64) 3 w base ok p.1 p.2 ∧
    ∀ v1 w1 ys, Kd.R (Kd.int .i64) 3 w1 base ok v1 ys → w.grownBy w1 p.1.ownBlock → Own w1 base v outs (rows.set j (v1, ys)) := by
  obtain ⟨col, hs, hr⟩ := h
  have hp := hr j p hj
  refine ⟨fun k => rc col w.heap.size (j + 1) k = j + 1, fun k hk => rc_ge hk, Kd.R_mono (Kd.R_bound hp) (fun k hk => (rc_lt hk.2.2.1).trans hk.1), fun v1 w1 ys h1 hg => ⟨rc col w.heap.size (j + 1), ?_, fun i q hi => ?_⟩⟩
  · refine Kd.S_grown (Kd.S_mono (Kd.S_bound hs) (fun k hk => (rc_lt hk.2.2.1).trans hk.1)) hg (fun k hk e => ?_)
    have h2 := hp.1 k e.symm
    have h3 := Kd.R_lt hp k e.symm
    have hk := (rc_lt h3).symm.trans hk
    omega
  · rw [List.getElem?_set] at hi
    by_cases e1 : j = i
    · subst e1
      rw [if_pos rfl] at hi
      by_cases h2 : j < rows.length
      · rw [if_pos h2] at hi
        obtain rfl := Option.some.inj hi
        exact h1
      · rw [if_neg h2] at hi; cases hi
    · rw [if_neg e1] at hi
      refine Kd.R_grown (Kd.R_mono (Kd.R_bound (hr i q hi)) (fun k hk => (rc_lt hk.2.2.1).trans hk.1)) hg (fun k hk e => ?_)
      have h2 := hp.1 k e.symm
      have h3 := Kd.R_lt hp k e.symm
      have hk := (rc_lt h3).symm.trans hk
      omega
theorem Own.give (h : Own w base v outs rows) (j : Nat) {p : Value × List Int} (hj : rows[j]? = some p) : ∃ ok okp : Nat → Prop, (∀ k, w.heap.size ≤ k → ok k) ∧ Kd.R (Kd.int .i64) 3 w base okp p.1 p.2 ∧ (∀ k, okp k → ok k ∧ some k ≠ v.ownBlock) ∧ Kd.S kII 39 w base (fun k => ok k ∧ ¬ okp k) v outs ∧
    ∀ v1 w1, Kd.S kII 39 w1 base ok v1 (outs ++ [p.2]) → w.grownBy w1 v.ownBlock → Own w1 base v1 (outs ++ [p.2]) (rows.take j) := by
  obtain ⟨col, hs, hr⟩ := h
  have hp := hr j p hj
  refine ⟨fun k => rg col w.heap.size j k = 0, fun k => k < w.heap.size ∧ col k = j + 1, fun k hk => rg_ge hk, Kd.R_mono (Kd.R_bound hp) (fun k hk => ⟨hk.2.2.1, hk.1⟩), fun k hk => ⟨rg_in hk.1 hk.2, fun e => ?_⟩, Kd.S_mono (Kd.S_bound hs) (fun k hk => ⟨(rg_lt hk.2.2.1 (fun h_ => by have h5_ := hk.1; omega)).trans hk.1, fun h2 => by have := hk.1; have := h2.2; omega⟩), fun v1 w1 h1 hg => ⟨rg col w.heap.size j, h1, fun i q hi => ?_⟩⟩
  · have h2 : col k = 0 := (Kd.S_R hs).1 k e.symm
    have := hk.2
    omega
  · rw [List.getElem?_take] at hi
    by_cases e1 : i < j
    · rw [if_pos e1] at hi
      refine Kd.R_grown (Kd.R_mono (Kd.R_bound (hr i q hi)) (fun k hk => (rg_lt hk.2.2.1 (fun h_ => by have h5_ := hk.1; omega)).trans hk.1)) hg (fun k hk e => ?_)
      have h2 : col k = 0 := (Kd.S_R hs).1 k e.symm
      have h3 := Kd.S_lt hs k e.symm
      have hk := ((rg_lt h3 (by omega)).symm.trans hk).symm.trans h2
      omega
    · rw [if_neg e1] at hi; cases hi
theorem Own.store (h : Own w base v outs rows) {g t : Nat} {cells : Array Value} (hb : w.heap[g]? = some (.cells cells t (0, 0))) (h1 : 3 ≠ t) (h2 : 39 ≠ t) (i : Nat) (u : Value) : Own (w.setCell ⟨g, i, none⟩ u) base v outs rows := by
  obtain ⟨col, hs, hr⟩ := h
  refine ⟨col, Kd.S_set hs hb (fun q hq => ?_) i u, fun j p hj => Kd.R_set (hr j p hj) hb (fun q hq => ?_) i u⟩
  · have hq' : q = 39 ∨ q = 3 := by simpa [kII, Kd.slice, Kd.int, Kd.scalar] using hq
    rcases hq' with rfl | rfl <;> assumption
  · have hq' : q = 3 := by simpa [Kd.int, Kd.scalar] using hq
    subst hq'; exact h1
end
section
variable (n : Nat) (sh : Nat → Nat → Bool) (blk : List Nat)
def kstep (x : Nat) (q : List Nat) (k : Nat) : List Nat := if k ∈ blk ∨ k ∈ q ∨ sh x k = false then q else q ++ [k]
def kfrom (x : Nat) : Nat → Nat → List Nat → List Nat
  | 0, _, q => q
  | d + 1, k, q => kfrom x d (k + 1) (kstep sh blk x q k)
def kall (x : Nat) (q : List Nat) : List Nat := kfrom sh blk x n 0 q
def bfs : Nat → Nat → List Nat → List Nat
  | 0, _, q => q
  | f + 1, t, q => if h : t < q.length then bfs f (t + 1) (kall n sh blk (q[t]) q) else q
end
section
variable {n : Nat} {sh : Nat → Nat → Bool} {blk : List Nat}
theorem kstep_mem {x : Nat} {q : List Nat} {k a : Nat} : a ∈ kstep sh blk x q k ↔ a ∈ q ∨ (a = k ∧ ¬ k ∈ blk ∧ sh x k = true) := by
  unfold kstep
  by_cases h1 : k ∈ blk
  · rw [if_pos (.inl h1)]
    exact ⟨.inl, fun h => h.elim id (fun h => absurd h1 h.2.1)⟩
  · by_cases h2 : k ∈ q
    · rw [if_pos (.inr (.inl h2))]
      exact ⟨.inl, fun h => h.elim id (fun h => h.1 ▸ h2)⟩
    · by_cases h3 : sh x k = false
      · rw [if_pos (.inr (.inr h3))]
        exact ⟨.inl, fun h => h.elim id (fun h => by rw [h3] at h; cases h.2.2)⟩
      · rw [if_neg (fun h => h.elim h1 (fun h => h.elim h2 h3)), List.mem_append, List.mem_singleton]
        have h4 : sh x k = true := by simpa using h3
        exact ⟨fun h => h.elim .inl (fun h => .inr ⟨h, h1, h4⟩), fun h => h.elim .inl (fun h => .inr h.1)⟩
theorem kfrom_mem {x : Nat} : ∀ (d k : Nat) (q : List Nat) (a : Nat), a ∈ kfrom sh blk x d k q ↔ a ∈ q ∨ (k ≤ a ∧ a < k + d ∧ ¬ a ∈ blk ∧ sh x a = true)
  | 0, k, q, a => ⟨.inl, fun h => h.elim id (fun h => by omega)⟩
  | d + 1, k, q, a => by
    rw [kfrom, kfrom_mem d (k + 1), kstep_mem]
    constructor
    · rintro ((h | ⟨rfl, h1, h2⟩) | ⟨h1, h2, h3⟩)
      · exact .inl h
      · exact .inr ⟨by omega, by omega, h1, h2⟩
      · exact .inr ⟨by omega, by omega, h3⟩
    · rintro (h | ⟨h1, h2, h3⟩)
      · exact .inl (.inl h)
      · by_cases e : a = k
        · subst e; exact .inl (.inr ⟨rfl, h3⟩)
        · exact .inr ⟨by omega, by omega, h3⟩
theorem kall_mem {x : Nat} {q : List Nat} {a : Nat} : a ∈ kall n sh blk x q ↔ a ∈ q ∨ (a < n ∧ ¬ a ∈ blk ∧ sh x a = true) := by
  unfold kall
  rw [kfrom_mem]
  constructor
  · rintro (h | ⟨h1, h2, h3⟩)
    · exact .inl h
    · exact .inr ⟨by omega, h3⟩
  · rintro (h | ⟨h1, h3⟩)
    · exact .inl h
    · exact .inr ⟨by omega, by omega, h3⟩
theorem kstep_prefix (x : Nat) (q : List Nat) (k : Nat) : ∃ r, kstep sh blk x q k = q ++ r := by
  unfold kstep
  by_cases h : k ∈ blk ∨ k ∈ q ∨ sh x k = false
  · rw [if_pos h]; exact ⟨[], by simp⟩
  · rw [if_neg h]; exact ⟨[k], rfl⟩
theorem kfrom_prefix (x : Nat) : ∀ (d k : Nat) (q : List Nat), ∃ r, kfrom sh blk x d k q = q ++ r
  | 0, k, q => ⟨[], by simp [kfrom]⟩
  | d + 1, k, q => by
    obtain ⟨r1, e1⟩ := kstep_prefix (sh := sh) (blk := blk) x q k
    obtain ⟨r2, e2⟩ := kfrom_prefix x d (k + 1) (kstep sh blk x q k)
    exact ⟨r1 ++ r2, by rw [kfrom, e2, e1, List.append_assoc]⟩
theorem kstep_nodup {x : Nat} {q : List Nat} {k : Nat} (h : q.Nodup) : (kstep sh blk x q k).Nodup := by
  unfold kstep
  by_cases h1 : k ∈ blk ∨ k ∈ q ∨ sh x k = false
  · rw [if_pos h1]; exact h
  · rw [if_neg h1]
    refine List.nodup_append.2 ⟨h, by simp, ?_⟩
    intro a ha b hb e
    rw [List.mem_singleton] at hb
    subst hb; subst e
    exact h1 (.inr (.inl ha))
theorem kfrom_nodup {x : Nat} : ∀ (d k : Nat) (q : List Nat), q.Nodup → (kfrom sh blk x d k q).Nodup
  | 0, k, q, h => h
  | d + 1, k, q, h => kfrom_nodup d (k + 1) _ (kstep_nodup h)
def IsQ (n : Nat) (blk q : List Nat) : Prop := q.Nodup ∧ (∀ a ∈ q, a < n) ∧ ∀ a ∈ q, ¬ a ∈ blk
theorem IsQ.kall {q : List Nat} (h : IsQ n blk q) (x : Nat) : IsQ n blk (kall n sh blk x q) :=
  ⟨kfrom_nodup _ _ _ h.1, fun a ha => (kall_mem.1 ha).elim (h.2.1 a) (fun h => h.1), fun a ha => (kall_mem.1 ha).elim (h.2.2 a) (fun h => h.2.1)⟩
theorem nodup_len : ∀ (n : Nat) (q : List Nat), q.Nodup → (∀ a ∈ q, a < n) → q.length ≤ n
  | 0, q, _, h => by
    cases q with
    | nil => simp
    | cons a q => exact absurd (h a List.mem_cons_self) (by omega)
  | n + 1, q, hn, h => by
    have ih := nodup_len n (q.erase n) (hn.erase n) (fun a ha => by
      have h1 := h a (List.mem_of_mem_erase ha)
      have h2 : a ≠ n := fun e => by subst e; exact (hn.not_mem_erase) ha
      omega)
    rw [List.length_erase] at ih
    split at ih <;> omega
theorem IsQ.len {q : List Nat} (h : IsQ n blk q) : q.length ≤ n := nodup_len n q h.1 h.2.1
def Shut' (n : Nat) (sh : Nat → Nat → Bool) (blk : List Nat) (t : Nat) (q : List Nat) : Prop := ∀ i x, i < t → q[i]? = some x → ∀ k, k < n → ¬ k ∈ blk → sh x k = true → k ∈ q
theorem bfs_shut : ∀ (f t : Nat) (q : List Nat), IsQ n blk q → t ≤ q.length → n ≤ f + t → Shut' n sh blk t q → IsQ n blk (bfs n sh blk f t q) ∧ Shut' n sh blk (bfs n sh blk f t q).length (bfs n sh blk f t q)
  | 0, t, q, h, ht, hf, hs => by
    have hl := h.len
    have e : t = q.length := by omega
    subst e
    exact ⟨h, hs⟩
  | f + 1, t, q, h, ht, hf, hs => by
    rw [bfs]
    by_cases hlt : t < q.length
    · rw [dif_pos hlt]
      obtain ⟨r, e⟩ := kfrom_prefix (sh := sh) (blk := blk) (q[t]) n 0 q
      have e' : kall n sh blk (q[t]) q = q ++ r := e
      refine bfs_shut f (t + 1) _ (h.kall _) (by rw [e', List.length_append]; omega) (by omega) ?_
      intro i x hi hx k hk hb hxk
      have hi2 : i < q.length := by omega
      rw [e', List.getElem?_append_left hi2] at hx
      by_cases hit : i = t
      · subst hit
        rw [List.getElem?_eq_getElem hi2] at hx
        have e3 := Option.some.inj hx
        subst e3
        exact kall_mem.2 (.inr ⟨hk, hb, hxk⟩)
      · exact kall_mem.2 (.inl (hs i x (by omega) hx k hk hb hxk))
    · rw [dif_neg hlt]
      have e : t = q.length := by omega
      subst e
      exact ⟨h, hs⟩
theorem kfrom_bar {x : Nat} (hx : ∀ k, k < n → k ∈ blk → sh x k = false) : ∀ (d k : Nat) (q : List Nat), k + d ≤ n → kfrom sh blk x d k q = kfrom sh [] x d k q
  | 0, k, q, _ => rfl
  | d + 1, k, q, h => by
    have e : kstep sh blk x q k = kstep sh [] x q k := by
      unfold kstep
      by_cases h1 : k ∈ blk
      · have := hx k (by omega) h1
        rw [if_pos (.inl h1), if_pos (.inr (.inr this))]
      · by_cases h2 : k ∈ q ∨ sh x k = false
        · rw [if_pos (.inr h2), if_pos (.inr h2)]
        · rw [if_neg (fun h => h.elim h1 h2), if_neg (fun h => h.elim (fun h => by cases h) h2)]
    rw [kfrom, kfrom, e, kfrom_bar hx d (k + 1) _ (by omega)]
theorem bfs_bar (hsym : ∀ a b, a < n → b < n → sh a b = sh b a) (hcl : ∀ a ∈ blk, ∀ k, k < n → sh a k = true → k ∈ blk) (hbn : ∀ a ∈ blk, a < n) : ∀ (f t : Nat) (q : List Nat), IsQ n blk q → bfs n sh blk f t q = bfs n sh [] f t q
  | 0, t, q, _ => rfl
  | f + 1, t, q, h => by
    rw [bfs, bfs]
    by_cases hlt : t < q.length
    · rw [dif_pos hlt, dif_pos hlt]
      have hx : ∀ k, k < n → k ∈ blk → sh (q[t]) k = false := fun k hk hb => by
        have hm := List.getElem_mem hlt
        cases hs : sh (q[t]) k with
        | false => rfl
        | true =>
          rw [hsym _ _ (h.2.1 _ hm) hk] at hs
          exact absurd (hcl k hb _ (h.2.1 _ hm) hs) (h.2.2 _ hm)
      have e : kall n sh blk (q[t]) q = kall n sh [] (q[t]) q := kfrom_bar hx n 0 q (by omega)
      rw [← e]
      exact bfs_bar hsym hcl hbn f (t + 1) _ (h.kall _)
    · rw [dif_neg hlt, dif_neg hlt]
end
def spec_l1Has.l0 : Nat → List Int → Int → Int → Option (Bool)
  | 0, _, _, _ => none
  | k + 1, x0, x1, x5 => if x5 < (x0.length : Int) then (if 0 ≤ x5 then (if (rd x0 x5) = x1 then (some true) else (spec_l1Has.l0 k x0 x1 (wrap64 (x5 + 1)))) else (none)) else (some false)
def spec_l1Has.f (k : Nat) (l0 : List Int) (a1 : Int) : Option (Bool) := spec_l1Has.l0 k l0 a1 0
set_option maxHeartbeats 8000000 in
set_option maxRecDepth 100000 in
theorem spec_l1Has.calls (k : Nat) (A0 : Option Addr) (c0 : Nat) (l0 : List Int) (a1 : Int) (r : Bool) (w : World) (hr0 : Kd.C (Kd.int .i64) w A0 l0.length l0) (hc0 : l0.length ≤ c0) (h : spec_l1Has.f k l0 a1 = some r) :
    Calls Tryd.prog 117 #[.slice A0 l0.length c0, .int .i64 a1] w fun e w' => e = .returned (.bool r) ∧ Drawn0 w w' := by
 have HR0 := am hr0
 have HC0 := am hc0
 clear hr0 hc0
 have H : (spec_l1Has.l0 k l0 a1 0) = some r := h
 clear h
 have H' := am H
 clear H
 go_enter Tryd.func117, Tryd.ntmps117
 go_wp2
 go_loopg [5] k (fun kq v5 w' => ∃ (x5_1 : Int), v5 = .int .i64 x5_1 ∧ Aside0 (spec_l1Has.l0 kq l0 a1 x5_1 = some r) ∧ Aside0 (kq ≤ k) ∧ Drawn0 w w')
 case atStart => exact ⟨(0), (by first | rfl | (simp; done) | (simp [*]; done)), H', ⟨Nat.le_refl _⟩, by repeat (first | exact Drawn0.refl _ | apply Drawn0.step)⟩
 case round =>
  clear H'
  try clear c1
  try clear p2
  obtain ⟨x5_1, rfl, HA, HK1, ⟨m1, rfl⟩⟩ := hrel
  cases gk with
  | zero => exact absurd HA.out (by simp [spec_l1Has.l0])
  | succ k1 =>
   have H := HA.out
   clear HA
   simp only [spec_l1Has.l0] at H
   by_cases c3 : x5_1 < (l0.length : Int)
   ·rw [if_pos c3] at H
    have c3b0 : decide (x5_1 < (l0.length : Int)) = true := decide_eq_true c3
    clear c3
    by_cases c4 : 0 ≤ x5_1
    ·rw [if_pos c4] at H
     have c4b0 : decide (0 ≤ x5_1) = true := decide_eq_true c4
     clear c4
     by_cases c5 : (rd l0 x5_1) = a1
     ·rw [if_pos c5] at H
      have c5b0 : ((rd l0 x5_1) == a1) = true := beq_iff_eq.mpr c5
      have c5b1 : ((rd l0 x5_1) != a1) = false := bne_eq_false_iff_eq.mpr c5
      clear c5
      obtain rfl := Option.some.inj H
      have p809 : 0 ≤ (x5_1 : Int) := of_decide_eq_true (by assumption)
      have q809 : x5_1 < (l0.length : Int) := of_decide_eq_true (by assumption)
      obtain ⟨ad809, e809, hx809_0⟩ := Kd.at_int HR0.out x5_1 p809 q809
      cases e809
      replace p809 := eq_true p809
      replace q809 := eq_true q809
      go_wp2
      go_ret
      exact ⟨by first | rfl | (simp; done) | (simp [*]; done), by repeat (first | exact Drawn0.refl _ | apply Drawn0.step)⟩
     ·rw [if_neg c5] at H
      have c5b0 : ((rd l0 x5_1) == a1) = false := beq_eq_false_iff_ne.mpr c5
      have c5b1 : ((rd l0 x5_1) != a1) = true := bne_iff_ne.mpr c5
      have H' := am H
      clear H
      have p809 : 0 ≤ (x5_1 : Int) := of_decide_eq_true (by assumption)
      have q809 : x5_1 < (l0.length : Int) := of_decide_eq_true (by assumption)
      obtain ⟨ad809, e809, hx809_0⟩ := Kd.at_int HR0.out x5_1 p809 q809
      cases e809
      replace p809 := eq_true p809
      replace q809 := eq_true q809
      go_wp2
      go_roundg k1
      case measure => have := HK1.out; omega
      case rel => exact ⟨(wrap64 (x5_1 + 1)), (by first | rfl | (simp; done) | (simp [*]; done)), H', ⟨by have := HK1.out; omega⟩, by repeat (first | exact Drawn0.refl _ | apply Drawn0.step)⟩
    ·rw [if_neg c4] at H
     exact absurd H (by simp)
   ·rw [if_neg c3] at H
    have c3b0 : decide (x5_1 < (l0.length : Int)) = false := decide_eq_false c3
    clear c3
    obtain rfl := Option.some.inj H
    go_wp2
    go_ret
    exact ⟨by first | rfl | (simp; done) | (simp [*]; done), by repeat (first | exact Drawn0.refl _ | apply Drawn0.step)⟩
def impl_AreWatched.f (k : Nat) (l0_0 : List (List Int)) (l1 : List (S28)) : Option (Bool × Bool) := (impl_IsMemory.f k l0_0).bind fun t885 => (if t885 = true then ((impl_areWatched.f k l0_0 l1).bind fun t886 => (some (t886, true))) else (some (false, false)))
set_option maxHeartbeats 8000000 in
set_option maxRecDepth 100000 in
theorem impl_AreWatched.calls (k : Nat) (A0_0 : Option Addr) (c0_0 : Nat) (l0_0 : List (List Int)) (A1 : Option Addr) (c1 : Nat) (l1 : List (S28)) (r1 : Bool) (r2 : Bool) (w : World) (hr0_0 : Kd.C (Kd.slice 5 (Kd.int .u8)) w A0_0 l0_0.length l0_0) (hc0_0 : l0_0.length ≤ c0_0) (hr1 : Kd.C k28 w A1 l1.length l1) (hc1 : l1.length ≤ c1) (h : impl_AreWatched.f k l0_0 l1 = some (r1, r2)) :
    Calls Tryd.prog 24 #[.agg #[.slice A0_0 l0_0.length c0_0], .slice A1 l1.length c1] w fun e w' => e = .returned (.tuple #[.bool r1, .bool r2]) ∧ Below w.heap.size w w' := by
 have hu26 := Tryd.underlying26
 have HR0_0 := am hr0_0
 have HC0_0 := am hc0_0
 clear hr0_0 hc0_0
 have HR1 := am hr1
 have HC1 := am hc1
 clear hr1 hc1
 have HB := am (Below.refl w.heap.size w)
 have H : ((impl_IsMemory.f k l0_0).bind fun t885 => (if t885 = true then ((impl_areWatched.f k l0_0 l1).bind fun t886 => (some (t886, true))) else (some (false, false)))) = some (r1, r2) := h
 clear h
 replace H := Option.bind_eq_some_iff.mp H
 obtain ⟨t885, A30, H⟩ := H
 try dsimp only at H
 have A3 := am A30
 clear A30
 by_cases c4 : t885 = true
 ·subst c4
  have H1 : ((impl_areWatched.f k l0_0 l1).bind fun t886 => (some (t886, true))) = some (r1, r2) := by rw [if_pos rfl] at H; exact H
  clear H
  have H := H1
  clear H1
  replace H := Option.bind_eq_some_iff.mp H
  obtain ⟨t886, A50, H⟩ := H
  try dsimp only at H
  have A5 := am A50
  clear A50
  simp only [Option.some.injEq, Prod.mk.injEq] at H
  obtain ⟨rfl, rfl⟩ := H
  go_enter Tryd.func24, Tryd.ntmps24
  go_wp2_with (first | ((with_reducible refine gate_dst (N := 2) rfl ?_); refine bE 2 #[.slice A0_0 l0_0.length c0_0] 26 ?_; intro gb884 hg w6 hbox hb; have BK884 := am hbox; have GW884 := gB hg HB; have GE884 := gB hg HB; replace HB := hB hb HB; clear hb hbox hg; obtain ⟨_, _⟩ := z1 BK884) | ((with_reducible refine gate_callee (f := 52) rfl ?_); refine gL 7 Tryd.func52 #[.agg #[.slice A0_0 l0_0.length c0_0]] ?_; (with_reducible refine (impl_IsMemory.calls k _ _ l0_0 true _ ?side1 ?side2 A3.out).mono ?_); (case side1 => exact cc (Kd.C_below HR0_0.out HB.out)); (case side2 => exact HC0_0.out); rintro e w8 ⟨rfl, hb⟩; refine ⟨_, rfl, ?_⟩; replace BK884 := bB hb BK884; replace HB := hB hb HB; (try clear hb); obtain ⟨_, _⟩ := z1 BK884) | ((with_reducible refine gate_callee (f := 72) rfl ?_); refine gL 11 Tryd.func72 #[.agg #[.slice A0_0 l0_0.length c0_0], .slice A1 l1.length c1] ?_; (with_reducible refine (impl_areWatched.calls k _ _ l0_0 _ _ l1 t886 _ ?side1 ?side2 ?side3 ?side4 A5.out).mono ?_); (case side1 => exact cc (Kd.C_below HR0_0.out HB.out)); (case side2 => exact HC0_0.out); (case side3 => exact cc (Kd.C_below HR1.out HB.out)); (case side4 => exact HC1.out); rintro e w10 ⟨rfl, hb⟩; refine ⟨_, rfl, ?_⟩; replace BK884 := bB hb BK884; replace HB := hB hb HB; (try clear hb)))
  go_ret2
  exact ⟨by first | rfl | (simp [*, errW_none, errW_some] <;> rfl), bs HB⟩
 ·replace c4 := Bool.eq_false_iff.mpr c4
  subst c4
  have H1 : (some (false, false)) = some (r1, r2) := by rw [if_neg (show ¬ (false = true) by decide)] at H; exact H
  clear H
  have H := H1
  clear H1
  simp only [Option.some.injEq, Prod.mk.injEq] at H
  obtain ⟨rfl, rfl⟩ := H
  go_enter Tryd.func24, Tryd.ntmps24
  go_wp2_with (first | ((with_reducible refine gate_dst (N := 2) rfl ?_); refine bE 2 #[.slice A0_0 l0_0.length c0_0] 26 ?_; intro gb884 hg w11 hbox hb; have BK884 := am hbox; have GW884 := gB hg HB; have GE884 := gB hg HB; replace HB := hB hb HB; clear hb hbox hg; obtain ⟨_, _⟩ := z1 BK884) | ((with_reducible refine gate_callee (f := 52) rfl ?_); refine gL 7 Tryd.func52 #[.agg #[.slice A0_0 l0_0.length c0_0]] ?_; (with_reducible refine (impl_IsMemory.calls k _ _ l0_0 false _ ?side1 ?side2 A3.out).mono ?_); (case side1 => exact cc (Kd.C_below HR0_0.out HB.out)); (case side2 => exact HC0_0.out); rintro e w13 ⟨rfl, hb⟩; refine ⟨_, rfl, ?_⟩; replace BK884 := bB hb BK884; replace HB := hB hb HB; (try clear hb)))
  go_ret2
  exact ⟨by first | rfl | (simp [*, errW_none, errW_some] <;> rfl), bs HB⟩
def spec_AreWatched.f (k : Nat) (l0_0 : List (List Int)) (l1 : List (S28)) : Option (Bool × Bool) := (spec_l2Memory.f k l0_0).bind fun t888 => (if t888 = true then ((spec_l3Watched.f k l0_0 l1).bind fun t889 => (some (t889, true))) else (some (false, false)))
set_option maxHeartbeats 8000000 in
set_option maxRecDepth 100000 in
theorem spec_AreWatched.calls (k : Nat) (A0_0 : Option Addr) (c0_0 : Nat) (l0_0 : List (List Int)) (A1 : Option Addr) (c1 : Nat) (l1 : List (S28)) (r1 : Bool) (r2 : Bool) (w : World) (hr0_0 : Kd.C (Kd.slice 5 (Kd.int .u8)) w A0_0 l0_0.length l0_0) (hc0_0 : l0_0.length ≤ c0_0) (hr1 : Kd.C k28 w A1 l1.length l1) (hc1 : l1.length ≤ c1) (h : spec_AreWatched.f k l0_0 l1 = some (r1, r2)) :
    Calls Tryd.prog 25 #[.agg #[.slice A0_0 l0_0.length c0_0], .slice A1 l1.length c1] w fun e w' => e = .returned (.tuple #[.bool r1, .bool r2]) ∧ Below w.heap.size w w' := by
 have hu26 := Tryd.underlying26
 have HR0_0 := am hr0_0
 have HC0_0 := am hc0_0
 clear hr0_0 hc0_0
 have HR1 := am hr1
 have HC1 := am hc1
 clear hr1 hc1
 have HB := am (Below.refl w.heap.size w)
 have H : ((spec_l2Memory.f k l0_0).bind fun t888 => (if t888 = true then ((spec_l3Watched.f k l0_0 l1).bind fun t889 => (some (t889, true))) else (some (false, false)))) = some (r1, r2) := h
 clear h
 replace H := Option.bind_eq_some_iff.mp H
 obtain ⟨t888, A30, H⟩ := H
 try dsimp only at H
 have A3 := am A30
 clear A30
 by_cases c4 : t888 = true
 ·subst c4
  have H1 : ((spec_l3Watched.f k l0_0 l1).bind fun t889 => (some (t889, true))) = some (r1, r2) := by rw [if_pos rfl] at H; exact H
  clear H
  have H := H1
  clear H1
  replace H := Option.bind_eq_some_iff.mp H
  obtain ⟨t889, A50, H⟩ := H
  try dsimp only at H
  have A5 := am A50
  clear A50
  simp only [Option.some.injEq, Prod.mk.injEq] at H
  obtain ⟨rfl, rfl⟩ := H
  go_enter Tryd.func25, Tryd.ntmps25
  go_wp2_with (first | ((with_reducible refine gate_dst (N := 2) rfl ?_); refine bE 2 #[.slice A0_0 l0_0.length c0_0] 26 ?_; intro gb887 hg w6 hbox hb; have BK887 := am hbox; have GW887 := gB hg HB; have GE887 := gB hg HB; replace HB := hB hb HB; clear hb hbox hg; obtain ⟨_, _⟩ := z1 BK887) | ((with_reducible refine gate_callee (f := 85) rfl ?_); refine gL 7 Tryd.func85 #[.agg #[.slice A0_0 l0_0.length c0_0]] ?_; (with_reducible refine (spec_l2Memory.calls k _ _ l0_0 true _ ?side1 ?side2 A3.out).mono ?_); (case side1 => exact cc (Kd.C_below HR0_0.out HB.out)); (case side2 => exact HC0_0.out); rintro e w8 ⟨rfl, hb⟩; refine ⟨_, rfl, ?_⟩; replace BK887 := bB hb BK887; replace HB := hB hb HB; (try clear hb); obtain ⟨_, _⟩ := z1 BK887) | ((with_reducible refine gate_callee (f := 77) rfl ?_); refine gL 11 Tryd.func77 #[.agg #[.slice A0_0 l0_0.length c0_0], .slice A1 l1.length c1] ?_; (with_reducible refine (spec_l3Watched.calls k _ _ l0_0 _ _ l1 t889 _ ?side1 ?side2 ?side3 ?side4 A5.out).mono ?_); (case side1 => exact cc (Kd.C_below HR0_0.out HB.out)); (case side2 => exact HC0_0.out); (case side3 => exact cc (Kd.C_below HR1.out HB.out)); (case side4 => exact HC1.out); rintro e w10 ⟨rfl, hb⟩; refine ⟨_, rfl, ?_⟩; replace BK887 := bB hb BK887; replace HB := hB hb HB; (try clear hb)))
  go_ret2
  exact ⟨by first | rfl | (simp [*, errW_none, errW_some] <;> rfl), bs HB⟩
 ·replace c4 := Bool.eq_false_iff.mpr c4
  subst c4
  have H1 : (some (false, false)) = some (r1, r2) := by rw [if_neg (show ¬ (false = true) by decide)] at H; exact H
  clear H
  have H := H1
  clear H1
  simp only [Option.some.injEq, Prod.mk.injEq] at H
  obtain ⟨rfl, rfl⟩ := H
  go_enter Tryd.func25, Tryd.ntmps25
  go_wp2_with (first | ((with_reducible refine gate_dst (N := 2) rfl ?_); refine bE 2 #[.slice A0_0 l0_0.length c0_0] 26 ?_; intro gb887 hg w11 hbox hb; have BK887 := am hbox; have GW887 := gB hg HB; have GE887 := gB hg HB; replace HB := hB hb HB; clear hb hbox hg; obtain ⟨_, _⟩ := z1 BK887) | ((with_reducible refine gate_callee (f := 85) rfl ?_); refine gL 7 Tryd.func85 #[.agg #[.slice A0_0 l0_0.length c0_0]] ?_; (with_reducible refine (spec_l2Memory.calls k _ _ l0_0 false _ ?side1 ?side2 A3.out).mono ?_); (case side1 => exact cc (Kd.C_below HR0_0.out HB.out)); (case side2 => exact HC0_0.out); rintro e w13 ⟨rfl, hb⟩; refine ⟨_, rfl, ?_⟩; replace BK887 := bB hb BK887; replace HB := hB hb HB; (try clear hb)))
  go_ret2
  exact ⟨by first | rfl | (simp [*, errW_none, errW_some] <;> rfl), bs HB⟩
def laws_vInts.l0 : Nat → List Int → List Int → Int → Option (Bool)
  | 0, _, _, _ => none
  | k + 1, x0, x1, x5 => if x5 < (x0.length : Int) then (if 0 ≤ x5 then (if x5 < (x1.length : Int) then (if (rd x0 x5) = (rd x1 x5) then (laws_vInts.l0 k x0 x1 (wrap64 (x5 + 1))) else (some false)) else (none)) else (none)) else (some true)
def laws_vInts.f (k : Nat) (l0 : List Int) (l1 : List Int) : Option (Bool) := if (l0.length : Int) = (l1.length : Int) then (laws_vInts.l0 k l0 l1 0) else (some false)
set_option maxHeartbeats 8000000 in
set_option maxRecDepth 100000 in
theorem laws_vInts.calls (k : Nat) (A0 : Option Addr) (c0 : Nat) (l0 : List Int) (A1 : Option Addr) (c1 : Nat) (l1 : List Int) (r : Bool) (w : World) (hr0 : Kd.C (Kd.int .i64) w A0 l0.length l0) (hc0 : l0.length ≤ c0) (hr1 : Kd.C (Kd.int .i64) w A1 l1.length l1) (hc1 : l1.length ≤ c1) (h : laws_vInts.f k l0 l1 = some r) :
    Calls Tryd.prog 26 #[.slice A0 l0.length c0, .slice A1 l1.length c1] w fun e w' => e = .returned (.bool r) ∧ Drawn0 w w' := by
 have HR0 := am hr0
 have HC0 := am hc0
 clear hr0 hc0
 have HR1 := am hr1
 have HC1 := am hc1
 clear hr1 hc1
 have H : (if (l0.length : Int) = (l1.length : Int) then (laws_vInts.l0 k l0 l1 0) else (some false)) = some r := h
 clear h
 by_cases c3 : (l0.length : Int) = (l1.length : Int)
 ·rw [if_pos c3] at H
  have c3b0 : ((l0.length : Int) == (l1.length : Int)) = true := beq_iff_eq.mpr c3
  have c3b1 : ((l0.length : Int) != (l1.length : Int)) = false := bne_eq_false_iff_eq.mpr c3
  have c3b2 : (l0.length == l1.length) = true := by first | simpa using c3 | (simp at c3 ⊢; omega)
  clear c3
  have H' := am H
  clear H
  go_enter Tryd.func26, Tryd.ntmps26
  go_wp2
  repeat (go_quiet (fail); try go_wp2)
  go_loopg [5] k (fun kq v5 w' => ∃ (x5_1 : Int), v5 = .int .i64 x5_1 ∧ Aside0 (laws_vInts.l0 kq l0 l1 x5_1 = some r) ∧ Aside0 (kq ≤ k) ∧ Drawn0 w w')
  case atStart => exact ⟨(0), (by first | rfl | (simp; done) | (simp [*]; done)), H', ⟨Nat.le_refl _⟩, by repeat (first | exact Drawn0.refl _ | apply Drawn0.step)⟩
  case round =>
   clear H'
   try clear c1
   try clear c2
   try clear p2
   try clear c3
   try clear c3b0
   try clear c3b1
   try clear c3b2
   obtain ⟨x5_1, rfl, HA, HK1, ⟨m1, rfl⟩⟩ := hrel
   cases gk with
   | zero => exact absurd HA.out (by simp [laws_vInts.l0])
   | succ k1 =>
    have H := HA.out
    clear HA
    simp only [laws_vInts.l0] at H
    by_cases c4 : x5_1 < (l0.length : Int)
    ·rw [if_pos c4] at H
     have c4b0 : decide (x5_1 < (l0.length : Int)) = true := decide_eq_true c4
     clear c4
     by_cases c5 : 0 ≤ x5_1
     ·rw [if_pos c5] at H
      have c5b0 : decide (0 ≤ x5_1) = true := decide_eq_true c5
      clear c5
      by_cases c6 : x5_1 < (l1.length : Int)
      ·rw [if_pos c6] at H
       have c6b0 : decide (x5_1 < (l1.length : Int)) = true := decide_eq_true c6
       clear c6
       by_cases c7 : (rd l0 x5_1) = (rd l1 x5_1)
       ·rw [if_pos c7] at H
        have c7b0 : ((rd l0 x5_1) == (rd l1 x5_1)) = true := beq_iff_eq.mpr c7
        have c7b1 : ((rd l0 x5_1) != (rd l1 x5_1)) = false := bne_eq_false_iff_eq.mpr c7
        clear c7
        have H' := am H
        clear H
        have p890 : 0 ≤ (x5_1 : Int) := of_decide_eq_true (by assumption)
        have q890 : x5_1 < (l0.length : Int) := of_decide_eq_true (by assumption)
        obtain ⟨ad890, e890, hx890_0⟩ := Kd.at_int HR0.out x5_1 p890 q890
        cases e890
        replace p890 := eq_true p890
        replace q890 := eq_true q890
        have p891 : 0 ≤ (x5_1 : Int) := of_decide_eq_true (by assumption)
        have q891 : x5_1 < (l1.length : Int) := of_decide_eq_true (by assumption)
        obtain ⟨ad891, e891, hx891_0⟩ := Kd.at_int HR1.out x5_1 p891 q891
        cases e891
        replace p891 := eq_true p891
        replace q891 := eq_true q891
        go_wp2
        repeat (go_quiet (fail); try go_wp2)
        go_roundg k1
        case measure => have := HK1.out; omega
        case rel => exact ⟨(wrap64 (x5_1 + 1)), (by first | rfl | (simp; done) | (simp [*]; done)), H', ⟨by have := HK1.out; omega⟩, by repeat (first | exact Drawn0.refl _ | apply Drawn0.step)⟩
       ·rw [if_neg c7] at H
        have c7b0 : ((rd l0 x5_1) == (rd l1 x5_1)) = false := beq_eq_false_iff_ne.mpr c7
        have c7b1 : ((rd l0 x5_1) != (rd l1 x5_1)) = true := bne_iff_ne.mpr c7
        obtain rfl := Option.some.inj H
        have p890 : 0 ≤ (x5_1 : Int) := of_decide_eq_true (by assumption)
        have q890 : x5_1 < (l0.length : Int) := of_decide_eq_true (by assumption)
        obtain ⟨ad890, e890, hx890_0⟩ := Kd.at_int HR0.out x5_1 p890 q890
        cases e890
        replace p890 := eq_true p890
        replace q890 := eq_true q890
        have p891 : 0 ≤ (x5_1 : Int) := of_decide_eq_true (by assumption)
        have q891 : x5_1 < (l1.length : Int) := of_decide_eq_true (by assumption)
        obtain ⟨ad891, e891, hx891_0⟩ := Kd.at_int HR1.out x5_1 p891 q891
        cases e891
        replace p891 := eq_true p891
        replace q891 := eq_true q891
        go_wp2
        repeat (go_quiet (fail); try go_wp2)
        go_ret
        exact ⟨by first | rfl | (simp; done) | (simp [*]; done), by repeat (first | exact Drawn0.refl _ | apply Drawn0.step)⟩
      ·rw [if_neg c6] at H
       exact absurd H (by simp)
     ·rw [if_neg c5] at H
      exact absurd H (by simp)
    ·rw [if_neg c4] at H
     have c4b0 : decide (x5_1 < (l0.length : Int)) = false := decide_eq_false c4
     clear c4
     obtain rfl := Option.some.inj H
     go_wp2
     repeat (go_quiet (fail); try go_wp2)
     go_ret
     exact ⟨by first | rfl | (simp; done) | (simp [*]; done), by repeat (first | exact Drawn0.refl _ | apply Drawn0.step)⟩
 ·rw [if_neg c3] at H
  have c3b0 : ((l0.length : Int) == (l1.length : Int)) = false := beq_eq_false_iff_ne.mpr c3
  have c3b1 : ((l0.length : Int) != (l1.length : Int)) = true := bne_iff_ne.mpr c3
  have c3b2 : (l0.length == l1.length) = false := by first | simpa using c3 | (simp at c3 ⊢; omega)
  obtain rfl := Option.some.inj H
  go_enter Tryd.func26, Tryd.ntmps26
  go_wp2
  repeat (go_quiet (fail); try go_wp2)
  go_ret
  exact ⟨by first | rfl | (simp; done) | (simp [*]; done), by repeat (first | exact Drawn0.refl _ | apply Drawn0.step)⟩
def laws_vTable.l0 : Nat → List (List Int) → List (List Int) → Int → Option (Bool)
  | 0, _, _, _ => none
  | k + 1, x0, x1, x5 => if x5 < (x0.length : Int) then (if 0 ≤ x5 then (if x5 < (x1.length : Int) then ((laws_vInts.f k (rd_L10 x0 x5) (rd_L10 x1 x5)).bind fun t894 => (if t894 = true then (laws_vTable.l0 k x0 x1 (wrap64 (x5 + 1))) else (some false))) else (none)) else (none)) else (some true)
def laws_vTable.f (k : Nat) (l0 : List (List Int)) (l1 : List (List Int)) : Option (Bool) := if (l0.length : Int) = (l1.length : Int) then (laws_vTable.l0 k l0 l1 0) else (some false)
set_option maxHeartbeats 8000000 in
set_option maxRecDepth 100000 in
theorem laws_vTable.calls (k : Nat) (A0 : Option Addr) (c0 : Nat) (l0 : List (List Int)) (A1 : Option Addr) (c1 : Nat) (l1 : List (List Int)) (r : Bool) (w : World) (hr0 : Kd.C (Kd.slice 3 (Kd.int .i64)) w A0 l0.length l0) (hc0 : l0.length ≤ c0) (hr1 : Kd.C (Kd.slice 3 (Kd.int .i64)) w A1 l1.length l1) (hc1 : l1.length ≤ c1) (h : laws_vTable.f k l0 l1 = some r) :
    Calls Tryd.prog 28 #[.slice A0 l0.length c0, .slice A1 l1.length c1] w fun e w' => e = .returned (.bool r) ∧ Drawn0 w w' := by
 have HR0 := am hr0
 have HC0 := am hc0
 clear hr0 hc0
 have HR1 := am hr1
 have HC1 := am hc1
 clear hr1 hc1
 have H : (if (l0.length : Int) = (l1.length : Int) then (laws_vTable.l0 k l0 l1 0) else (some false)) = some r := h
 clear h
 by_cases c3 : (l0.length : Int) = (l1.length : Int)
 ·rw [if_pos c3] at H
  have c3b0 : ((l0.length : Int) == (l1.length : Int)) = true := beq_iff_eq.mpr c3
  have c3b1 : ((l0.length : Int) != (l1.length : Int)) = false := bne_eq_false_iff_eq.mpr c3
  have c3b2 : (l0.length == l1.length) = true := by first | simpa using c3 | (simp at c3 ⊢; omega)
  clear c3
  have H' := am H
  clear H
  go_enter Tryd.func28, Tryd.ntmps28
  go_wp2
  repeat (go_quiet (fail); try go_wp2)
  go_loopg [5] k (fun kq v5 w' => ∃ (x5_1 : Int), v5 = .int .i64 x5_1 ∧ Aside0 (laws_vTable.l0 kq l0 l1 x5_1 = some r) ∧ Aside0 (kq ≤ k) ∧ Drawn0 w w')
  case atStart => exact ⟨(0), (by first | rfl | (simp; done) | (simp [*]; done)), H', ⟨Nat.le_refl _⟩, by repeat (first | exact Drawn0.refl _ | apply Drawn0.step)⟩
  case round =>
   clear H'
   try clear c1
   try clear c2
   try clear p2
   try clear c3
   try clear c3b0
   try clear c3b1
   try clear c3b2
   obtain ⟨x5_1, rfl, HA, HK1, ⟨m1, rfl⟩⟩ := hrel
   cases gk with
   | zero => exact absurd HA.out (by simp [laws_vTable.l0])
   | succ k1 =>
    have H := HA.out
    clear HA
    simp only [laws_vTable.l0] at H
    by_cases c4 : x5_1 < (l0.length : Int)
    ·rw [if_pos c4] at H
     have c4b0 : decide (x5_1 < (l0.length : Int)) = true := decide_eq_true c4
     clear c4
     by_cases c5 : 0 ≤ x5_1
     ·rw [if_pos c5] at H
      have c5b0 : decide (0 ≤ x5_1) = true := decide_eq_true c5
      clear c5
      by_cases c6 : x5_1 < (l1.length : Int)
      ·rw [if_pos c6] at H
       have c6b0 : decide (x5_1 < (l1.length : Int)) = true := decide_eq_true c6
       clear c6
       replace H := Option.bind_eq_some_iff.mp H
       obtain ⟨t894, A70, H⟩ := H
       try dsimp only at H
       have A7 := am A70
       clear A70
       by_cases c8 : t894 = true
       ·subst c8
        have H1 : (laws_vTable.l0 k1 l0 l1 (wrap64 (x5_1 + 1))) = some r := by rw [if_pos rfl] at H; exact H
        clear H
        have H := H1
        clear H1
        have H' := am H
        clear H
        have p892 : 0 ≤ (x5_1 : Int) := of_decide_eq_true (by assumption)
        have q892 : x5_1 < (l0.length : Int) := of_decide_eq_true (by assumption)
        obtain ⟨ad892, A892_0, c892_0, e892, hx892_0, hl892_0, hi892_0⟩ := at_L10 HR0.out x5_1 p892 q892
        cases e892
        have HR892_0 := am hi892_0
        have HC892_0 := am hl892_0
        clear hi892_0 hl892_0
        replace p892 := eq_true p892
        replace q892 := eq_true q892
        have p893 : 0 ≤ (x5_1 : Int) := of_decide_eq_true (by assumption)
        have q893 : x5_1 < (l1.length : Int) := of_decide_eq_true (by assumption)
        obtain ⟨ad893, A893_0, c893_0, e893, hx893_0, hl893_0, hi893_0⟩ := at_L10 HR1.out x5_1 p893 q893
        cases e893
        have HR893_0 := am hi893_0
        have HC893_0 := am hl893_0
        clear hi893_0 hl893_0
        replace p893 := eq_true p893
        replace q893 := eq_true q893
        go_wp2_with (first | (go_at_call 26; (with_reducible refine (laws_vInts.calls k1 _ _ (rd_L10 l0 x5_1) _ _ (rd_L10 l1 x5_1) true _ ?side1 ?side2 ?side3 ?side4 A7.out).mono ?_); (case side1 => exact cc HR892_0.out); (case side2 => exact HC892_0.out); (case side3 => exact cc HR893_0.out); (case side4 => exact HC893_0.out); rintro e w' ⟨rfl, ⟨nd, rfl⟩⟩; (try first | exact ⟨rfl, _, World.drewN_drewN _ _ _⟩ | exact ⟨rfl, _, Eq.trans (World.drewN_drewN _ _ _) (congrArg (World.drewN _) (Nat.add_assoc _ _ _))⟩)))
        repeat (go_quiet (first | (go_at_call 26; (with_reducible refine (laws_vInts.calls k1 _ _ (rd_L10 l0 x5_1) _ _ (rd_L10 l1 x5_1) true _ ?side1 ?side2 ?side3 ?side4 A7.out).mono ?_); (case side1 => exact cc HR892_0.out); (case side2 => exact HC892_0.out); (case side3 => exact cc HR893_0.out); (case side4 => exact HC893_0.out); rintro e w' ⟨rfl, ⟨nd, rfl⟩⟩; (try first | exact ⟨rfl, _, World.drewN_drewN _ _ _⟩ | exact ⟨rfl, _, Eq.trans (World.drewN_drewN _ _ _) (congrArg (World.drewN _) (Nat.add_assoc _ _ _))⟩))); try go_wp2_with (first | (go_at_call 26; (with_reducible refine (laws_vInts.calls k1 _ _ (rd_L10 l0 x5_1) _ _ (rd_L10 l1 x5_1) true _ ?side1 ?side2 ?side3 ?side4 A7.out).mono ?_); (case side1 => exact cc HR892_0.out); (case side2 => exact HC892_0.out); (case side3 => exact cc HR893_0.out); (case side4 => exact HC893_0.out); rintro e w' ⟨rfl, ⟨nd, rfl⟩⟩; (try first | exact ⟨rfl, _, World.drewN_drewN _ _ _⟩ | exact ⟨rfl, _, Eq.trans (World.drewN_drewN _ _ _) (congrArg (World.drewN _) (Nat.add_assoc _ _ _))⟩))))
        go_roundg k1
        case measure => have := HK1.out; omega
        case rel => exact ⟨(wrap64 (x5_1 + 1)), (by first | rfl | (simp; done) | (simp [*]; done)), H', ⟨by have := HK1.out; omega⟩, by repeat (first | exact Drawn0.refl _ | apply Drawn0.step)⟩
       ·replace c8 := Bool.eq_false_iff.mpr c8
        subst c8
        have H1 : (some false) = some r := by rw [if_neg (show ¬ (false = true) by decide)] at H; exact H
        clear H
        have H := H1
        clear H1
        obtain rfl := Option.some.inj H
        have p892 : 0 ≤ (x5_1 : Int) := of_decide_eq_true (by assumption)
        have q892 : x5_1 < (l0.length : Int) := of_decide_eq_true (by assumption)
        obtain ⟨ad892, A892_0, c892_0, e892, hx892_0, hl892_0, hi892_0⟩ := at_L10 HR0.out x5_1 p892 q892
        cases e892
        have HR892_0 := am hi892_0
        have HC892_0 := am hl892_0
        clear hi892_0 hl892_0
        replace p892 := eq_true p892
        replace q892 := eq_true q892
        have p893 : 0 ≤ (x5_1 : Int) := of_decide_eq_true (by assumption)
        have q893 : x5_1 < (l1.length : Int) := of_decide_eq_true (by assumption)
        obtain ⟨ad893, A893_0, c893_0, e893, hx893_0, hl893_0, hi893_0⟩ := at_L10 HR1.out x5_1 p893 q893
        cases e893
        have HR893_0 := am hi893_0
        have HC893_0 := am hl893_0
        clear hi893_0 hl893_0
        replace p893 := eq_true p893
        replace q893 := eq_true q893
        go_wp2_with (first | (go_at_call 26; (with_reducible refine (laws_vInts.calls k1 _ _ (rd_L10 l0 x5_1) _ _ (rd_L10 l1 x5_1) false _ ?side1 ?side2 ?side3 ?side4 A7.out).mono ?_); (case side1 => exact cc HR892_0.out); (case side2 => exact HC892_0.out); (case side3 => exact cc HR893_0.out); (case side4 => exact HC893_0.out); rintro e w' ⟨rfl, ⟨nd, rfl⟩⟩; (try first | exact ⟨rfl, _, World.drewN_drewN _ _ _⟩ | exact ⟨rfl, _, Eq.trans (World.drewN_drewN _ _ _) (congrArg (World.drewN _) (Nat.add_assoc _ _ _))⟩)))
        repeat (go_quiet (first | (go_at_call 26; (with_reducible refine (laws_vInts.calls k1 _ _ (rd_L10 l0 x5_1) _ _ (rd_L10 l1 x5_1) false _ ?side1 ?side2 ?side3 ?side4 A7.out).mono ?_); (case side1 => exact cc HR892_0.out); (case side2 => exact HC892_0.out); (case side3 => exact cc HR893_0.out); (case side4 => exact HC893_0.out); rintro e w' ⟨rfl, ⟨nd, rfl⟩⟩; (try first | exact ⟨rfl, _, World.drewN_drewN _ _ _⟩ | exact ⟨rfl, _, Eq.trans (World.drewN_drewN _ _ _) (congrArg (World.drewN _) (Nat.add_assoc _ _ _))⟩))); try go_wp2_with (first | (go_at_call 26; (with_reducible refine (laws_vInts.calls k1 _ _ (rd_L10 l0 x5_1) _ _ (rd_L10 l1 x5_1) false _ ?side1 ?side2 ?side3 ?side4 A7.out).mono ?_); (case side1 => exact cc HR892_0.out); (case side2 => exact HC892_0.out); (case side3 => exact cc HR893_0.out); (case side4 => exact HC893_0.out); rintro e w' ⟨rfl, ⟨nd, rfl⟩⟩; (try first | exact ⟨rfl, _, World.drewN_drewN _ _ _⟩ | exact ⟨rfl, _, Eq.trans (World.drewN_drewN _ _ _) (congrArg (World.drewN _) (Nat.add_assoc _ _ _))⟩))))
        go_ret
        exact ⟨by first | rfl | (simp; done) | (simp [*]; done), by repeat (first | exact Drawn0.refl _ | apply Drawn0.step)⟩
      ·rw [if_neg c6] at H
       exact absurd H (by simp)
     ·rw [if_neg c5] at H
      exact absurd H (by simp)
    ·rw [if_neg c4] at H
     have c4b0 : decide (x5_1 < (l0.length : Int)) = false := decide_eq_false c4
     clear c4
     obtain rfl := Option.some.inj H
     go_wp2
     repeat (go_quiet (fail); try go_wp2)
     go_ret
     exact ⟨by first | rfl | (simp; done) | (simp [*]; done), by repeat (first | exact Drawn0.refl _ | apply Drawn0.step)⟩
 ·rw [if_neg c3] at H
  have c3b0 : ((l0.length : Int) == (l1.length : Int)) = false := beq_eq_false_iff_ne.mpr c3
  have c3b1 : ((l0.length : Int) != (l1.length : Int)) = true := bne_iff_ne.mpr c3
  have c3b2 : (l0.length == l1.length) = false := by first | simpa using c3 | (simp at c3 ⊢; omega)
  obtain rfl := Option.some.inj H
  go_enter Tryd.func28, Tryd.ntmps28
  go_wp2
  repeat (go_quiet (fail); try go_wp2)
  go_ret
  exact ⟨by first | rfl | (simp; done) | (simp [*]; done), by repeat (first | exact Drawn0.refl _ | apply Drawn0.step)⟩
def impl_AreApart.f (k : Nat) (l0_0 : List (List Int)) (a1_0 : Int) (a1_1 : Int) (a1_2 : Int) (a1_3 : Int) (a2_0 : Int) (a2_1 : Int) (a2_2 : Int) (a2_3 : Int) : Option (Bool × Bool) := (impl_areOn.f k l0_0 (([(⟨a1_0, a1_1, a1_2, a1_3⟩ : S28), (⟨a2_0, a2_1, a2_2, a2_3⟩ : S28)] : List (S28)))).bind fun t901 => (if t901 = true then ((impl_areShared.f a1_0 a1_1 a1_2 a1_3 a2_0 a2_1 a2_2 a2_3).bind fun t902 => (some (!t902, true))) else (some (false, false)))
set_option maxHeartbeats 8000000 in
set_option maxRecDepth 100000 in
theorem impl_AreApart.calls (k : Nat) (A0_0 : Option Addr) (c0_0 : Nat) (l0_0 : List (List Int)) (a1_0 : Int) (a1_1 : Int) (a1_2 : Int) (a1_3 : Int) (a2_0 : Int) (a2_1 : Int) (a2_2 : Int) (a2_3 : Int) (r1 : Bool) (r2 : Bool) (w : World) (hr0_0 : Kd.C (Kd.slice 5 (Kd.int .u8)) w A0_0 l0_0.length l0_0) (hc0_0 : l0_0.length ≤ c0_0) (h : impl_AreApart.f k l0_0 a1_0 a1_1 a1_2 a1_3 a2_0 a2_1 a2_2 a2_3 = some (r1, r2)) :
    Calls Tryd.prog 29 #[.agg #[.slice A0_0 l0_0.length c0_0], .agg #[.int .i64 a1_0, .int .i64 a1_1, .int .i64 a1_2, .int .i64 a1_3], .agg #[.int .i64 a2_0, .int .i64 a2_1, .int .i64 a2_2, .int .i64 a2_3]] w fun e w' => e = .returned (.tuple #[.bool r1, .bool r2]) ∧ Below w.heap.size w w' := by
 have hu26 := Tryd.underlying26
 have hu28 := Tryd.underlying28
 have HR0_0 := am hr0_0
 have HC0_0 := am hc0_0
 clear hr0_0 hc0_0
 have HB := am (Below.refl w.heap.size w)
 have H : ((impl_areOn.f k l0_0 (([(⟨a1_0, a1_1, a1_2, a1_3⟩ : S28), (⟨a2_0, a2_1, a2_2, a2_3⟩ : S28)] : List (S28)))).bind fun t901 => (if t901 = true then ((impl_areShared.f a1_0 a1_1 a1_2 a1_3 a2_0 a2_1 a2_2 a2_3).bind fun t902 => (some (!t902, true))) else (some (false, false)))) = some (r1, r2) := h
 clear h
 obtain ⟨y898, hy898⟩ : ∃ y_ : List (S28), y_ = (([(⟨a1_0, a1_1, a1_2, a1_3⟩ : S28), (⟨a2_0, a2_1, a2_2, a2_3⟩ : S28)] : List (S28))) := ⟨_, rfl⟩
 replace H : ((impl_areOn.f k l0_0 y898).bind fun t901 => (if t901 = true then ((impl_areShared.f a1_0 a1_1 a1_2 a1_3 a2_0 a2_1 a2_2 a2_3).bind fun t902 => (some (!t902, true))) else (some (false, false)))) = some (r1, r2) := by first | (rw [hy898]; with_reducible exact H) | (have H2_ := (Option.bind_some _ _).symm.trans H; rw [hy898]; with_reducible exact H2_) | (have H2_ := (Option.bind_some _ _).symm.trans H; with_reducible exact H2_) | with_reducible exact H | (rw [hy898]; exact H) | exact H
 have Ny898 := am hy898
 clear hy898
 replace H := Option.bind_eq_some_iff.mp H
 obtain ⟨t901, A40, H⟩ := H
 try dsimp only at H
 have A4 := am A40
 clear A40
 by_cases c5 : t901 = true
 ·subst c5
  have H1 : ((impl_areShared.f a1_0 a1_1 a1_2 a1_3 a2_0 a2_1 a2_2 a2_3).bind fun t902 => (some (!t902, true))) = some (r1, r2) := by rw [if_pos rfl] at H; exact H
  clear H
  have H := H1
  clear H1
  replace H := Option.bind_eq_some_iff.mp H
  obtain ⟨t902, A60, H⟩ := H
  try dsimp only at H
  have A6 := am A60
  clear A60
  simp only [Option.some.injEq, Prod.mk.injEq] at H
  obtain ⟨rfl, rfl⟩ := H
  go_enter Tryd.func29, Tryd.ntmps29
  go_wp2_with (first | ((with_reducible refine gate_dst (N := 3) rfl ?_); refine bE 3 #[.slice A0_0 l0_0.length c0_0] 26 ?_; intro gb895 hg w7 hbox hb; have BK895 := am hbox; have GW895 := gB hg HB; have GE895 := gB hg HB; replace HB := hB hb HB; clear hb hbox hg) | ((with_reducible refine gate_dst (N := 4) rfl ?_); refine bE 4 #[.int .i64 a1_0, .int .i64 a1_1, .int .i64 a1_2, .int .i64 a1_3] 28 ?_; intro gb896 hg w8 hbox hb; have BK896 := am hbox; have GW896 := gB hg HB; have GE896 := gB hg HB; replace HB := hB hb HB; have NB895_896 := nL hg BK895; have NB896_895 := nG hg BK895; replace BK895 := bB hb BK895; clear hb hbox hg) | ((with_reducible refine gate_dst (N := 5) rfl ?_); refine bE 5 #[.int .i64 a2_0, .int .i64 a2_1, .int .i64 a2_2, .int .i64 a2_3] 28 ?_; intro gb897 hg w9 hbox hb; have BK897 := am hbox; have GW897 := gB hg HB; have GE897 := gB hg HB; replace HB := hB hb HB; have NB895_897 := nL hg BK895; have NB897_895 := nG hg BK895; replace BK895 := bB hb BK895; have NB896_897 := nL hg BK896; have NB897_896 := nG hg BK896; replace BK896 := bB hb BK896; clear hb hbox hg; have hnb10 := NB895_896.out; have hnc10 := NB896_895.out; have hnb11 := NB895_897.out; have hnc11 := NB897_895.out; obtain ⟨_, _⟩ := z1 BK895; have hnb13 := NB896_897.out; have hnc13 := NB897_896.out; obtain ⟨_, _, _, _, _, _, _, _⟩ := z4 BK896; obtain ⟨_, _, _, _, _, _, _, _⟩ := z4 BK897) | ((with_reducible refine gate_dst (N := 11) rfl ?_); refine Kd.R_lit k28 _ 28 ?hg (N := 11) ?hd (xs := ([(⟨a1_0, a1_1, a1_2, a1_3⟩ : S28), (⟨a2_0, a2_1, a2_2, a2_3⟩ : S28)] : List (S28))) (inner := [.int .i64 a1_0, .int .i64 a1_1, .int .i64 a1_2, .int .i64 a1_3, .int .i64 a2_0, .int .i64 a2_1, .int .i64 a2_2, .int .i64 a2_3]) (ok := fun _ => True) (okp := fun _ => True) ?hr ?hp (fun _ hk => hk) trivial (Below.refl _ _) (Nat.le_refl _) (by simp) ?_; (case hd => rfl); (case hg => rfl); (case hr => first | (go_simp; done) | (go_simp; rfl)); (case hp => exact (Reps.c4 (show Kd.M k28 _ _ _ (⟨a1_0, a1_1, a1_2, a1_3⟩ : S28) [.int .i64 a1_0, .int .i64 a1_1, .int .i64 a1_2, .int .i64 a1_3] from (k28_mkM _ _ _ (⟨a1_0, a1_1, a1_2, a1_3⟩ : S28) )) (Reps.c4 (show Kd.M k28 _ _ _ (⟨a2_0, a2_1, a2_2, a2_3⟩ : S28) [.int .i64 a2_0, .int .i64 a2_1, .int .i64 a2_2, .int .i64 a2_3] from (k28_mkM _ _ _ (⟨a2_0, a2_1, a2_2, a2_3⟩ : S28) )) (Reps.none _ _)))); intro v899 w16 ho17 hb hg_ hnew_; clear hg_ hnew_; (first | rw [← Ny898.out] at ho17 | (simp only [Int.reduceToNat] at ho17; rw [← Ny898.out] at ho17)); have HO900 := am (Kd.R_lower (Kd.R_newB (Kd.R_newB ho17 (g := gb896) (o := .cells #[.int .i64 a1_0, .int .i64 a1_1, .int .i64 a1_2, .int .i64 a1_3] 28 (0, 0)) (kk BK896)) (g := gb897) (o := .cells #[.int .i64 a2_0, .int .i64 a2_1, .int .i64 a2_2, .int .i64 a2_3] 28 (0, 0)) (kk BK897)) (below_size (bs HB))); replace BK895 := bB hb BK895; replace BK896 := bB hb BK896; replace BK897 := bB hb BK897; replace HB := hB hb HB; clear hb ho17; obtain ⟨Ao18, co18, eo18⟩ := Kd.R_slice HO900.out; subst eo18) | ((with_reducible refine gate_callee (f := 63) rfl ?_); refine gL 12 Tryd.func63 #[.agg #[.slice A0_0 l0_0.length c0_0], .slice Ao18 y898.length co18] ?_; (with_reducible refine (impl_areOn.calls k _ _ l0_0 _ _ y898 true _ ?side1 ?side2 ?side3 ?side4 A4.out).mono ?_); (case side1 => exact cc (Kd.C_below HR0_0.out HB.out)); (case side2 => exact HC0_0.out); (case side3 => exact cc (Kd.R_reads' HO900.out).2.2); (case side4 => exact (Kd.R_reads' HO900.out).2.1); rintro e w19 ⟨rfl, hb⟩; refine ⟨_, rfl, ?_⟩; replace HO900 := rB hb HO900; replace BK895 := bB hb BK895; replace BK896 := bB hb BK896; replace BK897 := bB hb BK897; replace HB := hB hb HB; (try clear hb); obtain ⟨_, _, _, _, _, _, _, _⟩ := z4 BK896; obtain ⟨_, _, _, _, _, _, _, _⟩ := z4 BK897) | ((with_reducible refine gate_callee (f := 68) rfl ?_); refine gL 16 Tryd.func68 #[.agg #[.int .i64 a1_0, .int .i64 a1_1, .int .i64 a1_2, .int .i64 a1_3], .agg #[.int .i64 a2_0, .int .i64 a2_1, .int .i64 a2_2, .int .i64 a2_3]] ?_; (with_reducible refine (impl_areShared.calls a1_0 a1_1 a1_2 a1_3 a2_0 a2_1 a2_2 a2_3 t902 _ A6.out).mono ?_); rintro e w22 ⟨rfl, hb⟩; refine ⟨_, rfl, ?_⟩; replace HO900 := rB hb HO900; replace BK895 := bB hb BK895; replace BK896 := bB hb BK896; replace BK897 := bB hb BK897; replace HB := hB hb HB; (try clear hb)))
  go_ret2
  exact ⟨by first | rfl | (simp [*, errW_none, errW_some] <;> rfl), bs HB⟩
 ·replace c5 := Bool.eq_false_iff.mpr c5
  subst c5
  have H1 : (some (false, false)) = some (r1, r2) := by rw [if_neg (show ¬ (false = true) by decide)] at H; exact H
  clear H
  have H := H1
  clear H1
  simp only [Option.some.injEq, Prod.mk.injEq] at H
  obtain ⟨rfl, rfl⟩ := H
  go_enter Tryd.func29, Tryd.ntmps29
  go_wp2_with (first | ((with_reducible refine gate_dst (N := 3) rfl ?_); refine bE 3 #[.slice A0_0 l0_0.length c0_0] 26 ?_; intro gb895 hg w23 hbox hb; have BK895 := am hbox; have GW895 := gB hg HB; have GE895 := gB hg HB; replace HB := hB hb HB; clear hb hbox hg) | ((with_reducible refine gate_dst (N := 4) rfl ?_); refine bE 4 #[.int .i64 a1_0, .int .i64 a1_1, .int .i64 a1_2, .int .i64 a1_3] 28 ?_; intro gb896 hg w24 hbox hb; have BK896 := am hbox; have GW896 := gB hg HB; have GE896 := gB hg HB; replace HB := hB hb HB; have NB895_896 := nL hg BK895; have NB896_895 := nG hg BK895; replace BK895 := bB hb BK895; clear hb hbox hg) | ((with_reducible refine gate_dst (N := 5) rfl ?_); refine bE 5 #[.int .i64 a2_0, .int .i64 a2_1, .int .i64 a2_2, .int .i64 a2_3] 28 ?_; intro gb897 hg w25 hbox hb; have BK897 := am hbox; have GW897 := gB hg HB; have GE897 := gB hg HB; replace HB := hB hb HB; have NB895_897 := nL hg BK895; have NB897_895 := nG hg BK895; replace BK895 := bB hb BK895; have NB896_897 := nL hg BK896; have NB897_896 := nG hg BK896; replace BK896 := bB hb BK896; clear hb hbox hg; have hnb26 := NB895_896.out; have hnc26 := NB896_895.out; have hnb27 := NB895_897.out; have hnc27 := NB897_895.out; obtain ⟨_, _⟩ := z1 BK895; have hnb29 := NB896_897.out; have hnc29 := NB897_896.out; obtain ⟨_, _, _, _, _, _, _, _⟩ := z4 BK896; obtain ⟨_, _, _, _, _, _, _, _⟩ := z4 BK897) | ((with_reducible refine gate_dst (N := 11) rfl ?_); refine Kd.R_lit k28 _ 28 ?hg (N := 11) ?hd (xs := ([(⟨a1_0, a1_1, a1_2, a1_3⟩ : S28), (⟨a2_0, a2_1, a2_2, a2_3⟩ : S28)] : List (S28))) (inner := [.int .i64 a1_0, .int .i64 a1_1, .int .i64 a1_2, .int .i64 a1_3, .int .i64 a2_0, .int .i64 a2_1, .int .i64 a2_2, .int .i64 a2_3]) (ok := fun _ => True) (okp := fun _ => True) ?hr ?hp (fun _ hk => hk) trivial (Below.refl _ _) (Nat.le_refl _) (by simp) ?_; (case hd => rfl); (case hg => rfl); (case hr => first | (go_simp; done) | (go_simp; rfl)); (case hp => exact (Reps.c4 (show Kd.M k28 _ _ _ (⟨a1_0, a1_1, a1_2, a1_3⟩ : S28) [.int .i64 a1_0, .int .i64 a1_1, .int .i64 a1_2, .int .i64 a1_3] from (k28_mkM _ _ _ (⟨a1_0, a1_1, a1_2, a1_3⟩ : S28) )) (Reps.c4 (show Kd.M k28 _ _ _ (⟨a2_0, a2_1, a2_2, a2_3⟩ : S28) [.int .i64 a2_0, .int .i64 a2_1, .int .i64 a2_2, .int .i64 a2_3] from (k28_mkM _ _ _ (⟨a2_0, a2_1, a2_2, a2_3⟩ : S28) )) (Reps.none _ _)))); intro v899 w32 ho33 hb hg_ hnew_; clear hg_ hnew_; (first | rw [← Ny898.out] at ho33 | (simp only [Int.reduceToNat] at ho33; rw [← Ny898.out] at ho33)); have HO900 := am (Kd.R_lower (Kd.R_newB (Kd.R_newB ho33 (g := gb896) (o := .cells #[.int .i64 a1_0, .int .i64 a1_1, .int .i64 a1_2, .int .i64 a1_3] 28 (0, 0)) (kk BK896)) (g := gb897) (o := .cells #[.int .i64 a2_0, .int .i64 a2_1, .int .i64 a2_2, .int .i64 a2_3] 28 (0, 0)) (kk BK897)) (below_size (bs HB))); replace BK895 := bB hb BK895; replace BK896 := bB hb BK896; replace BK897 := bB hb BK897; replace HB := hB hb HB; clear hb ho33; obtain ⟨Ao34, co34, eo34⟩ := Kd.R_slice HO900.out; subst eo34) | ((with_reducible refine gate_callee (f := 63) rfl ?_); refine gL 12 Tryd.func63 #[.agg #[.slice A0_0 l0_0.length c0_0], .slice Ao34 y898.length co34] ?_; (with_reducible refine (impl_areOn.calls k _ _ l0_0 _ _ y898 false _ ?side1 ?side2 ?side3 ?side4 A4.out).mono ?_); (case side1 => exact cc (Kd.C_below HR0_0.out HB.out)); (case side2 => exact HC0_0.out); (case side3 => exact cc (Kd.R_reads' HO900.out).2.2); (case side4 => exact (Kd.R_reads' HO900.out).2.1); rintro e w35 ⟨rfl, hb⟩; refine ⟨_, rfl, ?_⟩; replace HO900 := rB hb HO900; replace BK895 := bB hb BK895; replace BK896 := bB hb BK896; replace BK897 := bB hb BK897; replace HB := hB hb HB; (try clear hb)))
  go_ret2
  exact ⟨by first | rfl | (simp [*, errW_none, errW_some] <;> rfl), bs HB⟩
end Go.Proofs.YthnchjgffocigaaDoor.P
end
section
namespace Go.Proofs.YthnchjgffocigaaDoor.P
open Go.RowKit Go.Proofs.YthnchjgffocigaaDoorW.PrintWords Go.Proofs.YthnchjgffocigaaDoorW.PrintLast Go.Proofs.YthnchjgffocigaaDoorW.PrintMore
set_option linter.unusedVariables false
def Sm (s l : Int) : Prop := -1000000 ≤ s ∧ s ≤ 1000000 ∧ -1000000 ≤ l ∧ l ≤ 1000000
theorem win_sm {m : List (List Int)} {a s l c : Int} (hok : memOk m = true) (h : winOn m a s l c = true) : Sm s l ∧ Sm s c ∧ 0 ≤ s ∧ 0 ≤ l ∧ l ≤ c ∧ c ≤ 64 ∧ (0 ≤ a ∧ a < m.length) ∧ s + c ≤ (m.getD a.toNat []).length ∧ (m.getD a.toNat []).length ≤ 64 := by
  rw [winOn_iff] at h
  have hlt : a.toNat < m.length := by omega
  have := memOk_each hok _ (getD_mem m [] a.toNat hlt)
  unfold Sm
  omega
theorem wfu8 {x : Int} (h : (Lit.int .u8 x).wf = true) : 0 ≤ x ∧ x < 256 := by
  simp only [Lit.wf, Bool.and_eq_true, decide_eq_true_eq] at h
  have h1 : IntKind.u8.min = 0 := rfl
  have h2 : IntKind.u8.max = 255 := rfl
  omega
end Go.Proofs.YthnchjgffocigaaDoor.P
end
section
namespace Go.Proofs.YthnchjgffocigaaDoor.P
open Go.RowKit Go.Proofs.YthnchjgffocigaaDoorW.PrintWords Go.Proofs.YthnchjgffocigaaDoorW.PrintLast Go.Proofs.YthnchjgffocigaaDoorW.PrintMore
set_option linter.unusedVariables false
set_option linter.unusedSimpArgs false
def ov (a s l b t u : Int) : Int := if a = b then (if mx s t < mn (s + l) (t + u) then mn (s + l) (t + u) - mx s t else 0) else 0
theorem ov_nonneg (a s l b t u : Int) : 0 ≤ ov a s l b t u := by unfold ov mx mn; repeat' split
                                                                 all_goals omega
theorem least_eq (x y : Int) : spec_l1Least.f x y = some (mn x y) := by
  unfold spec_l1Least.f mn
  by_cases h : x < y
  · rw [if_pos h, if_neg (by omega)]
  · rw [if_neg h]
    by_cases h2 : y < x
    · rw [if_pos h2]
    · rw [if_neg h2, show x = y by omega]
theorem most_eq (x y : Int) : spec_l1Most.f x y = some (mx x y) := by
  unfold spec_l1Most.f mx
  by_cases h : x > y
  · rw [if_pos h, if_neg (by omega)]
  · rw [if_neg h]
    by_cases h2 : x < y
    · rw [if_pos h2]
    · rw [if_neg h2, show x = y by omega]
theorem mx_bd (x y : Int) : (mx x y = x ∨ mx x y = y) ∧ x ≤ mx x y ∧ y ≤ mx x y := by unfold mx; split <;> omega
theorem mn_bd (x y : Int) : (mn x y = x ∨ mn x y = y) ∧ mn x y ≤ x ∧ mn x y ≤ y := by unfold mn; split <;> omega
theorem overlap_eq (a s l c b t u d : Int) (h1 : Sm s l) (h2 : Sm t u) : spec_l2Overlap.f a s l c b t u d = some (ov a s l b t u) := by
  unfold Sm at h1 h2
  unfold spec_l2Overlap.f ov
  have hx := mx_bd s t
  have hn := mn_bd (s + l) (t + u)
  by_cases h : a = b
  · rw [if_pos h, if_pos h, wrap_in (x := s + l) (by omega) (by omega), wrap_in (x := t + u) (by omega) (by omega)]
    simp only [least_eq, most_eq, Option.bind_some]
    rw [wrap_in (x := mn (s + l) (t + u) - mx s t) (by omega) (by omega)]
    by_cases h3 : mx s t < mn (s + l) (t + u)
    · rw [if_pos h3]; unfold mx; rw [if_pos (by unfold mx at h3; omega)]
    · rw [if_neg h3]; unfold mx; rw [if_neg (by unfold mx at h3; omega)]
  · rw [if_neg h, if_neg h]
theorem common_eq (a s l c b t u d : Int) (h1 : Sm s l) (h2 : Sm t u) : impl_common.f a s l c b t u d = some (ov a s l b t u, if 0 < ov a s l b t u then mx s t else -1) := by
  unfold Sm at h1 h2
  have hx := mx_bd s t
  have hn := mn_bd (s + l) (t + u)
  unfold impl_common.f ov
  by_cases h : a = b
  · rw [if_pos h, if_pos h, wrap_in (x := s + l) (by omega) (by omega), wrap_in (x := t + u) (by omega) (by omega)]
    by_cases h3 : mx s t < mn (s + l) (t + u)
    · rw [if_neg (by omega), if_pos h3, if_pos (by omega), wrap_in (x := mn (s + l) (t + u) - mx s t) (by omega) (by omega)]
    · rw [if_pos (by omega), if_neg h3, if_neg (by omega)]
  · rw [if_neg h, if_neg h, if_neg (by omega)]
theorem shared_eq (a s l c b t u d : Int) (h1 : Sm s l) (h2 : Sm t u) : impl_areShared.f a s l c b t u d = some (decide (0 < ov a s l b t u)) := by
  unfold impl_areShared.f
  rw [common_eq a s l c b t u d h1 h2]
  rfl
theorem l3Watched_l0 (m : List (List Int)) (hm : Fit m) (l : List S28) (hw : ∀ x ∈ l, wf4 x) (hlen : l.length ≤ 1048576) (d : Nat) : ∀ i : Nat, i + d = min l.length 13 →
    Ev (fun k => spec_l3Watched.l0 k l i m) (((l.drop i).take d).all (fun x => memOk m && winOn m x.f0 x.f1 x.f2 x.f3) && (memOk m && decide (l.length ≤ 12))) := by
  induction d with
  | zero =>
    intro i hi
    obtain ⟨K, hK⟩ := l2Mem m hm.1
    refine ⟨K + 2, fun k hk => ?_⟩
    obtain ⟨k, rfl⟩ : ∃ j, k = j + 1 + 1 := ⟨k - 2, by omega⟩
    have e1 := hK k (by omega)
    dsimp only at e1 ⊢
    have hj : spec_l3Watched.j1 (k + 1) l i false m = some (memOk m && decide (l.length ≤ 12)) := by
      unfold spec_l3Watched.j1
      rw [if_neg (by decide), e1, Option.bind_some]
      cases memOk m
      · rfl
      · rw [if_pos rfl]
        simp only [Bool.true_and, Option.some.injEq]
        rw [Bool.eq_iff_iff]
        simp only [decide_eq_true_eq]
        omega
    unfold spec_l3Watched.l0
    rw [List.take_zero, List.all_nil, Bool.true_and]
    by_cases h : (i : Int) < l.length
    · rw [if_pos h, decide_eq_false (show ¬ (i : Int) ≤ 12 by omega)]
      exact hj
    · rw [if_neg h]
      exact hj
  | succ d ih =>
    intro i hi
    have hlt : i < l.length := by omega
    obtain ⟨K, hK⟩ := l2Win m hm l[i].f0 l[i].f1 l[i].f2 l[i].f3 (hw _ (List.getElem_mem hlt))
    obtain ⟨K2, h2⟩ := ih (i + 1) (by omega)
    refine ⟨K + K2 + 2, fun k hk => ?_⟩
    obtain ⟨k, rfl⟩ : ∃ j, k = j + 1 + 1 := ⟨k - 2, by omega⟩
    have e1 := hK k (by omega)
    have e2 := h2 k (by omega)
    dsimp only at e1 e2 ⊢
    unfold spec_l3Watched.l0
    rw [if_pos (by omega), decide_eq_true (show (i : Int) ≤ 12 by omega)]
    unfold spec_l3Watched.j1
    rw [if_pos rfl, if_pos (by omega), if_pos (by omega), rdB hlt, e1, Option.bind_some, wrap_succ i (by omega), e2, List.drop_eq_getElem_cons hlt, List.take_succ_cons, List.all_cons]
    cases memOk m && winOn m l[i].f0 l[i].f1 l[i].f2 l[i].f3 <;> rfl
def watched (m : List (List Int)) (l : List S28) : Bool := memOk m && (onAll m l && decide (l.length ≤ 12))
theorem l3Watched_ev (m : List (List Int)) (hm : Fit m) (l : List S28) (hw : ∀ x ∈ l, wf4 x) (hlen : l.length ≤ 1048576) : Ev (fun k => spec_l3Watched.f k m l) (watched m l) := by
  obtain ⟨K, hK⟩ := l3Watched_l0 m hm l hw hlen (min l.length 13) 0 (by omega)
  refine ⟨K, fun k hk => ?_⟩
  have e1 := hK k hk
  refine e1.trans ?_
  unfold watched onAll
  rw [List.drop_zero, Option.some.injEq]
  by_cases h : l.length ≤ 12
  · rw [List.take_of_length_le (by omega), decide_eq_true h]
    cases memOk m
    · simp
    · simp
  · rw [decide_eq_false h]
    simp
theorem areWatched_ev (m : List (List Int)) (hm : Fit m) (l : List S28) : Ev (fun k => impl_areWatched.f k m l) (watched m l) := by
  obtain ⟨K, hK⟩ := areOn_ev m hm l
  refine ⟨K, fun k hk => ?_⟩
  have e1 := hK k hk
  dsimp only at e1 ⊢
  unfold impl_areWatched.f
  rw [e1, Option.bind_some]
  unfold watched onAll
  have e : decide ((l.length : Int) ≤ 12) = decide (l.length ≤ 12) := by
    rw [Bool.eq_iff_iff]; simp only [decide_eq_true_eq]; omega
  rw [e]
  cases memOk m <;> cases (l.all fun x => winOn m x.f0 x.f1 x.f2 x.f3) <;> rfl
def iz (q : List Nat) : List Int := q.map fun (x : Nat) => (x : Int)
theorem iz_len (q : List Nat) : (iz q).length = q.length := by simp [iz]
theorem iz_snoc (q : List Nat) (k : Nat) : iz (q ++ [k]) = iz q ++ [(k : Int)] := by simp [iz]
theorem iz_mem {q : List Nat} {k : Nat} : (k : Int) ∈ iz q ↔ k ∈ q := by
  unfold iz
  rw [List.mem_map]
  constructor
  · rintro ⟨a, ha, e⟩
    have : a = k := by omega
    exact this ▸ ha
  · exact fun h => ⟨k, h, rfl⟩
theorem iz_at {q : List Nat} {t x : Nat} (h : q[t]? = some x) : rd (iz q) (t : Int) = (x : Int) := by
  unfold rd iz
  rw [Int.toNat_natCast, List.getD_eq_getElem?_getD, List.getElem?_map, h]
  rfl
def smB (x : S28) : Bool := decide (-1000000 ≤ x.f1 ∧ x.f1 ≤ 1000000 ∧ -1000000 ≤ x.f2 ∧ x.f2 ≤ 1000000)
theorem smB_iff {x : S28} : smB x = true ↔ Sm x.f1 x.f2 := by unfold smB Sm; exact decide_eq_true_iff
def shW (l : List S28) (a b : Nat) : Bool := decide (0 < ov (rd_T28 l a).f0 (rd_T28 l a).f1 (rd_T28 l a).f2 (rd_T28 l b).f0 (rd_T28 l b).f1 (rd_T28 l b).f2)
theorem ov_comm (a s l b t u : Int) : ov a s l b t u = ov b t u a s l := by
  unfold ov mx mn
  by_cases h : a = b
  · subst h
    rw [if_pos rfl, if_pos rfl]
    repeat' split
    all_goals omega
  · rw [if_neg h, if_neg (fun e => h e.symm)]
theorem shW_comm (l : List S28) (a b : Nat) : shW l a b = shW l b a := by unfold shW; rw [ov_comm]
def grpOk (l : List S28) : Bool := decide (l.length ≤ 12) && l.all smB
theorem grpOk_at {l : List S28} (h : grpOk l = true) : l.length ≤ 12 ∧ ∀ a : Nat, a < l.length → Sm (rd_T28 l a).f1 (rd_T28 l a).f2 := by
  unfold grpOk at h
  simp only [Bool.and_eq_true, decide_eq_true_eq, List.all_eq_true] at h
  refine ⟨h.1, fun a ha => smB_iff.1 (h.2 _ ?_)⟩
  unfold rd_T28
  rw [Int.toNat_natCast, List.getD_eq_getElem?_getD, List.getElem?_eq_getElem ha]
  exact List.getElem_mem ha
theorem onAll_each {m : List (List Int)} {l : List S28} (h : watched m l = true) : memOk m = true ∧ (∀ x ∈ l, winOn m x.f0 x.f1 x.f2 x.f3 = true) ∧ l.length ≤ 12 := by
  unfold watched onAll at h
  simp only [Bool.and_eq_true, decide_eq_true_eq, List.all_eq_true] at h
  exact ⟨h.1, h.2.1, h.2.2⟩
theorem win_lt {m : List (List Int)} {x : S28} (hok : memOk m = true) (h : winOn m x.f0 x.f1 x.f2 x.f3 = true) : 0 ≤ x.f1 ∧ 0 ≤ x.f2 ∧ x.f2 ≤ x.f3 ∧ x.f3 ≤ 64 ∧ x.f1 + x.f3 ≤ 64 := by
  obtain ⟨_, _, h0, h1, h2, h3, h4, h5, h6⟩ := win_sm hok h
  have hlt : x.f0.toNat < m.length := by omega
  have := memOk_each hok _ (getD_mem m [] x.f0.toNat hlt)
  omega
theorem watched_ok {m : List (List Int)} {l : List S28} (h : watched m l = true) : grpOk l = true := by
  obtain ⟨h1, h2, h3⟩ := onAll_each h
  unfold grpOk
  simp only [Bool.and_eq_true, decide_eq_true_eq, List.all_eq_true]
  refine ⟨h3, fun x hx => smB_iff.2 ?_⟩
  have := win_lt h1 (h2 x hx)
  unfold Sm
  omega
theorem insL_mem {l : List Int} {n a : Int} : a ∈ insL l n ↔ a = n ∨ a ∈ l := by
  unfold insL
  rw [List.mem_append, List.mem_cons]
  have h : a ∈ l ↔ a ∈ l.take (posL n l) ∨ a ∈ l.drop (posL n l) := by rw [← List.mem_append, List.take_append_drop]
  rw [h]
  constructor
  · rintro (h | h | h)
    · exact .inr (.inl h)
    · exact .inl h
    · exact .inr (.inr h)
  · rintro (h | h | h)
    · exact .inr (.inl h)
    · exact .inl h
    · exact .inr (.inr h)
def srt (q : List Nat) : List Int := (iz q).foldl insL []
theorem srt_snoc (q : List Nat) (k : Nat) : srt (q ++ [k]) = insL (srt q) (k : Int) := by unfold srt; rw [iz_snoc, List.foldl_append]; rfl
theorem foldl_ins_mem : ∀ (l : List Int) (acc : List Int) (a : Int), a ∈ l.foldl insL acc ↔ a ∈ l ∨ a ∈ acc
  | [], acc, a => by simp
  | x :: xs, acc, a => by
    rw [List.foldl_cons, foldl_ins_mem xs, insL_mem, List.mem_cons]
    constructor
    · rintro (h | h | h)
      · exact .inl (.inr h)
      · exact .inl (.inl h)
      · exact .inr h
    · rintro ((h | h) | h)
      · exact .inr (.inl h)
      · exact .inl h
      · exact .inr (.inr h)
theorem srt_mem {q : List Nat} {a : Int} : a ∈ srt q ↔ a ∈ iz q := by
  unfold srt
  rw [foldl_ins_mem]
  simp
theorem foldl_ins_len : ∀ (l : List Int) (acc : List Int), (l.foldl insL acc).length = l.length + acc.length
  | [], acc => by simp
  | x :: xs, acc => by rw [List.foldl_cons, foldl_ins_len xs, insL_len, List.length_cons]; omega
theorem srt_len (q : List Nat) : (srt q).length = q.length := by
  unfold srt
  rw [foldl_ins_len, iz_len]
  simp
theorem bfs_go {n : Nat} {sh : Nat → Nat → Bool} {blk q : List Nat} {f t x : Nat} (h : q[t]? = some x) : bfs n sh blk (f + 1) t q = bfs n sh blk f (t + 1) (kall n sh blk x q) := by
  obtain ⟨hlt, rfl⟩ := List.getElem?_eq_some_iff.1 h
  rw [bfs, dif_pos hlt]
theorem bfs_end {n : Nat} {sh : Nat → Nat → Bool} {blk q : List Nat} {f t : Nat} (h : ¬ t < q.length) : bfs n sh blk f t q = q := by
  cases f with
  | zero => rfl
  | succ f => rw [bfs, dif_neg h]
theorem kfrom_go {sh : Nat → Nat → Bool} {blk q : List Nat} {x n k : Nat} (h : k < n) : kfrom sh blk x (n - k) k q = kfrom sh blk x (n - (k + 1)) (k + 1) (kstep sh blk x q k) := by
  obtain ⟨d, hd⟩ : ∃ d, n - k = d + 1 := ⟨n - k - 1, by omega⟩
  rw [hd, show n - (k + 1) = d by omega, kfrom]
theorem kstep_in {sh : Nat → Nat → Bool} {blk q : List Nat} {x k : Nat} (h : k ∈ blk ∨ k ∈ q ∨ sh x k = false) : kstep sh blk x q k = q := if_pos h
theorem kstep_out {sh : Nat → Nat → Bool} {blk q : List Nat} {x k : Nat} (h1 : ¬ k ∈ blk) (h2 : ¬ k ∈ q) (h3 : sh x k = true) : kstep sh blk x q k = q ++ [k] := if_neg (fun h => h.elim h1 (fun h => h.elim h2 (fun h => by rw [h3] at h; cases h)))
theorem IsQ.one {n i : Nat} {blk : List Nat} (h : i < n) (hb : ¬ i ∈ blk) : IsQ n blk [i] := ⟨by simp, fun a ha => by rw [List.mem_singleton.1 ha]; exact h, fun a ha => by rw [List.mem_singleton.1 ha]; exact hb⟩
theorem IsQ.step {n : Nat} {sh : Nat → Nat → Bool} {blk q : List Nat} (h : IsQ n blk q) (x : Nat) {k : Nat} (hk : k < n) : IsQ n blk (kstep sh blk x q k) := by
  refine ⟨kstep_nodup h.1, fun a ha => ?_, fun a ha => ?_⟩
  · rcases kstep_mem.1 ha with ha | ha
    · exact h.2.1 a ha
    · rw [ha.1]; exact hk
  · rcases kstep_mem.1 ha with ha | ha
    · exact h.2.2 a ha
    · rw [ha.1]; exact ha.2.1
def qAt (n : Nat) (sh : Nat → Nat → Bool) (i : Nat) : List Nat := bfs n sh [] n 0 [i]
def sstep (n : Nat) (sh : Nat → Nat → Bool) (outs : List (List Int)) (i : Nat) : List (List Int) := if (i : Int) ∈ outs.flatten then outs else outs ++ [srt (qAt n sh i)]
def sgr (n : Nat) (sh : Nat → Nat → Bool) : Nat → List (List Int)
  | 0 => []
  | i + 1 => sstep n sh (sgr n sh i) i
theorem sgr_in {n : Nat} {sh : Nat → Nat → Bool} {i : Nat} (h : (i : Int) ∈ (sgr n sh i).flatten) : sgr n sh (i + 1) = sgr n sh i := by rw [sgr, sstep, if_pos h]
theorem sgr_out {n : Nat} {sh : Nat → Nat → Bool} {i : Nat} (h : ¬ (i : Int) ∈ (sgr n sh i).flatten) : sgr n sh (i + 1) = sgr n sh i ++ [srt (qAt n sh i)] := by rw [sgr, sstep, if_neg h]
theorem qAt_isQ {n : Nat} (sh : Nat → Nat → Bool) {i : Nat} (h : i < n) : IsQ n [] (qAt n sh i) := (bfs_shut n 0 [i] (IsQ.one h (by simp)) (by simp) (by omega) (fun j x hj => by omega)).1
theorem sgr_len (n : Nat) (sh : Nat → Nat → Bool) : ∀ i, i ≤ n → (sgr n sh i).length ≤ i ∧ (sgr n sh i).flatten.length ≤ i * n
  | 0, _ => by simp [sgr]
  | i + 1, hi => by
    obtain ⟨h1, h2⟩ := sgr_len n sh i (by omega)
    rw [Nat.succ_mul]
    by_cases h : (i : Int) ∈ (sgr n sh i).flatten
    · rw [sgr_in h]; omega
    · rw [sgr_out h]
      have h3 := (qAt_isQ sh (show i < n by omega)).len
      have h4 := srt_len (qAt n sh i)
      refine ⟨by rw [List.length_append, List.length_singleton]; omega, ?_⟩
      rw [List.flatten_append, List.length_append]
      simp only [List.flatten_cons, List.flatten_nil, List.append_nil]
      omega
theorem l1Has_ev (l : List Int) (n : Int) (hl : l.length ≤ 1048576) : ∃ K, spec_l1Has.f K l n = some (decide (n ∈ l)) := by
  have key : ∀ (d i : Nat), i + d = l.length → spec_l1Has.l0 (d + 1) l n (i : Int) = some (decide (n ∈ l.drop i)) := by
    intro d
    induction d with
    | zero =>
      intro i hi
      rw [spec_l1Has.l0, if_neg (by omega), List.drop_eq_nil_of_le (by omega)]
      rfl
    | succ d ih =>
      intro i hi
      have hlt : i < l.length := by omega
      have e : rd l (i : Int) = l[i] := by unfold rd; rw [Int.toNat_natCast, List.getD_eq_getElem?_getD, List.getElem?_eq_getElem hlt]; rfl
      rw [spec_l1Has.l0, if_pos (by omega), if_pos (by omega), e, List.drop_eq_getElem_cons hlt]
      by_cases h : l[i] = n
      · rw [if_pos h]
        simp [h]
      · rw [if_neg h, wrap_succ i (by omega), ih (i + 1) (by omega)]
        have h' : ¬ n = l[i] := fun h2 => h h2.symm
        exact congrArg some (decide_eq_decide.2 ⟨fun h2 => List.mem_cons_of_mem _ h2, fun h2 => (List.mem_cons.1 h2).elim (fun e2 => absurd e2 h') id⟩)
  exact ⟨l.length + 1, by have := key l.length 0 (by omega); rw [List.drop_zero] at this; exact this⟩
theorem infoII : (Tryd.prog.info? 39).map (fun i => (i.zero, i.size, i.bytes)) = some (some (.slice none 0 0), 1, 24) := by kernel_rfl
set_option maxHeartbeats 16000000 in
set_option maxRecDepth 100000 in
theorem spec_groups (A0 : Option Addr) (c0 : Nat) (l : List S28) (sh : Nat → Nat → Bool) (w : World) (hr0 : Kd.C k28 w A0 l.length l) (hc0 : l.length ≤ c0) (hl : l.length ≤ 12)
    (hov : ∀ a b : Nat, a < l.length → b < l.length → ∃ o, spec_l2Overlap.f (rd_T28 l a).f0 (rd_T28 l a).f1 (rd_T28 l a).f2 (rd_T28 l a).f3 (rd_T28 l b).f0 (rd_T28 l b).f1 (rd_T28 l b).f2 (rd_T28 l b).f3 = some o ∧ sh a b = decide (0 < o)) :
    Calls Tryd.prog 81 #[.slice A0 l.length c0] w fun e w' => ∃ v0_ : Value, e = .returned v0_ ∧ Kd.S kII 39 w' w.heap.size (fun _ => True) v0_ (sgr l.length sh l.length) ∧ Below w.heap.size w w' := by
 have HR := am hr0
 have HC := am hc0
 have HL := am hl
 have HOV := am hov
 have HB := am (Below.refl w.heap.size w)
 clear hr0 hc0 hov
 go_enter Tryd.func81, Tryd.ntmps81
 go_wp2_with (first | ((with_reducible refine gate_dst (N := 10) rfl ?_); refine Kd.S_lit kII _ 39 ?hg (N := 10) ?hd (xs := ([] : List (List Int))) (inner := []) (ok := fun _ => True) (okp := fun _ => True) ?hr ?hp (fun _ hk => hk) trivial (Below.refl _ _) (Nat.le_refl _) (by simp) ?_; (case hd => rfl); (case hg => rfl); (case hr => first | (go_simp; done) | (go_simp; rfl)); (case hp => exact (Reps.none _ _)); intro v10 w10 ho hb hg_ hnew_; clear hg_ hnew_; have HO := am (Own.start (Kd.S_lower ho (below_size (bb HB)))); replace HB := am (below_step (bb HB) hb); clear hb ho) | ((with_reducible refine gate_dst (N := 11) rfl ?_); refine Kd.R_lit (Kd.int .i64) _ 3 ?hg (N := 11) ?hd (xs := ([] : List Int)) (inner := []) (ok := fun _ => True) (okp := fun _ => True) ?hr ?hp (fun _ hk => hk) trivial (Below.refl _ _) (Nat.le_refl _) (by simp) ?_; (case hd => rfl); (case hg => rfl); (case hr => first | (go_simp; done) | (go_simp; rfl)); (case hp => exact (Reps.none _ _)); intro v11 w11 ho hb hg_ hnew_; clear hg_ hnew_; replace HO := am (Own.push (by repeat (first | (with_reducible first | exact HO.out | apply Own.alloc | apply Own.drewN | apply Own.drew) | exact HO.out)) hb (below_size (bb HB)) ho); replace HB := am (below_step (bb HB) hb); clear hb ho))
 go_loopg [3, 4, 5] l.length (fun kq v3 v4 v5 wr => ∃ i : Nat, i ≤ l.length ∧ l.length - i ≤ kq ∧ v5 = .int .i64 (i : Int) ∧ Aside0 (Own wr w.heap.size v3 (sgr l.length sh i) [(v4, (sgr l.length sh i).flatten)]) ∧ Aside0 (Below w.heap.size w wr))
 case atStart => exact ⟨0, by omega, by omega, rfl, ⟨by repeat (first | (with_reducible first | exact HO.out | apply Own.alloc | apply Own.drewN | apply Own.drew) | exact HO.out)⟩, ⟨bb HB⟩⟩
 case round =>
  clear HO HB
  obtain ⟨i, hi, hkq, rfl, HO, HB⟩ := hrel
  by_cases hlt : i < l.length
  ·have c1b := decide_eq_true (show (i : Int) < (l.length : Int) by omega)
   obtain ⟨outs, hou⟩ : ∃ o, o = sgr l.length sh i := ⟨_, rfl⟩
   rw [← hou] at HO
   have HLO := am (show outs.length ≤ 12 by rw [hou]; have := (sgr_len l.length sh i hi).1; omega)
   have HLF := am (show outs.flatten.length ≤ 144 by
    rw [hou]
    have h1 := (sgr_len l.length sh i hi).2
    have h2 : i * l.length ≤ 12 * 12 := Nat.mul_le_mul (by omega) (by omega)
    omega)
   have HOU := am hou
   obtain ⟨fl, hfl⟩ : ∃ f, f = outs.flatten := ⟨_, rfl⟩
   have HFL := am hfl
   rw [← hfl] at HO HLF
   clear hou hfl
   have H4 := am (show Kd.R (Kd.int .i64) 3 wr w.heap.size (fun _ => True) u4 fl from HO.out.row 0 rfl)
   obtain ⟨A4, c4, e4⟩ := Kd.R_slice H4.out
   subst e4
   obtain ⟨KH, hKH⟩ := l1Has_ev fl (i : Int) (by have := HLF.out; omega)
   by_cases hin : (i : Int) ∈ fl
   ·have HH := am (show spec_l1Has.f KH fl (i : Int) = some true by rw [hKH, decide_eq_true hin])
    have HSO := am (show sgr l.length sh (i + 1) = outs by rw [HOU.out]; exact sgr_in (by rw [← HOU.out, ← HFL.out]; exact hin))
    clear hKH
    go_wp2_with (go_at_call 117; (with_reducible refine (spec_l1Has.calls KH _ _ fl (i : Int) true _ ?s1 ?s2 HH.out).mono ?_); (case s1 => exact cc (Kd.R_reads' H4.out).2.2); (case s2 => exact (Kd.R_reads' H4.out).2.1); rintro e w2 ⟨rfl, hd_⟩; have hb := hd_.below; clear hd_; replace HO := am (Own.below (by repeat (first | (with_reducible first | exact HO.out | apply Own.alloc | apply Own.drewN | apply Own.drew) | exact HO.out)) hb); replace HB := am (below_step (bb HB) hb); clear H4 hb)
    go_roundg (l.length - (i + 1))
    case measure => omega
    case rel => exact ⟨i + 1, by omega, by omega, by go_num, ⟨by rw [HSO.out, ← HFL.out]; repeat (first | (with_reducible first | exact HO.out | apply Own.alloc | apply Own.drewN | apply Own.drew) | exact HO.out)⟩, ⟨bb HB⟩⟩
   ·have HH := am (show spec_l1Has.f KH fl (i : Int) = some false by rw [hKH, decide_eq_false hin])
    clear hKH
    have HSO := am (show sgr l.length sh (i + 1) = outs ++ [srt (qAt l.length sh i)] by rw [HOU.out]; exact sgr_out (by rw [← HOU.out, ← HFL.out]; exact hin))
    obtain ⟨Q, hQ⟩ : ∃ Q, Q = qAt l.length sh i := ⟨_, rfl⟩
    rw [← hQ] at HSO
    have HQE := am (show bfs l.length sh [] l.length 0 [i] = Q from hQ.symm)
    clear hQ
    go_wp2_with (first | (go_at_call 117; (with_reducible refine (spec_l1Has.calls KH _ _ fl (i : Int) false _ ?s1 ?s2 HH.out).mono ?_); (case s1 => exact cc (Kd.R_reads' H4.out).2.2); (case s2 => exact (Kd.R_reads' H4.out).2.1); rintro e w2 ⟨rfl, hd_⟩; have hb := hd_.below; clear hd_; replace HO := am (Own.below (by repeat (first | (with_reducible first | exact HO.out | apply Own.alloc | apply Own.drewN | apply Own.drew) | exact HO.out)) hb); replace HB := am (below_step (bb HB) hb); clear H4 hb) | ((with_reducible refine gate_dst (N := 22) rfl ?_); refine Kd.R_lit (Kd.int .i64) _ 3 ?hg (N := 22) ?hd (xs := [(i : Int)]) (inner := [.int .i64 (i : Int)]) (ok := fun _ => True) (okp := fun _ => True) ?hr ?hp (fun _ hk => hk) trivial (Below.refl _ _) (Nat.le_refl _) (by simp) ?_; (case hd => rfl); (case hg => rfl); (case hr => first | (go_simp; done) | (go_simp; rfl)); (case hp => exact R1_lit _ _ _ _); intro v22 w22 ho hb hg_ hnew_; clear hg_ hnew_; replace HO := am (Own.push (by repeat (first | (with_reducible first | exact HO.out | apply Own.alloc | apply Own.drewN | apply Own.drew) | exact HO.out)) hb (below_size (bb HB)) ho); replace HB := am (below_step (bb HB) hb); clear hb ho) | ((with_reducible refine gate_dst (N := 24) rfl ?_); refine Kd.R_lit (Kd.int .i64) _ 3 ?hg (N := 24) ?hd (xs := [(i : Int)]) (inner := [.int .i64 (i : Int)]) (ok := fun _ => True) (okp := fun _ => True) ?hr ?hp (fun _ hk => hk) trivial (Below.refl _ _) (Nat.le_refl _) (by simp) ?_; (case hd => rfl); (case hg => rfl); (case hr => first | (go_simp; done) | (go_simp; rfl)); (case hp => exact R1_lit _ _ _ _); intro v24 w24 ho hb hg_ hnew_; clear hg_ hnew_; replace HO := am (Own.push (by repeat (first | (with_reducible first | exact HO.out | apply Own.alloc | apply Own.drewN | apply Own.drew) | exact HO.out)) hb (below_size (bb HB)) ho); replace HB := am (below_step (bb HB) hb); clear hb ho))
    go_loopg [6, 7, 8] l.length (fun kq v6 v7 v8 wr => ∃ (t : Nat) (q : List Nat), t ≤ q.length ∧ l.length - t ≤ kq ∧ v8 = .int .i64 (t : Int) ∧ Aside0 (IsQ l.length [] q) ∧ Aside0 (bfs l.length sh [] (l.length - t) t q = Q) ∧ Aside0 (0 < q.length) ∧ Aside0 (Own wr w.heap.size u3 outs [(.slice A4 fl.length c4, fl), (v6, srt q), (v7, iz q)]) ∧ Aside0 (Below w.heap.size w wr))
    case atStart => exact ⟨0, [i], by simp, by omega, rfl, ⟨IsQ.one hlt (by simp)⟩, ⟨HQE.out⟩, ⟨by simp⟩, ⟨by repeat (first | (with_reducible first | exact HO.out | apply Own.alloc | apply Own.drewN | apply Own.drew) | exact HO.out)⟩, ⟨bb HB⟩⟩
    case round =>
     clear HO HB HH HQE
     obtain ⟨t, q, ht, hkq2, rfl, HQ, HBF, HQP, HO, HB⟩ := hrel
     have hqn := HQ.out.len
     have H7 := am (show Kd.R (Kd.int .i64) 3 wr w.heap.size (fun _ => True) u7 (iz q) from HO.out.row 2 rfl)
     obtain ⟨A7, c7, e7⟩ := Kd.R_slice H7.out
     subst e7
     by_cases htl : t < q.length
     ·have htz : t < (iz q).length := by rw [iz_len]; exact htl
      have c3b := decide_eq_true (show (t : Int) < ((iz q).length : Int) by rw [iz_len]; omega)
      obtain ⟨x, hx⟩ : ∃ x, q[t]? = some x := ⟨_, List.getElem?_eq_getElem htl⟩
      have HX := am hx
      have hxn : x < l.length := HQ.out.2.1 x (List.mem_of_getElem? hx)
      obtain ⟨q2, hq2⟩ : ∃ q2, q2 = kall l.length sh [] x q := ⟨_, rfl⟩
      have HQ2 := am (show kfrom sh [] x (l.length - 0) 0 q = q2 by rw [hq2]; rfl)
      have HBF2 := am (show bfs l.length sh [] (l.length - (t + 1)) (t + 1) q2 = Q by
       have h_ := HBF.out
       obtain ⟨f, hf⟩ : ∃ f, l.length - t = f + 1 := ⟨l.length - t - 1, by omega⟩
       rw [hf, bfs_go hx, ← hq2] at h_
       rw [show l.length - (t + 1) = f by omega]
       exact h_)
      clear hx hq2 HBF
      go_wp2
      go_loopg [6, 7, 9] l.length (fun kq v6 v7 v9 wr => ∃ (k : Nat) (q' : List Nat), k ≤ l.length ∧ l.length - k ≤ kq ∧ v9 = .int .i64 (k : Int) ∧ Aside0 (IsQ l.length [] q') ∧ Aside0 (q'[t]? = some x) ∧ Aside0 (kfrom sh [] x (l.length - k) k q' = q2) ∧ Aside0 (Own wr w.heap.size u3 outs [(.slice A4 fl.length c4, fl), (v6, srt q'), (v7, iz q')]) ∧ Aside0 (Below w.heap.size w wr))
      case atStart => exact ⟨0, q, by omega, by omega, rfl, HQ, HX, HQ2, ⟨by repeat (first | (with_reducible first | exact HO.out | apply Own.alloc | apply Own.drewN | apply Own.drew) | exact HO.out)⟩, ⟨bb HB⟩⟩
      case round =>
       clear HO HB HQ HX HQ2 H7 HQP htl htz c3b ht hqn
       obtain ⟨k, q', hkl, hkq3, rfl, HQ, HT, HF, HO, HB⟩ := hrel
       have htl : t < q'.length := (List.getElem?_eq_some_iff.1 HT.out).1
       have hqn := HQ.out.len
       by_cases hk : k < l.length
       ·have HQP := am (show 0 < q'.length by omega)
        have c4b := decide_eq_true (show (k : Int) < (l.length : Int) by omega)
        have H6 := am (show Kd.R (Kd.int .i64) 3 wr w.heap.size (fun _ => True) u6 (srt q') from HO.out.row 1 rfl)
        have H7 := am (show Kd.R (Kd.int .i64) 3 wr w.heap.size (fun _ => True) u7 (iz q') from HO.out.row 2 rfl)
        obtain ⟨A6, c6, e6⟩ := Kd.R_slice H6.out
        subst e6
        obtain ⟨A7', c7', e7⟩ := Kd.R_slice H7.out
        subst e7
        have i0 : 0 ≤ (t : Int) := by omega
        have i1 : (t : Int) < ((iz q').length : Int) := by rw [iz_len]; omega
        have j0 : 0 ≤ (x : Int) := by omega
        have j1 : (x : Int) < (l.length : Int) := by omega
        have k0 : 0 ≤ (k : Int) := by omega
        have k1 : (k : Int) < (l.length : Int) := by omega
        obtain ⟨ad7, e7, hT0⟩ := Kd.at_int (Kd.R_reads' H7.out).2.2 (t : Int) i0 i1
        cases e7
        rw [iz_at HT.out, Int.toNat_natCast] at hT0
        have HT0 := am hT0
        obtain ⟨ad, e0, hX0, hX1, hX2, hX3⟩ := at_T28 HR.out (x : Int) j0 j1
        cases e0
        obtain ⟨ad', e0, hK0, hK1, hK2, hK3⟩ := at_T28 HR.out (k : Int) k0 k1
        cases e0
        obtain ⟨o, hv, hsh⟩ := HOV.out x k hxn hk
        simp only [Int.toNat_natCast] at hX0 hX1 hX2 hX3 hK0 hK1 hK2 hK3
        obtain ⟨a0, h_⟩ : ∃ a, a = (rd_T28 l x).f0 := ⟨_, rfl⟩
        rw [← h_] at hX0 hv; clear h_
        obtain ⟨a1, h_⟩ : ∃ a, a = (rd_T28 l x).f1 := ⟨_, rfl⟩
        rw [← h_] at hX1 hv; clear h_
        obtain ⟨a2, h_⟩ : ∃ a, a = (rd_T28 l x).f2 := ⟨_, rfl⟩
        rw [← h_] at hX2 hv; clear h_
        obtain ⟨a3, h_⟩ : ∃ a, a = (rd_T28 l x).f3 := ⟨_, rfl⟩
        rw [← h_] at hX3 hv; clear h_
        obtain ⟨b0, h_⟩ : ∃ a, a = (rd_T28 l k).f0 := ⟨_, rfl⟩
        try rw [← h_] at hv
        rw [← h_] at hK0; clear h_
        obtain ⟨b1, h_⟩ : ∃ a, a = (rd_T28 l k).f1 := ⟨_, rfl⟩
        try rw [← h_] at hv
        rw [← h_] at hK1; clear h_
        obtain ⟨b2, h_⟩ : ∃ a, a = (rd_T28 l k).f2 := ⟨_, rfl⟩
        try rw [← h_] at hv
        rw [← h_] at hK2; clear h_
        obtain ⟨b3, h_⟩ : ∃ a, a = (rd_T28 l k).f3 := ⟨_, rfl⟩
        try rw [← h_] at hv
        rw [← h_] at hK3; clear h_
        have HV := am hv
        have HX0 := am (pw_cell_below HB.out hX0)
        have HX1 := am (pw_cell_below HB.out hX1)
        have HX2 := am (pw_cell_below HB.out hX2)
        have HX3 := am (pw_cell_below HB.out hX3)
        have HK0 := am (pw_cell_below HB.out hK0)
        have HK1 := am (pw_cell_below HB.out hK1)
        have HK2 := am (pw_cell_below HB.out hK2)
        have HK3 := am (pw_cell_below HB.out hK3)
        clear hT0 hX0 hX1 hX2 hX3 hK0 hK1 hK2 hK3 hv
        replace i0 := eq_true i0
        replace i1 := eq_true i1
        replace j0 := eq_true j0
        replace j1 := eq_true j1
        replace k0 := eq_true k0
        replace k1 := eq_true k1
        obtain ⟨KH, hKH⟩ := l1Has_ev (srt q') (k : Int) (by have := srt_len q'; omega)
        by_cases hin : k ∈ q'
        ·have HH := am (show spec_l1Has.f KH (srt q') (k : Int) = some true by rw [hKH, decide_eq_true (srt_mem.2 (iz_mem.2 hin))])
         clear hKH
         have ek := am (kstep_in (sh := sh) (blk := []) (x := x) (.inr (.inl hin)))
         try go_wp2
         have n0_ := am (Own.drew HO.out)
         have n1_ := am (below_drew1 HB.out)
         refine start_ (n := 19) (S := fun w' => w'.cell? (ad7.add t) = some (.int .i64 (x : Int)) ∧ w'.cell? (ad.add (x * 4)) = some (.int .i64 a0) ∧ w'.cell? ⟨(ad.add (x * 4)).block, (ad.add (x * 4)).off + 1, none⟩ = some (.int .i64 a1) ∧ w'.cell? ⟨(ad.add (x * 4)).block, (ad.add (x * 4)).off + 2, none⟩ = some (.int .i64 a2) ∧ w'.cell? ⟨(ad.add (x * 4)).block, (ad.add (x * 4)).off + 3, none⟩ = some (.int .i64 a3) ∧ w'.cell? (ad.add (k * 4)) = some (.int .i64 b0) ∧ w'.cell? ⟨(ad.add (k * 4)).block, (ad.add (k * 4)).off + 1, none⟩ = some (.int .i64 b1) ∧ w'.cell? ⟨(ad.add (k * 4)).block, (ad.add (k * 4)).off + 2, none⟩ = some (.int .i64 b2) ∧ w'.cell? ⟨(ad.add (k * 4)).block, (ad.add (k * 4)).off + 3, none⟩ = some (.int .i64 b3)) (ds := []) #[ff, ff, ff, ff, ff, ff, ff, ff, ff, ff, ff, ff, ff, ff, ff, ff, ff, ff, ff] (by kernel_rfl) rfl rfl ⟨HT0.out, HX0.out, HX1.out, HX2.out, HX3.out, HK0.out, HK1.out, HK2.out, HK3.out⟩ (fun hHeld => ?_)
         have H6' := am (Kd.R_drew H6.out)
         clear H6
         have H6 := H6'
         clear H6'
         have mHT0 := am (show wr.drew.cell? _ = _ from HT0.out)
         have mHX0 := am (show wr.drew.cell? _ = _ from HX0.out)
         have mHX1 := am (show wr.drew.cell? _ = _ from HX1.out)
         have mHX2 := am (show wr.drew.cell? _ = _ from HX2.out)
         have mHX3 := am (show wr.drew.cell? _ = _ from HX3.out)
         have mHK0 := am (show wr.drew.cell? _ = _ from HK0.out)
         have mHK1 := am (show wr.drew.cell? _ = _ from HK1.out)
         have mHK2 := am (show wr.drew.cell? _ = _ from HK2.out)
         have mHK3 := am (show wr.drew.cell? _ = _ from HK3.out)
         clear HO HB HT0 HX0 HX1 HX2 HX3 HK0 HK1 HK2 HK3
         have HO := n0_
         have HB := n1_
         have HT0 := mHT0
         have HX0 := mHX0
         have HX1 := mHX1
         have HX2 := mHX2
         have HX3 := mHX3
         have HK0 := mHK0
         have HK1 := mHK1
         have HK2 := mHK2
         have HK3 := mHK3
         clear n0_ n1_ mHT0 mHX0 mHX1 mHX2 mHX3 mHK0 mHK1 mHK2 mHK3
         generalize wr.drew = wd at HO HB H6 HT0 HX0 HX1 HX2 HX3 HK0 HK1 HK2 HK3 hHeld ⊢
         refine pM #[tt, ff, ff, ff, ff, ff, ff, ff, ff, ff, ff, ff, ff, ff, ff, ff, ff, ff, ff] 0 37 ?_
         refine pM #[tt, tt, ff, ff, ff, ff, ff, ff, ff, ff, ff, ff, ff, ff, ff, ff, ff, ff, ff] 1 38 ?_
         refine one_ (i := 2) (N := some 39) #[tt, tt, tt, ff, ff, ff, ff, ff, ff, ff, ff, ff, ff, ff, ff, ff, ff, ff, ff] rfl rfl (by kernel_rfl) (by decide) (fun K hK => ?_)
         refine goes_ Tryd.func117 (by kernel_rfl) rfl #[.slice A6 (srt q').length c6, .int .i64 (k : Int)] (by rfl) rfl rfl (by (try simp only [List.map_toArray, List.map_cons, List.map_nil]); first | done | rfl) ?_
         with_reducible refine (spec_l1Has.calls KH _ _ (srt q') (k : Int) true _ ?s1 ?s2 HH.out).mono ?_
         case s1 => exact (Kd.R_reads' H6.out).2.2
         case s2 => exact (Kd.R_reads' H6.out).2.1
         rintro e w2 ⟨rfl, hd_⟩
         refine ⟨_, rfl, ?_⟩
         have hb := hd_.below
         clear hd_
         have n0_ := am (HO.out.below hb)
         have n1_ := am (below_step HB.out hb)
         have n2_ := am (Kd.R_below H6.out hb)
         have mHT0 := am (pw_cell_below hb HT0.out)
         have mHX0 := am (pw_cell_below hb HX0.out)
         have mHX1 := am (pw_cell_below hb HX1.out)
         have mHX2 := am (pw_cell_below hb HX2.out)
         have mHX3 := am (pw_cell_below hb HX3.out)
         have mHK0 := am (pw_cell_below hb HK0.out)
         have mHK1 := am (pw_cell_below hb HK1.out)
         have mHK2 := am (pw_cell_below hb HK2.out)
         have mHK3 := am (pw_cell_below hb HK3.out)
         clear HT0 HX0 HX1 HX2 HX3 HK0 HK1 HK2 HK3
         have HT0 := mHT0
         have HX0 := mHX0
         have HX1 := mHX1
         have HX2 := mHX2
         have HX3 := mHX3
         have HK0 := mHK0
         have HK1 := mHK1
         have HK2 := mHK2
         have HK3 := mHK3
         clear mHT0 mHX0 mHX1 mHX2 mHX3 mHK0 mHK1 mHK2 mHK3 HO HB H6 hb
         have HO := n0_
         have HB := n1_
         have H6 := n2_
         clear n0_ n1_ n2_
         refine hK.out _ _ ⟨HT0.out, HX0.out, HX1.out, HX2.out, HX3.out, HK0.out, HK1.out, HK2.out, HK3.out⟩ (fun hHeld => ?_)
         clear hK K
         refine nP 39 ?_
         refine pM #[tt, tt, tt, tt, ff, ff, ff, ff, ff, ff, ff, ff, ff, ff, ff, ff, ff, ff, ff] 3 40 ?_
         refine pM #[tt, tt, tt, tt, tt, ff, ff, ff, ff, ff, ff, ff, ff, ff, ff, ff, ff, ff, ff] 4 41 ?_
         refine uM #[tt, tt, tt, tt, tt, tt, ff, ff, ff, ff, ff, ff, ff, ff, ff, ff, ff, ff, ff] 5 42 ?_
         refine uM #[tt, tt, tt, tt, tt, tt, tt, ff, ff, ff, ff, ff, ff, ff, ff, ff, ff, ff, ff] 6 43 ?_
         refine uM #[tt, tt, tt, tt, tt, tt, tt, tt, ff, ff, ff, ff, ff, ff, ff, ff, ff, ff, ff] 7 44 ?_
         refine uM #[tt, tt, tt, tt, tt, tt, tt, tt, tt, ff, ff, ff, ff, ff, ff, ff, ff, ff, ff] 8 45 ?_
         refine uM #[tt, tt, tt, tt, tt, tt, tt, tt, tt, tt, ff, ff, ff, ff, ff, ff, ff, ff, ff] 9 46 ?_
         refine uM #[tt, tt, tt, tt, tt, tt, tt, tt, tt, tt, tt, ff, ff, ff, ff, ff, ff, ff, ff] 10 47 ?_
         refine uM #[tt, tt, tt, tt, tt, tt, tt, tt, tt, tt, tt, tt, ff, ff, ff, ff, ff, ff, ff] 11 48 ?_
         refine uM #[tt, tt, tt, tt, tt, tt, tt, tt, tt, tt, tt, tt, tt, ff, ff, ff, ff, ff, ff] 12 49 ?_
         refine uM #[tt, tt, tt, tt, tt, tt, tt, tt, tt, tt, tt, tt, tt, tt, ff, ff, ff, ff, ff] 13 50 ?_
         refine uM #[tt, tt, tt, tt, tt, tt, tt, tt, tt, tt, tt, tt, tt, tt, tt, ff, ff, ff, ff] 14 51 ?_
         refine uM #[tt, tt, tt, tt, tt, tt, tt, tt, tt, tt, tt, tt, tt, tt, tt, tt, ff, ff, ff] 15 52 ?_
         refine uM #[tt, tt, tt, tt, tt, tt, tt, tt, tt, tt, tt, tt, tt, tt, tt, tt, tt, ff, ff] 16 53 ?_
         refine uM #[tt, tt, tt, tt, tt, tt, tt, tt, tt, tt, tt, tt, tt, tt, tt, tt, tt, tt, ff] 17 54 ?_
         refine pM #[tt, tt, tt, tt, tt, tt, tt, tt, tt, tt, tt, tt, tt, tt, tt, tt, tt, tt, tt] 18 55 ?_
         refine done_ (by kernel_rfl) ?_
         go_wp2
         go_roundg (l.length - (k + 1))
         case measure => omega
         case rel => exact ⟨k + 1, q', by omega, by omega, by go_num, ⟨HQ.out⟩, ⟨HT.out⟩, ⟨by have h_ := HF.out; rw [kfrom_go hk, ek.out] at h_; exact h_⟩, ⟨by repeat (first | (with_reducible first | exact HO.out | apply Own.alloc | apply Own.drewN | apply Own.drew) | exact HO.out)⟩, ⟨bb HB⟩⟩
        ·by_cases ho : 0 < o
         ·have HH := am (show spec_l1Has.f KH (srt q') (k : Int) = some false by rw [hKH, decide_eq_false (fun h_ => hin (iz_mem.1 (srt_mem.1 h_)))])
          clear hKH
          have ek := am (kstep_out (sh := sh) (blk := []) (x := x) (k := k) (q := q') (by simp) hin (by rw [hsh]; exact decide_eq_true ho))
          have c9b : decide (o > 0) = true := decide_eq_true ho
          have c9c : decide (0 < o) = true := decide_eq_true ho
          try go_wp2
          have n0_ := am (Own.drew HO.out)
          have n1_ := am (below_drew1 HB.out)
          refine start_ (n := 19) (S := fun w' => w'.cell? (ad7.add t) = some (.int .i64 (x : Int)) ∧ w'.cell? (ad.add (x * 4)) = some (.int .i64 a0) ∧ w'.cell? ⟨(ad.add (x * 4)).block, (ad.add (x * 4)).off + 1, none⟩ = some (.int .i64 a1) ∧ w'.cell? ⟨(ad.add (x * 4)).block, (ad.add (x * 4)).off + 2, none⟩ = some (.int .i64 a2) ∧ w'.cell? ⟨(ad.add (x * 4)).block, (ad.add (x * 4)).off + 3, none⟩ = some (.int .i64 a3) ∧ w'.cell? (ad.add (k * 4)) = some (.int .i64 b0) ∧ w'.cell? ⟨(ad.add (k * 4)).block, (ad.add (k * 4)).off + 1, none⟩ = some (.int .i64 b1) ∧ w'.cell? ⟨(ad.add (k * 4)).block, (ad.add (k * 4)).off + 2, none⟩ = some (.int .i64 b2) ∧ w'.cell? ⟨(ad.add (k * 4)).block, (ad.add (k * 4)).off + 3, none⟩ = some (.int .i64 b3)) (ds := []) #[ff, ff, ff, ff, ff, ff, ff, ff, ff, ff, ff, ff, ff, ff, ff, ff, ff, ff, ff] (by kernel_rfl) rfl rfl ⟨HT0.out, HX0.out, HX1.out, HX2.out, HX3.out, HK0.out, HK1.out, HK2.out, HK3.out⟩ (fun hHeld => ?_)
          have H6' := am (Kd.R_drew H6.out)
          clear H6
          have H6 := H6'
          clear H6'
          have mHT0 := am (show wr.drew.cell? _ = _ from HT0.out)
          have mHX0 := am (show wr.drew.cell? _ = _ from HX0.out)
          have mHX1 := am (show wr.drew.cell? _ = _ from HX1.out)
          have mHX2 := am (show wr.drew.cell? _ = _ from HX2.out)
          have mHX3 := am (show wr.drew.cell? _ = _ from HX3.out)
          have mHK0 := am (show wr.drew.cell? _ = _ from HK0.out)
          have mHK1 := am (show wr.drew.cell? _ = _ from HK1.out)
          have mHK2 := am (show wr.drew.cell? _ = _ from HK2.out)
          have mHK3 := am (show wr.drew.cell? _ = _ from HK3.out)
          clear HO HB HT0 HX0 HX1 HX2 HX3 HK0 HK1 HK2 HK3
          have HO := n0_
          have HB := n1_
          have HT0 := mHT0
          have HX0 := mHX0
          have HX1 := mHX1
          have HX2 := mHX2
          have HX3 := mHX3
          have HK0 := mHK0
          have HK1 := mHK1
          have HK2 := mHK2
          have HK3 := mHK3
          clear n0_ n1_ mHT0 mHX0 mHX1 mHX2 mHX3 mHK0 mHK1 mHK2 mHK3
          generalize wr.drew = wd at HO HB H6 HT0 HX0 HX1 HX2 HX3 HK0 HK1 HK2 HK3 hHeld ⊢
          refine pM #[tt, ff, ff, ff, ff, ff, ff, ff, ff, ff, ff, ff, ff, ff, ff, ff, ff, ff, ff] 0 37 ?_
          refine pM #[tt, tt, ff, ff, ff, ff, ff, ff, ff, ff, ff, ff, ff, ff, ff, ff, ff, ff, ff] 1 38 ?_
          refine one_ (i := 2) (N := some 39) #[tt, tt, tt, ff, ff, ff, ff, ff, ff, ff, ff, ff, ff, ff, ff, ff, ff, ff, ff] rfl rfl (by kernel_rfl) (by decide) (fun K hK => ?_)
          refine goes_ Tryd.func117 (by kernel_rfl) rfl #[.slice A6 (srt q').length c6, .int .i64 (k : Int)] (by rfl) rfl rfl (by (try simp only [List.map_toArray, List.map_cons, List.map_nil]); first | done | rfl) ?_
          with_reducible refine (spec_l1Has.calls KH _ _ (srt q') (k : Int) false _ ?s1 ?s2 HH.out).mono ?_
          case s1 => exact (Kd.R_reads' H6.out).2.2
          case s2 => exact (Kd.R_reads' H6.out).2.1
          rintro e w2 ⟨rfl, hd_⟩
          refine ⟨_, rfl, ?_⟩
          have hb := hd_.below
          clear hd_
          have n0_ := am (HO.out.below hb)
          have n1_ := am (below_step HB.out hb)
          have n2_ := am (Kd.R_below H6.out hb)
          have mHT0 := am (pw_cell_below hb HT0.out)
          have mHX0 := am (pw_cell_below hb HX0.out)
          have mHX1 := am (pw_cell_below hb HX1.out)
          have mHX2 := am (pw_cell_below hb HX2.out)
          have mHX3 := am (pw_cell_below hb HX3.out)
          have mHK0 := am (pw_cell_below hb HK0.out)
          have mHK1 := am (pw_cell_below hb HK1.out)
          have mHK2 := am (pw_cell_below hb HK2.out)
          have mHK3 := am (pw_cell_below hb HK3.out)
          clear HT0 HX0 HX1 HX2 HX3 HK0 HK1 HK2 HK3
          have HT0 := mHT0
          have HX0 := mHX0
          have HX1 := mHX1
          have HX2 := mHX2
          have HX3 := mHX3
          have HK0 := mHK0
          have HK1 := mHK1
          have HK2 := mHK2
          have HK3 := mHK3
          clear mHT0 mHX0 mHX1 mHX2 mHX3 mHK0 mHK1 mHK2 mHK3 HO HB H6 hb
          have HO := n0_
          have HB := n1_
          have H6 := n2_
          clear n0_ n1_ n2_
          refine hK.out _ _ ⟨HT0.out, HX0.out, HX1.out, HX2.out, HX3.out, HK0.out, HK1.out, HK2.out, HK3.out⟩ (fun hHeld => ?_)
          clear hK K
          refine nP 39 ?_
          refine pM #[tt, tt, tt, tt, ff, ff, ff, ff, ff, ff, ff, ff, ff, ff, ff, ff, ff, ff, ff] 3 40 ?_
          refine pM #[tt, tt, tt, tt, tt, ff, ff, ff, ff, ff, ff, ff, ff, ff, ff, ff, ff, ff, ff] 4 41 ?_
          refine pM #[tt, tt, tt, tt, tt, tt, ff, ff, ff, ff, ff, ff, ff, ff, ff, ff, ff, ff, ff] 5 42 ?_
          refine pM #[tt, tt, tt, tt, tt, tt, tt, ff, ff, ff, ff, ff, ff, ff, ff, ff, ff, ff, ff] 6 43 ?_
          refine pM #[tt, tt, tt, tt, tt, tt, tt, tt, ff, ff, ff, ff, ff, ff, ff, ff, ff, ff, ff] 7 44 ?_
          refine pM #[tt, tt, tt, tt, tt, tt, tt, tt, tt, ff, ff, ff, ff, ff, ff, ff, ff, ff, ff] 8 45 ?_
          refine tM #[tt, tt, tt, tt, tt, tt, tt, tt, tt, tt, ff, ff, ff, ff, ff, ff, ff, ff, ff] 9 46 hHeld ?_
          refine pM #[tt, tt, tt, tt, tt, tt, tt, tt, tt, tt, tt, ff, ff, ff, ff, ff, ff, ff, ff] 10 47 ?_
          refine pM #[tt, tt, tt, tt, tt, tt, tt, tt, tt, tt, tt, ff, tt, ff, ff, ff, ff, ff, ff] 12 49 ?_
          refine pM #[tt, tt, tt, tt, tt, tt, tt, tt, tt, tt, tt, ff, tt, tt, ff, ff, ff, ff, ff] 13 50 ?_
          refine pM #[tt, tt, tt, tt, tt, tt, tt, tt, tt, tt, tt, ff, tt, tt, tt, ff, ff, ff, ff] 14 51 ?_
          refine tM #[tt, tt, tt, tt, tt, tt, tt, tt, tt, tt, tt, tt, tt, tt, tt, ff, ff, ff, ff] 11 48 hHeld ?_
          refine tM #[tt, tt, tt, tt, tt, tt, tt, tt, tt, tt, tt, tt, tt, tt, tt, tt, ff, ff, ff] 15 52 hHeld ?_
          refine one_ (i := 16) (N := some 53) #[tt, tt, tt, tt, tt, tt, tt, tt, tt, tt, tt, tt, tt, tt, tt, tt, tt, ff, ff] rfl rfl (by kernel_rfl) (by decide) (fun K hK => ?_)
          refine goes_ Tryd.func66 (by kernel_rfl) rfl #[.agg #[.int .i64 a0, .int .i64 a1, .int .i64 a2, .int .i64 a3], .agg #[.int .i64 b0, .int .i64 b1, .int .i64 b2, .int .i64 b3]] (by rfl) rfl rfl (by (try simp only [List.map_toArray, List.map_cons, List.map_nil]); first | done | rfl) ?_
          with_reducible refine (spec_l2Overlap.calls _ _ _ _ _ _ _ _ o _ HV.out).mono ?_
          rintro e w3 ⟨rfl, hb⟩
          refine ⟨_, rfl, ?_⟩
          have n0_ := am (HO.out.below hb)
          have n1_ := am (below_step HB.out hb)
          have n2_ := am (Kd.R_below H6.out hb)
          have mHT0 := am (pw_cell_below hb HT0.out)
          have mHX0 := am (pw_cell_below hb HX0.out)
          have mHX1 := am (pw_cell_below hb HX1.out)
          have mHX2 := am (pw_cell_below hb HX2.out)
          have mHX3 := am (pw_cell_below hb HX3.out)
          have mHK0 := am (pw_cell_below hb HK0.out)
          have mHK1 := am (pw_cell_below hb HK1.out)
          have mHK2 := am (pw_cell_below hb HK2.out)
          have mHK3 := am (pw_cell_below hb HK3.out)
          clear HT0 HX0 HX1 HX2 HX3 HK0 HK1 HK2 HK3
          have HT0 := mHT0
          have HX0 := mHX0
          have HX1 := mHX1
          have HX2 := mHX2
          have HX3 := mHX3
          have HK0 := mHK0
          have HK1 := mHK1
          have HK2 := mHK2
          have HK3 := mHK3
          clear mHT0 mHX0 mHX1 mHX2 mHX3 mHK0 mHK1 mHK2 mHK3 HO HB H6 hb
          have HO := n0_
          have HB := n1_
          have H6 := n2_
          clear n0_ n1_ n2_
          refine hK.out _ _ ⟨HT0.out, HX0.out, HX1.out, HX2.out, HX3.out, HK0.out, HK1.out, HK2.out, HK3.out⟩ (fun hHeld => ?_)
          clear hK K
          refine nP 53 ?_
          refine pM #[tt, tt, tt, tt, tt, tt, tt, tt, tt, tt, tt, tt, tt, tt, tt, tt, tt, tt, ff] 17 54 ?_
          refine pM #[tt, tt, tt, tt, tt, tt, tt, tt, tt, tt, tt, tt, tt, tt, tt, tt, tt, tt, tt] 18 55 ?_
          refine done_ (by kernel_rfl) ?_
          go_wp2_with (first | (go_at_call 118; (with_reducible refine (l1Put_new _ _ (srt q') (k : Int) _ ?s1 ?s2 ?s3 ?s4 ?s5).mono ?_); (case s1 => exact cc (Kd.R_reads' H6.out).2.2); (case s2 => exact (Kd.R_reads' H6.out).2.1); (case s3 => have h1_ := srt_len q'; have h2_ := HQ.out.len; have h3_ := HL.out; omega); (case s4 => have h1_ := srt_len q'; have h2_ := HQP.out; omega); (case s5 => exact fun h_ => hin (iz_mem.1 (srt_mem.1 h_))); rintro e w5 ⟨v5_, rfl, hn, hb⟩; replace HO := am (show Own w5 w.heap.size u3 outs [(.slice A4 fl.length c4, fl), (v5_, insL (srt q') (k : Int)), (.slice (some ad7) (iz q').length c7', iz q')] from Own.set (by repeat (first | (with_reducible first | exact HO.out | apply Own.alloc | apply Own.drewN | apply Own.drew) | exact HO.out)) 1 hb (below_size (bb HB)) hn); replace HB := am (below_step (bb HB) hb); clear H6 hn hb; obtain ⟨okT, hfT, hRT, hAT⟩ := HO.out.app 2 rfl; have HfT := am hfT; have HRT := am hRT; have HAT := am hAT; clear hfT hRT hAT) | ((with_reducible refine gate_builtin (b := .append) (xs := #[.tmp 59, .tmp 61]) rfl ?_); at_builtin; refine Kd.R_append (Kd.int .i64) (w0 := w) w.heap.size rfl (.tmp 59) (.tmp 61) 39 3 (.int .i64 0) 8 rfl Tryd.underlying39 info3 rfl (by decide) (by omega) (.slice (some ad7) (iz q').length c7') (iz q') (k : Int) [.int .i64 (k : Int)] okT (fun _ => False) rfl rfl ?aP (fun _ hk => hk.elim) ?aF ?aO ?aB ?aS ?aL ?_; (case aP => exact rfl); (case aF => exact HfT.out); (case aO => exact HRT.out); (case aB => exact bb HB); (case aS => exact below_size (bb HB)); (case aL => have h1_ := iz_len q'; have h2_ := HQ.out.len; have h3_ := HL.out; omega); intro v7' w7 ho hb hg hat; replace HO := am (HAT.out v7' w7 _ ho hg); replace HB := am hb; clear HfT HRT HAT ho hb hg hat))
          replace HO := am (show Own w7 w.heap.size u3 outs [(.slice A4 fl.length c4, fl), (v5_, srt (q' ++ [k])), (v7', iz (q' ++ [k]))] from by rw [srt_snoc, iz_snoc]; exact HO.out)
          go_roundg (l.length - (k + 1))
          case measure => omega
          case rel => exact ⟨k + 1, q' ++ [k], by omega, by omega, by go_num, ⟨by have h_ := HQ.out.step (sh := sh) x hk; rw [ek.out] at h_; exact h_⟩, ⟨by rw [List.getElem?_append_left (by obtain ⟨h_, _⟩ := List.getElem?_eq_some_iff.1 HT.out; exact h_)]; exact HT.out⟩, ⟨by have h_ := HF.out; rw [kfrom_go hk, ek.out] at h_; exact h_⟩, ⟨by repeat (first | (with_reducible first | exact HO.out | apply Own.alloc | apply Own.drewN | apply Own.drew) | exact HO.out)⟩, ⟨bb HB⟩⟩
         ·have HH := am (show spec_l1Has.f KH (srt q') (k : Int) = some false by rw [hKH, decide_eq_false (fun h_ => hin (iz_mem.1 (srt_mem.1 h_)))])
          clear hKH
          have ek := am (kstep_in (sh := sh) (blk := []) (x := x) (q := q') (k := k) (.inr (.inr (by rw [hsh]; exact decide_eq_false ho))))
          have c9b : decide (o > 0) = false := decide_eq_false ho
          have c9c : decide (0 < o) = false := decide_eq_false ho
          try go_wp2
          have n0_ := am (Own.drew HO.out)
          have n1_ := am (below_drew1 HB.out)
          refine start_ (n := 19) (S := fun w' => w'.cell? (ad7.add t) = some (.int .i64 (x : Int)) ∧ w'.cell? (ad.add (x * 4)) = some (.int .i64 a0) ∧ w'.cell? ⟨(ad.add (x * 4)).block, (ad.add (x * 4)).off + 1, none⟩ = some (.int .i64 a1) ∧ w'.cell? ⟨(ad.add (x * 4)).block, (ad.add (x * 4)).off + 2, none⟩ = some (.int .i64 a2) ∧ w'.cell? ⟨(ad.add (x * 4)).block, (ad.add (x * 4)).off + 3, none⟩ = some (.int .i64 a3) ∧ w'.cell? (ad.add (k * 4)) = some (.int .i64 b0) ∧ w'.cell? ⟨(ad.add (k * 4)).block, (ad.add (k * 4)).off + 1, none⟩ = some (.int .i64 b1) ∧ w'.cell? ⟨(ad.add (k * 4)).block, (ad.add (k * 4)).off + 2, none⟩ = some (.int .i64 b2) ∧ w'.cell? ⟨(ad.add (k * 4)).block, (ad.add (k * 4)).off + 3, none⟩ = some (.int .i64 b3)) (ds := []) #[ff, ff, ff, ff, ff, ff, ff, ff, ff, ff, ff, ff, ff, ff, ff, ff, ff, ff, ff] (by kernel_rfl) rfl rfl ⟨HT0.out, HX0.out, HX1.out, HX2.out, HX3.out, HK0.out, HK1.out, HK2.out, HK3.out⟩ (fun hHeld => ?_)
          have H6' := am (Kd.R_drew H6.out)
          clear H6
          have H6 := H6'
          clear H6'
          have mHT0 := am (show wr.drew.cell? _ = _ from HT0.out)
          have mHX0 := am (show wr.drew.cell? _ = _ from HX0.out)
          have mHX1 := am (show wr.drew.cell? _ = _ from HX1.out)
          have mHX2 := am (show wr.drew.cell? _ = _ from HX2.out)
          have mHX3 := am (show wr.drew.cell? _ = _ from HX3.out)
          have mHK0 := am (show wr.drew.cell? _ = _ from HK0.out)
          have mHK1 := am (show wr.drew.cell? _ = _ from HK1.out)
          have mHK2 := am (show wr.drew.cell? _ = _ from HK2.out)
          have mHK3 := am (show wr.drew.cell? _ = _ from HK3.out)
          clear HO HB HT0 HX0 HX1 HX2 HX3 HK0 HK1 HK2 HK3
          have HO := n0_
          have HB := n1_
          have HT0 := mHT0
          have HX0 := mHX0
          have HX1 := mHX1
          have HX2 := mHX2
          have HX3 := mHX3
          have HK0 := mHK0
          have HK1 := mHK1
          have HK2 := mHK2
          have HK3 := mHK3
          clear n0_ n1_ mHT0 mHX0 mHX1 mHX2 mHX3 mHK0 mHK1 mHK2 mHK3
          generalize wr.drew = wd at HO HB H6 HT0 HX0 HX1 HX2 HX3 HK0 HK1 HK2 HK3 hHeld ⊢
          refine pM #[tt, ff, ff, ff, ff, ff, ff, ff, ff, ff, ff, ff, ff, ff, ff, ff, ff, ff, ff] 0 37 ?_
          refine pM #[tt, tt, ff, ff, ff, ff, ff, ff, ff, ff, ff, ff, ff, ff, ff, ff, ff, ff, ff] 1 38 ?_
          refine one_ (i := 2) (N := some 39) #[tt, tt, tt, ff, ff, ff, ff, ff, ff, ff, ff, ff, ff, ff, ff, ff, ff, ff, ff] rfl rfl (by kernel_rfl) (by decide) (fun K hK => ?_)
          refine goes_ Tryd.func117 (by kernel_rfl) rfl #[.slice A6 (srt q').length c6, .int .i64 (k : Int)] (by rfl) rfl rfl (by (try simp only [List.map_toArray, List.map_cons, List.map_nil]); first | done | rfl) ?_
          with_reducible refine (spec_l1Has.calls KH _ _ (srt q') (k : Int) false _ ?s1 ?s2 HH.out).mono ?_
          case s1 => exact (Kd.R_reads' H6.out).2.2
          case s2 => exact (Kd.R_reads' H6.out).2.1
          rintro e w2 ⟨rfl, hd_⟩
          refine ⟨_, rfl, ?_⟩
          have hb := hd_.below
          clear hd_
          have n0_ := am (HO.out.below hb)
          have n1_ := am (below_step HB.out hb)
          have n2_ := am (Kd.R_below H6.out hb)
          have mHT0 := am (pw_cell_below hb HT0.out)
          have mHX0 := am (pw_cell_below hb HX0.out)
          have mHX1 := am (pw_cell_below hb HX1.out)
          have mHX2 := am (pw_cell_below hb HX2.out)
          have mHX3 := am (pw_cell_below hb HX3.out)
          have mHK0 := am (pw_cell_below hb HK0.out)
          have mHK1 := am (pw_cell_below hb HK1.out)
          have mHK2 := am (pw_cell_below hb HK2.out)
          have mHK3 := am (pw_cell_below hb HK3.out)
          clear HT0 HX0 HX1 HX2 HX3 HK0 HK1 HK2 HK3
          have HT0 := mHT0
          have HX0 := mHX0
          have HX1 := mHX1
          have HX2 := mHX2
          have HX3 := mHX3
          have HK0 := mHK0
          have HK1 := mHK1
          have HK2 := mHK2
          have HK3 := mHK3
          clear mHT0 mHX0 mHX1 mHX2 mHX3 mHK0 mHK1 mHK2 mHK3 HO HB H6 hb
          have HO := n0_
          have HB := n1_
          have H6 := n2_
          clear n0_ n1_ n2_
          refine hK.out _ _ ⟨HT0.out, HX0.out, HX1.out, HX2.out, HX3.out, HK0.out, HK1.out, HK2.out, HK3.out⟩ (fun hHeld => ?_)
          clear hK K
          refine nP 39 ?_
          refine pM #[tt, tt, tt, tt, ff, ff, ff, ff, ff, ff, ff, ff, ff, ff, ff, ff, ff, ff, ff] 3 40 ?_
          refine pM #[tt, tt, tt, tt, tt, ff, ff, ff, ff, ff, ff, ff, ff, ff, ff, ff, ff, ff, ff] 4 41 ?_
          refine pM #[tt, tt, tt, tt, tt, tt, ff, ff, ff, ff, ff, ff, ff, ff, ff, ff, ff, ff, ff] 5 42 ?_
          refine pM #[tt, tt, tt, tt, tt, tt, tt, ff, ff, ff, ff, ff, ff, ff, ff, ff, ff, ff, ff] 6 43 ?_
          refine pM #[tt, tt, tt, tt, tt, tt, tt, tt, ff, ff, ff, ff, ff, ff, ff, ff, ff, ff, ff] 7 44 ?_
          refine pM #[tt, tt, tt, tt, tt, tt, tt, tt, tt, ff, ff, ff, ff, ff, ff, ff, ff, ff, ff] 8 45 ?_
          refine tM #[tt, tt, tt, tt, tt, tt, tt, tt, tt, tt, ff, ff, ff, ff, ff, ff, ff, ff, ff] 9 46 hHeld ?_
          refine pM #[tt, tt, tt, tt, tt, tt, tt, tt, tt, tt, tt, ff, ff, ff, ff, ff, ff, ff, ff] 10 47 ?_
          refine pM #[tt, tt, tt, tt, tt, tt, tt, tt, tt, tt, tt, ff, tt, ff, ff, ff, ff, ff, ff] 12 49 ?_
          refine pM #[tt, tt, tt, tt, tt, tt, tt, tt, tt, tt, tt, ff, tt, tt, ff, ff, ff, ff, ff] 13 50 ?_
          refine pM #[tt, tt, tt, tt, tt, tt, tt, tt, tt, tt, tt, ff, tt, tt, tt, ff, ff, ff, ff] 14 51 ?_
          refine tM #[tt, tt, tt, tt, tt, tt, tt, tt, tt, tt, tt, tt, tt, tt, tt, ff, ff, ff, ff] 11 48 hHeld ?_
          refine tM #[tt, tt, tt, tt, tt, tt, tt, tt, tt, tt, tt, tt, tt, tt, tt, tt, ff, ff, ff] 15 52 hHeld ?_
          refine one_ (i := 16) (N := some 53) #[tt, tt, tt, tt, tt, tt, tt, tt, tt, tt, tt, tt, tt, tt, tt, tt, tt, ff, ff] rfl rfl (by kernel_rfl) (by decide) (fun K hK => ?_)
          refine goes_ Tryd.func66 (by kernel_rfl) rfl #[.agg #[.int .i64 a0, .int .i64 a1, .int .i64 a2, .int .i64 a3], .agg #[.int .i64 b0, .int .i64 b1, .int .i64 b2, .int .i64 b3]] (by rfl) rfl rfl (by (try simp only [List.map_toArray, List.map_cons, List.map_nil]); first | done | rfl) ?_
          with_reducible refine (spec_l2Overlap.calls _ _ _ _ _ _ _ _ o _ HV.out).mono ?_
          rintro e w3 ⟨rfl, hb⟩
          refine ⟨_, rfl, ?_⟩
          have n0_ := am (HO.out.below hb)
          have n1_ := am (below_step HB.out hb)
          have n2_ := am (Kd.R_below H6.out hb)
          have mHT0 := am (pw_cell_below hb HT0.out)
          have mHX0 := am (pw_cell_below hb HX0.out)
          have mHX1 := am (pw_cell_below hb HX1.out)
          have mHX2 := am (pw_cell_below hb HX2.out)
          have mHX3 := am (pw_cell_below hb HX3.out)
          have mHK0 := am (pw_cell_below hb HK0.out)
          have mHK1 := am (pw_cell_below hb HK1.out)
          have mHK2 := am (pw_cell_below hb HK2.out)
          have mHK3 := am (pw_cell_below hb HK3.out)
          clear HT0 HX0 HX1 HX2 HX3 HK0 HK1 HK2 HK3
          have HT0 := mHT0
          have HX0 := mHX0
          have HX1 := mHX1
          have HX2 := mHX2
          have HX3 := mHX3
          have HK0 := mHK0
          have HK1 := mHK1
          have HK2 := mHK2
          have HK3 := mHK3
          clear mHT0 mHX0 mHX1 mHX2 mHX3 mHK0 mHK1 mHK2 mHK3 HO HB H6 hb
          have HO := n0_
          have HB := n1_
          have H6 := n2_
          clear n0_ n1_ n2_
          refine hK.out _ _ ⟨HT0.out, HX0.out, HX1.out, HX2.out, HX3.out, HK0.out, HK1.out, HK2.out, HK3.out⟩ (fun hHeld => ?_)
          clear hK K
          refine nP 53 ?_
          refine pM #[tt, tt, tt, tt, tt, tt, tt, tt, tt, tt, tt, tt, tt, tt, tt, tt, tt, tt, ff] 17 54 ?_
          refine pM #[tt, tt, tt, tt, tt, tt, tt, tt, tt, tt, tt, tt, tt, tt, tt, tt, tt, tt, tt] 18 55 ?_
          refine done_ (by kernel_rfl) ?_
          go_wp2
          go_roundg (l.length - (k + 1))
          case measure => omega
          case rel => exact ⟨k + 1, q', by omega, by omega, by go_num, ⟨HQ.out⟩, ⟨HT.out⟩, ⟨by have h_ := HF.out; rw [kfrom_go hk, ek.out] at h_; exact h_⟩, ⟨by repeat (first | (with_reducible first | exact HO.out | apply Own.alloc | apply Own.drewN | apply Own.drew) | exact HO.out)⟩, ⟨bb HB⟩⟩
       ·obtain rfl : k = l.length := by omega
        have c4b : decide ((l.length : Int) < (l.length : Int)) = false := decide_eq_false (by omega)
        have hq2 : q' = q2 := by have h_ := HF.out; rw [Nat.sub_self] at h_; exact h_
        subst hq2
        go_wp2
        go_roundg (l.length - (t + 1))
        case measure => omega
        case rel => exact ⟨t + 1, q', by omega, by omega, by go_num, HQ, HBF2, ⟨by omega⟩, ⟨by repeat (first | (with_reducible first | exact HO.out | apply Own.alloc | apply Own.drewN | apply Own.drew) | exact HO.out)⟩, ⟨bb HB⟩⟩
     ·have htz : ¬ t < (iz q).length := by rw [iz_len]; exact htl
      have c3b := decide_eq_false (show ¬ (t : Int) < ((iz q).length : Int) by rw [iz_len]; omega)
      have hQq : q = Q := by have h_ := HBF.out; rw [bfs_end htl] at h_; exact h_
      subst hQq
      have H6 := am (show Kd.R (Kd.int .i64) 3 wr w.heap.size (fun _ => True) u6 (srt q) from HO.out.row 1 rfl)
      obtain ⟨A6, c6, e6⟩ := Kd.R_slice H6.out
      subst e6
      obtain ⟨okS, hfS, hRS, hAS⟩ := HO.out.app 0 rfl
      have HfS := am hfS
      have HRS := am hRS
      have HAS := am hAS
      clear hfS hRS hAS
      go_wp2_with (first | ((with_reducible refine gate_builtin (b := .append) (xs := #[.tmp 63, .tmp 64]) rfl ?_); at_builtin; refine Kd.R_append_rows (Kd.int .i64) (w0 := w) w.heap.size rfl (.tmp 63) (.tmp 64) 39 3 (.int .i64 0) 8 rfl Tryd.underlying39 info3 rfl (by decide) (by omega) (.slice A4 fl.length c4) fl (srt q) A6 (srt q).length c6 okS (fun _ => False) rfl rfl ?aO ?aR (fun _ _ h => h) (fun _ h => h.elim) ?aF ?aB ?aS ?aL ?_; (case aO => exact HRS.out); (case aR => exact (Kd.R_reads' H6.out).2.2); (case aF => exact HfS.out); (case aB => exact bb HB); (case aS => exact below_size (bb HB)); (case aL => have h1_ := srt_len q; have h2_ := HQ.out.len; have h3_ := HL.out; have h4_ := HLF.out; omega); intro v4' w4 ho hb hg hat; replace HO := am (show Own w4 w.heap.size u3 outs [(v4', fl ++ srt q), (.slice A6 (srt q).length c6, srt q), (.slice A7 (iz q).length c7, iz q)] from HAS.out v4' w4 _ ho hg); replace HB := am hb; clear HfS HRS HAS H6 ho hb hg hat; obtain ⟨okG, okp, hfG, hRG, hkG, hSG, hAG⟩ := HO.out.give 1 rfl; have HfG := am hfG; have HRG := am hRG; have HkG := am hkG; have HSG := am hSG; have HAG := am hAG; clear hfG hRG hkG hSG hAG) | ((with_reducible refine gate_builtin (b := .append) (xs := #[.tmp 66, .tmp 68]) rfl ?_); at_builtin; refine Kd.S_append kII (w0 := w) w.heap.size rfl (.tmp 66) (.tmp 68) 45 39 (.slice none 0 0) 24 rfl Tryd.underlying45 infoII rfl (by decide) (by omega) u3 outs (srt q) [.slice A6 (srt q).length c6] okG okp rfl rfl ?aP ?aK ?aF ?aO ?aB ?aS ?aL ?_; (case aP => exact ⟨_, rfl, HRG.out⟩); (case aK => exact HkG.out); (case aF => exact HfG.out); (case aO => exact HSG.out); (case aB => exact bb HB); (case aS => exact below_size (bb HB)); (case aL => have h3_ := HL.out; have h4_ := HLO.out; omega); intro v3' w6 ho hb hg hat; replace HO := am (show Own w6 w.heap.size v3' (outs ++ [srt q]) [(v4', fl ++ srt q)] from HAG.out v3' w6 ho hg); replace HB := am hb; clear HfG HRG HkG HSG HAG ho hb hg hat))
      go_roundg (l.length - (i + 1))
      case measure => omega
      case rel => exact ⟨i + 1, by omega, by omega, by go_num, ⟨by rw [HSO.out, List.flatten_append, ← HFL.out]; simp only [List.flatten_cons, List.flatten_nil, List.append_nil]; repeat (first | (with_reducible first | exact HO.out | apply Own.alloc | apply Own.drewN | apply Own.drew) | exact HO.out)⟩, ⟨bb HB⟩⟩
  ·obtain rfl : i = l.length := by omega
   have c1b : decide ((l.length : Int) < (l.length : Int)) = false := decide_eq_false (by omega)
   go_wp2
   go_ret
   exact ⟨_, rfl, HO.out.outs_, HB.out⟩
def mtOf (n : Nat) (s : List Nat) : List Bool := (List.range n).map fun k => decide (k ∈ s)
theorem mtOf_len (n : Nat) (s : List Nat) : (mtOf n s).length = n := by simp [mtOf]
theorem mtOf_at {n k : Nat} (s : List Nat) (h : k < n) : rdOf false (mtOf n s) (k : Int) = decide (k ∈ s) := by
  unfold rdOf mtOf
  rw [Int.toNat_natCast, List.getD_eq_getElem?_getD, List.getElem?_map, List.getElem?_range h]
  rfl
theorem mtOf_set {n k : Nat} (s : List Nat) (h : k < n) : (mtOf n s).set k true = mtOf n (s ++ [k]) := by
  apply List.ext_getElem?
  intro j
  unfold mtOf
  rw [List.getElem?_set, List.getElem?_map, List.getElem?_map]
  by_cases hj : k = j
  · subst hj
    rw [if_pos rfl, if_pos (by simpa using h), List.getElem?_range h]
    simp
  · rw [if_neg hj]
    by_cases hjn : j < n
    · rw [List.getElem?_range hjn]
      have : ¬ j = k := fun e => hj e.symm
      simp [this]
    · rw [List.getElem?_eq_none (by simpa using hjn)]
      rfl
theorem mtOf_nil (n : Nat) : mtOf n [] = List.replicate n false := by
  unfold mtOf
  apply List.ext_getElem (by simp)
  intro i h1 h2
  simp
def igr (n : Nat) (sh : Nat → Nat → Bool) : Nat → List (List Int) × List Nat
  | 0 => ([], [])
  | i + 1 => if i ∈ (igr n sh i).2 then igr n sh i else ((igr n sh i).1 ++ [srt (bfs n sh (igr n sh i).2 n 0 [i])], (igr n sh i).2 ++ bfs n sh (igr n sh i).2 n 0 [i])
theorem igr_in {n : Nat} {sh : Nat → Nat → Bool} {i : Nat} (h : i ∈ (igr n sh i).2) : igr n sh (i + 1) = igr n sh i := by rw [igr, if_pos h]
theorem igr_out {n : Nat} {sh : Nat → Nat → Bool} {i : Nat} (h : ¬ i ∈ (igr n sh i).2) : igr n sh (i + 1) = ((igr n sh i).1 ++ [srt (bfs n sh (igr n sh i).2 n 0 [i])], (igr n sh i).2 ++ bfs n sh (igr n sh i).2 n 0 [i]) := by rw [igr, if_neg h]
theorem igr_eq {n : Nat} {sh : Nat → Nat → Bool} (hsym : ∀ a b, a < n → b < n → sh a b = sh b a) : ∀ i, i ≤ n → (igr n sh i).1 = sgr n sh i ∧ (∀ a : Nat, a ∈ (igr n sh i).2 ↔ (a : Int) ∈ (sgr n sh i).flatten) ∧ (∀ a ∈ (igr n sh i).2, ∀ k, k < n → sh a k = true → k ∈ (igr n sh i).2) ∧ (∀ a ∈ (igr n sh i).2, a < n)
  | 0, _ => ⟨rfl, by simp [igr, sgr], by simp [igr], by simp [igr]⟩
  | i + 1, hi => by
    obtain ⟨h1, h2, h3, h4⟩ := igr_eq hsym i (by omega)
    by_cases hin : i ∈ (igr n sh i).2
    · rw [igr_in hin, sgr_in ((h2 i).1 hin)]
      exact ⟨h1, h2, h3, h4⟩
    · have hq := IsQ.one (n := n) (i := i) (by omega) hin
      have e : bfs n sh (igr n sh i).2 n 0 [i] = qAt n sh i := bfs_bar hsym h3 h4 n 0 [i] hq
      obtain ⟨q1, q2⟩ := bfs_shut (n := n) (sh := sh) (blk := []) n 0 [i] (IsQ.one (by omega) (by simp)) (by simp) (by omega) (fun j x hj => by omega)
      have q1 : IsQ n [] (qAt n sh i) := q1
      have q2 : Shut' n sh [] (qAt n sh i).length (qAt n sh i) := q2
      rw [igr_out hin, sgr_out (fun h => hin ((h2 i).2 h)), e]
      refine ⟨by rw [h1], fun a => ?_, fun a ha k hk hs => ?_, fun a ha => ?_⟩
      · rw [List.flatten_append, List.mem_append, List.mem_append, h2 a]
        simp only [List.flatten_cons, List.flatten_nil, List.append_nil]
        rw [srt_mem, iz_mem]
      · rcases List.mem_append.1 ha with ha | ha
        · exact List.mem_append.2 (.inl (h3 a ha k hk hs))
        · obtain ⟨j, hj, rfl⟩ := List.mem_iff_getElem.1 ha
          exact List.mem_append.2 (.inr (q2 j _ hj (List.getElem?_eq_getElem hj) k hk (by simp) hs))
      · rcases List.mem_append.1 ha with ha | ha
        · exact h4 a ha
        · exact q1.2.1 a ha
mutual
def impl_MostApart.l0 : Nat → List (S28) → List Int → Int → Int → Option (List Int × Bool)
  | 0, _, _, _, _ => none
  | k + 1, x1, x6, x21, x22 => if x22 < x21 then ((impl_membersOf.f k x22).bind fun t187 => (impl_MostApart.l1 k x1 x6 t187 true x21 x22 t187 (t187.length : Int) 0)) else (some (x6, true))
def impl_MostApart.l1 : Nat → List (S28) → List Int → List Int → Bool → Int → Int → List Int → Int → Int → Option (List Int × Bool)
  | 0, _, _, _, _, _, _, _, _, _ => none
  | k + 1, x1, x6, x8, x9, x21, x22, x27, x28, x29 => if x29 < x28 then (if 0 ≤ x29 then (if x29 < (x27.length : Int) then (if x29 ≤ (x8.length : Int) then ((some (x8.take (x29 : Int).toNat : List Int)).bind fun y192 => (impl_MostApart.l2 k x1 x6 x8 x9 (rd x27 x29) x21 x22 x27 x28 x29 y192 (y192.length : Int) 0)) else (none)) else (none)) else (none)) else (if x9 = true then (if (x8.length : Int) > (x6.length : Int) then (impl_MostApart.l0 k x1 x8 x21 (wrap64 (x22 + 1))) else (if (x8.length : Int) = (x6.length : Int) then ((slices_Compare_int_int.f k x8 x6).bind fun t190 => (if t190 < 0 then (impl_MostApart.l0 k x1 x8 x21 (wrap64 (x22 + 1))) else (impl_MostApart.l0 k x1 x6 x21 (wrap64 (x22 + 1))))) else (impl_MostApart.l0 k x1 x6 x21 (wrap64 (x22 + 1))))) else (impl_MostApart.l0 k x1 x6 x21 (wrap64 (x22 + 1))))
def impl_MostApart.l2 : Nat → List (S28) → List Int → List Int → Bool → Int → Int → Int → List Int → Int → Int → List Int → Int → Int → Option (List Int × Bool)
  | 0, _, _, _, _, _, _, _, _, _, _, _, _, _ => none
  | k + 1, x1, x6, x8, x9, x11, x21, x22, x27, x28, x29, x36, x37, x38 => if x38 < x37 then (if 0 ≤ x38 then (if x38 < (x36.length : Int) then (if x9 = true then (if 0 ≤ x11 then (if x11 < (x1.length : Int) then (if 0 ≤ (rd x36 x38) then (if (rd x36 x38) < (x1.length : Int) then ((impl_areShared.f ((rd_T28 x1 x11).f0) ((rd_T28 x1 x11).f1) ((rd_T28 x1 x11).f2) ((rd_T28 x1 x11).f3) ((rd_T28 x1 (rd x36 x38)).f0) ((rd_T28 x1 (rd x36 x38)).f1) ((rd_T28 x1 (rd x36 x38)).f2) ((rd_T28 x1 (rd x36 x38)).f3)).bind fun t199 => (impl_MostApart.l2 k x1 x6 x8 (!t199) x11 x21 x22 x27 x28 x29 x36 x37 (wrap64 (x38 + 1)))) else (none)) else (none)) else (none)) else (none)) else (impl_MostApart.l2 k x1 x6 x8 false x11 x21 x22 x27 x28 x29 x36 x37 (wrap64 (x38 + 1)))) else (none)) else (none)) else (impl_MostApart.l1 k x1 x6 x8 x9 x21 x22 x27 x28 (wrap64 (x29 + 1)))
end
def impl_MostApart.f (k : Nat) (l0_0 : List (List Int)) (l1 : List (S28)) : Option (List Int × Bool) := (impl_areWatched.f k l0_0 l1).bind fun t183 => (if t183 = true then (impl_MostApart.l0 k l1 (([] : List Int)) (shl .i64 1 (l1.length : Int)) 0) else (some (([] : List Int), false)))
def impl_MostApart.T14 : Bool × List (List Nat × List Nat) := (true, [([], []), ([0], [0]), ([1], [1]), ([1], [1]), ([2, 3, 1], [1, 2, 3]), ([4, 1], [1, 4]), ([1], [1]), ([1], [1]), ([6, 7, 1], [1, 6, 7]), ([8, 1], [1, 8]), ([5, 9, 1, 1], [1, 5, 9]), ([10, 1], [1, 10]), ([1, 11], [1, 11]), ([12, 10, 0, 1, 2, 3, 4, 5, 6, 7, 8, 9, 10, 11, 12], [0, 12])])
def impl_MostApart.B14 : List Nat := [0, 1, 3, 3, 15, 31, 3, 3, 195, 451, 1023, 2047, 4095, 8191]
theorem impl_MostApart.tab14 : rtab .any (opsOf Tryd.f22 14) = impl_MostApart.T14 := by kernel_rfl
theorem impl_MostApart.bits14 : waitsOk impl_MostApart.T14.2 impl_MostApart.B14 = true := by kernel_rfl
set_option maxHeartbeats 8000000 in
set_option maxRecDepth 100000 in
theorem impl_MostApart.calls (k : Nat) (A0_0 : Option Addr) (c0_0 : Nat) (l0_0 : List (List Int)) (A1 : Option Addr) (c1 : Nat) (l1 : List (S28)) (r1 : List Int) (r2 : Bool) (w : World) (hr0_0 : Kd.C (Kd.slice 5 (Kd.int .u8)) w A0_0 l0_0.length l0_0) (hc0_0 : l0_0.length ≤ c0_0) (hr1 : Kd.C k28 w A1 l1.length l1) (hc1 : l1.length ≤ c1) (h : impl_MostApart.f k l0_0 l1 = some (r1, r2)) (HTD : Aside0 (TabD w) := by exact ⟨TabD.below HTD.out (by repeat (first | (with_reducible first | apply below_alloc | apply pw_below_drewN | apply below_drew1 | refine below_set ?_ (Aside0.out (by assumption))) | exact HB.out))⟩) :
    Calls Tryd.prog 22 #[.agg #[.slice A0_0 l0_0.length c0_0], .slice A1 l1.length c1] w fun e w' => ∃ v0_ : Value, e = .returned (.tuple #[v0_, .bool r2]) ∧ Kd.R (Kd.int .i64) 3 w' w.heap.size (fun _ => True) v0_ r1 ∧ Below w.heap.size w w' := by
 have hu26 := Tryd.underlying26
 have hu28 := Tryd.underlying28
 have HR0_0 := am hr0_0
 have HC0_0 := am hc0_0
 clear hr0_0 hc0_0
 have HR1 := am hr1
 have HC1 := am hc1
 clear hr1 hc1
 have HB := am (Below.refl w.heap.size w)
 have H : ((impl_areWatched.f k l0_0 l1).bind fun t183 => (if t183 = true then (impl_MostApart.l0 k l1 (([] : List Int)) (shl .i64 1 (l1.length : Int)) 0) else (some (([] : List Int), false)))) = some (r1, r2) := h
 clear h
 replace H := Option.bind_eq_some_iff.mp H
 obtain ⟨t183, A30, H⟩ := H
 try dsimp only at H
 have A3 := am A30
 clear A30
 by_cases c4 : t183 = true
 ·subst c4
  have H1 : (impl_MostApart.l0 k l1 (([] : List Int)) (shl .i64 1 (l1.length : Int)) 0) = some (r1, r2) := by rw [if_pos rfl] at H; exact H
  clear H
  have H := H1
  clear H1
  obtain ⟨y184, hy184⟩ : ∃ y_ : List Int, y_ = (([] : List Int)) := ⟨_, rfl⟩
  replace H : (impl_MostApart.l0 k l1 y184 (shl .i64 1 (l1.length : Int)) 0) = some (r1, r2) := by first | (rw [hy184]; with_reducible exact H) | (have H2_ := (Option.bind_some _ _).symm.trans H; rw [hy184]; with_reducible exact H2_) | (have H2_ := (Option.bind_some _ _).symm.trans H; with_reducible exact H2_) | with_reducible exact H | (rw [hy184]; exact H) | exact H
  have Ny184 := am hy184
  clear hy184
  obtain ⟨ji5, hji5⟩ : ∃ j_ : Int, (shl .i64 1 (l1.length : Int)) = j_ := ⟨_, rfl⟩
  replace H : (impl_MostApart.l0 k l1 y184 ji5 0) = some (r1, r2) := by first | (rw [hji5] at H; exact H) | (simp only [hji5] at H ⊢; exact H)
  (try rw [hji5] at A3)
  have hji5_ : (IntKind.i64.wrap (1 * 2 ^ min (l1.length : Int).toNat 64)) = ji5 := hji5
  have hji5z : (l1.length : Int) ≤ 64 → (IntKind.i64.wrap (1 * 2 ^ (l1.length : Int).toNat)) = ji5 := shl_small hji5
  have hji5p : (IntKind.i64.wrap (1 * 2 ^ min l1.length 64)) = ji5 := hji5_
  have hji5q : (l1.length : Int) ≤ 64 → (IntKind.i64.wrap (1 * 2 ^ l1.length)) = ji5 := hji5z
  have hji5r : (IntKind.i64.wrap (2 ^ min l1.length 64)) = ji5 := by have h_ := hji5p; rw [Int.one_mul] at h_; exact h_
  have hji5s : (l1.length : Int) ≤ 64 → (IntKind.i64.wrap (2 ^ l1.length)) = ji5 := fun hle_ => by have h_ := hji5q hle_; rw [Int.one_mul] at h_; exact h_
  have hji5u : (IntKind.i64.wrap (2 ^ min (l1.length : Int).toNat 64)) = ji5 := by have h_ := hji5_; rw [Int.one_mul] at h_; exact h_
  have hji5v : (l1.length : Int) ≤ 64 → (IntKind.i64.wrap (2 ^ (l1.length : Int).toNat)) = ji5 := fun hle_ => by have h_ := hji5z hle_; rw [Int.one_mul] at h_; exact h_
  have hji5y : (wrap64 (1 * 2 ^ min (l1.length : Int).toNat 64)) = ji5 := (i64_w _).symm.trans hji5_
  have hji5x : (l1.length : Int) ≤ 64 → (wrap64 (1 * 2 ^ (l1.length : Int).toNat)) = ji5 := fun h_ => (i64_w _).symm.trans (hji5z h_)
  have H' := am H
  clear H
  go_enter Tryd.func22, Tryd.ntmps22
  go_wp2_with (first | ((with_reducible refine gate_dst (N := 2) rfl ?_); (try (refine gate_guard (by rfl) ?_; dsimp only)); refine bE 2 #[.slice A0_0 l0_0.length c0_0] 26 ?_; intro gb182 hg w6 hbox hb; have BK182 := am hbox; have GW182 := gB hg HB; have GE182 := gB hg HB; replace HB := hB hb HB; clear hb hbox hg; obtain ⟨_, _⟩ := z1 BK182) | ((with_reducible refine gate_callee (f := 72) rfl ?_); refine gL 16 Tryd.func72 #[.agg #[.slice A0_0 l0_0.length c0_0], .slice A1 l1.length c1] ?_; (with_reducible refine (impl_areWatched.calls k _ _ l0_0 _ _ l1 true _ ?side1 ?side2 ?side3 ?side4 A3.out).mono ?_); (case side1 => exact cc (Kd.C_below HR0_0.out HB.out)); (case side2 => exact HC0_0.out); (case side3 => exact cc (Kd.C_below HR1.out HB.out)); (case side4 => exact HC1.out); rintro e w8 ⟨rfl, hb⟩; refine ⟨_, rfl, ?_⟩; replace BK182 := bB hb BK182; replace HB := hB hb HB; (try clear hb)) | ((with_reducible refine gate_dst (N := 18) rfl ?_); (try (refine gate_guard (by rfl) ?_; dsimp only)); refine Kd.R_lit (Kd.int .i64) _ 3 ?hg (N := 18) ?hd (xs := ([] : List Int)) (inner := []) (ok := fun _ => True) (okp := fun _ => True) ?hr ?hp (fun _ hk => hk) trivial (Below.refl _ _) (Nat.le_refl _) (by simp) ?_; (case hd => rfl); (case hg => rfl); (case hr => first | (go_simp; done) | (go_simp; rfl)); (case hp => exact (Reps.none _ _)); intro v185 w9 ho10 hb hg_ hnew_; clear hg_ hnew_; (first | rw [← Ny184.out] at ho10 | (simp only [Int.reduceToNat] at ho10; rw [← Ny184.out] at ho10)); have HO186 := am (Kd.R_lower ho10 (below_size (bs HB))); replace BK182 := bB hb BK182; replace HB := hB hb HB; clear hb ho10))
  go_loopg [6, 22] k (fun kq v6 v22 w' => ∃ (x6_1 : List Int) (x22_1 : Int), v22 = .int .i64 x22_1 ∧ Aside0 (impl_MostApart.l0 kq l1 x6_1 ji5 x22_1 = some (r1, r2)) ∧ Aside0 (kq ≤ k) ∧ Aside0 (Kd.R (Kd.int .i64) 3 w' w.heap.size (fun _ => True) v6 x6_1) ∧ Aside0 (w'.heap[gb182]? = some (.cells #[(.slice A0_0 l0_0.length c0_0)] 26 (0, 0))) ∧ Aside0 (Below w.heap.size w w'))
  case atStart => exact ⟨(y184), (0), (by first | rfl | (simp; done) | (simp [*]; done)), H', ⟨Nat.le_refl _⟩, ⟨rr HO186⟩, ⟨kk BK182⟩, ⟨bs HB⟩⟩
  case round =>
   clear H'
   try clear c1
   try clear c2
   try clear p2
   try clear c4
   try clear p6
   try clear c7
   obtain ⟨x6_1, x22_1, rfl, HA, HK1, HO_6, BK182, HB⟩ := hrel
   cases gk with
   | zero => exact absurd HA.out (by simp [impl_MostApart.l0])
   | succ k1 =>
    have H := HA.out
    clear HA
    simp only [impl_MostApart.l0] at H
    by_cases c11 : x22_1 < ji5
    ·rw [if_pos c11] at H
     have c11b0 : decide (x22_1 < ji5) = true := decide_eq_true c11
     clear c11
     replace H := Option.bind_eq_some_iff.mp H
     obtain ⟨t187, A120, H⟩ := H
     try dsimp only at H
     have A12 := am A120
     clear A120
     have H' := am H
     clear H
     go_wp2_with (first | ((with_reducible refine gate_callee (f := 82) rfl ?_); refine gL 26 Tryd.func82 #[.int .i64 x22_1] ?_; (with_reducible refine (impl_membersOf.calls k1 x22_1 t187 _ A12.out).mono ?_); rintro e w13 ⟨v188, rfl, ho0, hb⟩; refine ⟨_, rfl, ?_⟩; have HO189 := am (Kd.R_lower (Kd.R_new' ho0 (Kd.R_lt (rr HO_6))) (below_size (bs HB))); replace HO_6 := am (Kd.R_elder' (rr HO_6) (Kd.R_base ho0) hb); replace BK182 := bB hb BK182; replace HB := hB hb HB; (try clear hb); (try clear ho0); obtain ⟨Ao14, co14, eo14⟩ := Kd.R_slice HO189.out; subst eo14))
     go_loopg [9, 29] k1 (fun kq v9 v29 w' => ∃ (x9_2 : Bool) (x29_2 : Int), v9 = .bool x9_2 ∧ v29 = .int .i64 x29_2 ∧ Aside0 (impl_MostApart.l1 kq l1 x6_1 t187 x9_2 ji5 x22_1 t187 (t187.length : Int) x29_2 = some (r1, r2)) ∧ Aside0 (kq ≤ k1) ∧ Aside0 (Kd.R (Kd.int .i64) 3 w' w.heap.size (fun k_ => some k_ ≠ ((.slice Ao14 t187.length co14) : Value).ownBlock ∧ some k_ ≠ ((.slice Ao14 t187.length co14) : Value).ownBlock) u6 x6_1) ∧ Aside0 (Kd.R (Kd.int .i64) 3 w' w.heap.size (fun k_ => some k_ ≠ (u6 : Value).ownBlock) (.slice Ao14 t187.length co14) t187) ∧ Aside0 (Kd.R (Kd.int .i64) 3 w' w.heap.size (fun k_ => some k_ ≠ (u6 : Value).ownBlock) (.slice Ao14 t187.length co14) t187) ∧ Aside0 (w'.heap[gb182]? = some (.cells #[(.slice A0_0 l0_0.length c0_0)] 26 (0, 0))) ∧ Aside0 (Below w.heap.size w w'))
     case atStart => exact ⟨(true), (0), (by first | rfl | (simp; done) | (simp [*]; done)), (by first | rfl | (simp; done) | (simp [*]; done)), H', ⟨Nat.le_refl _⟩, ⟨by (with_reducible repeat (first | apply Kd.R_alloc | apply Kd.R_drewN | apply Kd.R_drew)); exact Kd.R_mono HO_6.out (fun _ hk => ⟨hk.2, hk.2⟩)⟩, ⟨by (with_reducible repeat (first | apply Kd.R_alloc | apply Kd.R_drewN | apply Kd.R_drew)); exact Kd.R_mono HO189.out (fun _ hk => hk.2)⟩, ⟨by (with_reducible repeat (first | apply Kd.R_alloc | apply Kd.R_drewN | apply Kd.R_drew)); exact Kd.R_mono HO189.out (fun _ hk => hk.2)⟩, ⟨kk BK182⟩, ⟨bs HB⟩⟩
     case round =>
      clear H'
      try clear c1
      try clear c2
      try clear p2
      try clear c4
      try clear p6
      try clear c7
      try clear c8
      try clear c11
      try clear c11b0
      try clear p2
      try clear p6
      obtain ⟨x9_2, x29_2, rfl, rfl, HA, HK2, HO_6, HO_8, HO_27, BK182, HB⟩ := hrel
      cases gk with
      | zero => exact absurd HA.out (by simp [impl_MostApart.l1])
      | succ k2 =>
       have H := HA.out
       clear HA
       simp only [impl_MostApart.l1] at H
       by_cases c15 : x29_2 < (t187.length : Int)
       ·rw [if_pos c15] at H
        have c15b0 : decide (x29_2 < (t187.length : Int)) = true := decide_eq_true c15
        clear c15
        by_cases c16 : 0 ≤ x29_2
        ·rw [if_pos c16] at H
         have c16b0 : decide (0 ≤ x29_2) = true := decide_eq_true c16
         clear c16
         by_cases c17 : x29_2 < (t187.length : Int)
         ·rw [if_pos c17] at H
          have c17b0 : decide (x29_2 < (t187.length : Int)) = true := decide_eq_true c17
          clear c17
          have c18b0 := eq_true (of_decide_eq_true (by assumption) : 0 ≤ x29_2)
          by_cases c19 : x29_2 ≤ (t187.length : Int)
          ·rw [if_pos c19] at H
           have c19b0 := eq_true c19
           have c19b1 : decide (x29_2 ≤ (t187.length : Int)) = true := decide_eq_true c19
           clear c19
           obtain ⟨y192, hy192⟩ : ∃ y_ : List Int, y_ = (t187.take (x29_2 : Int).toNat) := ⟨_, rfl⟩
           replace H : (impl_MostApart.l2 k2 l1 x6_1 t187 x9_2 (rd t187 x29_2) ji5 x22_1 t187 (t187.length : Int) x29_2 y192 (y192.length : Int) 0) = some (r1, r2) := by first | (rw [hy192]; with_reducible exact H) | (have H2_ := (Option.bind_some _ _).symm.trans H; rw [hy192]; with_reducible exact H2_) | (have H2_ := (Option.bind_some _ _).symm.trans H; with_reducible exact H2_) | with_reducible exact H | (rw [hy192]; exact H) | exact H
           have Ny192 := am hy192
           clear hy192
           have H' := am H
           clear H
           have p191 : 0 ≤ (x29_2 : Int) := of_decide_eq_true (by assumption)
           have q191 : x29_2 < (t187.length : Int) := of_decide_eq_true (by assumption)
           obtain ⟨ad191, e191, hx191_0⟩ := Kd.at_int (Kd.R_reads' HO_27.out).2.2 x29_2 p191 q191
           cases e191
           replace p191 := eq_true p191
           replace q191 := eq_true q191
           have q20 : (x29_2 : Int) ≤ ((t187.length : Int) : Int) := of_decide_eq_true (by assumption)
           obtain ⟨i020, hi020, _, hsz20, _⟩ := info_parts info3
           have hroom20 : t187.length ≤ co14 := (Kd.R_reads' HO_8.out).2.1
           have hC20 : Kd.C (Kd.int .i64) _ (some ad191) t187.length t187 := (Kd.R_reads' HO_8.out).2.2
           have hcut20 := cut_to (P := Tryd.prog) 39 3 .i64 Tryd.underlying39 hi020 (some ad191) t187.length co14 x29_2 (of_decide_eq_true (by assumption)) q20 hroom20
           have hr20 := Kd.C_take (m := (x29_2 : Int).toNat) hC20 (by omega)
           have hy20 : y192.length = (x29_2 : Int).toNat := (by rw [Ny192.out, List.length_take]; omega)
           rw [← Ny192.out] at hr20
           rw [← hy20] at hcut20
           have HR195 := am hr20
           have HC195 := am (show y192.length ≤ co14 from by omega)
           clear hr20 hC20 hroom20 hi020 hsz20
           have KY20 := am hy20
           clear hy20
           have KL20 := am (show (x29_2 : Int).toNat ≤ t187.length from by omega)
           replace q20 := eq_true q20
           go_wp2
           go_loopg [9, 38] k2 (fun kq v9 v38 w' => ∃ (x9_3 : Bool) (x38_3 : Int), v9 = .bool x9_3 ∧ v38 = .int .i64 x38_3 ∧ Aside0 (impl_MostApart.l2 kq l1 x6_1 t187 x9_3 (rd t187 x29_2) ji5 x22_1 t187 (t187.length : Int) x29_2 y192 (y192.length : Int) x38_3 = some (r1, r2)) ∧ Aside0 (kq ≤ k2) ∧ Aside0 (Kd.R (Kd.int .i64) 3 w' w.heap.size (fun k_ => some k_ ≠ ((.slice (some ad191) t187.length co14) : Value).ownBlock ∧ some k_ ≠ ((.slice (some ad191) t187.length co14) : Value).ownBlock) u6 x6_1) ∧ Aside0 (Kd.R (Kd.int .i64) 3 w' w.heap.size (fun k_ => some k_ ≠ (u6 : Value).ownBlock) (.slice (some ad191) t187.length co14) t187) ∧ Aside0 (Kd.R (Kd.int .i64) 3 w' w.heap.size (fun k_ => some k_ ≠ (u6 : Value).ownBlock) (.slice (some ad191) t187.length co14) t187) ∧ Aside0 (w'.heap[gb182]? = some (.cells #[(.slice A0_0 l0_0.length c0_0)] 26 (0, 0))) ∧ Aside0 (Kd.C (Kd.int .i64) w' (some ad191) y192.length y192) ∧ Aside0 (Below w.heap.size w w'))
           case atStart => exact ⟨(x9_2), (0), (by first | rfl | (simp; done) | (simp [*]; done)), (by first | rfl | (simp; done) | (simp [*]; done)), H', ⟨Nat.le_refl _⟩, ⟨rr HO_6⟩, ⟨rr HO_8⟩, ⟨rr HO_27⟩, ⟨kk BK182⟩, ⟨by repeat (first | (with_reducible exact HR195.out) | (with_reducible first | apply Kd.C_alloc | apply Kd.C_drewN | apply Kd.C_drew) | exact HR195.out)⟩, ⟨bs HB⟩⟩
           case round =>
            clear H'
            try clear c1
            try clear p1
            try clear q1
            try clear hx1
            try clear c2
            try clear p2
            try clear q2
            try clear c4
            try clear p6
            try clear c7
            try clear c8
            try clear c11
            try clear c11b0
            try clear c15
            try clear c15b0
            try clear c16
            try clear c16b0
            try clear c17
            try clear c17b0
            try clear c18
            try clear c18b0
            try clear c19
            try clear c19b0
            try clear c19b1
            try clear p19
            try clear q19
            try clear hx19
            try clear q20
            try clear hx191_0
            try clear p191
            try clear p2
            try clear p6
            try clear q191
            try clear q20
            obtain ⟨x9_3, x38_3, rfl, rfl, HA, HK3, HO_6, HO_8, HO_27, BK182, HR195, HB⟩ := hrel
            cases gk with
            | zero => exact absurd HA.out (by simp [impl_MostApart.l2])
            | succ k3 =>
             have H := HA.out
             clear HA
             simp only [impl_MostApart.l2] at H
             by_cases c21 : x38_3 < (y192.length : Int)
             ·rw [if_pos c21] at H
              have c21b0 : decide (x38_3 < (y192.length : Int)) = true := decide_eq_true c21
              clear c21
              by_cases c22 : 0 ≤ x38_3
              ·rw [if_pos c22] at H
               have c22b0 : decide (0 ≤ x38_3) = true := decide_eq_true c22
               clear c22
               by_cases c23 : x38_3 < (y192.length : Int)
               ·rw [if_pos c23] at H
                have c23b0 : decide (x38_3 < (y192.length : Int)) = true := decide_eq_true c23
                clear c23
                by_cases c24 : x9_3 = true
                ·subst c24
                 have H1 : (if 0 ≤ (rd t187 x29_2) then (if (rd t187 x29_2) < (l1.length : Int) then (if 0 ≤ (rd y192 x38_3) then (if (rd y192 x38_3) < (l1.length : Int) then ((impl_areShared.f ((rd_T28 l1 (rd t187 x29_2)).f0) ((rd_T28 l1 (rd t187 x29_2)).f1) ((rd_T28 l1 (rd t187 x29_2)).f2) ((rd_T28 l1 (rd t187 x29_2)).f3) ((rd_T28 l1 (rd y192 x38_3)).f0) ((rd_T28 l1 (rd y192 x38_3)).f1) ((rd_T28 l1 (rd y192 x38_3)).f2) ((rd_T28 l1 (rd y192 x38_3)).f3)).bind fun t199 => (impl_MostApart.l2 k3 l1 x6_1 t187 (!t199) (rd t187 x29_2) ji5 x22_1 t187 (t187.length : Int) x29_2 y192 (y192.length : Int) (wrap64 (x38_3 + 1)))) else (none)) else (none)) else (none)) else (none)) = some (r1, r2) := by rw [if_pos rfl] at H; exact H
                 clear H
                 have H := H1
                 clear H1
                 by_cases c25 : 0 ≤ (rd t187 x29_2)
                 ·rw [if_pos c25] at H
                  have c25b0 : decide (0 ≤ (rd t187 x29_2)) = true := decide_eq_true c25
                  clear c25
                  by_cases c26 : (rd t187 x29_2) < (l1.length : Int)
                  ·rw [if_pos c26] at H
                   have c26b0 : decide ((rd t187 x29_2) < (l1.length : Int)) = true := decide_eq_true c26
                   clear c26
                   by_cases c27 : 0 ≤ (rd y192 x38_3)
                   ·rw [if_pos c27] at H
                    have c27b0 : decide (0 ≤ (rd y192 x38_3)) = true := decide_eq_true c27
                    clear c27
                    by_cases c28 : (rd y192 x38_3) < (l1.length : Int)
                    ·rw [if_pos c28] at H
                     have c28b0 : decide ((rd y192 x38_3) < (l1.length : Int)) = true := decide_eq_true c28
                     clear c28
                     replace H := Option.bind_eq_some_iff.mp H
                     obtain ⟨t199, A290, H⟩ := H
                     try dsimp only at H
                     have A29 := am A290
                     clear A290
                     have H' := am H
                     clear H
                     have p196 : 0 ≤ (x38_3 : Int) := of_decide_eq_true (by assumption)
                     have q196 : x38_3 < (y192.length : Int) := of_decide_eq_true (by assumption)
                     obtain ⟨ad196, e196, hx196_0⟩ := Kd.at_int HR195.out x38_3 p196 q196
                     obtain rfl : ad191 = ad196 := (by injection e196)
                     try replace hx196_0 := (HB.out.cell (World.block_lt_of_cell? w _ hx196_0)).trans hx196_0
                     replace p196 := eq_true p196
                     replace q196 := eq_true q196
                     try go_wp2
                     replace HO_6 := am (Kd.R_drew HO_6.out)
                     replace HO_8 := am (Kd.R_drew HO_8.out)
                     replace HO_27 := am (Kd.R_drew HO_27.out)
                     replace BK182 := am (blk_drew BK182.out)
                     replace HR195 := am (Kd.C_drew HR195.out)
                     replace HB := am (below_drew1 HB.out)
                     have p197 : 0 ≤ ((rd t187 x29_2) : Int) := of_decide_eq_true (by assumption)
                     have q197 : (rd t187 x29_2) < (l1.length : Int) := of_decide_eq_true (by assumption)
                     obtain ⟨ad197, e197, hx197_0, hx197_1, hx197_2, hx197_3⟩ := at_T28 HR1.out (rd t187 x29_2) p197 q197
                     have hw197_3 := hx197_3
                     have hw197_2 := hx197_2
                     have hw197_1 := hx197_1
                     have hw197_0 := hx197_0
                     cases e197
                     try replace hx197_0 := (HB.out.cell (World.block_lt_of_cell? w _ hx197_0)).trans hx197_0
                     try replace hx197_1 := (HB.out.cell (World.block_lt_of_cell? w _ hx197_1)).trans hx197_1
                     try replace hx197_2 := (HB.out.cell (World.block_lt_of_cell? w _ hx197_2)).trans hx197_2
                     try replace hx197_3 := (HB.out.cell (World.block_lt_of_cell? w _ hx197_3)).trans hx197_3
                     replace p197 := eq_true p197
                     replace q197 := eq_true q197
                     have p198 : 0 ≤ ((rd y192 x38_3) : Int) := of_decide_eq_true (by assumption)
                     have q198 : (rd y192 x38_3) < (l1.length : Int) := of_decide_eq_true (by assumption)
                     obtain ⟨ad198, e198, hx198_0, hx198_1, hx198_2, hx198_3⟩ := at_T28 HR1.out (rd y192 x38_3) p198 q198
                     have hw198_3 := hx198_3
                     have hw198_2 := hx198_2
                     have hw198_1 := hx198_1
                     have hw198_0 := hx198_0
                     obtain rfl : ad197 = ad198 := (by injection e198)
                     try replace hx198_0 := (HB.out.cell (World.block_lt_of_cell? w _ hx198_0)).trans hx198_0
                     try replace hx198_1 := (HB.out.cell (World.block_lt_of_cell? w _ hx198_1)).trans hx198_1
                     try replace hx198_2 := (HB.out.cell (World.block_lt_of_cell? w _ hx198_2)).trans hx198_2
                     try replace hx198_3 := (HB.out.cell (World.block_lt_of_cell? w _ hx198_3)).trans hx198_3
                     replace p198 := eq_true p198
                     replace q198 := eq_true q198
                     refine start_ (n := 14) (S := fun w' => w'.cell? (ad197.add (((rd t187 x29_2)).toNat * 4)) = some (.int .i64 ((rd_T28 l1 (rd t187 x29_2)).f0)) ∧ w'.cell? ⟨(ad197.add (((rd t187 x29_2)).toNat * 4)).block, (ad197.add (((rd t187 x29_2)).toNat * 4)).off + 1, none⟩ = some (.int .i64 ((rd_T28 l1 (rd t187 x29_2)).f1)) ∧ w'.cell? ⟨(ad197.add (((rd t187 x29_2)).toNat * 4)).block, (ad197.add (((rd t187 x29_2)).toNat * 4)).off + 2, none⟩ = some (.int .i64 ((rd_T28 l1 (rd t187 x29_2)).f2)) ∧ w'.cell? ⟨(ad197.add (((rd t187 x29_2)).toNat * 4)).block, (ad197.add (((rd t187 x29_2)).toNat * 4)).off + 3, none⟩ = some (.int .i64 ((rd_T28 l1 (rd t187 x29_2)).f3)) ∧ w'.cell? (ad197.add (((rd y192 x38_3)).toNat * 4)) = some (.int .i64 ((rd_T28 l1 (rd y192 x38_3)).f0)) ∧ w'.cell? ⟨(ad197.add (((rd y192 x38_3)).toNat * 4)).block, (ad197.add (((rd y192 x38_3)).toNat * 4)).off + 1, none⟩ = some (.int .i64 ((rd_T28 l1 (rd y192 x38_3)).f1)) ∧ w'.cell? ⟨(ad197.add (((rd y192 x38_3)).toNat * 4)).block, (ad197.add (((rd y192 x38_3)).toNat * 4)).off + 2, none⟩ = some (.int .i64 ((rd_T28 l1 (rd y192 x38_3)).f2)) ∧ w'.cell? ⟨(ad197.add (((rd y192 x38_3)).toNat * 4)).block, (ad197.add (((rd y192 x38_3)).toNat * 4)).off + 3, none⟩ = some (.int .i64 ((rd_T28 l1 (rd y192 x38_3)).f3))) (ds := []) #[ff, ff, ff, ff, ff, ff, ff, ff, ff, ff, ff, ff, ff, ff] (by kernel_rfl) rfl rfl ⟨((HB.out.cell (World.block_lt_of_cell? w _ hw197_0)).trans hw197_0), ((HB.out.cell (World.block_lt_of_cell? w _ hw197_1)).trans hw197_1), ((HB.out.cell (World.block_lt_of_cell? w _ hw197_2)).trans hw197_2), ((HB.out.cell (World.block_lt_of_cell? w _ hw197_3)).trans hw197_3), ((HB.out.cell (World.block_lt_of_cell? w _ hw198_0)).trans hw198_0), ((HB.out.cell (World.block_lt_of_cell? w _ hw198_1)).trans hw198_1), ((HB.out.cell (World.block_lt_of_cell? w _ hw198_2)).trans hw198_2), ((HB.out.cell (World.block_lt_of_cell? w _ hw198_3)).trans hw198_3)⟩ (fun hHeld => ?_); refine with_tabW impl_MostApart.tab14 impl_MostApart.bits14 (fun HT_ HW_ => ?_)
                     generalize wr.drew = w30 at HO_6 HO_8 HO_27 BK182 HR195 HB hx197_0 hx197_1 hx197_2 hx197_3 hx198_0 hx198_1 hx198_2 hx198_3 hHeld ⊢
                     refine pS 0 42 HT_ ?_
                     refine pS 1 43 HT_ ?_
                     refine pS 2 44 HT_ ?_
                     refine pS 3 45 HT_ ?_
                     refine pS 4 46 HT_ ?_
                     refine pS 6 48 HT_ ?_
                     refine pS 7 49 HT_ ?_
                     refine pS 8 50 HT_ ?_
                     refine tS 5 47 HT_ HW_ hHeld ?_
                     refine tS 9 51 HT_ HW_ hHeld ?_
                     refine one_ (i := 10) (N := some 52) #[tt, tt, tt, tt, tt, tt, tt, tt, tt, tt, tt, ff, ff, ff] rfl rfl (one_of HT_.out (by kernel_rfl)) (by decide) (fun K hK => ?_)
                     refine goes_ Tryd.func68 (by kernel_rfl) rfl #[.agg #[.int .i64 ((rd_T28 l1 (rd t187 x29_2)).f0), .int .i64 ((rd_T28 l1 (rd t187 x29_2)).f1), .int .i64 ((rd_T28 l1 (rd t187 x29_2)).f2), .int .i64 ((rd_T28 l1 (rd t187 x29_2)).f3)], .agg #[.int .i64 ((rd_T28 l1 (rd y192 x38_3)).f0), .int .i64 ((rd_T28 l1 (rd y192 x38_3)).f1), .int .i64 ((rd_T28 l1 (rd y192 x38_3)).f2), .int .i64 ((rd_T28 l1 (rd y192 x38_3)).f3)]] (by rfl) rfl rfl (by (try simp only [List.map_toArray, List.map_cons, List.map_nil]); first | done | rfl | (simp only [List.length_drop, List.length_take]; rfl)) ?_
                     with_reducible refine (impl_areShared.calls ((rd_T28 l1 (rd t187 x29_2)).f0) ((rd_T28 l1 (rd t187 x29_2)).f1) ((rd_T28 l1 (rd t187 x29_2)).f2) ((rd_T28 l1 (rd t187 x29_2)).f3) ((rd_T28 l1 (rd y192 x38_3)).f0) ((rd_T28 l1 (rd y192 x38_3)).f1) ((rd_T28 l1 (rd y192 x38_3)).f2) ((rd_T28 l1 (rd y192 x38_3)).f3) t199 _ A29.out).mono ?_
                     rintro e w31 ⟨rfl, hb⟩
                     refine ⟨_, rfl, ?_⟩
                     replace HO_6 := rB hb HO_6
                     replace HO_8 := rB hb HO_8
                     replace HO_27 := rB hb HO_27
                     replace BK182 := bB hb BK182
                     replace HR195 := am (Kd.C_below (by repeat (first | (with_reducible exact HR195.out) | (with_reducible first | apply Kd.C_alloc | apply Kd.C_drewN | apply Kd.C_drew) | exact HR195.out)) hb)
                     replace HB := hB hb HB
                     (try clear hb)
                     (try clear hb2)
                     (try clear hk)
                     (try clear hi)
                     refine hK.out _ _ ⟨((HB.out.cell (World.block_lt_of_cell? w _ hw197_0)).trans hw197_0), ((HB.out.cell (World.block_lt_of_cell? w _ hw197_1)).trans hw197_1), ((HB.out.cell (World.block_lt_of_cell? w _ hw197_2)).trans hw197_2), ((HB.out.cell (World.block_lt_of_cell? w _ hw197_3)).trans hw197_3), ((HB.out.cell (World.block_lt_of_cell? w _ hw198_0)).trans hw198_0), ((HB.out.cell (World.block_lt_of_cell? w _ hw198_1)).trans hw198_1), ((HB.out.cell (World.block_lt_of_cell? w _ hw198_2)).trans hw198_2), ((HB.out.cell (World.block_lt_of_cell? w _ hw198_3)).trans hw198_3)⟩ (fun hHeld => ?_)
                     clear hK K
                     refine nP 52 ?_
                     refine pS 11 53 HT_ ?_
                     refine pS 12 54 HT_ ?_
                     refine pS 13 9 HT_ ?_
                     refine done_ (done_of HT_.out (by kernel_rfl)) ?_
                     try go_wp2
                     go_roundg k3
                     case measure => have := HK1.out; have := HK2.out; have := HK3.out; omega
                     case rel => exact ⟨(!t199), (wrap64 (x38_3 + 1)), (by first | rfl | (simp; done) | (simp [*]; done)), (by first | rfl | (simp; done) | (simp [*]; done)), H', ⟨by have := HK1.out; have := HK2.out; have := HK3.out; omega⟩, ⟨rr HO_6⟩, ⟨rr HO_8⟩, ⟨rr HO_27⟩, ⟨kk BK182⟩, ⟨by repeat (first | (with_reducible exact HR195.out) | (with_reducible first | apply Kd.C_alloc | apply Kd.C_drewN | apply Kd.C_drew) | exact HR195.out)⟩, ⟨bs HB⟩⟩
                    ·rw [if_neg c28] at H
                     exact absurd H (by simp)
                   ·rw [if_neg c27] at H
                    exact absurd H (by simp)
                  ·rw [if_neg c26] at H
                   exact absurd H (by simp)
                 ·rw [if_neg c25] at H
                  exact absurd H (by simp)
                ·replace c24 := Bool.eq_false_iff.mpr c24
                 subst c24
                 have H1 : (impl_MostApart.l2 k3 l1 x6_1 t187 false (rd t187 x29_2) ji5 x22_1 t187 (t187.length : Int) x29_2 y192 (y192.length : Int) (wrap64 (x38_3 + 1))) = some (r1, r2) := by rw [if_neg (show ¬ (false = true) by decide)] at H; exact H
                 clear H
                 have H := H1
                 clear H1
                 have H' := am H
                 clear H
                 have p196 : 0 ≤ (x38_3 : Int) := of_decide_eq_true (by assumption)
                 have q196 : x38_3 < (y192.length : Int) := of_decide_eq_true (by assumption)
                 obtain ⟨ad196, e196, hx196_0⟩ := Kd.at_int HR195.out x38_3 p196 q196
                 obtain rfl : ad191 = ad196 := (by injection e196)
                 try replace hx196_0 := (HB.out.cell (World.block_lt_of_cell? w _ hx196_0)).trans hx196_0
                 replace p196 := eq_true p196
                 replace q196 := eq_true q196
                 try go_wp2
                 replace HO_6 := am (Kd.R_drew HO_6.out)
                 replace HO_8 := am (Kd.R_drew HO_8.out)
                 replace HO_27 := am (Kd.R_drew HO_27.out)
                 replace BK182 := am (blk_drew BK182.out)
                 replace HR195 := am (Kd.C_drew HR195.out)
                 replace HB := am (below_drew1 HB.out)
                 refine start_ (n := 14) (S := fun w' => True) (ds := []) #[ff, ff, ff, ff, ff, ff, ff, ff, ff, ff, ff, ff, ff, ff] (by kernel_rfl) rfl rfl trivial (fun hHeld => ?_); refine with_tabW impl_MostApart.tab14 impl_MostApart.bits14 (fun HT_ HW_ => ?_)
                 generalize wr.drew = w32 at HO_6 HO_8 HO_27 BK182 HR195 HB hHeld ⊢
                 refine pS 0 42 HT_ ?_
                 refine pS 1 43 HT_ ?_
                 refine uS 2 44 HT_ ?_
                 refine uS 3 45 HT_ ?_
                 refine uS 4 46 HT_ ?_
                 refine uS 5 47 HT_ ?_
                 refine uS 6 48 HT_ ?_
                 refine uS 7 49 HT_ ?_
                 refine uS 8 50 HT_ ?_
                 refine uS 9 51 HT_ ?_
                 refine uS 10 52 HT_ ?_
                 refine uS 11 53 HT_ ?_
                 refine pS 12 54 HT_ ?_
                 refine pS 13 9 HT_ ?_
                 refine done_ (done_of HT_.out (by kernel_rfl)) ?_
                 try go_wp2
                 go_roundg k3
                 case measure => have := HK1.out; have := HK2.out; have := HK3.out; omega
                 case rel => exact ⟨(false), (wrap64 (x38_3 + 1)), (by first | rfl | (simp; done) | (simp [*]; done)), (by first | rfl | (simp; done) | (simp [*]; done)), H', ⟨by have := HK1.out; have := HK2.out; have := HK3.out; omega⟩, ⟨rr HO_6⟩, ⟨rr HO_8⟩, ⟨rr HO_27⟩, ⟨kk BK182⟩, ⟨by repeat (first | (with_reducible exact HR195.out) | (with_reducible first | apply Kd.C_alloc | apply Kd.C_drewN | apply Kd.C_drew) | exact HR195.out)⟩, ⟨bs HB⟩⟩
               ·rw [if_neg c23] at H
                exact absurd H (by simp)
              ·rw [if_neg c22] at H
               exact absurd H (by simp)
             ·rw [if_neg c21] at H
              have c21b0 : decide (x38_3 < (y192.length : Int)) = false := decide_eq_false c21
              clear c21
              have H' := am H
              clear H
              go_wp2
              go_roundg k3
              case measure => have := HK1.out; have := HK2.out; have := HK3.out; omega
              case rel => exact ⟨(x9_3), (wrap64 (x29_2 + 1)), (by first | rfl | (simp; done) | (simp [*]; done)), (by first | rfl | (simp; done) | (simp [*]; done)), H', ⟨by have := HK1.out; have := HK2.out; have := HK3.out; omega⟩, ⟨rr HO_6⟩, ⟨rr HO_8⟩, ⟨rr HO_27⟩, ⟨kk BK182⟩, ⟨bs HB⟩⟩
          ·rw [if_neg c19] at H
           exact absurd H (by simp)
         ·rw [if_neg c17] at H
          exact absurd H (by simp)
        ·rw [if_neg c16] at H
         exact absurd H (by simp)
       ·rw [if_neg c15] at H
        have c15b0 : decide (x29_2 < (t187.length : Int)) = false := decide_eq_false c15
        clear c15
        by_cases c33 : x9_2 = true
        ·subst c33
         have H1 : (if (t187.length : Int) > (x6_1.length : Int) then (impl_MostApart.l0 k2 l1 t187 ji5 (wrap64 (x22_1 + 1))) else (if (t187.length : Int) = (x6_1.length : Int) then ((slices_Compare_int_int.f k2 t187 x6_1).bind fun t190 => (if t190 < 0 then (impl_MostApart.l0 k2 l1 t187 ji5 (wrap64 (x22_1 + 1))) else (impl_MostApart.l0 k2 l1 x6_1 ji5 (wrap64 (x22_1 + 1))))) else (impl_MostApart.l0 k2 l1 x6_1 ji5 (wrap64 (x22_1 + 1))))) = some (r1, r2) := by rw [if_pos rfl] at H; exact H
         clear H
         have H := H1
         clear H1
         by_cases c34 : (t187.length : Int) > (x6_1.length : Int)
         ·rw [if_pos c34] at H
          have c34b0 : decide ((x6_1.length : Int) < (t187.length : Int)) = true := decide_eq_true c34
          have c34b1 : decide (x6_1.length < t187.length) = true := decide_eq_true (Int.ofNat_lt.mp c34)
          clear c34
          have H' := am H
          clear H
          obtain ⟨Ao35, co35, eo35⟩ := Kd.R_slice HO_6.out
          subst eo35
          go_wp2
          go_roundg k2
          case measure => have := HK1.out; have := HK2.out; omega
          case rel => exact ⟨(t187), (wrap64 (x22_1 + 1)), (by first | rfl | (simp; done) | (simp [*]; done)), H', ⟨by have := HK1.out; have := HK2.out; omega⟩, ⟨by (with_reducible repeat (first | apply Kd.R_alloc | apply Kd.R_drewN | apply Kd.R_drew)); exact Kd.R_mono HO_8.out (fun _ hk => trivial)⟩, ⟨kk BK182⟩, ⟨bs HB⟩⟩
         ·rw [if_neg c34] at H
          have c34b0 : decide ((x6_1.length : Int) < (t187.length : Int)) = false := decide_eq_false c34
          have c34b1 : decide (x6_1.length < t187.length) = false := decide_eq_false (fun h => c34 (Int.ofNat_lt.mpr h))
          clear c34
          by_cases c36 : (t187.length : Int) = (x6_1.length : Int)
          ·rw [if_pos c36] at H
           have c36b0 : ((t187.length : Int) == (x6_1.length : Int)) = true := beq_iff_eq.mpr c36
           have c36b1 : ((t187.length : Int) != (x6_1.length : Int)) = false := bne_eq_false_iff_eq.mpr c36
           have c36b2 : (t187.length == x6_1.length) = true := by first | simpa using c36 | (simp at c36 ⊢; omega)
           clear c36
           replace H := Option.bind_eq_some_iff.mp H
           obtain ⟨t190, A370, H⟩ := H
           try dsimp only at H
           have A37 := am A370
           clear A370
           by_cases c38 : t190 < 0
           ·rw [if_pos c38] at H
            have c38b0 : decide (t190 < 0) = true := decide_eq_true c38
            clear c38
            have H' := am H
            clear H
            obtain ⟨Ao39, co39, eo39⟩ := Kd.R_slice HO_6.out
            subst eo39
            go_wp2_with (first | (go_at_call 83; (with_reducible refine (slices_Compare_int_int.calls k2 _ _ t187 _ _ x6_1 t190 _ ?side1 ?side2 ?side3 ?side4 A37.out).mono ?_); (case side1 => exact cc (Kd.R_reads' HO_8.out).2.2); (case side2 => exact (Kd.R_reads' HO_8.out).2.1); (case side3 => exact cc (Kd.R_reads' HO_6.out).2.2); (case side4 => exact (Kd.R_reads' HO_6.out).2.1); rintro e w' ⟨rfl, ⟨nd, rfl⟩⟩))
            go_roundg k2
            case measure => have := HK1.out; have := HK2.out; omega
            case rel => exact ⟨(t187), (wrap64 (x22_1 + 1)), (by first | rfl | (simp; done) | (simp [*]; done)), H', ⟨by have := HK1.out; have := HK2.out; omega⟩, ⟨by (with_reducible repeat (first | apply Kd.R_alloc | apply Kd.R_drewN | apply Kd.R_drew)); exact Kd.R_mono HO_8.out (fun _ hk => trivial)⟩, ⟨kk BK182⟩, ⟨bs HB⟩⟩
           ·rw [if_neg c38] at H
            have c38b0 : decide (t190 < 0) = false := decide_eq_false c38
            clear c38
            have H' := am H
            clear H
            obtain ⟨Ao40, co40, eo40⟩ := Kd.R_slice HO_6.out
            subst eo40
            go_wp2_with (first | (go_at_call 83; (with_reducible refine (slices_Compare_int_int.calls k2 _ _ t187 _ _ x6_1 t190 _ ?side1 ?side2 ?side3 ?side4 A37.out).mono ?_); (case side1 => exact cc (Kd.R_reads' HO_8.out).2.2); (case side2 => exact (Kd.R_reads' HO_8.out).2.1); (case side3 => exact cc (Kd.R_reads' HO_6.out).2.2); (case side4 => exact (Kd.R_reads' HO_6.out).2.1); rintro e w' ⟨rfl, ⟨nd, rfl⟩⟩))
            go_roundg k2
            case measure => have := HK1.out; have := HK2.out; omega
            case rel => exact ⟨(x6_1), (wrap64 (x22_1 + 1)), (by first | rfl | (simp; done) | (simp [*]; done)), H', ⟨by have := HK1.out; have := HK2.out; omega⟩, ⟨by (with_reducible repeat (first | apply Kd.R_alloc | apply Kd.R_drewN | apply Kd.R_drew)); exact Kd.R_mono HO_6.out (fun _ hk => trivial)⟩, ⟨kk BK182⟩, ⟨bs HB⟩⟩
          ·rw [if_neg c36] at H
           have c36b0 : ((t187.length : Int) == (x6_1.length : Int)) = false := beq_eq_false_iff_ne.mpr c36
           have c36b1 : ((t187.length : Int) != (x6_1.length : Int)) = true := bne_iff_ne.mpr c36
           have c36b2 : (t187.length == x6_1.length) = false := by first | simpa using c36 | (simp at c36 ⊢; omega)
           have H' := am H
           clear H
           obtain ⟨Ao41, co41, eo41⟩ := Kd.R_slice HO_6.out
           subst eo41
           go_wp2
           go_roundg k2
           case measure => have := HK1.out; have := HK2.out; omega
           case rel => exact ⟨(x6_1), (wrap64 (x22_1 + 1)), (by first | rfl | (simp; done) | (simp [*]; done)), H', ⟨by have := HK1.out; have := HK2.out; omega⟩, ⟨by (with_reducible repeat (first | apply Kd.R_alloc | apply Kd.R_drewN | apply Kd.R_drew)); exact Kd.R_mono HO_6.out (fun _ hk => trivial)⟩, ⟨kk BK182⟩, ⟨bs HB⟩⟩
        ·replace c33 := Bool.eq_false_iff.mpr c33
         subst c33
         have H1 : (impl_MostApart.l0 k2 l1 x6_1 ji5 (wrap64 (x22_1 + 1))) = some (r1, r2) := by rw [if_neg (show ¬ (false = true) by decide)] at H; exact H
         clear H
         have H := H1
         clear H1
         have H' := am H
         clear H
         go_wp2
         go_roundg k2
         case measure => have := HK1.out; have := HK2.out; omega
         case rel => exact ⟨(x6_1), (wrap64 (x22_1 + 1)), (by first | rfl | (simp; done) | (simp [*]; done)), H', ⟨by have := HK1.out; have := HK2.out; omega⟩, ⟨by (with_reducible repeat (first | apply Kd.R_alloc | apply Kd.R_drewN | apply Kd.R_drew)); exact Kd.R_mono HO_6.out (fun _ hk => trivial)⟩, ⟨kk BK182⟩, ⟨bs HB⟩⟩
    ·rw [if_neg c11] at H
     have c11b0 : decide (x22_1 < ji5) = false := decide_eq_false c11
     clear c11
     simp only [Option.some.injEq, Prod.mk.injEq] at H
     obtain ⟨rfl, rfl⟩ := H
     go_wp2
     go_ret2
     exact ⟨_, by first | rfl | (simp [errW_none, errW_some] <;> rfl) | (simp only [← hji5]; first | rfl | (simp [errW_none, errW_some] <;> rfl)) | (simp [*, errW_none, errW_some] <;> rfl), rr HO_6, bs HB⟩
 ·replace c4 := Bool.eq_false_iff.mpr c4
  subst c4
  have H1 : (some (([] : List Int), false)) = some (r1, r2) := by rw [if_neg (show ¬ (false = true) by decide)] at H; exact H
  clear H
  have H := H1
  clear H1
  simp only [Option.some.injEq, Prod.mk.injEq] at H
  obtain ⟨rfl, rfl⟩ := H
  go_enter Tryd.func22, Tryd.ntmps22
  go_wp2_with (first | ((with_reducible refine gate_dst (N := 2) rfl ?_); (try (refine gate_guard (by rfl) ?_; dsimp only)); refine bE 2 #[.slice A0_0 l0_0.length c0_0] 26 ?_; intro gb182 hg w42 hbox hb; have BK182 := am hbox; have GW182 := gB hg HB; have GE182 := gB hg HB; replace HB := hB hb HB; clear hb hbox hg; obtain ⟨_, _⟩ := z1 BK182) | ((with_reducible refine gate_callee (f := 72) rfl ?_); refine gL 16 Tryd.func72 #[.agg #[.slice A0_0 l0_0.length c0_0], .slice A1 l1.length c1] ?_; (with_reducible refine (impl_areWatched.calls k _ _ l0_0 _ _ l1 false _ ?side1 ?side2 ?side3 ?side4 A3.out).mono ?_); (case side1 => exact cc (Kd.C_below HR0_0.out HB.out)); (case side2 => exact HC0_0.out); (case side3 => exact cc (Kd.C_below HR1.out HB.out)); (case side4 => exact HC1.out); rintro e w44 ⟨rfl, hb⟩; refine ⟨_, rfl, ?_⟩; replace BK182 := bB hb BK182; replace HB := hB hb HB; (try clear hb)))
  go_ret2
  exact ⟨_, by first | rfl | (simp [*, errW_none, errW_some] <;> rfl), by first | exact Kd.R_nil _ _ _ _ _ | exact Kd.N_nil _ _ _ _ _ | exact Kd.V_nil _ _ _ _ _ | exact Kd.Q_nil _ _ _ _ _ | exact Kd.S_nil _ _ _ _ _, bs HB⟩
set_option maxRecDepth 100000 in
theorem eqP2 (d : Nat) (w : World) (a b : Int) :
    (Op.equalIn (d + 2) 53 (.agg #[.int .i64 a, .int .i64 b]) (.agg #[.int .i64 a, .int .i64 b])).run Tryd.prog w = .ok true w := by
  have hi : Tryd.prog.info? 3 = some ((Tryd.prog.info? 3).get (by kernel_rfl)) := (Option.some_get _).symm
  rw [run_equalIn_array w (d + 1) _ _ Tryd.underlying53 hi]
  have hc : Tryd.prog.cellsOf 3 = 1 := by kernel_rfl
  rw [hc, show List.range 2 = [0, 1] from rfl]
  simp only [Op.eqItems]
  go_simp
attribute [local go_sem high] eqP2
set_option maxHeartbeats 8000000 in
set_option maxRecDepth 100000 in
theorem laws_vPairs.same (A0 : Option Addr) (c0 : Nat) (l : List (Int × Int)) (A1 : Option Addr) (c1 : Nat) (w : World) (hr0 : Kd.C kA2 w A0 l.length l) (hc0 : l.length ≤ c0) (hr1 : Kd.C kA2 w A1 l.length l) (hc1 : l.length ≤ c1) (hl : l.length ≤ 1048576) :
    Calls Tryd.prog 27 #[.slice A0 l.length c0, .slice A1 l.length c1] w fun e w' => e = .returned (.bool true) ∧ Below w.heap.size w w' := by
 have HR0 := am hr0
 have HR1 := am hr1
 clear hr0 hr1
 have HB := am (Below.refl w.heap.size w)
 have hu := Tryd.underlying53
 go_enter Tryd.func27, Tryd.ntmps27
 go_wp2
 go_loopg [5] l.length (fun kq v5 w' => ∃ i : Nat, i ≤ l.length ∧ l.length - i ≤ kq ∧ v5 = .int .i64 (i : Int) ∧ Aside0 (Below w.heap.size w w'))
 case atStart => exact ⟨0, by omega, by omega, rfl, HB⟩
 case round =>
  clear HB
  obtain ⟨i, hi, hkq, rfl, HB⟩ := hrel
  by_cases hlt : i < l.length
  ·have hltz : (i : Int) < (l.length : Int) := by omega
   have h0z : 0 ≤ (i : Int) := by omega
   have c1b := decide_eq_true hltz
   have c2b := decide_eq_true h0z
   obtain ⟨ad0, e0, hx0, hx1⟩ := at_A2 (Kd.C_below HR0.out HB.out) (i : Int) h0z hltz
   cases e0
   obtain ⟨ad1, e1, hy0, hy1⟩ := at_A2 (Kd.C_below HR1.out HB.out) (i : Int) h0z hltz
   cases e1
   simp only [Int.toNat_natCast] at hx0 hx1 hy0 hy1
   replace hltz := eq_true hltz
   replace h0z := eq_true h0z
   try go_wp2
   replace HB := am (below_drew1 HB.out)
   refine start_ (n := 9) (S := fun w' => (w'.cell? (ad0.add (i * 2)) = some (.int .i64 (rd_A2 l i).1) ∧ w'.cell? ⟨(ad0.add (i * 2)).block, (ad0.add (i * 2)).off + 1, none⟩ = some (.int .i64 (rd_A2 l i).2)) ∧ (w'.cell? (ad1.add (i * 2)) = some (.int .i64 (rd_A2 l i).1) ∧ w'.cell? ⟨(ad1.add (i * 2)).block, (ad1.add (i * 2)).off + 1, none⟩ = some (.int .i64 (rd_A2 l i).2))) (ds := []) #[ff, ff, ff, ff, ff, ff, ff, ff, ff] (by kernel_rfl) rfl rfl ⟨⟨hx0, hx1⟩, hy0, hy1⟩ (fun hHeld => ?_)
   generalize wr.drew = w9 at HB hx0 hx1 hy0 hy1 hHeld ⊢
   refine pM #[tt, ff, ff, ff, ff, ff, ff, ff, ff] 0 17 ?_
   refine pM #[tt, tt, ff, ff, ff, ff, ff, ff, ff] 1 18 ?_
   refine pM #[tt, tt, tt, ff, ff, ff, ff, ff, ff] 2 19 ?_
   refine pM #[tt, tt, tt, ff, tt, ff, ff, ff, ff] 4 21 ?_
   refine pM #[tt, tt, tt, ff, tt, tt, ff, ff, ff] 5 22 ?_
   refine pM #[tt, tt, tt, ff, tt, tt, tt, ff, ff] 6 23 ?_
   refine tM #[tt, tt, tt, tt, tt, tt, tt, ff, ff] 3 20 hHeld ?_
   refine tM #[tt, tt, tt, tt, tt, tt, tt, tt, ff] 7 24 hHeld ?_
   refine pM #[tt, tt, tt, tt, tt, tt, tt, tt, tt] 8 25 ?_
   refine done_ (by kernel_rfl) ?_
   try go_wp2
   go_roundg (l.length - (i + 1))
   case measure => omega
   case rel => exact ⟨i + 1, by omega, by omega, by first | rfl | go_num, HB⟩
  ·have c1b : decide ((i : Int) < (l.length : Int)) = false := decide_eq_false (by omega)
   go_wp2
   go_ret
   exact ⟨rfl, HB.out⟩
end Go.Proofs.YthnchjgffocigaaDoor.P
end
section
namespace Go.Proofs.YthnchjgffocigaaDoor.P
open Go.RowKit Go.Proofs.YthnchjgffocigaaDoorW.PrintWords Go.Proofs.YthnchjgffocigaaDoorW.PrintLast Go.Proofs.YthnchjgffocigaaDoorW.PrintMore
set_option linter.unusedVariables false
set_option linter.unusedSimpArgs false
set_option maxHeartbeats 4000000 in
set_option maxRecDepth 100000 in
theorem noted_0 (k : Nat) (A0 : Option Addr) (c0 : Nat) (m : List (List Int)) (A1 : Option Addr) (c1 : Nat) (l : List S28) (a p : Int) (w : World) (hr0 : Kd.C (Kd.slice 5 (Kd.int .u8)) w A0 m.length m) (hc0 : m.length ≤ c0) (hr1 : Kd.C k28 w A1 l.length l) (hc1 : l.length ≤ c1) (h1 : impl_areWatched.f k m l = some false) :
    Calls Tryd.prog 30 #[.agg #[.slice A0 m.length c0], .slice A1 l.length c1, .int .i64 a, .int .i64 p] w fun e w' => e = .returned (.tuple #[.slice none 0 0, .bool false]) ∧ Below w.heap.size w w' := by
 have hu := Tryd.underlying26
 have HR0 := am hr0
 have HC0 := am hc0
 have HR1 := am hr1
 have HC1 := am hc1
 clear hr0 hc0 hr1 hc1
 have HB := am (Below.refl w.heap.size w)
 have HA1 := am h1
 clear h1
 go_enter Tryd.func30, Tryd.ntmps30
 go_upto_region 1 with (first | ((with_reducible refine gate_dst (N := 4) rfl ?_); refine bE 4 #[.slice A0 m.length c0] 26 ?_; intro g4 hg w4 hbox hb; have GE4 := am ((by rw [hg]; exact below_size (bb HB) : w.heap.size ≤ g4)); replace HB := am (below_step (bb HB) hb); have BK4 := am hbox; clear hb hbox hg) | ((with_reducible refine gate_dst (N := 6) rfl ?_); refine bE 6 #[.int .i64 a] 3 ?_; intro g6 hg w6 hbox hb; have GE6 := am ((by rw [hg]; exact below_size (bb HB) : w.heap.size ≤ g6)); replace HB := am (below_step (bb HB) hb); have BK6 := am hbox; have NB4_6 := am ((by rw [hg]; exact Nat.ne_of_lt (blk_lt (g := g4) (o := .cells #[.slice A0 m.length c0] 26 (0, 0)) (kk BK4)) : g4 ≠ g6)); replace BK4 := b2 hb BK4; clear hb hbox hg) | ((with_reducible refine gate_dst (N := 7) rfl ?_); refine bE 7 #[.int .i64 p] 3 ?_; intro g7 hg w7 hbox hb; have GE7 := am ((by rw [hg]; exact below_size (bb HB) : w.heap.size ≤ g7)); replace HB := am (below_step (bb HB) hb); have BK7 := am hbox; have NB4_7 := am ((by rw [hg]; exact Nat.ne_of_lt (blk_lt (g := g4) (o := .cells #[.slice A0 m.length c0] 26 (0, 0)) (kk BK4)) : g4 ≠ g7)); replace BK4 := b2 hb BK4; have NB6_7 := am ((by rw [hg]; exact Nat.ne_of_lt (blk_lt (g := g6) (o := .cells #[.int .i64 a] 3 (0, 0)) (kk BK6)) : g6 ≠ g7)); replace BK6 := b2 hb BK6; clear hb hbox hg))
 replace BK4 := am (blk_drew BK4.out)
 replace BK6 := am (blk_drew BK6.out)
 replace BK7 := am (blk_drew BK7.out)
 replace HB := am (below_drew1 HB.out)
 refine start_ (n := 22) (S := fun w' => w'.cell? ⟨g4, 0, none⟩ = some (.slice A0 m.length c0) ∧ w'.cell? ⟨g6, 0, none⟩ = some (.int .i64 a) ∧ w'.cell? ⟨g7, 0, none⟩ = some (.int .i64 p)) (ds := []) #[ff, ff, ff, ff, ff, ff, ff, ff, ff, ff, ff, ff, ff, ff, ff, ff, ff, ff, ff, ff, ff, ff] (by kernel_rfl) rfl rfl ⟨(blk_cell BK4.out 0).trans rfl, (blk_cell BK6.out 0).trans rfl, (blk_cell BK7.out 0).trans rfl⟩ (fun hHeld => ?_)
 generalize w7.drew = wd at BK4 BK6 BK7 HB hHeld ⊢
 refine tM #[tt, ff, ff, ff, ff, ff, ff, ff, ff, ff, ff, ff, ff, ff, ff, ff, ff, ff, ff, ff, ff, ff] 0 10 hHeld ?_
 refine tM #[tt, tt, ff, ff, ff, ff, ff, ff, ff, ff, ff, ff, ff, ff, ff, ff, ff, ff, ff, ff, ff, ff] 1 11 hHeld ?_
 refine one_ (i := 2) (N := some 12) #[tt, tt, tt, ff, ff, ff, ff, ff, ff, ff, ff, ff, ff, ff, ff, ff, ff, ff, ff, ff, ff, ff] rfl rfl (by kernel_rfl) (by decide) (fun K hK => ?_)
 refine goes_ Tryd.func72 (by kernel_rfl) rfl #[.agg #[.slice A0 m.length c0], .slice A1 l.length c1] (by rfl) rfl rfl (by (try simp only [List.map_toArray, List.map_cons, List.map_nil]); first | done | rfl | (simp only [i64_w]; rfl)) ?_
 (with_reducible refine (impl_areWatched.calls k _ _ m _ _ l false _ ?s1 ?s2 ?s3 ?s4 HA1.out).mono ?_)
 (case s1 => exact Kd.C_below HR0.out (bb HB))
 (case s2 => exact HC0.out)
 (case s3 => exact Kd.C_below HR1.out (bb HB))
 (case s4 => exact HC1.out)
 rintro e wW ⟨rfl, hb⟩
 refine ⟨_, rfl, ?_⟩
 replace BK4 := am (blk_below (g := g4) (o := .cells #[.slice A0 m.length c0] 26 (0, 0)) BK4.out hb)
 replace BK6 := am (blk_below (g := g6) (o := .cells #[.int .i64 a] 3 (0, 0)) BK6.out hb)
 replace BK7 := am (blk_below (g := g7) (o := .cells #[.int .i64 p] 3 (0, 0)) BK7.out hb)
 replace HB := am (below_step HB.out hb)
 clear hb
 refine hK.out _ _ ⟨(blk_cell BK4.out 0).trans rfl, (blk_cell BK6.out 0).trans rfl, (blk_cell BK7.out 0).trans rfl⟩ (fun hHeld => ?_)
 clear hK K
 refine nP 12 ?_
 refine tM #[tt, tt, tt, tt, ff, ff, ff, ff, ff, ff, ff, ff, ff, ff, ff, ff, ff, ff, ff, ff, ff, ff] 3 13 hHeld ?_
 refine tM #[tt, tt, tt, tt, tt, ff, ff, ff, ff, ff, ff, ff, ff, ff, ff, ff, ff, ff, ff, ff, ff, ff] 4 14 hHeld ?_
 refine uM #[tt, tt, tt, tt, tt, tt, ff, ff, ff, ff, ff, ff, ff, ff, ff, ff, ff, ff, ff, ff, ff, ff] 5 15 ?_
 refine uM #[tt, tt, tt, tt, tt, tt, tt, ff, ff, ff, ff, ff, ff, ff, ff, ff, ff, ff, ff, ff, ff, ff] 6 16 ?_
 refine uM #[tt, tt, tt, tt, tt, tt, tt, tt, ff, ff, ff, ff, ff, ff, ff, ff, ff, ff, ff, ff, ff, ff] 7 17 ?_
 refine uM #[tt, tt, tt, tt, tt, tt, tt, tt, tt, ff, ff, ff, ff, ff, ff, ff, ff, ff, ff, ff, ff, ff] 8 18 ?_
 refine tM #[tt, tt, tt, tt, tt, tt, tt, tt, tt, tt, ff, ff, ff, ff, ff, ff, ff, ff, ff, ff, ff, ff] 9 19 hHeld ?_
 refine tM #[tt, tt, tt, tt, tt, tt, tt, tt, tt, tt, tt, ff, ff, ff, ff, ff, ff, ff, ff, ff, ff, ff] 10 20 hHeld ?_
 refine uM #[tt, tt, tt, tt, tt, tt, tt, tt, tt, tt, tt, tt, ff, ff, ff, ff, ff, ff, ff, ff, ff, ff] 11 21 ?_
 refine uM #[tt, tt, tt, tt, tt, tt, tt, tt, tt, tt, tt, tt, tt, ff, ff, ff, ff, ff, ff, ff, ff, ff] 12 22 ?_
 refine uM #[tt, tt, tt, tt, tt, tt, tt, tt, tt, tt, tt, tt, tt, tt, ff, ff, ff, ff, ff, ff, ff, ff] 13 23 ?_
 refine uM #[tt, tt, tt, tt, tt, tt, tt, tt, tt, tt, tt, tt, tt, tt, tt, ff, ff, ff, ff, ff, ff, ff] 14 24 ?_
 refine uM #[tt, tt, tt, tt, tt, tt, tt, tt, tt, tt, tt, tt, tt, tt, tt, tt, ff, ff, ff, ff, ff, ff] 15 25 ?_
 refine uM #[tt, tt, tt, tt, tt, tt, tt, tt, tt, tt, tt, tt, tt, tt, tt, tt, tt, ff, ff, ff, ff, ff] 16 26 ?_
 refine uM #[tt, tt, tt, tt, tt, tt, tt, tt, tt, tt, tt, tt, tt, tt, tt, tt, tt, tt, ff, ff, ff, ff] 17 27 ?_
 refine uM #[tt, tt, tt, tt, tt, tt, tt, tt, tt, tt, tt, tt, tt, tt, tt, tt, tt, tt, tt, ff, ff, ff] 18 28 ?_
 refine uM #[tt, tt, tt, tt, tt, tt, tt, tt, tt, tt, tt, tt, tt, tt, tt, tt, tt, tt, tt, tt, ff, ff] 19 29 ?_
 refine uM #[tt, tt, tt, tt, tt, tt, tt, tt, tt, tt, tt, tt, tt, tt, tt, tt, tt, tt, tt, tt, tt, ff] 20 30 ?_
 refine tM #[tt, tt, tt, tt, tt, tt, tt, tt, tt, tt, tt, tt, tt, tt, tt, tt, tt, tt, tt, tt, tt, tt] 21 31 hHeld ?_
 refine done_ (by kernel_rfl) ?_
 go_wp2
 go_ret2
 exact ⟨rfl, bb HB⟩
set_option maxHeartbeats 4000000 in
set_option maxRecDepth 100000 in
theorem noted_1 (k : Nat) (A0 : Option Addr) (c0 : Nat) (m : List (List Int)) (A1 : Option Addr) (c1 : Nat) (l : List S28) (a p : Int) (w : World) (hr0 : Kd.C (Kd.slice 5 (Kd.int .u8)) w A0 m.length m) (hc0 : m.length ≤ c0) (hr1 : Kd.C k28 w A1 l.length l) (hc1 : l.length ≤ c1) (h1 : impl_areWatched.f k m l = some true) (h2 : impl_Memory_hasArray.f m a = some false) :
    Calls Tryd.prog 30 #[.agg #[.slice A0 m.length c0], .slice A1 l.length c1, .int .i64 a, .int .i64 p] w fun e w' => e = .returned (.tuple #[.slice none 0 0, .bool false]) ∧ Below w.heap.size w w' := by
 have hu := Tryd.underlying26
 have HR0 := am hr0
 have HC0 := am hc0
 have HR1 := am hr1
 have HC1 := am hc1
 clear hr0 hc0 hr1 hc1
 have HB := am (Below.refl w.heap.size w)
 have HA1 := am h1
 clear h1
 have HA2 := am h2
 clear h2
 go_enter Tryd.func30, Tryd.ntmps30
 go_upto_region 1 with (first | ((with_reducible refine gate_dst (N := 4) rfl ?_); refine bE 4 #[.slice A0 m.length c0] 26 ?_; intro g4 hg w4 hbox hb; have GE4 := am ((by rw [hg]; exact below_size (bb HB) : w.heap.size ≤ g4)); replace HB := am (below_step (bb HB) hb); have BK4 := am hbox; clear hb hbox hg) | ((with_reducible refine gate_dst (N := 6) rfl ?_); refine bE 6 #[.int .i64 a] 3 ?_; intro g6 hg w6 hbox hb; have GE6 := am ((by rw [hg]; exact below_size (bb HB) : w.heap.size ≤ g6)); replace HB := am (below_step (bb HB) hb); have BK6 := am hbox; have NB4_6 := am ((by rw [hg]; exact Nat.ne_of_lt (blk_lt (g := g4) (o := .cells #[.slice A0 m.length c0] 26 (0, 0)) (kk BK4)) : g4 ≠ g6)); replace BK4 := b2 hb BK4; clear hb hbox hg) | ((with_reducible refine gate_dst (N := 7) rfl ?_); refine bE 7 #[.int .i64 p] 3 ?_; intro g7 hg w7 hbox hb; have GE7 := am ((by rw [hg]; exact below_size (bb HB) : w.heap.size ≤ g7)); replace HB := am (below_step (bb HB) hb); have BK7 := am hbox; have NB4_7 := am ((by rw [hg]; exact Nat.ne_of_lt (blk_lt (g := g4) (o := .cells #[.slice A0 m.length c0] 26 (0, 0)) (kk BK4)) : g4 ≠ g7)); replace BK4 := b2 hb BK4; have NB6_7 := am ((by rw [hg]; exact Nat.ne_of_lt (blk_lt (g := g6) (o := .cells #[.int .i64 a] 3 (0, 0)) (kk BK6)) : g6 ≠ g7)); replace BK6 := b2 hb BK6; clear hb hbox hg))
 replace BK4 := am (blk_drew BK4.out)
 replace BK6 := am (blk_drew BK6.out)
 replace BK7 := am (blk_drew BK7.out)
 replace HB := am (below_drew1 HB.out)
 refine start_ (n := 22) (S := fun w' => w'.cell? ⟨g4, 0, none⟩ = some (.slice A0 m.length c0) ∧ w'.cell? ⟨g6, 0, none⟩ = some (.int .i64 a) ∧ w'.cell? ⟨g7, 0, none⟩ = some (.int .i64 p)) (ds := []) #[ff, ff, ff, ff, ff, ff, ff, ff, ff, ff, ff, ff, ff, ff, ff, ff, ff, ff, ff, ff, ff, ff] (by kernel_rfl) rfl rfl ⟨(blk_cell BK4.out 0).trans rfl, (blk_cell BK6.out 0).trans rfl, (blk_cell BK7.out 0).trans rfl⟩ (fun hHeld => ?_)
 generalize w7.drew = wd at BK4 BK6 BK7 HB hHeld ⊢
 refine tM #[tt, ff, ff, ff, ff, ff, ff, ff, ff, ff, ff, ff, ff, ff, ff, ff, ff, ff, ff, ff, ff, ff] 0 10 hHeld ?_
 refine tM #[tt, tt, ff, ff, ff, ff, ff, ff, ff, ff, ff, ff, ff, ff, ff, ff, ff, ff, ff, ff, ff, ff] 1 11 hHeld ?_
 refine one_ (i := 2) (N := some 12) #[tt, tt, tt, ff, ff, ff, ff, ff, ff, ff, ff, ff, ff, ff, ff, ff, ff, ff, ff, ff, ff, ff] rfl rfl (by kernel_rfl) (by decide) (fun K hK => ?_)
 refine goes_ Tryd.func72 (by kernel_rfl) rfl #[.agg #[.slice A0 m.length c0], .slice A1 l.length c1] (by rfl) rfl rfl (by (try simp only [List.map_toArray, List.map_cons, List.map_nil]); first | done | rfl | (simp only [i64_w]; rfl)) ?_
 (with_reducible refine (impl_areWatched.calls k _ _ m _ _ l true _ ?s1 ?s2 ?s3 ?s4 HA1.out).mono ?_)
 (case s1 => exact Kd.C_below HR0.out (bb HB))
 (case s2 => exact HC0.out)
 (case s3 => exact Kd.C_below HR1.out (bb HB))
 (case s4 => exact HC1.out)
 rintro e wW ⟨rfl, hb⟩
 refine ⟨_, rfl, ?_⟩
 replace BK4 := am (blk_below (g := g4) (o := .cells #[.slice A0 m.length c0] 26 (0, 0)) BK4.out hb)
 replace BK6 := am (blk_below (g := g6) (o := .cells #[.int .i64 a] 3 (0, 0)) BK6.out hb)
 replace BK7 := am (blk_below (g := g7) (o := .cells #[.int .i64 p] 3 (0, 0)) BK7.out hb)
 replace HB := am (below_step HB.out hb)
 clear hb
 refine hK.out _ _ ⟨(blk_cell BK4.out 0).trans rfl, (blk_cell BK6.out 0).trans rfl, (blk_cell BK7.out 0).trans rfl⟩ (fun hHeld => ?_)
 clear hK K
 refine nP 12 ?_
 refine tM #[tt, tt, tt, tt, ff, ff, ff, ff, ff, ff, ff, ff, ff, ff, ff, ff, ff, ff, ff, ff, ff, ff] 3 13 hHeld ?_
 refine tM #[tt, tt, tt, tt, tt, ff, ff, ff, ff, ff, ff, ff, ff, ff, ff, ff, ff, ff, ff, ff, ff, ff] 4 14 hHeld ?_
 refine tM #[tt, tt, tt, tt, tt, tt, ff, ff, ff, ff, ff, ff, ff, ff, ff, ff, ff, ff, ff, ff, ff, ff] 5 15 hHeld ?_
 refine tM #[tt, tt, tt, tt, tt, tt, tt, ff, ff, ff, ff, ff, ff, ff, ff, ff, ff, ff, ff, ff, ff, ff] 6 16 hHeld ?_
 refine one_ (i := 7) (N := some 17) #[tt, tt, tt, tt, tt, tt, tt, tt, ff, ff, ff, ff, ff, ff, ff, ff, ff, ff, ff, ff, ff, ff] rfl rfl (by kernel_rfl) (by decide) (fun K hK => ?_)
 refine goes_ Tryd.func73 (by kernel_rfl) rfl #[.agg #[.slice A0 m.length c0], .int .i64 a] (by rfl) rfl rfl (by (try simp only [List.map_toArray, List.map_cons, List.map_nil]); first | done | rfl | (simp only [i64_w]; rfl)) ?_
 (with_reducible refine (impl_Memory_hasArray.calls _ _ m a false _ ?s1 ?s2 HA2.out).mono ?_)
 (case s1 => exact Kd.C_below HR0.out (bb HB))
 (case s2 => exact HC0.out)
 rintro e wH ⟨rfl, hb⟩
 refine ⟨_, rfl, ?_⟩
 replace BK4 := am (blk_below (g := g4) (o := .cells #[.slice A0 m.length c0] 26 (0, 0)) BK4.out hb)
 replace BK6 := am (blk_below (g := g6) (o := .cells #[.int .i64 a] 3 (0, 0)) BK6.out hb)
 replace BK7 := am (blk_below (g := g7) (o := .cells #[.int .i64 p] 3 (0, 0)) BK7.out hb)
 replace HB := am (below_step HB.out hb)
 clear hb
 refine hK.out _ _ ⟨(blk_cell BK4.out 0).trans rfl, (blk_cell BK6.out 0).trans rfl, (blk_cell BK7.out 0).trans rfl⟩ (fun hHeld => ?_)
 clear hK K
 refine nP 17 ?_
 refine tM #[tt, tt, tt, tt, tt, tt, tt, tt, tt, ff, ff, ff, ff, ff, ff, ff, ff, ff, ff, ff, ff, ff] 8 18 hHeld ?_
 refine tM #[tt, tt, tt, tt, tt, tt, tt, tt, tt, tt, ff, ff, ff, ff, ff, ff, ff, ff, ff, ff, ff, ff] 9 19 hHeld ?_
 refine tM #[tt, tt, tt, tt, tt, tt, tt, tt, tt, tt, tt, ff, ff, ff, ff, ff, ff, ff, ff, ff, ff, ff] 10 20 hHeld ?_
 refine uM #[tt, tt, tt, tt, tt, tt, tt, tt, tt, tt, tt, tt, ff, ff, ff, ff, ff, ff, ff, ff, ff, ff] 11 21 ?_
 refine uM #[tt, tt, tt, tt, tt, tt, tt, tt, tt, tt, tt, tt, tt, ff, ff, ff, ff, ff, ff, ff, ff, ff] 12 22 ?_
 refine uM #[tt, tt, tt, tt, tt, tt, tt, tt, tt, tt, tt, tt, tt, tt, ff, ff, ff, ff, ff, ff, ff, ff] 13 23 ?_
 refine uM #[tt, tt, tt, tt, tt, tt, tt, tt, tt, tt, tt, tt, tt, tt, tt, ff, ff, ff, ff, ff, ff, ff] 14 24 ?_
 refine uM #[tt, tt, tt, tt, tt, tt, tt, tt, tt, tt, tt, tt, tt, tt, tt, tt, ff, ff, ff, ff, ff, ff] 15 25 ?_
 refine uM #[tt, tt, tt, tt, tt, tt, tt, tt, tt, tt, tt, tt, tt, tt, tt, tt, tt, ff, ff, ff, ff, ff] 16 26 ?_
 refine uM #[tt, tt, tt, tt, tt, tt, tt, tt, tt, tt, tt, tt, tt, tt, tt, tt, tt, tt, ff, ff, ff, ff] 17 27 ?_
 refine uM #[tt, tt, tt, tt, tt, tt, tt, tt, tt, tt, tt, tt, tt, tt, tt, tt, tt, tt, tt, ff, ff, ff] 18 28 ?_
 refine uM #[tt, tt, tt, tt, tt, tt, tt, tt, tt, tt, tt, tt, tt, tt, tt, tt, tt, tt, tt, tt, ff, ff] 19 29 ?_
 refine uM #[tt, tt, tt, tt, tt, tt, tt, tt, tt, tt, tt, tt, tt, tt, tt, tt, tt, tt, tt, tt, tt, ff] 20 30 ?_
 refine tM #[tt, tt, tt, tt, tt, tt, tt, tt, tt, tt, tt, tt, tt, tt, tt, tt, tt, tt, tt, tt, tt, tt] 21 31 hHeld ?_
 refine done_ (by kernel_rfl) ?_
 go_wp2
 go_ret2
 exact ⟨rfl, bb HB⟩
set_option maxHeartbeats 4000000 in
set_option maxRecDepth 100000 in
theorem noted_2 (k : Nat) (A0 : Option Addr) (c0 : Nat) (m : List (List Int)) (A1 : Option Addr) (c1 : Nat) (l : List S28) (a p : Int) (w : World) (hr0 : Kd.C (Kd.slice 5 (Kd.int .u8)) w A0 m.length m) (hc0 : m.length ≤ c0) (hr1 : Kd.C k28 w A1 l.length l) (hc1 : l.length ≤ c1) (h1 : impl_areWatched.f k m l = some true) (h2 : impl_Memory_hasArray.f m a = some true) (ha0 : 0 ≤ a) (ha1 : a < (m.length : Int)) (h3 : impl_within.f p 0 (wrap64 (((rd_L1 m a).length : Int) - 1)) = some false) :
    Calls Tryd.prog 30 #[.agg #[.slice A0 m.length c0], .slice A1 l.length c1, .int .i64 a, .int .i64 p] w fun e w' => e = .returned (.tuple #[.slice none 0 0, .bool false]) ∧ Below w.heap.size w w' := by
 have hu := Tryd.underlying26
 obtain ⟨n, hN⟩ : ∃ n, n = (rd_L1 m a).length := ⟨_, rfl⟩
 obtain ⟨ad1, A2, c2, e1, hx1, hl1, hi1⟩ := at_L1 hr0 a ha0 ha1
 cases e1
 rw [← hN] at hx1 h3
 have HX1 := am hx1
 have HA3 := am h3
 clear hN hx1 hl1 hi1 h3
 have p0 : decide (0 ≤ a) = true := decide_eq_true ha0
 have p1 : decide (a < (m.length : Int)) = true := decide_eq_true ha1
 replace ha0 := eq_true ha0
 replace ha1 := eq_true ha1
 have HR0 := am hr0
 have HC0 := am hc0
 have HR1 := am hr1
 have HC1 := am hc1
 clear hr0 hc0 hr1 hc1
 have HB := am (Below.refl w.heap.size w)
 have HA1 := am h1
 clear h1
 have HA2 := am h2
 clear h2
 go_enter Tryd.func30, Tryd.ntmps30
 go_upto_region 1 with (first | ((with_reducible refine gate_dst (N := 4) rfl ?_); refine bE 4 #[.slice (some ad1) m.length c0] 26 ?_; intro g4 hg w4 hbox hb; have GE4 := am ((by rw [hg]; exact below_size (bb HB) : w.heap.size ≤ g4)); replace HB := am (below_step (bb HB) hb); have BK4 := am hbox; clear hb hbox hg) | ((with_reducible refine gate_dst (N := 6) rfl ?_); refine bE 6 #[.int .i64 a] 3 ?_; intro g6 hg w6 hbox hb; have GE6 := am ((by rw [hg]; exact below_size (bb HB) : w.heap.size ≤ g6)); replace HB := am (below_step (bb HB) hb); have BK6 := am hbox; have NB4_6 := am ((by rw [hg]; exact Nat.ne_of_lt (blk_lt (g := g4) (o := .cells #[.slice (some ad1) m.length c0] 26 (0, 0)) (kk BK4)) : g4 ≠ g6)); replace BK4 := b2 hb BK4; clear hb hbox hg) | ((with_reducible refine gate_dst (N := 7) rfl ?_); refine bE 7 #[.int .i64 p] 3 ?_; intro g7 hg w7 hbox hb; have GE7 := am ((by rw [hg]; exact below_size (bb HB) : w.heap.size ≤ g7)); replace HB := am (below_step (bb HB) hb); have BK7 := am hbox; have NB4_7 := am ((by rw [hg]; exact Nat.ne_of_lt (blk_lt (g := g4) (o := .cells #[.slice (some ad1) m.length c0] 26 (0, 0)) (kk BK4)) : g4 ≠ g7)); replace BK4 := b2 hb BK4; have NB6_7 := am ((by rw [hg]; exact Nat.ne_of_lt (blk_lt (g := g6) (o := .cells #[.int .i64 a] 3 (0, 0)) (kk BK6)) : g6 ≠ g7)); replace BK6 := b2 hb BK6; clear hb hbox hg))
 replace BK4 := am (blk_drew BK4.out)
 replace BK6 := am (blk_drew BK6.out)
 replace BK7 := am (blk_drew BK7.out)
 replace HB := am (below_drew1 HB.out)
 refine start_ (n := 22) (S := fun w' => w'.cell? ⟨g4, 0, none⟩ = some (.slice (some ad1) m.length c0) ∧ w'.cell? ⟨g6, 0, none⟩ = some (.int .i64 a) ∧ w'.cell? ⟨g7, 0, none⟩ = some (.int .i64 p) ∧ w'.cell? (ad1.add a.toNat) = some (.slice A2 n c2)) (ds := []) #[ff, ff, ff, ff, ff, ff, ff, ff, ff, ff, ff, ff, ff, ff, ff, ff, ff, ff, ff, ff, ff, ff] (by kernel_rfl) rfl rfl ⟨(blk_cell BK4.out 0).trans rfl, (blk_cell BK6.out 0).trans rfl, (blk_cell BK7.out 0).trans rfl, pw_cell_below HB.out HX1.out⟩ (fun hHeld => ?_)
 generalize w7.drew = wd at BK4 BK6 BK7 HB hHeld ⊢
 refine tM #[tt, ff, ff, ff, ff, ff, ff, ff, ff, ff, ff, ff, ff, ff, ff, ff, ff, ff, ff, ff, ff, ff] 0 10 hHeld ?_
 refine tM #[tt, tt, ff, ff, ff, ff, ff, ff, ff, ff, ff, ff, ff, ff, ff, ff, ff, ff, ff, ff, ff, ff] 1 11 hHeld ?_
 refine one_ (i := 2) (N := some 12) #[tt, tt, tt, ff, ff, ff, ff, ff, ff, ff, ff, ff, ff, ff, ff, ff, ff, ff, ff, ff, ff, ff] rfl rfl (by kernel_rfl) (by decide) (fun K hK => ?_)
 refine goes_ Tryd.func72 (by kernel_rfl) rfl #[.agg #[.slice (some ad1) m.length c0], .slice A1 l.length c1] (by rfl) rfl rfl (by (try simp only [List.map_toArray, List.map_cons, List.map_nil]); first | done | rfl | (simp only [i64_w]; rfl)) ?_
 (with_reducible refine (impl_areWatched.calls k _ _ m _ _ l true _ ?s1 ?s2 ?s3 ?s4 HA1.out).mono ?_)
 (case s1 => exact Kd.C_below HR0.out (bb HB))
 (case s2 => exact HC0.out)
 (case s3 => exact Kd.C_below HR1.out (bb HB))
 (case s4 => exact HC1.out)
 rintro e wW ⟨rfl, hb⟩
 refine ⟨_, rfl, ?_⟩
 replace BK4 := am (blk_below (g := g4) (o := .cells #[.slice (some ad1) m.length c0] 26 (0, 0)) BK4.out hb)
 replace BK6 := am (blk_below (g := g6) (o := .cells #[.int .i64 a] 3 (0, 0)) BK6.out hb)
 replace BK7 := am (blk_below (g := g7) (o := .cells #[.int .i64 p] 3 (0, 0)) BK7.out hb)
 replace HB := am (below_step HB.out hb)
 clear hb
 refine hK.out _ _ ⟨(blk_cell BK4.out 0).trans rfl, (blk_cell BK6.out 0).trans rfl, (blk_cell BK7.out 0).trans rfl, pw_cell_below HB.out HX1.out⟩ (fun hHeld => ?_)
 clear hK K
 refine nP 12 ?_
 refine tM #[tt, tt, tt, tt, ff, ff, ff, ff, ff, ff, ff, ff, ff, ff, ff, ff, ff, ff, ff, ff, ff, ff] 3 13 hHeld ?_
 refine tM #[tt, tt, tt, tt, tt, ff, ff, ff, ff, ff, ff, ff, ff, ff, ff, ff, ff, ff, ff, ff, ff, ff] 4 14 hHeld ?_
 refine tM #[tt, tt, tt, tt, tt, tt, ff, ff, ff, ff, ff, ff, ff, ff, ff, ff, ff, ff, ff, ff, ff, ff] 5 15 hHeld ?_
 refine tM #[tt, tt, tt, tt, tt, tt, tt, ff, ff, ff, ff, ff, ff, ff, ff, ff, ff, ff, ff, ff, ff, ff] 6 16 hHeld ?_
 refine one_ (i := 7) (N := some 17) #[tt, tt, tt, tt, tt, tt, tt, tt, ff, ff, ff, ff, ff, ff, ff, ff, ff, ff, ff, ff, ff, ff] rfl rfl (by kernel_rfl) (by decide) (fun K hK => ?_)
 refine goes_ Tryd.func73 (by kernel_rfl) rfl #[.agg #[.slice (some ad1) m.length c0], .int .i64 a] (by rfl) rfl rfl (by (try simp only [List.map_toArray, List.map_cons, List.map_nil]); first | done | rfl | (simp only [i64_w]; rfl)) ?_
 (with_reducible refine (impl_Memory_hasArray.calls _ _ m a true _ ?s1 ?s2 HA2.out).mono ?_)
 (case s1 => exact Kd.C_below HR0.out (bb HB))
 (case s2 => exact HC0.out)
 rintro e wH ⟨rfl, hb⟩
 refine ⟨_, rfl, ?_⟩
 replace BK4 := am (blk_below (g := g4) (o := .cells #[.slice (some ad1) m.length c0] 26 (0, 0)) BK4.out hb)
 replace BK6 := am (blk_below (g := g6) (o := .cells #[.int .i64 a] 3 (0, 0)) BK6.out hb)
 replace BK7 := am (blk_below (g := g7) (o := .cells #[.int .i64 p] 3 (0, 0)) BK7.out hb)
 replace HB := am (below_step HB.out hb)
 clear hb
 refine hK.out _ _ ⟨(blk_cell BK4.out 0).trans rfl, (blk_cell BK6.out 0).trans rfl, (blk_cell BK7.out 0).trans rfl, pw_cell_below HB.out HX1.out⟩ (fun hHeld => ?_)
 clear hK K
 refine nP 17 ?_
 refine tM #[tt, tt, tt, tt, tt, tt, tt, tt, tt, ff, ff, ff, ff, ff, ff, ff, ff, ff, ff, ff, ff, ff] 8 18 hHeld ?_
 refine tM #[tt, tt, tt, tt, tt, tt, tt, tt, tt, tt, ff, ff, ff, ff, ff, ff, ff, ff, ff, ff, ff, ff] 9 19 hHeld ?_
 refine tM #[tt, tt, tt, tt, tt, tt, tt, tt, tt, tt, tt, ff, ff, ff, ff, ff, ff, ff, ff, ff, ff, ff] 10 20 hHeld ?_
 refine tM #[tt, tt, tt, tt, tt, tt, tt, tt, tt, tt, tt, tt, ff, ff, ff, ff, ff, ff, ff, ff, ff, ff] 11 21 hHeld ?_
 refine tM #[tt, tt, tt, tt, tt, tt, tt, tt, tt, tt, tt, tt, tt, ff, ff, ff, ff, ff, ff, ff, ff, ff] 12 22 hHeld ?_
 refine tM #[tt, tt, tt, tt, tt, tt, tt, tt, tt, tt, tt, tt, tt, tt, ff, ff, ff, ff, ff, ff, ff, ff] 13 23 hHeld ?_
 refine tM #[tt, tt, tt, tt, tt, tt, tt, tt, tt, tt, tt, tt, tt, tt, tt, ff, ff, ff, ff, ff, ff, ff] 14 24 hHeld ?_
 refine tM #[tt, tt, tt, tt, tt, tt, tt, tt, tt, tt, tt, tt, tt, tt, tt, tt, ff, ff, ff, ff, ff, ff] 15 25 hHeld ?_
 refine tM #[tt, tt, tt, tt, tt, tt, tt, tt, tt, tt, tt, tt, tt, tt, tt, tt, tt, ff, ff, ff, ff, ff] 16 26 hHeld ?_
 refine tM #[tt, tt, tt, tt, tt, tt, tt, tt, tt, tt, tt, tt, tt, tt, tt, tt, tt, tt, ff, ff, ff, ff] 17 27 hHeld ?_
 refine tM #[tt, tt, tt, tt, tt, tt, tt, tt, tt, tt, tt, tt, tt, tt, tt, tt, tt, tt, tt, ff, ff, ff] 18 28 hHeld ?_
 refine one_ (i := 19) (N := some 29) #[tt, tt, tt, tt, tt, tt, tt, tt, tt, tt, tt, tt, tt, tt, tt, tt, tt, tt, tt, tt, ff, ff] rfl rfl (by kernel_rfl) (by decide) (fun K hK => ?_)
 refine goes_ Tryd.func86 (by kernel_rfl) rfl #[.int .i64 p, .int .i64 0, .int .i64 (wrap64 ((n : Int) - 1))] (by rfl) rfl rfl (by (try simp only [List.map_toArray, List.map_cons, List.map_nil]); first | done | rfl | (simp only [i64_w]; rfl)) ?_
 (with_reducible refine (impl_within.calls p 0 (wrap64 ((n : Int) - 1)) false _ HA3.out).mono ?_)
 rintro e wI ⟨rfl, hd_⟩
 have hb := hd_.below
 clear hd_
 refine ⟨_, rfl, ?_⟩
 replace BK4 := am (blk_below (g := g4) (o := .cells #[.slice (some ad1) m.length c0] 26 (0, 0)) BK4.out hb)
 replace BK6 := am (blk_below (g := g6) (o := .cells #[.int .i64 a] 3 (0, 0)) BK6.out hb)
 replace BK7 := am (blk_below (g := g7) (o := .cells #[.int .i64 p] 3 (0, 0)) BK7.out hb)
 replace HB := am (below_step HB.out hb)
 clear hb
 refine hK.out _ _ ⟨(blk_cell BK4.out 0).trans rfl, (blk_cell BK6.out 0).trans rfl, (blk_cell BK7.out 0).trans rfl, pw_cell_below HB.out HX1.out⟩ (fun hHeld => ?_)
 clear hK K
 refine nP 29 ?_
 refine tM #[tt, tt, tt, tt, tt, tt, tt, tt, tt, tt, tt, tt, tt, tt, tt, tt, tt, tt, tt, tt, tt, ff] 20 30 hHeld ?_
 refine tM #[tt, tt, tt, tt, tt, tt, tt, tt, tt, tt, tt, tt, tt, tt, tt, tt, tt, tt, tt, tt, tt, tt] 21 31 hHeld ?_
 refine done_ (by kernel_rfl) ?_
 go_wp2
 go_ret2
 exact ⟨rfl, bb HB⟩
set_option maxHeartbeats 4000000 in
set_option maxRecDepth 100000 in
theorem noted_3 (k : Nat) (A0 : Option Addr) (c0 : Nat) (m : List (List Int)) (A1 : Option Addr) (c1 : Nat) (l : List S28) (a p : Int) (w : World) (hr0 : Kd.C (Kd.slice 5 (Kd.int .u8)) w A0 m.length m) (hc0 : m.length ≤ c0) (hr1 : Kd.C k28 w A1 l.length l) (hc1 : l.length ≤ c1) (h1 : impl_areWatched.f k m l = some true) (h2 : impl_Memory_hasArray.f m a = some true) (ha0 : 0 ≤ a) (ha1 : a < (m.length : Int)) (h3 : impl_within.f p 0 (wrap64 (((rd_L1 m a).length : Int) - 1)) = some true) (hlen : l.length ≤ 1048576) :
    Calls Tryd.prog 30 #[.agg #[.slice A0 m.length c0], .slice A1 l.length c1, .int .i64 a, .int .i64 p] w fun e w' => ∃ v0_ : Value, e = .returned (.tuple #[v0_, .bool true]) ∧ Kd.R (Kd.int .i64) 3 w' w.heap.size (fun _ => True) v0_ (numsF (fun _ x => seesB x a p) l 0) ∧ Below w.heap.size w w' := by
 have hu := Tryd.underlying26
 obtain ⟨n, hN⟩ : ∃ n, n = (rd_L1 m a).length := ⟨_, rfl⟩
 obtain ⟨ad1, A2, c2, e1, hx1, hl1, hi1⟩ := at_L1 hr0 a ha0 ha1
 cases e1
 rw [← hN] at hx1 h3
 have HX1 := am hx1
 have HA3 := am h3
 clear hN hx1 hl1 hi1 h3
 have p0 : decide (0 ≤ a) = true := decide_eq_true ha0
 have p1 : decide (a < (m.length : Int)) = true := decide_eq_true ha1
 replace ha0 := eq_true ha0
 replace ha1 := eq_true ha1
 have HR0 := am hr0
 have HC0 := am hc0
 have HR1 := am hr1
 have HC1 := am hc1
 clear hr0 hc0 hr1 hc1
 have HB := am (Below.refl w.heap.size w)
 have HA1 := am h1
 clear h1
 have HA2 := am h2
 clear h2
 have HL := am hlen
 clear hlen
 have eg := enters_of Tryd.func87 (by kernel_rfl) rfl
 go_enter Tryd.func30, Tryd.ntmps30
 go_upto_region 1 with (first | ((with_reducible refine gate_dst (N := 4) rfl ?_); refine bE 4 #[.slice (some ad1) m.length c0] 26 ?_; intro g4 hg w4 hbox hb; have GE4 := am ((by rw [hg]; exact below_size (bb HB) : w.heap.size ≤ g4)); replace HB := am (below_step (bb HB) hb); have BK4 := am hbox; clear hb hbox hg) | ((with_reducible refine gate_dst (N := 6) rfl ?_); refine bE 6 #[.int .i64 a] 3 ?_; intro g6 hg w6 hbox hb; have GE6 := am ((by rw [hg]; exact below_size (bb HB) : w.heap.size ≤ g6)); replace HB := am (below_step (bb HB) hb); have BK6 := am hbox; have NB4_6 := am ((by rw [hg]; exact Nat.ne_of_lt (blk_lt (g := g4) (o := .cells #[.slice (some ad1) m.length c0] 26 (0, 0)) (kk BK4)) : g4 ≠ g6)); replace BK4 := b2 hb BK4; clear hb hbox hg) | ((with_reducible refine gate_dst (N := 7) rfl ?_); refine bE 7 #[.int .i64 p] 3 ?_; intro g7 hg w7 hbox hb; have GE7 := am ((by rw [hg]; exact below_size (bb HB) : w.heap.size ≤ g7)); replace HB := am (below_step (bb HB) hb); have BK7 := am hbox; have NB4_7 := am ((by rw [hg]; exact Nat.ne_of_lt (blk_lt (g := g4) (o := .cells #[.slice (some ad1) m.length c0] 26 (0, 0)) (kk BK4)) : g4 ≠ g7)); replace BK4 := b2 hb BK4; have NB6_7 := am ((by rw [hg]; exact Nat.ne_of_lt (blk_lt (g := g6) (o := .cells #[.int .i64 a] 3 (0, 0)) (kk BK6)) : g6 ≠ g7)); replace BK6 := b2 hb BK6; clear hb hbox hg))
 replace BK4 := am (blk_drew BK4.out)
 replace BK6 := am (blk_drew BK6.out)
 replace BK7 := am (blk_drew BK7.out)
 replace HB := am (below_drew1 HB.out)
 refine start_ (n := 22) (S := fun w' => w'.cell? ⟨g4, 0, none⟩ = some (.slice (some ad1) m.length c0) ∧ w'.cell? ⟨g6, 0, none⟩ = some (.int .i64 a) ∧ w'.cell? ⟨g7, 0, none⟩ = some (.int .i64 p) ∧ w'.cell? (ad1.add a.toNat) = some (.slice A2 n c2)) (ds := []) #[ff, ff, ff, ff, ff, ff, ff, ff, ff, ff, ff, ff, ff, ff, ff, ff, ff, ff, ff, ff, ff, ff] (by kernel_rfl) rfl rfl ⟨(blk_cell BK4.out 0).trans rfl, (blk_cell BK6.out 0).trans rfl, (blk_cell BK7.out 0).trans rfl, pw_cell_below HB.out HX1.out⟩ (fun hHeld => ?_)
 generalize w7.drew = wd at BK4 BK6 BK7 HB hHeld ⊢
 refine tM #[tt, ff, ff, ff, ff, ff, ff, ff, ff, ff, ff, ff, ff, ff, ff, ff, ff, ff, ff, ff, ff, ff] 0 10 hHeld ?_
 refine tM #[tt, tt, ff, ff, ff, ff, ff, ff, ff, ff, ff, ff, ff, ff, ff, ff, ff, ff, ff, ff, ff, ff] 1 11 hHeld ?_
 refine one_ (i := 2) (N := some 12) #[tt, tt, tt, ff, ff, ff, ff, ff, ff, ff, ff, ff, ff, ff, ff, ff, ff, ff, ff, ff, ff, ff] rfl rfl (by kernel_rfl) (by decide) (fun K hK => ?_)
 refine goes_ Tryd.func72 (by kernel_rfl) rfl #[.agg #[.slice (some ad1) m.length c0], .slice A1 l.length c1] (by rfl) rfl rfl (by (try simp only [List.map_toArray, List.map_cons, List.map_nil]); first | done | rfl | (simp only [i64_w]; rfl)) ?_
 (with_reducible refine (impl_areWatched.calls k _ _ m _ _ l true _ ?s1 ?s2 ?s3 ?s4 HA1.out).mono ?_)
 (case s1 => exact Kd.C_below HR0.out (bb HB))
 (case s2 => exact HC0.out)
 (case s3 => exact Kd.C_below HR1.out (bb HB))
 (case s4 => exact HC1.out)
 rintro e wW ⟨rfl, hb⟩
 refine ⟨_, rfl, ?_⟩
 replace BK4 := am (blk_below (g := g4) (o := .cells #[.slice (some ad1) m.length c0] 26 (0, 0)) BK4.out hb)
 replace BK6 := am (blk_below (g := g6) (o := .cells #[.int .i64 a] 3 (0, 0)) BK6.out hb)
 replace BK7 := am (blk_below (g := g7) (o := .cells #[.int .i64 p] 3 (0, 0)) BK7.out hb)
 replace HB := am (below_step HB.out hb)
 clear hb
 refine hK.out _ _ ⟨(blk_cell BK4.out 0).trans rfl, (blk_cell BK6.out 0).trans rfl, (blk_cell BK7.out 0).trans rfl, pw_cell_below HB.out HX1.out⟩ (fun hHeld => ?_)
 clear hK K
 refine nP 12 ?_
 refine tM #[tt, tt, tt, tt, ff, ff, ff, ff, ff, ff, ff, ff, ff, ff, ff, ff, ff, ff, ff, ff, ff, ff] 3 13 hHeld ?_
 refine tM #[tt, tt, tt, tt, tt, ff, ff, ff, ff, ff, ff, ff, ff, ff, ff, ff, ff, ff, ff, ff, ff, ff] 4 14 hHeld ?_
 refine tM #[tt, tt, tt, tt, tt, tt, ff, ff, ff, ff, ff, ff, ff, ff, ff, ff, ff, ff, ff, ff, ff, ff] 5 15 hHeld ?_
 refine tM #[tt, tt, tt, tt, tt, tt, tt, ff, ff, ff, ff, ff, ff, ff, ff, ff, ff, ff, ff, ff, ff, ff] 6 16 hHeld ?_
 refine one_ (i := 7) (N := some 17) #[tt, tt, tt, tt, tt, tt, tt, tt, ff, ff, ff, ff, ff, ff, ff, ff, ff, ff, ff, ff, ff, ff] rfl rfl (by kernel_rfl) (by decide) (fun K hK => ?_)
 refine goes_ Tryd.func73 (by kernel_rfl) rfl #[.agg #[.slice (some ad1) m.length c0], .int .i64 a] (by rfl) rfl rfl (by (try simp only [List.map_toArray, List.map_cons, List.map_nil]); first | done | rfl | (simp only [i64_w]; rfl)) ?_
 (with_reducible refine (impl_Memory_hasArray.calls _ _ m a true _ ?s1 ?s2 HA2.out).mono ?_)
 (case s1 => exact Kd.C_below HR0.out (bb HB))
 (case s2 => exact HC0.out)
 rintro e wH ⟨rfl, hb⟩
 refine ⟨_, rfl, ?_⟩
 replace BK4 := am (blk_below (g := g4) (o := .cells #[.slice (some ad1) m.length c0] 26 (0, 0)) BK4.out hb)
 replace BK6 := am (blk_below (g := g6) (o := .cells #[.int .i64 a] 3 (0, 0)) BK6.out hb)
 replace BK7 := am (blk_below (g := g7) (o := .cells #[.int .i64 p] 3 (0, 0)) BK7.out hb)
 replace HB := am (below_step HB.out hb)
 clear hb
 refine hK.out _ _ ⟨(blk_cell BK4.out 0).trans rfl, (blk_cell BK6.out 0).trans rfl, (blk_cell BK7.out 0).trans rfl, pw_cell_below HB.out HX1.out⟩ (fun hHeld => ?_)
 clear hK K
 refine nP 17 ?_
 refine tM #[tt, tt, tt, tt, tt, tt, tt, tt, tt, ff, ff, ff, ff, ff, ff, ff, ff, ff, ff, ff, ff, ff] 8 18 hHeld ?_
 refine tM #[tt, tt, tt, tt, tt, tt, tt, tt, tt, tt, ff, ff, ff, ff, ff, ff, ff, ff, ff, ff, ff, ff] 9 19 hHeld ?_
 refine tM #[tt, tt, tt, tt, tt, tt, tt, tt, tt, tt, tt, ff, ff, ff, ff, ff, ff, ff, ff, ff, ff, ff] 10 20 hHeld ?_
 refine tM #[tt, tt, tt, tt, tt, tt, tt, tt, tt, tt, tt, tt, ff, ff, ff, ff, ff, ff, ff, ff, ff, ff] 11 21 hHeld ?_
 refine tM #[tt, tt, tt, tt, tt, tt, tt, tt, tt, tt, tt, tt, tt, ff, ff, ff, ff, ff, ff, ff, ff, ff] 12 22 hHeld ?_
 refine tM #[tt, tt, tt, tt, tt, tt, tt, tt, tt, tt, tt, tt, tt, tt, ff, ff, ff, ff, ff, ff, ff, ff] 13 23 hHeld ?_
 refine tM #[tt, tt, tt, tt, tt, tt, tt, tt, tt, tt, tt, tt, tt, tt, tt, ff, ff, ff, ff, ff, ff, ff] 14 24 hHeld ?_
 refine tM #[tt, tt, tt, tt, tt, tt, tt, tt, tt, tt, tt, tt, tt, tt, tt, tt, ff, ff, ff, ff, ff, ff] 15 25 hHeld ?_
 refine tM #[tt, tt, tt, tt, tt, tt, tt, tt, tt, tt, tt, tt, tt, tt, tt, tt, tt, ff, ff, ff, ff, ff] 16 26 hHeld ?_
 refine tM #[tt, tt, tt, tt, tt, tt, tt, tt, tt, tt, tt, tt, tt, tt, tt, tt, tt, tt, ff, ff, ff, ff] 17 27 hHeld ?_
 refine tM #[tt, tt, tt, tt, tt, tt, tt, tt, tt, tt, tt, tt, tt, tt, tt, tt, tt, tt, tt, ff, ff, ff] 18 28 hHeld ?_
 refine one_ (i := 19) (N := some 29) #[tt, tt, tt, tt, tt, tt, tt, tt, tt, tt, tt, tt, tt, tt, tt, tt, tt, tt, tt, tt, ff, ff] rfl rfl (by kernel_rfl) (by decide) (fun K hK => ?_)
 refine goes_ Tryd.func86 (by kernel_rfl) rfl #[.int .i64 p, .int .i64 0, .int .i64 (wrap64 ((n : Int) - 1))] (by rfl) rfl rfl (by (try simp only [List.map_toArray, List.map_cons, List.map_nil]); first | done | rfl | (simp only [i64_w]; rfl)) ?_
 (with_reducible refine (impl_within.calls p 0 (wrap64 ((n : Int) - 1)) true _ HA3.out).mono ?_)
 rintro e wI ⟨rfl, hd_⟩
 have hb := hd_.below
 clear hd_
 refine ⟨_, rfl, ?_⟩
 replace BK4 := am (blk_below (g := g4) (o := .cells #[.slice (some ad1) m.length c0] 26 (0, 0)) BK4.out hb)
 replace BK6 := am (blk_below (g := g6) (o := .cells #[.int .i64 a] 3 (0, 0)) BK6.out hb)
 replace BK7 := am (blk_below (g := g7) (o := .cells #[.int .i64 p] 3 (0, 0)) BK7.out hb)
 replace HB := am (below_step HB.out hb)
 clear hb
 refine hK.out _ _ ⟨(blk_cell BK4.out 0).trans rfl, (blk_cell BK6.out 0).trans rfl, (blk_cell BK7.out 0).trans rfl, pw_cell_below HB.out HX1.out⟩ (fun hHeld => ?_)
 clear hK K
 refine nP 29 ?_
 refine tM #[tt, tt, tt, tt, tt, tt, tt, tt, tt, tt, tt, tt, tt, tt, tt, tt, tt, tt, tt, tt, tt, ff] 20 30 hHeld ?_
 refine tM #[tt, tt, tt, tt, tt, tt, tt, tt, tt, tt, tt, tt, tt, tt, tt, tt, tt, tt, tt, tt, tt, tt] 21 31 hHeld ?_
 refine done_ (by kernel_rfl) ?_
 go_wp2_with (go_at_call 74; (refine (numbersOf.calls 87 #[.pointer (some ⟨g6, 0, none⟩), .pointer (some ⟨g7, 0, none⟩)] (fun _ x => seesB x a p) _ _ l _ eg ?s1 ?s2 HL.out).mono ?_); (case s1 => exact (fun W i x _ hW => noticed1.calls g6 g7 a p i x W (blk_below BK6.out hW) (blk_below BK7.out hW))); (case s2 => exact Kd.C_below HR1.out (bb HB)); rintro e wn ⟨vn, rfl, hon, hb⟩; have HO := am hon; have HB2 := am (below_step HB.out hb); clear hon hb)
 go_ret2
 exact ⟨_, rfl, Kd.R_lower HO.out HB.out.size, HB2.out⟩
def impl_NoticedBy.f (k : Nat) (m : List (List Int)) (l : List S28) (a p : Int) : Option (List Int × Bool) :=
  (impl_areWatched.f k m l).bind fun t => if t = true then ((impl_Memory_hasArray.f m a).bind fun h => if h = true then (if 0 ≤ a then (if a < (m.length : Int) then ((impl_within.f p 0 (wrap64 (((rd_L1 m a).length : Int) - 1))).bind fun b => if b = true then (if l.length ≤ 1048576 then some (numsF (fun _ x => seesB x a p) l 0, true) else none) else some ([], false)) else none) else none) else some ([], false)) else some ([], false)
theorem impl_NoticedBy.calls (k : Nat) (A0 : Option Addr) (c0 : Nat) (m : List (List Int)) (A1 : Option Addr) (c1 : Nat) (l : List S28) (a p : Int) (r1 : List Int) (r2 : Bool) (w : World) (hr0 : Kd.C (Kd.slice 5 (Kd.int .u8)) w A0 m.length m) (hc0 : m.length ≤ c0) (hr1 : Kd.C k28 w A1 l.length l) (hc1 : l.length ≤ c1) (h : impl_NoticedBy.f k m l a p = some (r1, r2)) :
    Calls Tryd.prog 30 #[.agg #[.slice A0 m.length c0], .slice A1 l.length c1, .int .i64 a, .int .i64 p] w fun e w' => ∃ v0_ : Value, e = .returned (.tuple #[v0_, .bool r2]) ∧ Kd.R (Kd.int .i64) 3 w' w.heap.size (fun _ => True) v0_ r1 ∧ Below w.heap.size w w' := by
  unfold impl_NoticedBy.f at h
  obtain ⟨t, h1, h⟩ := Option.bind_eq_some_iff.mp h
  cases t with
  | false =>
    rw [if_neg (by decide)] at h
    obtain ⟨rfl, rfl⟩ := Prod.mk.inj (Option.some.inj h)
    exact (noted_0 k A0 c0 m A1 c1 l a p w hr0 hc0 hr1 hc1 h1).mono fun e w' ⟨he, hb⟩ => ⟨_, he, Kd.R_nil _ _ _ _ _, hb⟩
  | true =>
    rw [if_pos rfl] at h
    obtain ⟨t, h2, h⟩ := Option.bind_eq_some_iff.mp h
    cases t with
    | false =>
      rw [if_neg (by decide)] at h
      obtain ⟨rfl, rfl⟩ := Prod.mk.inj (Option.some.inj h)
      exact (noted_1 k A0 c0 m A1 c1 l a p w hr0 hc0 hr1 hc1 h1 h2).mono fun e w' ⟨he, hb⟩ => ⟨_, he, Kd.R_nil _ _ _ _ _, hb⟩
    | true =>
      rw [if_pos rfl] at h
      by_cases h3 : 0 ≤ a
      · rw [if_pos h3] at h
        by_cases h4 : a < (m.length : Int)
        · rw [if_pos h4] at h
          obtain ⟨t, h5, h⟩ := Option.bind_eq_some_iff.mp h
          cases t with
          | false =>
            rw [if_neg (by decide)] at h
            obtain ⟨rfl, rfl⟩ := Prod.mk.inj (Option.some.inj h)
            exact (noted_2 k A0 c0 m A1 c1 l a p w hr0 hc0 hr1 hc1 h1 h2 h3 h4 h5).mono fun e w' ⟨he, hb⟩ => ⟨_, he, Kd.R_nil _ _ _ _ _, hb⟩
          | true =>
            rw [if_pos rfl] at h
            by_cases h6 : l.length ≤ 1048576
            · rw [if_pos h6] at h
              obtain ⟨rfl, rfl⟩ := Prod.mk.inj (Option.some.inj h)
              exact noted_3 k A0 c0 m A1 c1 l a p w hr0 hc0 hr1 hc1 h1 h2 h3 h4 h5 h6
            · rw [if_neg h6] at h; cases h
        · rw [if_neg h4] at h; cases h
      · rw [if_neg h3] at h; cases h
end Go.Proofs.YthnchjgffocigaaDoor.P
end
section
namespace Go.Proofs.YthnchjgffocigaaDoor.P
open Go.RowKit Go.Deep Go.Joins Go.WideShapes Go.ChangeShapes Go.ChangeAt Go.Proofs.YthnchjgffocigaaDoorW.PrintWords Go.Proofs.YthnchjgffocigaaDoorW.PrintLast Go.Proofs.YthnchjgffocigaaDoorW.PrintMore
set_option linter.unusedVariables false
set_option linter.unusedSectionVars false
section
variable {H : Type} {enc : TypeId × Value → H} {P : Program} {w : World} {base : Nat} {spare : Nat → Bool} {held : Bool}
theorem opn_int {t : TypeId} {k : IntKind} {n : Nat} {cs : List Value} {x : DataW H × List MemPlace} (ht : P.underlying t = some (.int k)) (h : DataW.trod enc P w base spare held n t cs = some x) :
    ∃ a : Int, (Kd.int k).K w a cs ∧ (Lit.int k a).wf = true := by
  obtain ⟨a, e, _, hw⟩ := DataW.trod_int ht h
  exact ⟨a, e, hw⟩
theorem opn_slice {α : Type} [Inhabited α] {d : Kd α} {Q : α → Prop} {t e : TypeId} {n : Nat} {cs : List Value} {x : DataW H × List MemPlace} (ht : P.underlying t = some (.slice e)) (hsz : P.cellsOf e = d.sz)
    (hel : ∀ n cs y, DataW.trod enc P w base spare held n e cs = some y → ∃ a, d.K w a cs ∧ Q a) (h : DataW.trod enc P w base spare held n t cs = some x) :
    ∃ l : List α, (Kd.slice e d).K w l cs ∧ (l.length ≤ 9223372036854775807 ∧ ∀ a ∈ l, Q a) := by
  rcases open_slice ht h with ⟨rfl, _⟩ | ⟨a, len, cap, m, n', D, Pl, rfl, hb, hl, hm, hmm, rfl, hx⟩
  · exact ⟨[], ⟨none, 0, rfl, Nat.le_refl _, Kd.C_nil d w⟩, by simp, by simp⟩
  · have hlm : len ≤ m := by rw [hmm]; split <;> omega
    have hmax : len ≤ 9223372036854775807 := by simp only [maxLen] at hm; omega
    have each : ∀ i, i < len → ∃ y : α, (∃ c, c.length = d.sz ∧ d.K w y c ∧ ∀ j u, c[j]? = some u → w.cell? (a.add (i * d.sz + j)) = some u) ∧ Q y := by
      intro i hi
      obtain ⟨cs', h1, h2⟩ := hx i (by omega)
      obtain ⟨y, hK, hQ⟩ := hel _ _ _ h2
      obtain ⟨_, hlen, hc⟩ := World.cells?_some h1
      rw [hsz] at hlen hc
      refine ⟨y, ⟨cs', hlen, hK, fun j u hu => ?_⟩, hQ⟩
      have hj : j < d.sz := by rw [← hlen]; exact (List.getElem?_eq_some_iff.1 hu).1
      rw [← hu, ← hc j hj, Addr.add_add]
    obtain ⟨f, hf⟩ := choose_lt each
    have hlen : ((List.range len).map f).length = len := by simp
    refine ⟨(List.range len).map f, ⟨some a, cap, by rw [hlen], by rw [hlen]; exact hl, rfl, by rw [hlen]; exact hmax, fun _ => ⟨a, rfl, fun j p hj => ?_⟩⟩, by rw [hlen]; exact hmax, fun y hy => ?_⟩
    · have hjl : j < len := by have := (List.getElem?_eq_some_iff.1 hj).1; omega
      have hp : f j = p := by simpa [List.getElem?_range hjl] using hj
      subst hp
      obtain ⟨c, h1, h2, h3⟩ := (hf j hjl).1
      exact ⟨c, h1, h2, h3⟩
    · obtain ⟨i, hi, rfl⟩ := List.mem_map.1 hy
      exact (hf i (List.mem_range.1 hi)).2
instance : Inhabited S28 := ⟨⟨0, 0, 0, 0⟩⟩
instance : Inhabited S116 := ⟨⟨0, 0, 0, 0⟩⟩
end
end Go.Proofs.YthnchjgffocigaaDoor.P
end
section
namespace Go.Proofs.YthnchjgffocigaaDoor.P
open Go.RowKit Go.Proofs.YthnchjgffocigaaDoorW.PrintWords Go.Proofs.YthnchjgffocigaaDoorW.PrintLast Go.Proofs.YthnchjgffocigaaDoorW.PrintMore
set_option linter.unusedVariables false
set_option linter.unusedSimpArgs false
theorem numsF_len (p : Int → S28 → Bool) : ∀ (l : List S28) (i : Int), (numsF p l i).length ≤ l.length
  | [], _ => by simp [numsF]
  | x :: xs, i => by
    have := numsF_len p xs (i + 1)
    simp only [numsF]
    split <;> simp only [List.length_cons] <;> omega
theorem l3Sees_eq (x : S28) (a p : Int) : spec_l3Sees.f x.f0 x.f1 x.f2 x.f3 a p = some (seesB x a p) := by
  unfold seesB impl_Window_sees.f spec_l3Sees.f
  by_cases h : x.f0 = a
  · rw [if_pos h, if_pos h, within_eq, l1In_eq]; rfl
  · rw [if_neg h, if_neg h]; rfl
theorem noticed_l0 (l : List S28) (a p : Int) (hl : l.length ≤ 1048576) (d : Nat) : ∀ (i : Nat) (acc : List Int), i + d = l.length → acc.length ≤ i →
    Ev (fun k => spec_l3Noticed.l0 k l a p acc (i : Int)) (acc ++ numsF (fun _ x => seesB x a p) (l.drop i) i) := by
  induction d with
  | zero =>
    intro i acc hi ha
    refine Ev.end_ (fun k => ?_)
    rw [spec_l3Noticed.l0, if_neg (by omega), List.drop_eq_nil_of_le (by omega)]
    simp [numsF]
  | succ d ih =>
    intro i acc hi ha
    have hlt : i < l.length := by omega
    rw [numsF_drop _ l i hlt, rdB hlt]
    cases h : seesB l[i] a p with
    | true =>
      obtain ⟨K, hK⟩ := ih (i + 1) (acc ++ [(i : Int)]) (by omega) (by simp; omega)
      refine ⟨K + 1, fun k hk => ?_⟩
      obtain ⟨k, rfl⟩ : ∃ j, k = j + 1 := ⟨k - 1, by omega⟩
      have e1 := hK k (by omega)
      dsimp only at e1 ⊢
      rw [spec_l3Noticed.l0, if_pos (by omega), if_pos (by omega), rdB hlt, l3Sees_eq, h, Option.bind_some, if_pos rfl, if_pos (by omega), wrap_succ i (by omega), e1, if_pos rfl]
      simp
    | false =>
      obtain ⟨K, hK⟩ := ih (i + 1) acc (by omega) (by omega)
      refine ⟨K + 1, fun k hk => ?_⟩
      obtain ⟨k, rfl⟩ : ∃ j, k = j + 1 := ⟨k - 1, by omega⟩
      have e1 := hK k (by omega)
      dsimp only at e1 ⊢
      rw [spec_l3Noticed.l0, if_pos (by omega), if_pos (by omega), rdB hlt, l3Sees_eq, h, Option.bind_some, if_neg (by decide), wrap_succ i (by omega), e1, if_neg (by decide)]
theorem noticed_ev (l : List S28) (a p : Int) (hl : l.length ≤ 1048576) : Ev (fun k => spec_l3Noticed.f k l a p) (numsF (fun _ x => seesB x a p) l 0) := by
  obtain ⟨K, hK⟩ := noticed_l0 l a p hl l.length 0 [] (by omega) (by simp)
  refine ⟨K, fun k hk => ?_⟩
  have e1 := hK k hk
  dsimp only at e1 ⊢
  rw [spec_l3Noticed.f]
  simpa using e1
theorem rowc_fit {m : List (List Int)} (hok : memOk m = true) {a : Int} (h : inB a 0 ((m.length : Int) - 1) = true) : 0 ≤ a ∧ a < (m.length : Int) ∧ (rd_L1 m a).length ≤ 64 := by
  unfold inB at h
  have h' := of_decide_eq_true h
  have hlt : a.toNat < m.length := by omega
  exact ⟨by omega, by omega, (memOk_each hok _ (getD_mem m [] a.toNat hlt)).2⟩
def countsR (m : List (List Int)) (l : List S28) (a : Int) : List Int × Bool :=
  if watched m l = true then (if inB a 0 ((m.length : Int) - 1) = true then (countsL m l a (rd_L1 m a).length, true) else ([], false)) else ([], false)
theorem counts_l0 (m : List (List Int)) (l : List S28) (a : Int) (hl : l.length ≤ 1048576) (h0 : 0 ≤ a) (h1 : a < (m.length : Int)) (hr : (rd_L1 m a).length ≤ 64) (d : Nat) : ∀ i : Nat, i + d = (rd_L1 m a).length →
    Ev (fun k => spec_l3Counts.l0 k l a (countsL m l a i) (i : Int) m) (countsL m l a (rd_L1 m a).length) := by
  induction d with
  | zero =>
    intro i hi
    obtain rfl : i = (rd_L1 m a).length := by omega
    refine Ev.end_ (fun k => ?_)
    rw [spec_l3Counts.l0, if_pos h0, if_pos h1, if_neg (by omega)]
  | succ d ih =>
    intro i hi
    obtain ⟨K1, e1⟩ := noticed_ev l a (i : Int) hl
    obtain ⟨K2, e2⟩ := ih (i + 1) (by omega)
    refine ⟨K1 + K2 + 1, fun k hk => ?_⟩
    obtain ⟨k, rfl⟩ : ∃ j, k = j + 1 := ⟨k - 1, by omega⟩
    have e1 := e1 k (by omega)
    have e2 := e2 k (by omega)
    dsimp only at e1 e2 ⊢
    have hc := countsL_len m l a i
    rw [spec_l3Counts.l0, if_pos h0, if_pos h1, if_pos (by omega), e1, Option.bind_some, if_pos (by omega), ← countsL_succ, wrap_succ i (by omega)]
    exact e2
theorem counts_impl (m : List (List Int)) (hm : Fit m) (l : List S28) (hlen : l.length ≤ 1048576) (a : Int) : Ev (fun k => impl_NoticedCounts.f k m l a) (countsR m l a) := by
  obtain ⟨K, hK⟩ := areWatched_ev m hm l
  have hmax := hm.1
  refine ⟨K, fun k hk => ?_⟩
  have e1 := hK k hk
  dsimp only at e1 ⊢
  rw [impl_NoticedCounts.f, e1, Option.bind_some]
  unfold countsR
  cases h1 : watched m l with
  | false => rfl
  | true =>
    rw [if_pos rfl, if_pos rfl, hasArr m hm.1, Option.bind_some]
    cases h2 : inB a 0 ((m.length : Int) - 1) with
    | false => rfl
    | true =>
      obtain ⟨h3, h4, h5⟩ := rowc_fit (onAll_each h1).1 h2
      rw [if_pos rfl, if_pos h3, if_pos h4, if_pos hlen, if_pos (by omega), if_pos rfl]
theorem countsR_len (m : List (List Int)) (l : List S28) (a : Int) : (countsR m l a).1.length ≤ 64 := by
  unfold countsR
  split
  · rename_i h1
    split
    · rename_i h2
      have := rowc_fit (onAll_each h1).1 h2
      dsimp only
      rw [countsL_len]
      omega
    · simp
  · simp
def lxLt : List Nat → List Nat → Bool
  | _, [] => false
  | [], _ :: _ => true
  | a :: s, b :: t => decide (a < b) || (decide (a = b) && lxLt s t)
theorem lx_cons {a b : Nat} {s t : List Nat} : lxLt (a :: s) (b :: t) = false ↔ ¬ a < b ∧ (a = b → lxLt s t = false) := by
  rw [lxLt]
  cases h : lxLt s t <;> simp
theorem lx_refl : ∀ s, lxLt s s = false
  | [] => rfl
  | a :: s => lx_cons.2 ⟨Nat.lt_irrefl _, fun _ => lx_refl s⟩
theorem lx_antisymm : ∀ s t, lxLt s t = false → lxLt t s = false → s = t
  | [], [], _, _ => rfl
  | [], b :: t, h, _ => by simp [lxLt] at h
  | a :: s, [], _, h => by simp [lxLt] at h
  | a :: s, b :: t, h1, h2 => by
    obtain ⟨h1, h3⟩ := lx_cons.1 h1
    obtain ⟨h2, h4⟩ := lx_cons.1 h2
    have e : a = b := by omega
    rw [e, lx_antisymm s t (h3 e) (h4 e.symm)]
theorem lx_trans : ∀ a b c, lxLt b a = false → lxLt c b = false → lxLt c a = false
  | [], _, c, _, _ => by cases c <;> rfl
  | x :: a, [], _, h, _ => by simp [lxLt] at h
  | _ :: _, y :: b, [], _, h => by simp [lxLt] at h
  | x :: a, y :: b, z :: c, h1, h2 => by
    obtain ⟨h1, h3⟩ := lx_cons.1 h1
    obtain ⟨h2, h4⟩ := lx_cons.1 h2
    exact lx_cons.2 ⟨by omega, fun e => lx_trans a b c (h3 (by omega)) (h4 (by omega))⟩
theorem lx_pre : ∀ (p : List Nat) (j i : Nat) (u v : List Nat), j < i → lxLt (p ++ i :: v) (p ++ j :: u) = false
  | [], j, i, u, v, h => lx_cons.2 ⟨by omega, fun e => by omega⟩
  | x :: p, j, i, u, v, h => lx_cons.2 ⟨Nat.lt_irrefl _, fun _ => lx_pre p j i u v h⟩
def dom (r s : List Nat) : Prop := s.length < r.length ∨ (s.length = r.length ∧ lxLt s r = false)
theorem dom_refl (r : List Nat) : dom r r := .inr ⟨rfl, lx_refl r⟩
theorem dom_trans {a b c : List Nat} (h1 : dom a b) (h2 : dom b c) : dom a c := by
  rcases h1 with h1 | ⟨h1, h3⟩
  · rcases h2 with h2 | ⟨h2, _⟩
    · exact .inl (by omega)
    · exact .inl (by omega)
  · rcases h2 with h2 | ⟨h2, h4⟩
    · exact .inl (by omega)
    · exact .inr ⟨by omega, lx_trans a b c h3 h4⟩
theorem dom_antisymm {r s : List Nat} (h1 : dom r s) (h2 : dom s r) : r = s := by
  rcases h1 with h1 | ⟨h1, h3⟩
  · rcases h2 with h2 | ⟨h2, _⟩ <;> omega
  · rcases h2 with h2 | ⟨h2, h4⟩
    · omega
    · exact lx_antisymm r s h4 h3
section
variable (n : Nat) (sh : Nat → Nat → Bool)
def ap (s : List Nat) : Prop := s.Pairwise fun a b => sh b a = false
def Va (s : List Nat) : Prop := s.Pairwise (· < ·) ∧ (∀ a ∈ s, a < n) ∧ ap sh s
def apB (s : List Nat) : Bool := decide (s.Pairwise fun a b => sh b a = false)
theorem apB_iff (s : List Nat) : apB sh s = true ↔ ap sh s := by unfold apB ap; exact decide_eq_true_iff
theorem Va_nil : Va n sh [] := ⟨List.Pairwise.nil, fun a h => (by cases h), List.Pairwise.nil⟩
def bst : Nat → Nat → List Nat → List Nat → List Nat
  | 0, _, _, best => best
  | d + 1, i, begun, best => if apB sh (begun ++ [i]) = true then bst d (i + 1) begun (if (bst d (i + 1) (begun ++ [i]) (begun ++ [i])).length > best.length then bst d (i + 1) (begun ++ [i]) (begun ++ [i]) else best) else bst d (i + 1) begun best
def Ext (begun : List Nat) (i : Nat) (s : List Nat) : Prop := Va n sh s ∧ ∃ j u, s = begun ++ j :: u ∧ i ≤ j
def Bef (begun : List Nat) (i : Nat) (s : List Nat) : Prop := s = begun ∨ ∃ j u, s = begun ++ j :: u ∧ j < i
end
section
variable {n : Nat} {sh : Nat → Nat → Bool}
theorem Va_pre {p u : List Nat} (h : Va n sh (p ++ u)) : Va n sh p := by
  obtain ⟨h1, h2, h3⟩ := h
  exact ⟨(List.pairwise_append.1 h1).1, fun a ha => h2 a (List.mem_append.2 (.inl ha)), (List.pairwise_append.1 h3).1⟩
theorem Va_snoc {p : List Nat} {i : Nat} (h : Va n sh p) (hp : ∀ a ∈ p, a < i) (hi : i < n) (ha : ap sh (p ++ [i])) : Va n sh (p ++ [i]) := by
  obtain ⟨h1, h2, h3⟩ := h
  refine ⟨List.pairwise_append.2 ⟨h1, List.pairwise_singleton _ _, fun a ha b hb => ?_⟩, fun a h => ?_, ha⟩
  · rw [List.mem_singleton.1 hb]; exact hp a ha
  · rcases List.mem_append.1 h with h | h
    · exact h2 a h
    · rw [List.mem_singleton.1 h]; exact hi
theorem bst_ok : ∀ (d i : Nat) (begun best : List Nat), i + d = n → Va n sh begun → (∀ a ∈ begun, a < i) → Va n sh best → Bef begun i best →
    Va n sh (bst sh d i begun best) ∧ dom (bst sh d i begun best) best ∧ (∀ s, Ext n sh begun i s → dom (bst sh d i begun best) s) ∧ (bst sh d i begun best = best ∨ Ext n sh begun i (bst sh d i begun best))
  | 0, i, begun, best, hd, h1, h2, h3, h4 => by
    refine ⟨h3, dom_refl _, fun s hs => ?_, .inl rfl⟩
    obtain ⟨⟨-, hv, -⟩, j, u, rfl, hj⟩ := hs
    have := hv j (by simp)
    omega
  | d + 1, i, begun, best, hd, h1, h2, h3, h4 => by
    have h4' : Bef begun (i + 1) best := h4.elim .inl fun ⟨j, u, e, hj⟩ => .inr ⟨j, u, e, by omega⟩
    have h2' : ∀ a ∈ begun, a < i + 1 := fun a ha => by have := h2 a ha; omega
    rw [bst]
    by_cases hap : apB sh (begun ++ [i]) = true
    · rw [if_pos hap]
      have hn : Va n sh (begun ++ [i]) := Va_snoc h1 h2 (by omega) ((apB_iff sh _).1 hap)
      have hn2 : ∀ a ∈ begun ++ [i], a < i + 1 := fun a ha => by
        rcases List.mem_append.1 ha with ha | ha
        · exact h2' a ha
        · rw [List.mem_singleton.1 ha]; omega
      obtain ⟨a1, a2, a3, a4⟩ := bst_ok d (i + 1) (begun ++ [i]) (begun ++ [i]) (by omega) hn hn2 hn (.inl rfl)
      generalize bst sh d (i + 1) (begun ++ [i]) (begun ++ [i]) = all at a1 a2 a3 a4 ⊢
      obtain ⟨v, hv⟩ : ∃ v, all = begun ++ i :: v := by
        rcases a4 with e | ⟨-, j, u, e, -⟩
        · exact ⟨[], e⟩
        · exact ⟨j :: u, by rw [e, List.append_assoc]; rfl⟩
      obtain ⟨best', hb'⟩ : ∃ b, b = (if all.length > best.length then all else best) := ⟨_, rfl⟩
      rw [← hb']
      have hdb : dom best' best ∧ dom best' all ∧ Va n sh best' ∧ Bef begun (i + 1) best' ∧ (best' = best ∨ best' = all) := by
        by_cases hl : all.length > best.length
        · rw [if_pos hl] at hb'
          subst hb'
          exact ⟨.inl hl, dom_refl _, a1, .inr ⟨i, v, hv, by omega⟩, .inr rfl⟩
        · rw [if_neg hl] at hb'
          subst hb'
          refine ⟨dom_refl _, ?_, h3, h4', .inl rfl⟩
          by_cases hl2 : all.length < best'.length
          · exact .inl hl2
          · refine .inr ⟨by omega, ?_⟩
            rcases h4 with e | ⟨j, u, e, hj⟩
            · rw [hv, e] at hl
              simp at hl
            · rw [hv, e]; exact lx_pre begun j i u v hj
      obtain ⟨b1, b2, b3, b4, b5⟩ := hdb
      obtain ⟨c1, c2, c3, c4⟩ := bst_ok d (i + 1) begun best' (by omega) h1 h2' b3 b4
      generalize bst sh d (i + 1) begun best' = r at c1 c2 c3 c4 ⊢
      refine ⟨c1, dom_trans c2 b1, fun s hs => ?_, ?_⟩
      · obtain ⟨hs1, j, u, e, hj⟩ := hs
        by_cases hji : j = i
        · subst hji
          refine dom_trans c2 (dom_trans b2 ?_)
          cases u with
          | nil => rw [e]; exact a2
          | cons q u =>
            refine a3 s ⟨hs1, q, u, by rw [e, List.append_assoc]; rfl, ?_⟩
            have hp := hs1.1
            rw [e] at hp
            have := (List.pairwise_cons.1 (List.pairwise_append.1 hp).2.1).1 q (by simp)
            omega
        · exact c3 s ⟨hs1, j, u, e, by omega⟩
      · rcases c4 with e | ⟨q1, j, u, e, hj⟩
        · rcases b5 with e2 | e2
          · exact .inl (e.trans e2)
          · exact .inr ⟨c1, i, v, by rw [e, e2, hv], Nat.le_refl _⟩
        · exact .inr ⟨q1, j, u, e, by omega⟩
    · rw [if_neg hap]
      obtain ⟨c1, c2, c3, c4⟩ := bst_ok d (i + 1) begun best (by omega) h1 h2' h3 h4'
      refine ⟨c1, c2, fun s hs => ?_, c4.elim .inl fun ⟨q1, j, u, e, hj⟩ => .inr ⟨q1, j, u, e, by omega⟩⟩
      obtain ⟨hs1, j, u, e, hj⟩ := hs
      by_cases hji : j = i
      · exfalso
        subst hji
        refine hap ((apB_iff sh _).2 ?_)
        have h5 : s = (begun ++ [j]) ++ u := by rw [e, List.append_assoc]; rfl
        rw [h5] at hs1
        exact (Va_pre hs1).2.2
      · exact c3 s ⟨hs1, j, u, e, by omega⟩
def mem12 (x : Nat) : List Nat := (List.range 12).filter fun i => x.testBit i
theorem mem12_lt {x n : Nat} (hx : x < 2 ^ n) {a : Nat} (h : a ∈ mem12 x) : a < n := by
  have h1 : x.testBit a = true := (List.mem_filter.1 h).2
  by_cases h2 : a < n
  · exact h2
  · have h3 : x < 2 ^ a := Nat.lt_of_lt_of_le hx (Nat.pow_le_pow_right (by omega) (by omega))
    rw [Nat.testBit_lt_two_pow h3] at h1
    cases h1
theorem mem12_up (x : Nat) : (mem12 x).Pairwise (· < ·) := List.Pairwise.filter _ List.pairwise_lt_range
theorem mem12_len (x : Nat) : (mem12 x).length ≤ 12 := Nat.le_trans (List.length_filter_le _ _) (by simp)
theorem mem12_Va {x : Nat} (hx : x < 2 ^ n) : Va n sh (mem12 x) ↔ apB sh (mem12 x) = true := by
  rw [apB_iff]
  exact ⟨fun h => h.2.2, fun h => ⟨mem12_up x, fun a ha => mem12_lt hx ha, h⟩⟩
theorem up_ext : ∀ (s t : List Nat), s.Pairwise (· < ·) → t.Pairwise (· < ·) → (∀ a, a ∈ s ↔ a ∈ t) → s = t
  | [], [], _, _, _ => rfl
  | [], b :: t, _, _, h => by have := (h b).2 (by simp); cases this
  | a :: s, [], _, _, h => by have := (h a).1 (by simp); cases this
  | a :: s, b :: t, h1, h2, h => by
    obtain ⟨h1, h3⟩ := List.pairwise_cons.1 h1
    obtain ⟨h2, h4⟩ := List.pairwise_cons.1 h2
    have e : a = b := by
      rcases List.mem_cons.1 ((h a).1 (by simp)) with e | ha
      · exact e
      · rcases List.mem_cons.1 ((h b).2 (by simp)) with e | hb
        · exact e.symm
        · have := h1 b hb; have := h2 a ha; omega
    subst e
    rw [up_ext s t h3 h4 fun x => ?_]
    constructor
    · intro hx
      rcases List.mem_cons.1 ((h x).1 (List.mem_cons.2 (.inr hx))) with e | hx2
      · have := h1 x hx; omega
      · exact hx2
    · intro hx
      rcases List.mem_cons.1 ((h x).2 (List.mem_cons.2 (.inr hx))) with e | hx2
      · have := h2 x hx; omega
      · exact hx2
def setOf : List Nat → Nat
  | [] => 0
  | a :: s => 2 ^ a ||| setOf s
theorem setOf_bit : ∀ (s : List Nat) (i : Nat), (setOf s).testBit i = decide (i ∈ s)
  | [], i => by simp [setOf]
  | a :: s, i => by
    rw [setOf, Nat.testBit_or, setOf_bit s i, Nat.testBit_two_pow]
    by_cases h : a = i
    · simp [h]
    · have h' : ¬ i = a := fun e => h e.symm
      simp [h, h']
theorem setOf_lt : ∀ (s : List Nat), (∀ a ∈ s, a < n) → setOf s < 2 ^ n
  | [], _ => Nat.two_pow_pos n
  | a :: s, h => Nat.or_lt_two_pow (Nat.pow_lt_pow_right (by omega) (h a (by simp))) (setOf_lt s fun x hx => h x (List.mem_cons.2 (.inr hx)))
theorem mem12_set {s : List Nat} (h : Va n sh s) (hn : n ≤ 12) : mem12 (setOf s) = s := by
  refine up_ext _ _ (mem12_up _) h.1 fun a => ?_
  unfold mem12
  rw [List.mem_filter, List.mem_range, setOf_bit, decide_eq_true_eq]
  exact ⟨fun h => h.2, fun ha => ⟨by have := h.2.1 a ha; omega, ha⟩⟩
variable (sh) in
def ibs : Nat → List Nat
  | 0 => []
  | x + 1 => if apB sh (mem12 x) = true ∧ (ibs x).length < (mem12 x).length ∨ apB sh (mem12 x) = true ∧ (mem12 x).length = (ibs x).length ∧ lxLt (mem12 x) (ibs x) = true then mem12 x else ibs x
theorem ibs_len (x : Nat) : (ibs sh x).length ≤ 12 := by
  induction x with
  | zero => simp [ibs]
  | succ x ih =>
    rw [ibs]
    split
    · exact mem12_len x
    · exact ih
theorem lx_total : ∀ s t, lxLt s t = true → lxLt t s = false
  | _, [], h => by simp [lxLt] at h
  | [], _ :: _, _ => rfl
  | a :: s, b :: t, h => by
    rw [lxLt] at h
    simp only [Bool.or_eq_true, decide_eq_true_eq, Bool.and_eq_true] at h
    refine lx_cons.2 ⟨by omega, fun e => lx_total s t ?_⟩
    rcases h with h | h
    · omega
    · exact h.2
theorem ibs_ok : ∀ x, x ≤ 2 ^ n → Va n sh (ibs sh x) ∧ ∀ y, y < x → Va n sh (mem12 y) → dom (ibs sh x) (mem12 y)
  | 0, _ => ⟨Va_nil n sh, fun y hy => by omega⟩
  | x + 1, hx => by
    obtain ⟨h1, h2⟩ := ibs_ok x (by omega)
    have hv := mem12_Va (n := n) (sh := sh) (x := x) (by omega)
    rw [ibs]
    split
    · rename_i h
      have hap : apB sh (mem12 x) = true := h.elim (·.1) (·.1)
      have hd : dom (mem12 x) (ibs sh x) := by
        rcases h with h | h
        · exact .inl h.2
        · exact .inr ⟨h.2.1.symm, lx_total _ _ h.2.2⟩
      refine ⟨hv.2 hap, fun y hy hvy => ?_⟩
      by_cases e : y = x
      · subst e; exact dom_refl _
      · exact dom_trans hd (h2 y (by omega) hvy)
    · rename_i h
      refine ⟨h1, fun y hy hvy => ?_⟩
      by_cases e : y = x
      · subst e
        have hap := hv.1 hvy
        by_cases hl : (mem12 y).length < (ibs sh y).length
        · exact .inl hl
        · have hl2 : ¬ (ibs sh y).length < (mem12 y).length := fun q => h (.inl ⟨hap, q⟩)
          have hl3 : (mem12 y).length = (ibs sh y).length := by omega
          refine .inr ⟨hl3, ?_⟩
          cases hq : lxLt (mem12 y) (ibs sh y) with
          | false => rfl
          | true => exact absurd (.inr ⟨hap, hl3, hq⟩) h
      · exact h2 y (by omega) hvy
theorem bst_ibs (hn : n ≤ 12) : bst sh n 0 [] [] = ibs sh (2 ^ n) := by
  obtain ⟨a1, a2, a3, -⟩ := bst_ok (n := n) (sh := sh) n 0 [] [] (by omega) (Va_nil n sh) (fun a h => by cases h) (Va_nil n sh) (.inl rfl)
  obtain ⟨b1, b2⟩ := ibs_ok (n := n) (sh := sh) (2 ^ n) (Nat.le_refl _)
  refine dom_antisymm ?_ ?_
  · cases h : ibs sh (2 ^ n) with
    | nil => exact a2
    | cons j u =>
      rw [h] at b1
      exact a3 _ ⟨b1, j, u, rfl, by omega⟩
  · have h1 := mem12_set a1 hn
    have h2 := b2 (setOf (bst sh n 0 [] [])) (setOf_lt _ a1.2.1) (by rw [h1]; exact a1)
    rw [h1] at h2
    exact h2
end
theorem iz_rd (s : List Nat) (j : Nat) : rd (iz s) (j : Int) = ((s.getD j 0 : Nat) : Int) := by
  unfold rd iz
  rw [Int.toNat_natCast, List.getD_eq_getElem?_getD, List.getD_eq_getElem?_getD, List.getElem?_map]
  cases s[j]? <;> rfl
theorem getD_lt {s : List Nat} {n j : Nat} (hs : ∀ a ∈ s, a < n) (h : j < s.length) : s.getD j 0 < n := hs _ (getD_mem s 0 j h)
theorem ap_iff_at (sh : Nat → Nat → Bool) (s : List Nat) : apB sh s = true ↔ ∀ i j, i < s.length → j < i → sh (s.getD i 0) (s.getD j 0) = false := by
  rw [apB_iff]
  unfold ap
  rw [List.pairwise_iff_getElem]
  constructor
  · intro h i j hi hj
    have := h j i (by omega) hi hj
    rwa [List.getD_eq_getElem?_getD, List.getD_eq_getElem?_getD, List.getElem?_eq_getElem hi, List.getElem?_eq_getElem (show j < s.length by omega)]
  · intro h j i hj hi hlt
    have := h i j hi hlt
    rwa [List.getD_eq_getElem?_getD, List.getD_eq_getElem?_getD, List.getElem?_eq_getElem hi, List.getElem?_eq_getElem hj] at this
section
variable {l : List S28}
theorem ovW (hok : grpOk l = true) {a b : Nat} (ha : a < l.length) (hb : b < l.length) : spec_l2Overlap.f (rd_T28 l (a : Int)).f0 (rd_T28 l (a : Int)).f1 (rd_T28 l (a : Int)).f2 (rd_T28 l (a : Int)).f3 (rd_T28 l (b : Int)).f0 (rd_T28 l (b : Int)).f1 (rd_T28 l (b : Int)).f2 (rd_T28 l (b : Int)).f3 = some (ov (rd_T28 l a).f0 (rd_T28 l a).f1 (rd_T28 l a).f2 (rd_T28 l b).f0 (rd_T28 l b).f1 (rd_T28 l b).f2) :=
  overlap_eq _ _ _ _ _ _ _ _ ((grpOk_at hok).2 a ha) ((grpOk_at hok).2 b hb)
theorem shdW (hok : grpOk l = true) {a b : Nat} (ha : a < l.length) (hb : b < l.length) : impl_areShared.f (rd_T28 l (a : Int)).f0 (rd_T28 l (a : Int)).f1 (rd_T28 l (a : Int)).f2 (rd_T28 l (a : Int)).f3 (rd_T28 l (b : Int)).f0 (rd_T28 l (b : Int)).f1 (rd_T28 l (b : Int)).f2 (rd_T28 l (b : Int)).f3 = some (shW l a b) :=
  shared_eq _ _ _ _ _ _ _ _ ((grpOk_at hok).2 a ha) ((grpOk_at hok).2 b hb)
theorem apart_l1 (hok : grpOk l = true) {s : List Nat} (hs : ∀ a ∈ s, a < l.length) (hlen : s.length ≤ 1000) {i : Nat} (hi : i < s.length) {r : Bool}
    (hc : (∀ j, j < i → shW l (s.getD i 0) (s.getD j 0) = false) → Ev (fun k => spec_l3Apart.l0 k l (iz s) ((i + 1 : Nat) : Int)) r) (hf : (∃ j, j < i ∧ shW l (s.getD i 0) (s.getD j 0) = true) → r = false) :
    ∀ d j : Nat, j + d = i → (∀ j', j' < j → shW l (s.getD i 0) (s.getD j' 0) = false) → Ev (fun k => spec_l3Apart.l1 k l (iz s) (i : Int) (j : Int)) r
  | 0, j, hj, hd => by
    refine Ev.step (f := fun k => spec_l3Apart.l0 k l (iz s) ((i + 1 : Nat) : Int)) (fun k => ?_) (hc fun j' h' => hd j' (by omega))
    rw [spec_l3Apart.l1, if_neg (by omega), wrap_succ i (by omega)]
  | d + 1, j, hj, hd => by
    have h1 := getD_lt hs hi
    have h2 := getD_lt hs (show j < s.length by omega)
    have hl := iz_len s
    have e : ∀ k, spec_l3Apart.l1 (k + 1) l (iz s) (i : Int) (j : Int) = if shW l (s.getD i 0) (s.getD j 0) = true then some false else spec_l3Apart.l1 k l (iz s) (i : Int) ((j + 1 : Nat) : Int) := by
      intro k
      rw [spec_l3Apart.l1, if_pos (by omega), if_pos (by omega), if_pos (by omega), iz_rd, iz_rd, if_pos (by omega), if_pos (by omega), if_pos (by omega), if_pos (by omega), if_pos (by omega), if_pos (by omega), ovW hok h1 h2, Option.bind_some, wrap_succ j (by omega)]
      unfold shW
      by_cases h : 0 < ov (rd_T28 l ((s.getD i 0 : Nat) : Int)).f0 (rd_T28 l ((s.getD i 0 : Nat) : Int)).f1 (rd_T28 l ((s.getD i 0 : Nat) : Int)).f2 (rd_T28 l ((s.getD j 0 : Nat) : Int)).f0 (rd_T28 l ((s.getD j 0 : Nat) : Int)).f1 (rd_T28 l ((s.getD j 0 : Nat) : Int)).f2
      · rw [if_pos (by omega), if_pos (decide_eq_true h)]
      · rw [if_neg (by omega), if_neg (by rw [decide_eq_false h]; decide)]
    by_cases h : shW l (s.getD i 0) (s.getD j 0) = true
    · have hr := hf ⟨j, by omega, h⟩
      subst hr
      exact Ev.end_ fun k => by rw [e, if_pos h]
    · refine Ev.step (f := fun k => spec_l3Apart.l1 k l (iz s) (i : Int) ((j + 1 : Nat) : Int)) (fun k => by rw [e, if_neg h]) (apart_l1 hok hs hlen hi hc hf d (j + 1) (by omega) fun j' h' => ?_)
      by_cases e' : j' = j
      · subst e'; simpa using h
      · exact hd j' (by omega)
theorem apart_l0 (hok : grpOk l = true) {s : List Nat} (hs : ∀ a ∈ s, a < l.length) (hlen : s.length ≤ 1000) : ∀ (d i : Nat), i + d = s.length → ∀ r : Bool, (r = true ↔ ∀ i' j', i ≤ i' → i' < s.length → j' < i' → shW l (s.getD i' 0) (s.getD j' 0) = false) → Ev (fun k => spec_l3Apart.l0 k l (iz s) (i : Int)) r
  | 0, i, hd, r, hr => by
    have e : r = true := hr.2 fun i' j' h1 h2 h3 => by omega
    subst e
    have hl := iz_len s
    exact Ev.end_ fun k => by rw [spec_l3Apart.l0, if_neg (by omega)]
  | d + 1, i, hd, r, hr => by
    have hl := iz_len s
    refine Ev.step (f := fun k => spec_l3Apart.l1 k l (iz s) (i : Int) ((0 : Nat) : Int)) (fun k => by rw [spec_l3Apart.l0, if_pos (by omega)]; rfl) (apart_l1 hok hs hlen (by omega) (fun h => apart_l0 hok hs hlen d (i + 1) (by omega) r ?_) (fun ⟨j, hj, h⟩ => ?_) i 0 (by omega) fun j' h' => by omega)
    · rw [hr]
      constructor
      · exact fun q i' j' h1 h2 h3 => q i' j' (by omega) h2 h3
      · intro q i' j' h1 h2 h3
        by_cases e : i' = i
        · subst e; exact h j' h3
        · exact q i' j' (by omega) h2 h3
    · cases r with
      | false => rfl
      | true =>
        have := hr.1 rfl i j (Nat.le_refl _) (by omega) hj
        rw [this] at h
        cases h
theorem apart_ev (hok : grpOk l = true) {s : List Nat} (hs : ∀ a ∈ s, a < l.length) (hlen : s.length ≤ 1000) : Ev (fun k => spec_l3Apart.f k l (iz s)) (apB (shW l) s) :=
  apart_l0 hok hs hlen s.length 0 (by omega) _ (by rw [ap_iff_at]; exact ⟨fun h i j _ h2 h3 => h i j h2 h3, fun h i j h2 h3 => h i j (by omega) h2 h3⟩)
theorem own_iz {s : List Nat} (h : s.length ≤ 1000) : spec_l1Own.f (iz s) = some (iz s) := by
  unfold spec_l1Own.f
  rw [Option.bind_some, if_pos (by rw [List.length_nil, iz_len]; omega)]
  rfl
theorem best_l0 (hok : grpOk l = true) : ∀ (d i : Nat) (begun best : List Nat), i + d = l.length → (∀ a ∈ begun, a < l.length) → begun.length ≤ i →
    Ev (fun k => spec_l3Best.l0 k l (iz begun) (iz best) (i : Int)) (iz (bst (shW l) d i begun best))
  | 0, i, begun, best, hd, h1, h2 => Ev.end_ fun k => by rw [spec_l3Best.l0, if_neg (by omega)]; rfl
  | d + 1, i, begun, best, hd, h1, h2 => by
    have hn := (grpOk_at hok).1
    have h3 : ∀ a ∈ begun ++ [i], a < l.length := fun a ha => by
      rcases List.mem_append.1 ha with ha | ha
      · exact h1 a ha
      · rw [List.mem_singleton.1 ha]; omega
    have h4 : (begun ++ [i]).length = begun.length + 1 := by simp
    obtain ⟨K1, e1⟩ := apart_ev hok h3 (by omega)
    obtain ⟨K2, e2⟩ := best_l0 hok d (i + 1) (begun ++ [i]) (begun ++ [i]) (by omega) h3 (by omega)
    rw [bst]
    have e0 : ∀ k, K1 ≤ k → spec_l3Best.l0 (k + 1) l (iz begun) (iz best) (i : Int) = if apB (shW l) (begun ++ [i]) = true then ((spec_l3Best.f k l (iz (begun ++ [i])) ((i + 1 : Nat) : Int)).bind fun t => if (t.length : Int) > ((iz best).length : Int) then spec_l3Best.l0 k l (iz begun) t ((i + 1 : Nat) : Int) else spec_l3Best.l0 k l (iz begun) (iz best) ((i + 1 : Nat) : Int)) else spec_l3Best.l0 k l (iz begun) (iz best) ((i + 1 : Nat) : Int) := by
      intro k hk
      have := e1 k hk
      dsimp only at this
      rw [spec_l3Best.l0, if_pos (by omega), own_iz (by omega), Option.bind_some, if_pos (by rw [iz_len]; omega), Option.bind_some, ← iz_snoc, this, Option.bind_some, wrap_succ i (by omega)]
    by_cases hap : apB (shW l) (begun ++ [i]) = true
    · rw [if_pos hap]
      generalize bst (shW l) d (i + 1) (begun ++ [i]) (begun ++ [i]) = all at e2 ⊢
      obtain ⟨K3, e3⟩ := best_l0 hok d (i + 1) begun (if all.length > best.length then all else best) (by omega) h1 (by omega)
      refine ⟨K1 + K2 + K3 + 2, fun k hk => ?_⟩
      obtain ⟨k, rfl⟩ : ∃ j, k = j + 1 + 1 := ⟨k - 2, by omega⟩
      have g2 := e2 k (by omega)
      have g3 := e3 (k + 1) (by omega)
      dsimp only at g2 g3 ⊢
      rw [e0 (k + 1) (by omega), if_pos hap, spec_l3Best.f, g2, Option.bind_some]
      rw [iz_len, iz_len]
      by_cases hl : all.length > best.length
      · rw [if_pos (by omega)]
        rw [if_pos hl] at g3 ⊢
        exact g3
      · rw [if_neg (by omega)]
        rw [if_neg hl] at g3 ⊢
        exact g3
    · rw [if_neg hap]
      obtain ⟨K3, e3⟩ := best_l0 hok d (i + 1) begun best (by omega) h1 (by omega)
      refine ⟨K1 + K3 + 1, fun k hk => ?_⟩
      obtain ⟨k, rfl⟩ : ∃ j, k = j + 1 := ⟨k - 1, by omega⟩
      have g3 := e3 k (by omega)
      dsimp only at g3 ⊢
      rw [e0 k (by omega), if_neg hap]
      exact g3
theorem best_spec (hok : grpOk l = true) : Ev (fun k => spec_l3Best.f k l [] 0) (iz (bst (shW l) l.length 0 [] [])) :=
  Ev.step (f := fun k => spec_l3Best.l0 k l (iz []) (iz []) ((0 : Nat) : Int)) (fun k => by rw [spec_l3Best.f]; rfl) (best_l0 hok l.length 0 [] [] (by omega) (fun a h => by cases h) (by simp))
theorem and64 (a b : Nat) (ha : a < 9223372036854775808) (hb : b < 9223372036854775808) : bits .and .i64 (a : Int) (b : Int) = ((a &&& b : Nat) : Int) := by
  have hx : a &&& b ≤ a := Nat.and_le_left
  have h1 : (BitVec.ofInt 64 (a : Int)).toNat = a := by
    rw [BitVec.ofInt_natCast, BitVec.toNat_ofNat]; exact Nat.mod_eq_of_lt (by omega)
  have h2 : (BitVec.ofInt 64 (b : Int)).toNat = b := by
    rw [BitVec.ofInt_natCast, BitVec.toNat_ofNat]; exact Nat.mod_eq_of_lt (by omega)
  show IntKind.i64.wrap ((BitVec.ofInt 64 (a : Int) &&& BitVec.ofInt 64 (b : Int)).toNat : Int) = _
  rw [BitVec.toNat_and, h1, h2, IntKind.wrap_i64]
  omega
def lpO : Nat → Nat → List Nat → Option (List Nat)
  | 0, _, _ => none
  | f + 1, x, acc => if x = 0 then some acc else lpO f (x &&& (x - 1)) (acc ++ [Lib.ctz 64 x])
theorem lpO_all : ∀ a, a < 64 → ∀ b, b < 64 → lpO 13 (64 * a + b) [] = some (mem12 (64 * a + b)) := by decide +kernel
theorem lpO_at {x : Nat} (hx : x < 4096) : lpO 13 x [] = some (mem12 x) := by
  have := lpO_all (x / 64) (by omega) (x % 64) (by omega)
  rwa [show 64 * (x / 64) + x % 64 = x by omega] at this
theorem members_l0 : ∀ (k x : Nat) (acc : List Nat), x < 9223372036854775808 → acc.length + k ≤ 1000 → impl_membersOf.l0 k (x : Int) (iz acc) = (lpO k x acc).map iz
  | 0, x, acc, _, _ => rfl
  | k + 1, x, acc, hx, hk => by
    rw [impl_membersOf.l0, lpO]
    by_cases h : x = 0
    · rw [if_pos (by omega), if_pos h]; rfl
    · have ew : IntKind.u64.wrap (x : Int) = (x : Int) := by rw [IntKind.wrap_u64]; omega
      have ez : bits_TrailingZeros.f (x : Int) = some (Lib.ctz 64 x : Int) := by unfold bits_TrailingZeros.f; rw [if_pos (by omega), Int.toNat_natCast]
      have e1 : wrap64 ((x : Int) - 1) = ((x - 1 : Nat) : Int) := by unfold wrap64; omega
      rw [if_neg (by omega), if_neg h, ew, ez, Option.bind_some, if_pos (by rw [iz_len]; omega), e1, and64 x (x - 1) hx (by omega), ← iz_snoc, members_l0 k (x &&& (x - 1)) (acc ++ [Lib.ctz 64 x]) (Nat.lt_of_le_of_lt Nat.and_le_left hx) (by simp; omega)]
theorem members_ev {x : Nat} (hx : x < 4096) : Ev (fun k => impl_membersOf.f k (x : Int)) (iz (mem12 x)) := by
  refine Ev.of (impl_membersOf.mono (x : Int)) (k := 13) ?_
  unfold impl_membersOf.f
  have := members_l0 13 x [] (by omega) (by simp)
  rw [lpO_at hx] at this
  exact this
theorem cmp_eq (a b : Int) : cmp_Compare_int.f a b = some (if a < b then -1 else if a > b then 1 else 0) := by
  have h : ∀ x : Int, cmp_isNaN_int.f x = some false := fun x => by unfold cmp_isNaN_int.f; simp
  unfold cmp_Compare_int.f
  rw [h, h, Option.bind_some, Option.bind_some, if_neg (by decide), if_neg (by decide)]
  split
  · rfl
  · split <;> rfl
theorem compare_l0 {s t : List Nat} (hst : s.length = t.length) (hlen : s.length ≤ 1000) : ∀ (d i : Nat), i + d = s.length →
    ∃ c : Int, Ev (fun k => slices_Compare_int_int.l0 k (iz s) (iz t) (iz s) ((iz s).length : Int) (i : Int)) c ∧ (c < 0 ↔ lxLt (s.drop i) (t.drop i) = true)
  | 0, i, hd => by
    have h1 := iz_len s
    have h2 := iz_len t
    refine ⟨0, Ev.end_ fun k => by rw [slices_Compare_int_int.l0, if_neg (by omega), if_neg (by omega)], ?_⟩
    rw [List.drop_eq_nil_of_le (show s.length ≤ i by omega), List.drop_eq_nil_of_le (show t.length ≤ i by omega)]
    simp [lxLt]
  | d + 1, i, hd => by
    have h1 := iz_len s
    have h2 := iz_len t
    have e : ∀ k, slices_Compare_int_int.l0 (k + 1) (iz s) (iz t) (iz s) ((iz s).length : Int) (i : Int) = if s.getD i 0 = t.getD i 0 then slices_Compare_int_int.l0 k (iz s) (iz t) (iz s) ((iz s).length : Int) ((i + 1 : Nat) : Int) else some (if s.getD i 0 < t.getD i 0 then -1 else 1) := by
      intro k
      rw [slices_Compare_int_int.l0, if_pos (by omega), if_pos (by omega), if_pos (by omega), if_neg (by omega), if_pos (by omega), iz_rd, iz_rd, cmp_eq, Option.bind_some, wrap_succ i (by omega)]
      by_cases ha : s.getD i 0 = t.getD i 0
      · have e3 : (if ((s.getD i 0 : Nat) : Int) < ((t.getD i 0 : Nat) : Int) then (-1 : Int) else if ((s.getD i 0 : Nat) : Int) > ((t.getD i 0 : Nat) : Int) then 1 else 0) = 0 := by rw [if_neg (by omega), if_neg (by omega)]
        rw [e3, if_pos rfl, if_pos ha]
      · rw [if_neg ha]
        by_cases hb : s.getD i 0 < t.getD i 0
        · have e3 : (if ((s.getD i 0 : Nat) : Int) < ((t.getD i 0 : Nat) : Int) then (-1 : Int) else if ((s.getD i 0 : Nat) : Int) > ((t.getD i 0 : Nat) : Int) then 1 else 0) = -1 := by rw [if_pos (by omega)]
          rw [e3, if_pos hb, if_neg (by decide)]
        · have e3 : (if ((s.getD i 0 : Nat) : Int) < ((t.getD i 0 : Nat) : Int) then (-1 : Int) else if ((s.getD i 0 : Nat) : Int) > ((t.getD i 0 : Nat) : Int) then 1 else 0) = 1 := by rw [if_neg (by omega), if_pos (by omega)]
          rw [e3, if_neg hb, if_neg (by decide)]
    rw [drop_cons s 0 i (by omega), drop_cons t 0 i (by omega), lxLt]
    by_cases ha : s.getD i 0 = t.getD i 0
    · obtain ⟨c, hc, hi⟩ := compare_l0 hst hlen d (i + 1) (by omega)
      refine ⟨c, Ev.step (f := fun k => slices_Compare_int_int.l0 k (iz s) (iz t) (iz s) ((iz s).length : Int) ((i + 1 : Nat) : Int)) (fun k => by rw [e, if_pos ha]) hc, hi.trans ?_⟩
      rw [decide_eq_false (show ¬ s.getD i 0 < t.getD i 0 by omega), decide_eq_true ha]
      simp
    · refine ⟨if s.getD i 0 < t.getD i 0 then -1 else 1, Ev.end_ fun k => by rw [e, if_neg ha], ?_⟩
      rw [decide_eq_false ha]
      by_cases hb : s.getD i 0 < t.getD i 0
      · rw [if_pos hb, decide_eq_true hb]; simp
      · rw [if_neg hb, decide_eq_false hb]; simp
theorem compare_ev {s t : List Nat} (hst : s.length = t.length) (hlen : s.length ≤ 1000) : ∃ c : Int, Ev (fun k => slices_Compare_int_int.f k (iz s) (iz t)) c ∧ (c < 0 ↔ lxLt s t = true) := by
  obtain ⟨c, h1, h2⟩ := compare_l0 hst hlen s.length 0 (by omega)
  exact ⟨c, h1, h2⟩
def bpost (l : List S28) (k : Nat) (best s : List Nat) (N : Int) (x : Nat) (b : Bool) : Option (List Int × Bool) :=
  if b = true then (if ((iz s).length : Int) > ((iz best).length : Int) then impl_MostApart.l0 k l (iz s) N (wrap64 ((x : Int) + 1)) else (if ((iz s).length : Int) = ((iz best).length : Int) then ((slices_Compare_int_int.f k (iz s) (iz best)).bind fun t => (if t < 0 then (impl_MostApart.l0 k l (iz s) N (wrap64 ((x : Int) + 1))) else (impl_MostApart.l0 k l (iz best) N (wrap64 ((x : Int) + 1))))) else (impl_MostApart.l0 k l (iz best) N (wrap64 ((x : Int) + 1))))) else (impl_MostApart.l0 k l (iz best) N (wrap64 ((x : Int) + 1)))
theorem iz_take (s : List Nat) (i : Nat) : (iz s).take i = iz (s.take i) := by unfold iz; rw [List.map_take]
theorem take_getD {s : List Nat} {i j : Nat} (h : j < i) : (s.take i).getD j 0 = s.getD j 0 := by
  rw [List.getD_eq_getElem?_getD, List.getD_eq_getElem?_getD, List.getElem?_take, if_pos h]
theorem all_l2 (hok : grpOk l = true) {s best : List Nat} (hs : ∀ a ∈ s, a < l.length) (hlen : s.length ≤ 1000) {N : Int} {x i : Nat} (hi : i < s.length) {r : List Int × Bool} :
    ∀ (d j : Nat) (fits : Bool), j + d = i →
    (∀ b : Bool, (b = true ↔ fits = true ∧ ∀ j', j ≤ j' → j' < i → shW l (s.getD i 0) (s.getD j' 0) = false) → Ev (fun k => impl_MostApart.l1 k l (iz best) (iz s) b N (x : Int) (iz s) ((iz s).length : Int) ((i + 1 : Nat) : Int)) r) →
    Ev (fun k => impl_MostApart.l2 k l (iz best) (iz s) fits (rd (iz s) (i : Int)) N (x : Int) (iz s) ((iz s).length : Int) (i : Int) (iz (s.take i)) ((iz (s.take i)).length : Int) (j : Int)) r
  | 0, j, fits, hd, hc => by
    have hl := iz_len (s.take i)
    rw [List.length_take] at hl
    refine Ev.step (f := fun k => impl_MostApart.l1 k l (iz best) (iz s) fits N (x : Int) (iz s) ((iz s).length : Int) ((i + 1 : Nat) : Int)) (fun k => ?_) (hc fits ⟨fun h => ⟨h, fun j' h1 h2 => by omega⟩, fun h => h.1⟩)
    rw [impl_MostApart.l2, if_neg (by omega), wrap_succ i (by omega)]
  | d + 1, j, fits, hd, hc => by
    have hl := iz_len (s.take i)
    rw [List.length_take] at hl
    have h1 := getD_lt hs hi
    have h2 := getD_lt hs (show j < s.length by omega)
    have e : ∀ k, impl_MostApart.l2 (k + 1) l (iz best) (iz s) fits (rd (iz s) (i : Int)) N (x : Int) (iz s) ((iz s).length : Int) (i : Int) (iz (s.take i)) ((iz (s.take i)).length : Int) (j : Int) = impl_MostApart.l2 k l (iz best) (iz s) (fits && !shW l (s.getD i 0) (s.getD j 0)) (rd (iz s) (i : Int)) N (x : Int) (iz s) ((iz s).length : Int) (i : Int) (iz (s.take i)) ((iz (s.take i)).length : Int) ((j + 1 : Nat) : Int) := by
      intro k
      rw [impl_MostApart.l2, if_pos (by omega), if_pos (by omega), if_pos (by omega), wrap_succ j (by omega)]
      cases fits with
      | false => rw [if_neg (by decide)]; rfl
      | true =>
        have e2 : rd (iz (s.take i)) (j : Int) = ((s.getD j 0 : Nat) : Int) := by rw [iz_rd, take_getD (by omega)]
        have e3 : rd (iz s) (i : Int) = ((s.getD i 0 : Nat) : Int) := iz_rd s i
        rw [if_pos rfl, e2, e3, if_pos (by omega), if_pos (by omega), if_pos (by omega), if_pos (by omega), shdW hok h1 h2, Option.bind_some, Bool.true_and]
    refine Ev.step (fun k => e k) (all_l2 hok hs hlen hi d (j + 1) _ (by omega) fun b hb => hc b (hb.trans ?_))
    rw [Bool.and_eq_true]
    constructor
    · rintro ⟨⟨q1, q2⟩, q3⟩
      refine ⟨q1, fun j' g1 g2 => ?_⟩
      by_cases e' : j' = j
      · subst e'; simpa using q2
      · exact q3 j' (by omega) g2
    · rintro ⟨q1, q3⟩
      exact ⟨⟨q1, by rw [q3 j (Nat.le_refl _) (by omega)]; rfl⟩, fun j' g1 g2 => q3 j' (by omega) g2⟩
theorem all_l1 (hok : grpOk l = true) {s best : List Nat} (hs : ∀ a ∈ s, a < l.length) (hlen : s.length ≤ 1000) {N : Int} {x : Nat} {r : List Int × Bool} :
    ∀ (d i : Nat) (fits : Bool), i + d = s.length →
    (∀ b : Bool, (b = true ↔ fits = true ∧ ∀ i' j', i ≤ i' → i' < s.length → j' < i' → shW l (s.getD i' 0) (s.getD j' 0) = false) → Ev (fun k => bpost l k best s N x b) r) →
    Ev (fun k => impl_MostApart.l1 k l (iz best) (iz s) fits N (x : Int) (iz s) ((iz s).length : Int) (i : Int)) r
  | 0, i, fits, hd, hc => by
    have hl := iz_len s
    refine Ev.step (f := fun k => bpost l k best s N x fits) (fun k => ?_) (hc fits ⟨fun h => ⟨h, fun i' j' h1 h2 h3 => by omega⟩, fun h => h.1⟩)
    rw [impl_MostApart.l1, if_neg (by omega)]
    rfl
  | d + 1, i, fits, hd, hc => by
    have hl := iz_len s
    refine Ev.step (f := fun k => impl_MostApart.l2 k l (iz best) (iz s) fits (rd (iz s) (i : Int)) N (x : Int) (iz s) ((iz s).length : Int) (i : Int) (iz (s.take i)) ((iz (s.take i)).length : Int) ((0 : Nat) : Int)) (fun k => ?_) (all_l2 hok hs hlen (by omega) i 0 fits (by omega) fun b hb => all_l1 hok hs hlen d (i + 1) b (by omega) fun b2 hb2 => hc b2 (hb2.trans ?_))
    · rw [impl_MostApart.l1, if_pos (by omega), if_pos (by omega), if_pos (by omega), if_pos (by omega), Option.bind_some, Int.toNat_natCast, iz_take]
      rfl
    · rw [hb]
      constructor
      · rintro ⟨⟨q1, q2⟩, q3⟩
        refine ⟨q1, fun i' j' g1 g2 g3 => ?_⟩
        by_cases e' : i' = i
        · subst e'; exact q2 j' (by omega) g3
        · exact q3 i' j' (by omega) g2 g3
      · rintro ⟨q1, q3⟩
        exact ⟨⟨q1, fun j' g1 g2 => q3 i j' (Nat.le_refl _) (by omega) g2⟩, fun i' j' g1 g2 g3 => q3 i' j' (by omega) g2 g3⟩
theorem all_l0 (hok : grpOk l = true) : ∀ (d x : Nat), x + d = 2 ^ l.length → Ev (fun k => impl_MostApart.l0 k l (iz (ibs (shW l) x)) ((2 ^ l.length : Nat) : Int) (x : Int)) (iz (ibs (shW l) (2 ^ l.length)), true)
  | 0, x, hd => by
    rw [show x = 2 ^ l.length by omega]
    exact Ev.end_ fun k => by rw [impl_MostApart.l0, if_neg (by omega)]
  | d + 1, x, hd => by
    have hn := (grpOk_at hok).1
    have hp : 2 ^ l.length ≤ 2 ^ 12 := Nat.pow_le_pow_right (by omega) hn
    have hm : ∀ a ∈ mem12 x, a < l.length := fun a ha => mem12_lt (by omega) ha
    have hml := mem12_len x
    have hbl := ibs_len (sh := shW l) x
    have ih := all_l0 hok d (x + 1) (by omega)
    have hw : wrap64 ((x : Int) + 1) = ((x + 1 : Nat) : Int) := wrap_succ x (by omega)
    have hpost : ∀ b : Bool, (b = true ↔ apB (shW l) (mem12 x) = true) → Ev (fun k => bpost l k (ibs (shW l) x) (mem12 x) ((2 ^ l.length : Nat) : Int) x b) (iz (ibs (shW l) (2 ^ l.length)), true) := by
      intro b hb
      rw [ibs] at ih
      have h1 := iz_len (mem12 x)
      have h2 := iz_len (ibs (shW l) x)
      obtain ⟨K, hK⟩ := ih
      unfold bpost
      rw [hw]
      by_cases hap : apB (shW l) (mem12 x) = true
      · have hbt := hb.2 hap
        subst hbt
        by_cases hl1 : (ibs (shW l) x).length < (mem12 x).length
        · rw [if_pos (.inl ⟨hap, hl1⟩)] at hK
          refine ⟨K, fun k hk => ?_⟩
          dsimp only
          rw [if_pos rfl, if_pos (by omega)]
          exact hK k hk
        · by_cases hl2 : (mem12 x).length = (ibs (shW l) x).length
          · obtain ⟨c, ⟨K2, h4⟩, h5⟩ := compare_ev hl2 (by omega)
            by_cases hx : lxLt (mem12 x) (ibs (shW l) x) = true
            · rw [if_pos (.inr ⟨hap, hl2, hx⟩)] at hK
              refine ⟨K + K2, fun k hk => ?_⟩
              have g := h4 k (by omega)
              dsimp only at g ⊢
              rw [if_pos rfl, if_neg (by omega), if_pos (by omega), g, Option.bind_some, if_pos (h5.2 hx)]
              exact hK k (by omega)
            · rw [if_neg (fun h => h.elim (fun h => hl1 h.2) (fun h => hx h.2.2))] at hK
              refine ⟨K + K2, fun k hk => ?_⟩
              have g := h4 k (by omega)
              dsimp only at g ⊢
              rw [if_pos rfl, if_neg (by omega), if_pos (by omega), g, Option.bind_some, if_neg (fun h => hx (h5.1 h))]
              exact hK k (by omega)
          · rw [if_neg (fun h => h.elim (fun h => hl1 h.2) (fun h => hl2 h.2.1))] at hK
            refine ⟨K, fun k hk => ?_⟩
            dsimp only
            rw [if_pos rfl, if_neg (by omega), if_neg (by omega)]
            exact hK k hk
      · have hbf : b = false := by cases b with | false => rfl | true => exact absurd (hb.1 rfl) hap
        subst hbf
        rw [if_neg (fun h => h.elim (fun h => hap h.1) (fun h => hap h.1))] at hK
        exact ⟨K, fun k hk => by dsimp only; rw [if_neg (by decide)]; exact hK k hk⟩
    obtain ⟨K1, e1⟩ := members_ev (x := x) (by omega)
    obtain ⟨K2, e2⟩ := all_l1 hok (best := ibs (shW l) x) hm (by omega) (N := ((2 ^ l.length : Nat) : Int)) (x := x) (mem12 x).length 0 true (by omega) fun b hb => hpost b (hb.trans (by rw [ap_iff_at]; exact ⟨fun h i j h2 h3 => h.2 i j (by omega) h2 h3, fun h => ⟨rfl, fun i j _ h2 h3 => h i j h2 h3⟩⟩))
    refine ⟨K1 + K2 + 1, fun k hk => ?_⟩
    obtain ⟨k, rfl⟩ : ∃ j, k = j + 1 := ⟨k - 1, by omega⟩
    have g1 := e1 k (by omega)
    have g2 := e2 k (by omega)
    dsimp only at g1 g2 ⊢
    rw [impl_MostApart.l0, if_pos (by omega), g1, Option.bind_some]
    exact g2
theorem shl_two {n : Nat} (h : n ≤ 12) : shl .i64 1 (n : Int) = ((2 ^ n : Nat) : Int) := by
  have hp : 2 ^ n ≤ 2 ^ 12 := Nat.pow_le_pow_right (by omega) h
  unfold shl
  rw [show IntKind.i64.bits = 64 from rfl, Int.toNat_natCast, Nat.min_eq_left (by omega), IntKind.wrap_i64, Int.one_mul]
  have e : ((2 : Int) ^ n) = ((2 ^ n : Nat) : Int) := by rw [Int.natCast_pow]; rfl
  rw [e]
  generalize 2 ^ n = q at hp ⊢
  omega
theorem best_impl (hok : grpOk l = true) : Ev (fun k => impl_MostApart.l0 k l [] (shl .i64 1 (l.length : Int)) 0) (iz (bst (shW l) l.length 0 [] []), true) := by
  have hn := (grpOk_at hok).1
  rw [shl_two hn, bst_ibs hn]
  exact all_l0 hok (2 ^ l.length) 0 (by omega)
theorem bst_len (hok : grpOk l = true) : (bst (shW l) l.length 0 [] []).length ≤ 12 := by
  rw [bst_ibs (grpOk_at hok).1]
  exact ibs_len _
end
def both (m : List (List Int)) (a s l c b t u d : Int) : Bool := memOk m && (winOn m a s l c && winOn m b t u d)
theorem l2Both_ev (m : List (List Int)) (hm : Fit m) (a s l c b t u d : Int) (hs : -9223372036854775808 ≤ s ∧ s ≤ 9223372036854775807) (ht : -9223372036854775808 ≤ t ∧ t ≤ 9223372036854775807) : Ev (fun k => spec_l2Both.f k m a s l c b t u d) (both m a s l c b t u d) := by
  obtain ⟨K1, h1⟩ := l2Win m hm a s l c hs
  obtain ⟨K2, h2⟩ := l2Win m hm b t u d ht
  refine ⟨K1 + K2, fun k hk => ?_⟩
  have e1 := h1 k (by omega)
  have e2 := h2 k (by omega)
  dsimp only at e1 e2 ⊢
  simp only [spec_l2Both.f, e1, e2, Option.bind_some]
  unfold both
  cases memOk m <;> cases winOn m a s l c <;> cases winOn m b t u d <;> rfl
theorem areOn2_ev (m : List (List Int)) (hm : Fit m) (a s l c b t u d : Int) : Ev (fun k => impl_areOn.f k m [⟨a, s, l, c⟩, ⟨b, t, u, d⟩]) (both m a s l c b t u d) := by
  have h := areOn_ev m hm [⟨a, s, l, c⟩, ⟨b, t, u, d⟩]
  simpa only [List.all_cons, List.all_nil, Bool.and_true, both] using h
theorem both_sm {m : List (List Int)} {a s l c b t u d : Int} (h : both m a s l c b t u d = true) : Sm s l ∧ Sm t u ∧ Sm s c ∧ Sm t d := by
  unfold both at h
  simp only [Bool.and_eq_true] at h
  obtain ⟨hok, h1, h2⟩ := h
  exact ⟨(win_sm hok h1).1, (win_sm hok h2).1, (win_sm hok h1).2.1, (win_sm hok h2).2.1⟩
def doShareR (m : List (List Int)) (a s l c b t u d : Int) : Bool × Bool := if both m a s l c b t u d = true then (decide (0 < ov a s l b t u), true) else (false, false)
theorem doShare_spec (m : List (List Int)) (hm : Fit m) (a s l c b t u d : Int) (hs : -9223372036854775808 ≤ s ∧ s ≤ 9223372036854775807) (ht : -9223372036854775808 ≤ t ∧ t ≤ 9223372036854775807) : Ev (fun k => spec_DoShare.f k m a s l c b t u d) (doShareR m a s l c b t u d) := by
  obtain ⟨K, hK⟩ := l2Both_ev m hm a s l c b t u d hs ht
  refine ⟨K, fun k hk => ?_⟩
  have e1 := hK k hk
  dsimp only at e1 ⊢
  unfold doShareR
  simp only [spec_DoShare.f, e1, Option.bind_some]
  by_cases h : both m a s l c b t u d = true
  · obtain ⟨h1, h2, _, _⟩ := both_sm h
    rw [if_pos h, if_pos h, overlap_eq a s l c b t u d h1 h2]
    rfl
  · rw [if_neg h, if_neg h]
theorem doShare_impl (m : List (List Int)) (hm : Fit m) (a s l c b t u d : Int) : Ev (fun k => impl_DoShare.f k m a s l c b t u d) (doShareR m a s l c b t u d) := by
  obtain ⟨K, hK⟩ := areOn2_ev m hm a s l c b t u d
  refine ⟨K, fun k hk => ?_⟩
  have e1 := hK k hk
  dsimp only at e1 ⊢
  unfold doShareR
  simp only [impl_DoShare.f, e1, Option.bind_some]
  by_cases h : both m a s l c b t u d = true
  · obtain ⟨h1, h2, _, _⟩ := both_sm h
    rw [if_pos h, if_pos h, shared_eq a s l c b t u d h1 h2]
    rfl
  · rw [if_neg h, if_neg h]
def commonR (m : List (List Int)) (a s l c b t u d : Int) : Int × Int × Bool := if both m a s l c b t u d = true then (ov a s l b t u, if 0 < ov a s l b t u then mx s t else -1, true) else (0, 0, false)
theorem common_spec (m : List (List Int)) (hm : Fit m) (a s l c b t u d : Int) (hs : -9223372036854775808 ≤ s ∧ s ≤ 9223372036854775807) (ht : -9223372036854775808 ≤ t ∧ t ≤ 9223372036854775807) : Ev (fun k => spec_CommonPlaces.f k m a s l c b t u d) (commonR m a s l c b t u d) := by
  obtain ⟨K, hK⟩ := l2Both_ev m hm a s l c b t u d hs ht
  refine ⟨K, fun k hk => ?_⟩
  have e1 := hK k hk
  dsimp only at e1 ⊢
  unfold commonR
  simp only [spec_CommonPlaces.f, e1, Option.bind_some]
  by_cases h : both m a s l c b t u d = true
  · obtain ⟨h1, h2, _, _⟩ := both_sm h
    have h3 := ov_nonneg a s l b t u
    rw [if_pos h, if_pos h, overlap_eq a s l c b t u d h1 h2, Option.bind_some]
    by_cases h0 : ov a s l b t u = 0
    · rw [if_pos h0, h0]; rfl
    · rw [if_neg h0, most_eq, Option.bind_some, if_pos (show 0 < ov a s l b t u by omega)]
  · rw [if_neg h, if_neg h]
theorem common_impl (m : List (List Int)) (hm : Fit m) (a s l c b t u d : Int) : Ev (fun k => impl_CommonPlaces.f k m a s l c b t u d) (commonR m a s l c b t u d) := by
  obtain ⟨K, hK⟩ := areOn2_ev m hm a s l c b t u d
  refine ⟨K, fun k hk => ?_⟩
  have e1 := hK k hk
  dsimp only at e1 ⊢
  unfold commonR
  simp only [impl_CommonPlaces.f, e1, Option.bind_some]
  by_cases h : both m a s l c b t u d = true
  · obtain ⟨h1, h2, _, _⟩ := both_sm h
    rw [if_pos h, if_pos h, common_eq a s l c b t u d h1 h2, Option.bind_some]
  · rw [if_neg h, if_neg h]
def areNearR (m : List (List Int)) (a s l c b t u d : Int) : Bool × Bool := if both m a s l c b t u d = true then (decide (0 < ov a s c b t d), true) else (false, false)
theorem full_eq (a s l c : Int) (h : Sm s c) : spec_l3Full.f a s l c = some (a, s, c, c) := by
  unfold Sm at h
  unfold spec_l3Full.f spec_l2Slice.f
  simp only [Option.bind_some]
  rw [wrap_in (x := s + 0) (by omega) (by omega), wrap_in (x := c - 0) (by omega) (by omega), Int.add_zero, Int.sub_zero]
theorem areNear_spec (m : List (List Int)) (hm : Fit m) (a s l c b t u d : Int) (hs : -9223372036854775808 ≤ s ∧ s ≤ 9223372036854775807) (ht : -9223372036854775808 ≤ t ∧ t ≤ 9223372036854775807) : Ev (fun k => spec_AreNear.f k m a s l c b t u d) (areNearR m a s l c b t u d) := by
  obtain ⟨K, hK⟩ := l2Both_ev m hm a s l c b t u d hs ht
  refine ⟨K, fun k hk => ?_⟩
  have e1 := hK k hk
  dsimp only at e1 ⊢
  unfold areNearR
  simp only [spec_AreNear.f, e1, Option.bind_some]
  by_cases h : both m a s l c b t u d = true
  · obtain ⟨_, _, h3, h4⟩ := both_sm h
    rw [if_pos h, if_pos h, full_eq a s l c h3, full_eq b t u d h4]
    simp only [Option.bind_some]
    rw [overlap_eq a s c c b t d d h3 h4]
    rfl
  · rw [if_neg h, if_neg h]
theorem areNear_impl (m : List (List Int)) (hm : Fit m) (a s l c b t u d : Int) : Ev (fun k => impl_AreNear.f k m a s l c b t u d) (areNearR m a s l c b t u d) := by
  obtain ⟨K, hK⟩ := areOn2_ev m hm a s l c b t u d
  refine ⟨K, fun k hk => ?_⟩
  have e1 := hK k hk
  dsimp only at e1 ⊢
  unfold areNearR
  simp only [impl_AreNear.f, e1, Option.bind_some]
  by_cases h : both m a s l c b t u d = true
  · obtain ⟨_, _, h3, h4⟩ := both_sm h
    rw [if_pos h, if_pos h]
    simp only [impl_Window_wide.f, Option.bind_some]
    rw [shared_eq a s c c b t d d h3 h4]
    rfl
  · rw [if_neg h, if_neg h]
def inR (o : List (Int × Int)) (p : Int) : Prop := ∃ j, j < o.length ∧ (o.getD j (0, 0)).1 ≤ p ∧ p ≤ (o.getD j (0, 0)).2
theorem getD_set (o : List (Int × Int)) (i j : Nat) (x : Int × Int) : (o.set i x).getD j (0, 0) = if i = j ∧ j < o.length then x else o.getD j (0, 0) := by
  rw [List.getD_eq_getElem?_getD, List.getD_eq_getElem?_getD, List.getElem?_set]
  by_cases h : i = j
  · subst h
    rw [if_pos rfl]
    by_cases h2 : i < o.length
    · rw [if_pos h2, if_pos ⟨rfl, h2⟩]; rfl
    · rw [if_neg h2, if_neg (fun q => h2 q.2), List.getElem?_eq_none (by omega)]
  · rw [if_neg h, if_neg (fun q => h q.1)]
theorem getD_app (o : List (Int × Int)) (j : Nat) (x : Int × Int) : (o ++ [x]).getD j (0, 0) = if j < o.length then o.getD j (0, 0) else if j = o.length then x else (0, 0) := by
  rw [List.getD_eq_getElem?_getD, List.getD_eq_getElem?_getD]
  by_cases h : j < o.length
  · rw [if_pos h, List.getElem?_append_left h]
  · rw [if_neg h, List.getElem?_append_right (by omega)]
    by_cases h2 : j = o.length
    · rw [if_pos h2, show j - o.length = 0 by omega]; rfl
    · rw [if_neg h2, List.getElem?_eq_none (by simp; omega)]; rfl
theorem cov_ok (c : List Int) (hc : ∀ i, 0 ≤ c.getD i 0) : ∀ n, (∀ j, j < (covN c n).length → 0 ≤ ((covN c n).getD j (0, 0)).1 ∧ ((covN c n).getD j (0, 0)).1 ≤ ((covN c n).getD j (0, 0)).2 ∧ ((covN c n).getD j (0, 0)).2 < (n : Int)) ∧
    (∀ p : Nat, p < n → (inR (covN c n) (p : Int) ↔ c.getD p 0 ≠ 0)) ∧ (∀ q, n = q + 1 → c.getD q 0 ≠ 0 → 0 < (covN c n).length ∧ ((covN c n).getD ((covN c n).length - 1) (0, 0)).2 = (q : Int))
  | 0 => ⟨fun j h => by simp [covN] at h, fun p h => by omega, fun q h => by omega⟩
  | n + 1 => by
    obtain ⟨h1, h2, h3⟩ := cov_ok c hc n
    rw [covN, covStep]
    by_cases hz : c.getD n 0 = 0
    · rw [if_pos hz]
      refine ⟨fun j hj => by have := h1 j hj; omega, fun p hp => ?_, fun q hq hne => ?_⟩
      · by_cases e : p = n
        · subst e
          refine ⟨fun ⟨j, hj, g1, g2⟩ => ?_, fun h => absurd hz h⟩
          have := h1 j hj
          omega
        · exact h2 p (by omega)
      · obtain rfl : q = n := by omega
        exact absurd hz hne
    · rw [if_neg hz]
      by_cases hp : 0 < n ∧ 0 < c.getD (n - 1) 0
      · rw [if_pos hp]
        obtain ⟨m, hm⟩ : ∃ m, n = m + 1 := ⟨n - 1, by omega⟩
        have hm1 : n - 1 = m := by omega
        obtain ⟨h4, h5⟩ := h3 m hm (by rw [← hm1]; omega)
        generalize covN c n = o at h1 h2 h4 h5 ⊢
        have hl := h1 (o.length - 1) (by omega)
        refine ⟨fun j hj => ?_, fun p hpn => ?_, fun q hq _ => ?_⟩
        · rw [List.length_set] at hj
          rw [getD_set]
          by_cases e : o.length - 1 = j ∧ j < o.length
          · rw [if_pos e]; dsimp only; omega
          · rw [if_neg e]; have := h1 j hj; omega
        · constructor
          · rintro ⟨j, hj, g1, g2⟩
            rw [List.length_set] at hj
            rw [getD_set] at g1 g2
            by_cases e : p = n
            · subst e; exact hz
            · refine (h2 p (by omega)).1 ?_
              by_cases e2 : o.length - 1 = j ∧ j < o.length
              · rw [if_pos e2] at g1 g2
                dsimp only at g1 g2
                exact ⟨o.length - 1, by omega, g1, by omega⟩
              · rw [if_neg e2] at g1 g2
                exact ⟨j, hj, g1, g2⟩
          · intro hne
            by_cases e : p = n
            · refine ⟨o.length - 1, by rw [List.length_set]; omega, ?_⟩
              rw [getD_set, if_pos ⟨rfl, by omega⟩]
              dsimp only
              omega
            · obtain ⟨j, hj, g1, g2⟩ := (h2 p (by omega)).2 hne
              refine ⟨j, by rw [List.length_set]; exact hj, ?_⟩
              rw [getD_set]
              by_cases e2 : o.length - 1 = j ∧ j < o.length
              · rw [if_pos e2]
                rw [← e2.1] at g1 g2
                dsimp only
                omega
              · rw [if_neg e2]; exact ⟨g1, g2⟩
        · rw [List.length_set, getD_set, if_pos ⟨rfl, by omega⟩]
          dsimp only
          exact ⟨h4, by omega⟩
      · rw [if_neg hp]
        generalize covN c n = o at h1 h2 h3 ⊢
        refine ⟨fun j hj => ?_, fun p hpn => ?_, fun q hq _ => ?_⟩
        · rw [List.length_append, List.length_singleton] at hj
          rw [getD_app]
          by_cases e : j < o.length
          · rw [if_pos e]; have := h1 j e; omega
          · rw [if_neg e, if_pos (by omega)]; dsimp only; omega
        · constructor
          · rintro ⟨j, hj, g1, g2⟩
            rw [getD_app] at g1 g2
            by_cases e : j < o.length
            · rw [if_pos e] at g1 g2
              have := h1 j e
              exact (h2 p (by omega)).1 ⟨j, e, g1, g2⟩
            · rw [List.length_append, List.length_singleton] at hj
              rw [if_neg e, if_pos (by omega)] at g1 g2
              dsimp only at g1 g2
              obtain rfl : p = n := by omega
              exact hz
          · intro hne
            by_cases e : p = n
            · refine ⟨o.length, by simp, ?_⟩
              rw [getD_app, if_neg (by omega), if_pos rfl]
              dsimp only
              omega
            · obtain ⟨j, hj, g1, g2⟩ := (h2 p (by omega)).2 hne
              exact ⟨j, by rw [List.length_append]; omega, by rw [getD_app, if_pos hj]; exact ⟨g1, g2⟩⟩
        · rw [List.length_append, List.length_singleton, getD_app, if_neg (by omega), if_pos (by omega)]
          exact ⟨by omega, by dsimp only; omega⟩
def sumTo (f : Nat → Int) : Nat → Int
  | 0 => 0
  | n + 1 => sumTo f n + f n
theorem sumTo_add (f g : Nat → Int) : ∀ n, sumTo (fun p => f p + g p) n = sumTo f n + sumTo g n
  | 0 => rfl
  | n + 1 => by simp only [sumTo, sumTo_add f g n]; omega
theorem sumTo_zero : ∀ n, sumTo (fun _ => 0) n = 0
  | 0 => rfl
  | n + 1 => by simp only [sumTo, sumTo_zero n]; omega
theorem sumTo_run (s t : Int) (hs : 0 ≤ s) (ht : 0 ≤ t) : ∀ n : Nat, sumTo (fun p => if s ≤ (p : Int) ∧ (p : Int) < s + t then 1 else 0) n = if (n : Int) ≤ s then 0 else if (n : Int) ≤ s + t then (n : Int) - s else t
  | 0 => by rw [sumTo, if_pos (by omega)]
  | n + 1 => by
    rw [sumTo, sumTo_run s t hs ht n]
    repeat' split
    all_goals omega
def lenIn (l : List S28) (a : Int) : Int := match l with
  | [] => 0
  | x :: xs => (if x.f0 = a then x.f2 else 0) + lenIn xs a
theorem sees_iff {x : S28} {a p : Int} (h1 : 0 ≤ x.f1) (h2 : 0 ≤ x.f2) (h3 : x.f1 + x.f2 ≤ 1000000) : seesB x a p = decide (x.f0 = a ∧ x.f1 ≤ p ∧ p < x.f1 + x.f2) := by
  have h := seesB_eq x a p
  unfold impl_Window_sees.f at h
  rw [wrap_in (x := x.f1 + x.f2) (by omega) (by omega), wrap_in (x := x.f1 + x.f2 - 1) (by omega) (by omega), within_eq] at h
  by_cases e : x.f0 = a
  · rw [if_pos e] at h
    have h' := Option.some.inj h
    rw [← h', inB]
    rw [Bool.eq_iff_iff]
    simp only [decide_eq_true_eq]
    omega
  · rw [if_neg e] at h
    have h' := Option.some.inj h
    rw [← h', decide_eq_false (fun q => e q.1)]
theorem nums_len0 (p : S28 → Bool) : ∀ (l : List S28) (i j : Int), (numsF (fun _ x => p x) l i).length = (numsF (fun _ x => p x) l j).length
  | [], _, _ => rfl
  | x :: xs, i, j => by
    simp only [numsF]
    split
    · rw [List.length_cons, List.length_cons, nums_len0 p xs (i + 1) (j + 1)]
    · exact nums_len0 p xs (i + 1) (j + 1)
theorem sum_seen (a : Int) (n : Nat) : ∀ l : List S28, (∀ x ∈ l, 0 ≤ x.f1 ∧ 0 ≤ x.f2 ∧ x.f1 + x.f2 ≤ 1000000 ∧ (x.f0 = a → x.f1 + x.f2 ≤ (n : Int))) →
    sumTo (fun p => ((numsF (fun _ x => seesB x a (p : Int)) l 0).length : Int)) n = lenIn l a
  | [], _ => by simp only [numsF, List.length_nil, lenIn]; exact sumTo_zero n
  | x :: xs, h => by
    obtain ⟨h1, h2, h3, h4⟩ := h x (by simp)
    have ih := sum_seen a n xs fun y hy => h y (List.mem_cons.2 (.inr hy))
    have e : (fun p : Nat => ((numsF (fun _ x => seesB x a (p : Int)) (x :: xs) 0).length : Int)) = fun p : Nat => (if x.f0 = a ∧ x.f1 ≤ (p : Int) ∧ (p : Int) < x.f1 + x.f2 then 1 else 0) + ((numsF (fun _ x => seesB x a (p : Int)) xs 0).length : Int) := by
      funext p
      simp only [numsF]
      have hs := sees_iff (a := a) (p := (p : Int)) h1 h2 h3
      by_cases q : x.f0 = a ∧ x.f1 ≤ (p : Int) ∧ (p : Int) < x.f1 + x.f2
      · have hb : seesB x a (p : Int) = true := hs.trans (decide_eq_true q)
        rw [if_pos hb, if_pos q, List.length_cons, nums_len0 (fun x => seesB x a (p : Int)) xs (0 + 1) 0]
        omega
      · have hb : ¬ seesB x a (p : Int) = true := by rw [hs, decide_eq_false q]; decide
        rw [if_neg hb, if_neg q, nums_len0 (fun x => seesB x a (p : Int)) xs (0 + 1) 0]
        omega
    rw [e, sumTo_add, ih, lenIn]
    by_cases q : x.f0 = a
    · have e2 : (fun p : Nat => (if x.f0 = a ∧ x.f1 ≤ (p : Int) ∧ (p : Int) < x.f1 + x.f2 then (1 : Int) else 0)) = fun p : Nat => if x.f1 ≤ (p : Int) ∧ (p : Int) < x.f1 + x.f2 then 1 else 0 := by
        funext p
        simp only [q, true_and]
      rw [e2, sumTo_run x.f1 x.f2 h1 h2, if_pos q]
      have := h4 q
      congr 1
      repeat' split
      all_goals omega
    · have e2 : (fun p : Nat => (if x.f0 = a ∧ x.f1 ≤ (p : Int) ∧ (p : Int) < x.f1 + x.f2 then (1 : Int) else 0)) = fun _ => 0 := by
        funext p
        rw [if_neg (fun h => q h.1)]
      rw [e2, sumTo_zero, if_neg q]
theorem bfs_keep {n : Nat} {sh : Nat → Nat → Bool} {blk : List Nat} : ∀ (f t : Nat) (q : List Nat) (a : Nat), a ∈ q → a ∈ bfs n sh blk f t q
  | 0, _, _, _, h => h
  | f + 1, t, q, a, h => by
    rw [bfs]
    split
    · exact bfs_keep f (t + 1) _ a (kall_mem.2 (.inl h))
    · exact h
section
variable (n : Nat) (sh : Nat → Nat → Bool)
def rts : Nat → List Nat
  | 0 => []
  | i + 1 => if i ∈ (igr n sh i).2 then rts i else rts i ++ [i]
end
section
variable {n : Nat} {sh : Nat → Nat → Bool} (hsym : ∀ a b, a < n → b < n → sh a b = sh b a)
include hsym
theorem grp_all : ∀ i, i ≤ n → (igr n sh i).2.Nodup ∧ (∀ j, j < i → j ∈ (igr n sh i).2) ∧ (igr n sh i).1.flatten.length = (igr n sh i).2.length ∧ (rts n sh i).length = (igr n sh i).1.length ∧ (∀ r ∈ rts n sh i, r < i ∧ r ∈ (igr n sh i).2) ∧ (rts n sh i).Pairwise (· < ·) ∧ ap sh (rts n sh i)
  | 0, _ => ⟨by simp [igr], fun j h => by omega, by simp [igr], by simp [igr, rts], fun r h => by simp [rts] at h, by simp [rts], by simp [rts, ap]⟩
  | i + 1, hi => by
    obtain ⟨h1, h2, h3, h4, h5, h6, h7⟩ := grp_all i (by omega)
    obtain ⟨-, -, g3, g4⟩ := igr_eq hsym i (by omega)
    by_cases hin : i ∈ (igr n sh i).2
    · rw [igr_in hin, rts, if_pos hin]
      refine ⟨h1, fun j hj => ?_, h3, h4, fun r hr => ⟨by have := (h5 r hr).1; omega, (h5 r hr).2⟩, h6, h7⟩
      by_cases e : j = i
      · rw [e]; exact hin
      · exact h2 j (by omega)
    · obtain ⟨⟨q1, q2, q3⟩, -⟩ := bfs_shut (n := n) (sh := sh) (blk := (igr n sh i).2) n 0 [i] (IsQ.one (by omega) hin) (by simp) (by omega) (fun j x hj => by omega)
      have hmem : i ∈ bfs n sh (igr n sh i).2 n 0 [i] := bfs_keep _ _ _ _ (by simp)
      rw [igr_out hin, rts, if_neg hin]
      dsimp only
      refine ⟨List.nodup_append.2 ⟨h1, q1, fun a ha b hb e => q3 b hb (e ▸ ha)⟩, fun j hj => ?_, ?_, ?_, fun r hr => ?_, ?_, ?_⟩
      · by_cases e : j = i
        · rw [e]; exact List.mem_append.2 (.inr hmem)
        · exact List.mem_append.2 (.inl (h2 j (by omega)))
      · rw [List.flatten_append, List.length_append, List.length_append, h3]
        simp only [List.flatten_cons, List.flatten_nil, List.append_nil]
        rw [srt_len]
      · rw [List.length_append, List.length_append, h4]
        rfl
      · rcases List.mem_append.1 hr with hr | hr
        · exact ⟨by have := (h5 r hr).1; omega, List.mem_append.2 (.inl (h5 r hr).2)⟩
        · rw [List.mem_singleton.1 hr]
          exact ⟨by omega, List.mem_append.2 (.inr hmem)⟩
      · refine List.pairwise_append.2 ⟨h6, List.pairwise_singleton _ _, fun a ha b hb => ?_⟩
        rw [List.mem_singleton.1 hb]
        exact (h5 a ha).1
      · refine List.pairwise_append.2 ⟨h7, List.pairwise_singleton _ _, fun a ha b hb => ?_⟩
        rw [List.mem_singleton.1 hb]
        have ha2 := h5 a ha
        cases hs : sh i a with
        | false => rfl
        | true =>
          rw [hsym i a (by omega) (by omega)] at hs
          exact absurd (g3 a ha2.2 i (by omega) hs) hin
theorem grp_total : (sgr n sh n).flatten.length = n := by
  obtain ⟨h1, h2, h3, -⟩ := grp_all hsym n (Nat.le_refl _)
  obtain ⟨g1, -, -, g4⟩ := igr_eq hsym n (Nat.le_refl _)
  rw [← g1, h3]
  have l1 := nodup_len n _ h1 g4
  have l2 := List.Nodup.length_le_of_subset (List.nodup_range (n := n)) (fun a ha => h2 a (List.mem_range.1 ha))
  rw [List.length_range] at l2
  omega
theorem grp_apart : (sgr n sh n).length ≤ (bst sh n 0 [] []).length := by
  obtain ⟨-, -, -, h4, h5, h6, h7⟩ := grp_all hsym n (Nat.le_refl _)
  obtain ⟨g1, -⟩ := igr_eq hsym n (Nat.le_refl _)
  obtain ⟨a1, a2, a3, -⟩ := bst_ok (n := n) (sh := sh) n 0 [] [] (by omega) (Va_nil n sh) (fun a h => by cases h) (Va_nil n sh) (.inl rfl)
  rw [← g1, ← h4]
  have hv : Va n sh (rts n sh n) := ⟨h6, fun a ha => (h5 a ha).1, h7⟩
  have hd : dom (bst sh n 0 [] []) (rts n sh n) := by
    cases h : rts n sh n with
    | nil => exact a2
    | cons j u =>
      rw [h] at hv
      exact a3 _ ⟨hv, j, u, rfl, by omega⟩
  rcases hd with h | ⟨h, -⟩ <;> omega
end
def IsCode (l : List Int) : Prop := ∀ x ∈ l, 0 ≤ x ∧ x < 256
theorem rdc {l : List Int} (hc : IsCode l) {i : Int} (h0 : 0 ≤ i) (h1 : i < (l.length : Int)) : 0 ≤ rd l i ∧ rd l i < 256 := by
  unfold rd
  rw [List.getD_eq_getElem?_getD, List.getElem?_eq_getElem (by omega : i.toNat < l.length)]
  exact hc _ (List.getElem_mem _)
theorem and255 (x : Int) (h0 : 0 ≤ x) (h1 : x < 18446744073709551616) : 0 ≤ Go.bits .and .u64 x 255 ∧ Go.bits .and .u64 x 255 < 256 := by
  have h := Go.bits_mask .u64 64 (by decide) Go.wraps_u64 8 (by decide) x h0 (by omega)
  have h2 : Go.bits .and .u64 x 255 = x % 256 := by simpa using h
  omega
theorem u64r (x : Int) : 0 ≤ IntKind.u64.wrap x ∧ IntKind.u64.wrap x < 18446744073709551616 := by rw [IntKind.wrap_u64]; omega
theorem next_ok {l : List Int} (hc : IsCode l) (a s : Int) (h0 : 0 ≤ a) (h1 : a ≤ 1099511627776) : ∃ b s', spec_l1Cur_next.f l a s = some (b, a + 1, s') ∧ 0 ≤ b ∧ b < 256 := by
  have hw : wrap64 (a + 1) = a + 1 := wrap_in (by omega) (by omega)
  rw [spec_l1Cur_next.f, hw]
  by_cases h : a < (l.length : Int)
  · have hb := rdc hc h0 h
    rw [if_pos h, if_pos h0, if_pos (by omega), wrap_in (x := rd l a) (by omega) (by omega)]
    exact ⟨_, _, rfl, hb⟩
  · rw [if_neg h, if_neg (by omega)]
    have hu := u64r ((IntKind.u64.wrap ((IntKind.u64.wrap (s * 6364136223846793005)) + 0)) + 462197)
    have h2 := and255 (IntKind.u64.wrap ((IntKind.u64.wrap ((IntKind.u64.wrap (s * 6364136223846793005)) + 0)) + 462197) / 1099511627776) (by omega) (by omega)
    rw [wrap_in (x := Go.bits .and .u64 (IntKind.u64.wrap ((IntKind.u64.wrap ((IntKind.u64.wrap (s * 6364136223846793005)) + 0)) + 462197) / 1099511627776) 255) (by omega) (by omega)]
    exact ⟨_, _, rfl, h2⟩
theorem pick_ok {l : List Int} (hc : IsCode l) (a s n : Int) (h0 : 0 ≤ a) (h1 : a ≤ 1099511627774) (hn : 1 ≤ n) (hm : n ≤ 1099511627776) : ∃ x a' s', spec_l1Cur_pick.f l a s n = some (x, a', s') ∧ 0 ≤ x ∧ x < n ∧ a ≤ a' ∧ a' ≤ a + 2 := by
  rw [spec_l1Cur_pick.f]
  by_cases h : n ≤ 1
  · rw [if_pos h]
    exact ⟨0, a, s, rfl, by omega, by omega, by omega, by omega⟩
  · obtain ⟨b, s1, e1, hb⟩ := next_ok hc a s h0 (by omega)
    rw [if_neg h, e1, Option.bind_some]
    by_cases h2 : n > 200
    · obtain ⟨b2, s2, e2, hb2⟩ := next_ok hc (a + 1) s1 (by omega) (by omega)
      rw [if_pos h2, e2, Option.bind_some, if_neg (by omega), wrap_in (x := b * 256) (by omega) (by omega), wrap_in (x := b * 256 + b2) (by omega) (by omega), Int.tmod_eq_emod_of_nonneg (by omega)]
      exact ⟨_, _, _, rfl, Int.emod_nonneg _ (by omega), Int.emod_lt_of_pos _ (by omega), by dsimp only; omega, by dsimp only; omega⟩
    · rw [if_neg h2, if_neg (by omega), Int.tmod_eq_emod_of_nonneg (by omega)]
      exact ⟨_, _, _, rfl, Int.emod_nonneg _ (by omega), Int.emod_lt_of_pos _ (by omega), by dsimp only; omega, by dsimp only; omega⟩
theorem one_ok {l : List Int} (hc : IsCode l) (a s n : Int) (h0 : 0 ≤ a) (h1 : a ≤ 1099511627774) (hn : 1 ≤ n) (hm : n ≤ 1099511627776) : ∃ x a' s', spec_l1Cur_one.f l a s n = some (x, a', s') ∧ a ≤ a' ∧ a' ≤ a + 2 := by
  obtain ⟨i, a', s', e, _, _, g2⟩ := pick_ok hc a s n h0 h1 hn hm
  rw [spec_l1Cur_one.f, e, Option.bind_some]
  exact ⟨_, _, _, rfl, g2⟩
end Go.Proofs.YthnchjgffocigaaDoor.P
end
