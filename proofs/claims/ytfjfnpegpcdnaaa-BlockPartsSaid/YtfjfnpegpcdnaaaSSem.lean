/- Crossings of blocks in plain words: moments of a crossing, what becomes of them, numbers of moments. -/
import Derived.Test.YtfjfnpegpcdnaaaEv
import Derived.Test.YtfjfnpegpcdnaaaGBx0

namespace Go.Proofs.Ytfjfnpegpcdnaaa.Pure
open Go.RowKit Go.Proofs.YtfjfnpegpcdnaaaW.PrintWords Go.Proofs.YtfjfnpegpcdnaaaW.PrintLast Go.Proofs.YtfjfnpegpcdnaaaW.PrintMore Go.Proofs.Ytfjfnpegpcdnaaa.GB
set_option linter.unusedVariables false
set_option linter.unusedSimpArgs false

/-! ### machines -/
def OkRule (n s : Int) (r : S57) : Prop := 0 ≤ r.f0 ∧ r.f0 < s ∧ (r.f1 = -1 ∨ r.f1 = 1) ∧ -1 ≤ r.f2 ∧ r.f2 < n
def OkRow (n s : Int) (R : List (List S57)) (i : Int) : Prop := ((rd_L2 R i).length : Int) = s ∧ ∀ j, 0 ≤ j → j < s → OkRule n s (rd_T57 (rd_L2 R i) j)
def VM (n s : Int) (R : List (List S57)) : Prop := 1 ≤ n ∧ n ≤ 6 ∧ 2 ≤ s ∧ s ≤ 4 ∧ (R.length : Int) = n ∧ ∀ i, 0 ≤ i → i < n → OkRow n s R i

/-! ### moments -/
abbrev Mom := Int × Int × List Int
def rule (R : List (List S57)) (c : Mom) : S57 := rd_T57 (rd_L2 R c.1) (rd c.2.2 c.2.1)
def step (R : List (List S57)) (c : Mom) : Mom := ((rule R c).f2, c.2.1 + (rule R c).f1, c.2.2.set c.2.1.toNat (rule R c).f0)
def it (R : List (List S57)) (c : Mom) : Nat → Mom
  | 0 => c
  | m + 1 => step R (it R c m)
def In (W : Int) (c : Mom) : Prop := c.1 ≠ -1 ∧ 0 ≤ c.2.1 ∧ c.2.1 < W
def Digits (s : Int) (l : List Int) : Prop := ∀ x ∈ l, 0 ≤ x ∧ x < s
def Good (n s W : Int) (c : Mom) : Prop := -1 ≤ c.1 ∧ c.1 < n ∧ -1 ≤ c.2.1 ∧ c.2.1 ≤ W ∧ (c.2.2.length : Int) = W ∧ Digits s c.2.2
theorem rd_digit {s : Int} {l : List Int} (h : Digits s l) {i : Int} (h0 : 0 ≤ i) (h1 : i < l.length) : 0 ≤ rd l i ∧ rd l i < s := by
  have hi : i.toNat < l.length := by omega
  unfold rd
  rw [List.getD_eq_getElem?_getD, List.getElem?_eq_getElem hi]
  exact h _ (List.getElem_mem hi)
theorem set_digits {s : Int} {l : List Int} (h : Digits s l) (i : Nat) {v : Int} (h0 : 0 ≤ v) (h1 : v < s) : Digits s (l.set i v) := by
  intro x hx
  rcases List.mem_or_eq_of_mem_set hx with hx | rfl
  · exact h x hx
  · exact ⟨h0, h1⟩
theorem rule_ok {n s W : Int} {R : List (List S57)} {c : Mom} (vm : VM n s R) (g : Good n s W c) (i : In W c) : c.1 < (R.length : Int) ∧ 0 ≤ c.1 ∧ 0 ≤ rd c.2.2 c.2.1 ∧ rd c.2.2 c.2.1 < ((rd_L2 R c.1).length : Int) ∧ OkRule n s (rule R c) := by
  obtain ⟨g0, g1, g2, g3, g4, g5⟩ := g
  obtain ⟨i0, i1, i2⟩ := i
  have h0 : 0 ≤ c.1 := by omega
  have hx := rd_digit g5 i1 (by omega)
  have hr := vm.2.2.2.2.2 c.1 h0 g1
  exact ⟨by have := vm.2.2.2.2.1; omega, h0, hx.1, by have := hr.1; omega, hr.2 _ hx.1 hx.2⟩
theorem Good.step {n s W : Int} {R : List (List S57)} {c : Mom} (vm : VM n s R) (g : Good n s W c) (i : In W c) : Good n s W (step R c) := by
  obtain ⟨_, _, _, _, o0, o1, o2, o3, o4⟩ := rule_ok vm g i
  obtain ⟨g0, g1, g2, g3, g4, g5⟩ := g
  obtain ⟨i0, i1, i2⟩ := i
  refine ⟨o3, o4, ?_, ?_, ?_, set_digits g5 _ o0 o1⟩
  · simp only [Pure.step]; omega
  · simp only [Pure.step]; omega
  · simp only [Pure.step, List.length_set]; exact g4
theorem it_add (R : List (List S57)) (c : Mom) (a b : Nat) : it R c (a + b) = it R (it R c a) b := by
  induction b with
  | zero => rfl
  | succ b ih => rw [← Nat.add_assoc]; simp only [it, ih]
theorem it_good {n s W : Int} {R : List (List S57)} {c : Mom} (vm : VM n s R) (g : Good n s W c) : ∀ m, (∀ i, i < m → In W (it R c i)) → Good n s W (it R c m)
  | 0, _ => g
  | m + 1, h => (it_good vm g m (fun i hi => h i (by omega))).step vm (h m (by omega))

/-- What a crossing from c on comes to. -/
def kind (W : Int) (c : Mom) : Int := if c.1 = -1 then 2 else if c.2.1 < 0 then 0 else 1
abbrev Res := Int × Int × Int × Int × List Int
def Sem (R : List (List S57)) (W : Int) (c : Mom) (r : Res) : Prop :=
  (∃ m : Nat, (∀ i, i < m → In W (it R c i)) ∧ ¬ In W (it R c m) ∧ r = (kind W (it R c m), (it R c m).1, (m : Int), (it R c m).2.1, (it R c m).2.2)) ∨
  ((∀ i, In W (it R c i)) ∧ r = (3, 0, 0, 0, []))
theorem Sem.one {R : List (List S57)} {W : Int} {c : Mom} {r r' : Res} (h : Sem R W c r) (h' : Sem R W c r') : r = r' := by
  rcases h with ⟨m, h1, h2, rfl⟩ | ⟨h1, rfl⟩
  · rcases h' with ⟨m', h1', h2', rfl⟩ | ⟨h1', rfl⟩
    · have : m = m' := by
        rcases Nat.lt_trichotomy m m' with h | h | h
        · exact absurd (h1' m h) h2
        · exact h
        · exact absurd (h1 m' h) h2'
      subst this
      rfl
    · exact absurd (h1' m) h2
  · rcases h' with ⟨m', h1', h2', rfl⟩ | ⟨h1', rfl⟩
    · exact absurd (h1 m') h2'
    · rfl
/-- What comes back to where it was never leaves. -/
theorem never {R : List (List S57)} {W : Int} {c : Mom} {m i : Nat} (hi : i < m) (h : ∀ j, j < m → In W (it R c j)) (e : it R c i = it R c m) : ∀ j, In W (it R c j) := by
  intro j
  induction j using Nat.strongRecOn with
  | _ j ih =>
    by_cases hj : j < m
    · exact h j hj
    · have e2 : it R c j = it R c (i + (j - m)) := by
        have : j = m + (j - m) := by omega
        rw [this, it_add, it_add, e]
        simp
      rw [e2]
      exact ih _ (by omega)

/-! ### numbers of moments -/
def num (s : Int) (a : Int) : List Int → Int
  | [] => a
  | x :: l => num s (a * s + x) l
def pw (s : Int) : Nat → Int
  | 0 => 1
  | k + 1 => s * pw s k
theorem pw_pos {s : Int} (hs : 2 ≤ s) : ∀ k, 1 ≤ pw s k
  | 0 => by simp [pw]
  | k + 1 => by
    have h := pw_pos hs k
    have h2 := Int.mul_le_mul_of_nonneg_right (a := 1) (b := s) (c := pw s k) (by omega) (by omega)
    simp only [pw]
    omega
theorem num_lt {s : Int} (hs : 2 ≤ s) : ∀ (l : List Int) (a : Int), 0 ≤ a → Digits s l → 0 ≤ num s a l ∧ num s a l < (a + 1) * pw s l.length
  | [], a, h0, _ => by simp [num, pw]; omega
  | x :: l, a, h0, hd => by
    have hx := hd x (by simp)
    have hm : 0 ≤ a * s := Int.mul_nonneg h0 (by omega)
    obtain ⟨h1, h2⟩ := num_lt hs l (a * s + x) (by omega) (fun y hy => hd y (by simp [hy]))
    refine ⟨h1, Int.lt_of_lt_of_le h2 ?_⟩
    have e : a * s + x + 1 ≤ (a + 1) * s := by rw [Int.add_mul]; omega
    have h3 := Int.mul_le_mul_of_nonneg_right e (show 0 ≤ pw s l.length by have := pw_pos hs l.length; omega)
    simp only [List.length_cons, pw]
    rwa [Int.mul_assoc] at h3
theorem dm {a b x y m : Int} (hx0 : 0 ≤ x) (hx1 : x < m) (hy0 : 0 ≤ y) (hy1 : y < m) (h : a * m + x = b * m + y) : a = b ∧ x = y := by
  have e : a = b := by
    rcases Int.lt_trichotomy a b with h1 | h1 | h1
    · have := Int.mul_le_mul_of_nonneg_right (show a + 1 ≤ b by omega) (show 0 ≤ m by omega)
      rw [Int.add_mul] at this
      omega
    · exact h1
    · have := Int.mul_le_mul_of_nonneg_right (show b + 1 ≤ a by omega) (show 0 ≤ m by omega)
      rw [Int.add_mul] at this
      omega
  subst e
  exact ⟨rfl, by omega⟩
theorem num_inj {s : Int} : ∀ (l l' : List Int) (a a' : Int), l.length = l'.length → Digits s l → Digits s l' → num s a l = num s a' l' → a = a' ∧ l = l'
  | [], [], a, a', _, _, _, h => ⟨h, rfl⟩
  | [], _ :: _, _, _, h, _, _, _ => by simp at h
  | _ :: _, [], _, _, h, _, _, _ => by simp at h
  | x :: l, y :: l', a, a', hl, hd, hd', h => by
    have hx := hd x (by simp)
    have hy := hd' y (by simp)
    obtain ⟨e, rfl⟩ := num_inj l l' _ _ (by simpa using hl) (fun z hz => hd z (by simp [hz])) (fun z hz => hd' z (by simp [hz])) h
    obtain ⟨rfl, rfl⟩ := dm hx.1 hx.2 hy.1 hy.2 e
    exact ⟨rfl, rfl⟩
def code (n s W : Int) (c : Mom) : Int := (num s 0 c.2.2 * W + c.2.1) * n + c.1
theorem code_lt {n s W : Int} {c : Mom} (hs : 2 ≤ s) (hn : 1 ≤ n) (g : Good n s W c) (i : In W c) : 0 ≤ code n s W c ∧ code n s W c < n * (W * pw s c.2.2.length) := by
  obtain ⟨g0, g1, g2, g3, g4, g5⟩ := g
  obtain ⟨i0, i1, i2⟩ := i
  obtain ⟨h1, h2⟩ := num_lt hs c.2.2 0 (by omega) g5
  simp only [Int.zero_add, Int.one_mul] at h2
  have hW : 0 ≤ W := by omega
  have a1 : 0 ≤ num s 0 c.2.2 * W := Int.mul_nonneg h1 hW
  have a2 := Int.mul_le_mul_of_nonneg_right (show num s 0 c.2.2 + 1 ≤ pw s c.2.2.length by omega) hW
  rw [Int.add_mul] at a2
  have a3 := Int.mul_le_mul_of_nonneg_right (show num s 0 c.2.2 * W + c.2.1 + 1 ≤ pw s c.2.2.length * W by omega) (show 0 ≤ n by omega)
  rw [Int.add_mul] at a3
  have a4 := Int.mul_nonneg (show 0 ≤ num s 0 c.2.2 * W + c.2.1 by omega) (show 0 ≤ n by omega)
  unfold code
  rw [show n * (W * pw s c.2.2.length) = pw s c.2.2.length * W * n by rw [Int.mul_comm n, Int.mul_comm W]]
  omega
theorem code_inj {n s W : Int} {c d : Mom} (g : Good n s W c) (i : In W c) (g' : Good n s W d) (i' : In W d) (h : code n s W c = code n s W d) : c = d := by
  obtain ⟨g0, g1, g2, g3, g4, g5⟩ := g
  obtain ⟨i0, i1, i2⟩ := i
  obtain ⟨g0', g1', g2', g3', g4', g5'⟩ := g'
  obtain ⟨i0', i1', i2'⟩ := i'
  obtain ⟨e1, e2⟩ := dm (by omega) g1 (by omega) g1' h
  obtain ⟨e3, e4⟩ := dm i1 i2 i1' i2' e1
  obtain ⟨_, e5⟩ := num_inj c.2.2 d.2.2 0 0 (by omega) g5 g5' e3
  obtain ⟨a, b, l⟩ := c
  obtain ⟨a', b', l'⟩ := d
  simp only at e2 e4 e5
  rw [e2, e4, e5]
theorem all_le {n s : Int} {W : Nat} (hn : n ≤ 6) (hs : s ≤ 4) (hs2 : 2 ≤ s) (hn1 : 1 ≤ n) (hW : W ≤ 6) : n * ((W : Int) * pw s W) ≤ 147456 := by
  have hp : pw s W ≤ 4096 := by
    have h4 : ∀ k, pw s k ≤ pw 4 k := by
      intro k
      induction k with
      | zero => simp [pw]
      | succ k ih =>
        simp only [pw]
        have h1 := Int.mul_le_mul_of_nonneg_right hs (show 0 ≤ pw s k by have := pw_pos hs2 k; omega)
        omega
    have h6 : pw 4 W ≤ 4096 := by
      match W, hW with
      | 0, _ => decide
      | 1, _ => decide
      | 2, _ => decide
      | 3, _ => decide
      | 4, _ => decide
      | 5, _ => decide
      | 6, _ => decide
      | n + 7, h => omega
    have := h4 W
    omega
  have hp1 := pw_pos hs2 W
  have h1 : (W : Int) * pw s W ≤ 6 * pw s W := Int.mul_le_mul_of_nonneg_right (by omega) (by omega)
  have h2 : 0 ≤ (W : Int) * pw s W := Int.mul_nonneg (by omega) (by omega)
  have h3 := Int.mul_le_mul_of_nonneg_right hn h2
  omega
/-- Different numbers below a bound are no more than it. -/
theorem pigeon : ∀ (N : Nat) (L : List Nat), L.Nodup → (∀ x ∈ L, x < N) → L.length ≤ N
  | 0, L, _, h => by
    cases L with
    | nil => simp
    | cons x t => exact absurd (h x (by simp)) (by omega)
  | N + 1, L, hd, h => by
    by_cases hN : N ∈ L
    · have h1 := pigeon N (L.erase N) (hd.erase N) (fun x hx => by
        have hx' := (List.Nodup.mem_erase_iff hd).1 hx
        have := h x hx'.2
        have := hx'.1
        omega)
      rw [List.length_erase_of_mem hN] at h1
      omega
    · have := pigeon N L hd (fun x hx => by
        have := h x hx
        have : x ≠ N := fun e => hN (e ▸ hx)
        omega)
      omega
theorem fresh_le {n s : Int} {W : Nat} {R : List (List S57)} {c : Mom} (vm : VM n s R) (hW : W ≤ 6) (g : Good n s W c) {m : Nat} (hin : ∀ i, i < m → In W (it R c i)) (hne : ∀ i j, i < j → j < m → it R c i ≠ it R c j) : m ≤ 147456 := by
  have ok : ∀ i, i < m → Good n s W (it R c i) := fun i hi => it_good vm g i (fun j hj => hin j (by omega))
  have hl : ∀ i, i < m → (it R c i).2.2.length = W := fun i hi => by have := (ok i hi).2.2.2.2.1; omega
  have h := pigeon 147456 ((List.range m).map (fun i => (code n s W (it R c i)).toNat)) ?_ ?_
  · simpa using h
  · rw [List.Nodup, List.pairwise_map]
    refine List.Pairwise.imp_of_mem ?_ List.pairwise_lt_range
    intro i j hi hj hij e
    rw [List.mem_range] at hi hj
    have c1 := code_lt vm.2.2.1 vm.1 (ok i hi) (hin i hi)
    have c2 := code_lt vm.2.2.1 vm.1 (ok j hj) (hin j hj)
    exact hne i j hij hj (code_inj (ok i hi) (hin i hi) (ok j hj) (hin j hj) (by omega))
  · intro x hx
    obtain ⟨i, hi, rfl⟩ := List.mem_map.1 hx
    rw [List.mem_range] at hi
    have c1 := code_lt vm.2.2.1 vm.1 (ok i hi) (hin i hi)
    rw [hl i hi] at c1
    have := all_le vm.2.1 vm.2.2.2.1 vm.2.2.1 vm.1 hW
    omega
end Go.Proofs.Ytfjfnpegpcdnaaa.Pure
