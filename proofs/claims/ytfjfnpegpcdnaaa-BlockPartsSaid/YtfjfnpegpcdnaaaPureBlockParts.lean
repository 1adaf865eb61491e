/- The pure statement of BlockParts: to cross a block is to cross its parts. No condition. -/
import Derived.Test.YtfjfnpegpcdnaaaSLaw
import Derived.Test.YtfjfnpegpcdnaaaGBx10
import Derived.Test.YtfjfnpegpcdnaaaGBx3
import Derived.Test.YtfjfnpegpcdnaaaGBx7
import Derived.Test.YtfjfnpegpcdnaaaStmtBlockParts
namespace Go.Proofs.Ytfjfnpegpcdnaaa.Pure
open Go.RowKit Go.Proofs.YtfjfnpegpcdnaaaW.PrintWords Go.Proofs.YtfjfnpegpcdnaaaW.PrintLast Go.Proofs.YtfjfnpegpcdnaaaW.PrintMore Go.Proofs.Ytfjfnpegpcdnaaa.GB
set_option linter.unusedVariables false
set_option linter.unusedSimpArgs false

/-! ### a part of a block -/
def emb (pre suf : List Int) (c : Mom) : Mom := (c.1, (pre.length : Int) + c.2.1, pre ++ c.2.2 ++ suf)
theorem emb_rd (pre ys suf : List Int) {q : Int} (h0 : 0 ≤ q) (h1 : q < ys.length) : rd (pre ++ ys ++ suf) ((pre.length : Int) + q) = rd ys q := by
  unfold rd
  rw [List.getD_eq_getElem?_getD, List.getD_eq_getElem?_getD, List.append_assoc, List.getElem?_append_right (by omega), List.getElem?_append_left (by omega)]
  congr 2
  omega
theorem emb_set (pre ys suf : List Int) {q : Int} (v : Int) (h0 : 0 ≤ q) (h1 : q < ys.length) : (pre ++ ys ++ suf).set ((pre.length : Int) + q).toNat v = pre ++ ys.set q.toNat v ++ suf := by
  rw [List.append_assoc, List.set_append_right _ _ (by omega), List.set_append_left _ _ (by omega), List.append_assoc]
  congr 3
  omega
theorem emb_step {n s V : Int} {R : List (List S57)} {c : Mom} (vm : VM n s R) (g : Good n s V c) (i : In V c) (pre suf : List Int) : step R (emb pre suf c) = emb pre suf (step R c) := by
  have hl := g.2.2.2.2.1
  have e1 : rd (pre ++ c.2.2 ++ suf) ((pre.length : Int) + c.2.1) = rd c.2.2 c.2.1 := emb_rd _ _ _ i.2.1 (by have := i.2.2; omega)
  have e2 : rule R (emb pre suf c) = rule R c := by
    simp only [rule, emb]
    rw [e1]
  simp only [step, e2]
  simp only [emb]
  rw [emb_set _ _ _ _ i.2.1 (by have := i.2.2; omega), Int.add_assoc]
theorem emb_it {n s V : Int} {R : List (List S57)} {c : Mom} (vm : VM n s R) (g : Good n s V c) (pre suf : List Int) : ∀ m, (∀ i, i < m → In V (it R c i)) → it R (emb pre suf c) m = emb pre suf (it R c m)
  | 0, _ => rfl
  | m + 1, h => by
    simp only [it]
    rw [emb_it vm g pre suf m (fun i hi => h i (by omega)), emb_step vm (it_good vm g m (fun i hi => h i (by omega))) (h m (by omega))]
theorem emb_in {V W : Int} {c : Mom} {pre suf : List Int} (h : In V c) (hW : (pre.length : Int) + V ≤ W) : In W (emb pre suf c) := ⟨h.1, by have := h.2.1; simp only [emb]; omega, by have := h.2.2; simp only [emb]; omega⟩
/-- Who leaves has been at no moment twice. -/
theorem left_fresh {R : List (List S57)} {W : Int} {c : Mom} {m : Nat} (h1 : ∀ i, i < m → In W (it R c i)) (h2 : ¬ In W (it R c m)) : ∀ i j, i < j → j < m → it R c i ≠ it R c j :=
  fun i j hij hj e => h2 (never hij (fun k hk => h1 k (by omega)) e m)

/-! ### the cells of a part, laid back -/
theorem lay_loop (cells pre word suf : List Int) : ∀ (d i : Nat) (ys : List Int), i + d = word.length → ys.length = d → (pre ++ word.take i ++ ys ++ suf).length < 17592186044416 → ∀ (W : List Int) (x11 x15 x16 n s : Int) (R : List (List S57)) (x0 x1 x2 x3 : Int) (x4 : List Int) (y0 y1 y2 y3 : Int) (r : Bool),
    Ev (fun k => standstilllaw05_BlockParts.l1 k W x11 (pre ++ word ++ suf) x15 x16 (pre.length : Int) (word.length : Int) n s R x0 x1 x2 x3 x4 y0 y1 y2 y3 word) r →
    Ev (fun k => standstilllaw05_BlockParts.l1 k W x11 (pre ++ word.take i ++ ys ++ suf) x15 x16 (pre.length : Int) (i : Int) n s R x0 x1 x2 x3 x4 y0 y1 y2 y3 word) r := by
  intro d
  induction d with
  | zero =>
    intro i ys hi hy hb W x11 x15 x16 n s R x0 x1 x2 x3 x4 y0 y1 y2 y3 r h
    obtain rfl : i = word.length := by omega
    obtain rfl : ys = [] := List.eq_nil_of_length_eq_zero hy
    simpa using h
  | succ d ih =>
    intro i ys hi hy hb W x11 x15 x16 n s R x0 x1 x2 x3 x4 y0 y1 y2 y3 r h
    cases ys with
    | nil => simp at hy
    | cons y ys =>
      simp only [List.length_cons] at hy
      have hiw : i < word.length := by omega
      have hset : (pre ++ word.take i ++ y :: ys ++ suf).set (pre.length + i) (rd word (i : Int)) = pre ++ word.take (i + 1) ++ ys ++ suf := by
        have e : (pre ++ word.take i).length = pre.length + i := by simp; omega
        rw [List.append_assoc (pre ++ word.take i), List.set_append_right _ _ (by omega), e, Nat.sub_self, List.cons_append, List.set_cons_zero, List.take_succ_eq_append_getElem hiw]
        simp only [rd, Int.toNat_natCast, List.getD_eq_getElem?_getD, List.getElem?_eq_getElem hiw, Option.getD_some, List.append_assoc, List.cons_append, List.nil_append]
      have hlen : (pre ++ word.take i ++ y :: ys ++ suf).length = (pre ++ word.take (i + 1) ++ ys ++ suf).length := by rw [← hset, List.length_set]
      have hlb : pre.length + i < (pre ++ word.take i ++ y :: ys ++ suf).length := by simp; omega
      have nx := ih (i + 1) ys (by omega) (by omega) (by omega) W x11 x15 x16 n s R x0 x1 x2 x3 x4 y0 y1 y2 y3 r h
      refine Ev.succ ?_
      simp only [standstilllaw05_BlockParts.l1]
      have e1 : wrap64 ((pre.length : Int) + (i : Int)) = ((pre.length + i : Nat) : Int) := by rw [wrap_id (by omega) (by omega)]; omega
      rw [e1, wrap_id (x := (i : Int) + 1) (by omega) (by omega)]
      refine Ev.ifp (by omega) (Ev.ifp (by omega) (Ev.ifp (by omega) (Ev.ifp (by omega) ?_)))
      rw [Int.toNat_natCast, hset]
      exact nx

/-! ### one crossing of a part -/
theorem cut3 (l : List Int) {a b : Nat} (hab : a ≤ b) (hb : b ≤ l.length) : l = l.take a ++ (l.take b).drop a ++ l.drop b := by
  have e : l.take a = (l.take b).take a := by rw [List.take_take, Nat.min_eq_left hab]
  rw [e, List.take_append_drop, List.take_append_drop]
structure At (n s : Int) (R : List (List S57)) (l : List Int) (c0 : Mom) (T N : Nat) (c : Mom) : Prop where
  it : it R c0 T = c
  good : Good n s l.length c
  in_ : ∀ i, i ≤ T → In l.length (Pure.it R c0 i)
  T : T ≤ 147456 * N
  N : N ≤ 147457

theorem part_ev (n s : Int) (R : List (List S57)) (l : List Int) (kk : Int) (x : Res) (st p : Int) (pre ys suf : List Int) (T N : Int) (b : Int) (q : Int) (d : Mom) (m : Int)
    (hb : b = (pre.length : Int) + (ys.length : Int)) (hlen : pre.length ≤ 6 ∧ ys.length ≤ 6 ∧ suf.length ≤ 6) (hq : q = 0 ∨ q = 1 ∨ q = 2) (hq2 : q = 2 ↔ d.1 = -1) (hdl : d.2.2.length = ys.length) (hm : 1 ≤ m) (hd2 : -1 ≤ d.2.1 ∧ d.2.1 ≤ 6)
    (hcross : Ev (fun k => block_Cross.f k n s R st (wrap64 (p - (pre.length : Int))) (((pre ++ ys ++ suf).take b.toNat).drop ((pre.length : Int)).toNat)) (q, d.1, m, d.2.1, d.2.2, 0))
    (h : Ev (fun k => standstilllaw05_BlockParts.j6 k d.1 ((pre.length : Int) + d.2.1) l kk (pre ++ d.2.2 ++ suf) (wrap64 (T + m)) N (decide (d.1 = -1 ∨ (pre.length : Int) + d.2.1 < 0 ∨ (pre.length : Int) + d.2.1 ≥ (l.length : Int))) n s R x.1 x.2.1 x.2.2.1 x.2.2.2.1 x.2.2.2.2 q d.1 m d.2.1 d.2.2) true) :
    Ev (fun k => standstilllaw05_BlockParts.j3 k st p l kk (pre ++ ys ++ suf) T N (pre.length : Int) b n s R x.1 x.2.1 x.2.2.1 x.2.2.2.1 x.2.2.2.2) true := by
  have hcl : (pre ++ ys ++ suf).length = pre.length + ys.length + suf.length := by simp; omega
  refine Ev.succ ?_
  simp only [standstilllaw05_BlockParts.j3]
  refine Ev.ifp (by omega) (Ev.ifp (by omega) (Ev.ifp (by omega) (Ev.bind' hcross ?_)))
  simp only [↓reduceIte]
  have e1 : wrap64 (b - (pre.length : Int)) = (d.2.2.length : Int) := by rw [wrap_id (by omega) (by omega)]; omega
  refine Ev.ifn (by omega) (Ev.ifp (by rw [e1]) ?_)
  have e2 : decide (m < 1) = false := decide_eq_false (by omega)
  rw [e2]
  refine Ev.succ ?_
  simp only [standstilllaw05_BlockParts.j4, Bool.false_eq_true, ↓reduceIte]
  have lay := lay_loop (pre ++ ys ++ suf) pre d.2.2 suf d.2.2.length 0 ys (by omega) (by omega) (by simp; omega) l kk T N n s R x.1 x.2.1 x.2.2.1 x.2.2.2.1 x.2.2.2.2 q d.1 m d.2.1 true ?_
  · simpa using lay
  · have hpos : wrap64 ((pre.length : Int) + d.2.1) = (pre.length : Int) + d.2.1 := wrap_id (by omega) (by omega)
    refine Ev.succ ?_
    simp only [standstilllaw05_BlockParts.l1]
    refine Ev.ifn (by omega) ?_
    rw [hpos]
    by_cases q1 : d.1 = -1
    · refine Ev.ifp (hq2.2 q1) ?_
      rw [decide_eq_true (Or.inl q1)] at h
      exact h
    · refine Ev.ifn (fun h => q1 (hq2.1 h)) ?_
      by_cases q2 : (pre.length : Int) + d.2.1 < 0
      · refine Ev.ifp q2 ?_
        rw [decide_eq_true (Or.inr (Or.inl q2))] at h
        exact h
      · refine Ev.ifn q2 ?_
        by_cases q3 : (pre.length : Int) + d.2.1 ≥ (l.length : Int)
        · rw [decide_eq_true q3]
          rw [decide_eq_true (Or.inr (Or.inr q3))] at h
          exact h
        · rw [decide_eq_false q3]
          rw [decide_eq_false (fun h' => h'.elim q1 (fun h' => h'.elim q2 q3))] at h
          exact h
theorem never_ev (n s : Int) (R : List (List S57)) (l : List Int) (kk : Int) (x : Res) (st p : Int) (pre ys suf : List Int) (T N : Int) (b : Int) (hb : b = (pre.length : Int) + (ys.length : Int)) (hx : x.1 = 3)
    (hcross : Ev (fun k => block_Cross.f k n s R st (wrap64 (p - (pre.length : Int))) (((pre ++ ys ++ suf).take b.toNat).drop ((pre.length : Int)).toNat)) (3, 0, 0, 0, [], 0)) :
    Ev (fun k => standstilllaw05_BlockParts.j3 k st p l kk (pre ++ ys ++ suf) T N (pre.length : Int) b n s R x.1 x.2.1 x.2.2.1 x.2.2.2.1 x.2.2.2.2) true := by
  have yes : Ev (fun k => (standstilllaw05_awake.f k).bind fun t => some t) true := Ev.bind' awake_ev (Ev.now _)
  have hcl : (pre ++ ys ++ suf).length = pre.length + ys.length + suf.length := by simp; omega
  refine Ev.succ ?_
  simp only [standstilllaw05_BlockParts.j3]
  refine Ev.ifp (by omega) (Ev.ifp (by omega) (Ev.ifp (by omega) (Ev.bind' hcross ?_)))
  simp only [↓reduceIte]
  exact Ev.ifp hx yes
theorem kind_cases (W : Int) (d : Mom) : (kind W d = 0 ∨ kind W d = 1 ∨ kind W d = 2) ∧ (kind W d = 2 ↔ d.1 = -1) := by
  unfold kind
  by_cases h1 : d.1 = -1
  · simp [h1]
  · rw [if_neg h1]
    split <;> simp [h1]
theorem kind_emb {W V : Int} {pre suf : List Int} {d : Mom} (h0 : -1 ≤ d.2.1) (hp : d.2.1 < 0 → (pre.length : Int) + d.2.1 < 0 ∨ d.1 = -1) : kind W (emb pre suf d) = kind V d := by
  simp only [kind, emb]
  by_cases q1 : d.1 = -1
  · simp [q1]
  · by_cases q2 : d.2.1 < 0
    · have q3 := (hp q2).resolve_right q1
      simp [q1, q2, q3]
    · have q3 : ¬ (pre.length : Int) + d.2.1 < 0 := by omega
      simp only [q1, q2, q3, if_false]

theorem round (n s : Int) (R : List (List S57)) (l : List Int) (c0 : Mom) (kk : Nat) (x : Res) (vm : VM n s R) (h2 : 2 ≤ l.length) (h6 : l.length ≤ 6) (k1 : 1 ≤ kk) (k2 : kk < l.length) (g0 : Good n s l.length c0) (hx : Sem R l.length c0 x) (T N : Nat) (c : Mom) (h : At n s R l c0 T N c) (hN : N < 147457) :
    Ev (fun k => standstilllaw05_BlockParts.j2 k c.1 c.2.1 l (kk : Int) c.2.2 (T : Int) (N : Int) true n s R x.1 x.2.1 x.2.2.1 x.2.2.2.1 x.2.2.2.2) true ∨
    ∃ T' c', T < T' ∧ At n s R l c0 T' (N + 1) c' ∧ (Ev (fun k => standstilllaw05_BlockParts.l0 k c'.1 c'.2.1 l (kk : Int) c'.2.2 (T' : Int) ((N + 1 : Nat) : Int) n s R x.1 x.2.1 x.2.2.1 x.2.2.2.1 x.2.2.2.2) true →
      Ev (fun k => standstilllaw05_BlockParts.j2 k c.1 c.2.1 l (kk : Int) c.2.2 (T : Int) (N : Int) true n s R x.1 x.2.1 x.2.2.1 x.2.2.2.1 x.2.2.2.2) true) := by
  have yes : Ev (fun k => (standstilllaw05_awake.f k).bind fun t => some t) true := Ev.bind' awake_ev (Ev.now _)
  obtain ⟨hit, hg, hin, hT, hNN⟩ := h
  have hi := hin T (Nat.le_refl _)
  rw [hit] at hi
  obtain ⟨g1, g2, g3, g4, g5, g6⟩ := hg
  obtain ⟨i1, i2, i3⟩ := hi
  -- the part
  obtain ⟨a, b, hab, hb, ha1, ha2, hsel⟩ : ∃ a b : Nat, a < b ∧ b ≤ l.length ∧ (a : Int) ≤ c.2.1 ∧ c.2.1 < b ∧ ∀ r, Ev (fun k => standstilllaw05_BlockParts.j3 k c.1 c.2.1 l (kk : Int) c.2.2 (T : Int) (N : Int) (a : Int) (b : Int) n s R x.1 x.2.1 x.2.2.1 x.2.2.2.1 x.2.2.2.2) r → Ev (fun k => standstilllaw05_BlockParts.j2 k c.1 c.2.1 l (kk : Int) c.2.2 (T : Int) (N : Int) true n s R x.1 x.2.1 x.2.2.1 x.2.2.2.1 x.2.2.2.2) r := by
    by_cases hk : c.2.1 ≥ (kk : Int)
    · refine ⟨kk, l.length, k2, Nat.le_refl _, hk, i3, fun r h => Ev.succ ?_⟩
      simp only [standstilllaw05_BlockParts.j2, ↓reduceIte]
      exact Ev.ifp hk h
    · refine ⟨0, kk, by omega, by omega, by omega, by omega, fun r h => Ev.succ ?_⟩
      simp only [standstilllaw05_BlockParts.j2, ↓reduceIte]
      exact Ev.ifn hk h
  have hcl : c.2.2.length = l.length := by omega
  obtain ⟨pre, hpre⟩ : ∃ pre, pre = c.2.2.take a := ⟨_, rfl⟩
  obtain ⟨suf, hsuf⟩ : ∃ suf, suf = c.2.2.drop b := ⟨_, rfl⟩
  obtain ⟨ys, hys⟩ : ∃ ys, ys = (c.2.2.take b).drop a := ⟨_, rfl⟩
  have hpl : pre.length = a := by rw [hpre]; simp; omega
  have hyl : ys.length = b - a := by rw [hys]; simp; omega
  have hsl : suf.length = l.length - b := by rw [hsuf]; simp; omega
  have hc : c.2.2 = pre ++ ys ++ suf := by rw [hpre, hys, hsuf]; exact cut3 c.2.2 (by omega) (by omega)
  have hargs : Args n s c.1 (c.2.1 - (a : Int)) ys := ⟨by omega, g2, by omega, by omega, by omega, by omega, fun y hy => g6 y (by rw [hc]; simp [hy])⟩
  obtain ⟨y, hy, hsem⟩ := Cross_ok vm hargs
  have hcross : Ev (fun k => block_Cross.f k n s R c.1 (wrap64 (c.2.1 - (pre.length : Int))) (((pre ++ ys ++ suf).take (b : Int).toNat).drop (pre.length : Int).toNat)) (y.1, y.2.1, y.2.2.1, y.2.2.2.1, y.2.2.2.2, 0) := by
    rw [hpl, wrap_id (by omega) (by omega), Int.toNat_natCast, Int.toNat_natCast, ← hc, ← hys]
    exact hy
  rw [hc] at hsel ⊢
  have hsel' := hsel
  rw [← hpl] at hsel'
  have hb' : (b : Int) = (pre.length : Int) + (ys.length : Int) := by omega
  have hemb : c = emb pre suf (c.1, c.2.1 - (a : Int), ys) := by
    simp only [emb, hpl]
    rw [← hc]
    have : (a : Int) + (c.2.1 - (a : Int)) = c.2.1 := by omega
    rw [this]
  have hgl := hargs.good
  have hV : (pre.length : Int) + (ys.length : Int) ≤ (l.length : Int) := by omega
  have hy6 : ys.length ≤ 6 := hargs.2.2.2.1
  have hp6 : pre.length ≤ 6 ∧ ys.length ≤ 6 ∧ suf.length ≤ 6 := by omega
  clear hpre hsuf hys hsel hy
  generalize hcl' : ((c.1, c.2.1 - (a : Int), ys) : Mom) = cl at hsem hgl hemb
  have hcin : In ys.length cl := by rw [← hcl']; exact hargs.in_
  -- the moments of the whole are those of the part
  have glob : ∀ m, (∀ i, i < m → In ys.length (it R cl i)) → it R c0 (T + m) = emb pre suf (it R cl m) := by
    intro m hm
    rw [it_add, hit]
    conv => lhs; rw [hemb]
    exact emb_it vm hgl pre suf m hm
  have hin3 : ∀ m, (∀ i, i < m → In ys.length (it R cl i)) → ∀ i, i < T + m → In l.length (it R c0 i) := by
    intro m hm i hi
    by_cases h : i ≤ T
    · exact hin i h
    · have e := glob (i - T) (fun j hj => hm j (by omega))
      rw [show T + (i - T) = i by omega] at e
      rw [e]
      exact emb_in (hm (i - T) (by omega)) hV
  rcases hsem with ⟨m, m1, m2, rfl⟩ | ⟨m1, rfl⟩
  · -- the head leaves the part
    have hm147 : m ≤ 147456 := fresh_le vm hy6 hgl m1 (left_fresh m1 m2)
    have hm0 : 0 < m := by
      rcases Nat.eq_zero_or_pos m with h0 | h0
      · subst h0; exact absurd hcin m2
      · exact h0
    have gd := it_good vm hgl m m1
    have hgm := glob m m1
    have hin2 := hin3 m m1
    clear hin3 glob m1 hemb hcl' hcin
    generalize it R cl m = d at m2 hcross gd hgm
    obtain ⟨d1, d2, d3, d4, d5, d6⟩ := gd
    have hdl : d.2.2.length = ys.length := by omega
    -- the new moment
    have hgoodm := it_good vm g0 (T + m) hin2
    have hT' : T + m ≤ 147456 * (N + 1) := by rw [Nat.mul_add, Nat.mul_one]; exact Nat.add_le_add hT hm147
    have hst : wrap64 ((T : Int) + (m : Int)) = ((T + m : Nat) : Int) := by
      have hTn : T ≤ 21743800000 := Nat.le_trans hT (Nat.le_trans (Nat.mul_le_mul_left 147456 hNN) (by decide +kernel))
      clear hT hT'
      rw [wrap_id (by omega) (by omega)]
      omega
    clear hT
    obtain ⟨kc, kc2⟩ := kind_cases (ys.length : Int) d
    have hcut := fun h => hsel' true (part_ev n s R l (kk : Int) x c.1 c.2.1 pre ys suf (T : Int) (N : Int) (b : Int) (kind (ys.length : Int) d) d (m : Int) hb' hp6 kc kc2 hdl (Int.ofNat_le.2 hm0) ⟨d3, Int.le_trans d4 (by omega)⟩ hcross h)
    rw [hst] at hcut
    clear hsel' hcross hst
    by_cases hout : d.1 = -1 ∨ (pre.length : Int) + d.2.1 < 0 ∨ (pre.length : Int) + d.2.1 ≥ (l.length : Int)
    · -- it leaves the whole
      left
      rw [decide_eq_true hout] at hcut
      refine hcut (Ev.succ ?_)
      simp only [standstilllaw05_BlockParts.j6, ↓reduceIte]
      have hnot : ¬ In l.length (it R c0 (T + m)) := by
        rw [hgm]
        intro h
        rcases hout with h' | h' | h'
        · exact h.1 h'
        · exact Int.not_le.2 h' h.2.1
        · exact Int.not_lt.2 h' h.2.2
      have hxe := hx.one (Or.inl ⟨T + m, hin2, hnot, rfl⟩)
      have hkind : kind (l.length : Int) (it R c0 (T + m)) = kind (ys.length : Int) d := by
        rw [hgm]
        refine kind_emb d3 (fun h => ?_)
        rcases hout with h' | h' | h'
        · exact Or.inr h'
        · exact Or.inl h'
        · exfalso; omega
      rw [hkind, hgm] at hxe
      subst hxe
      simp only [emb]
      refine Ev.ifp (by trivial) (Ev.ifp (by trivial) (Ev.ifp (by trivial) (Ev.ifp (by trivial) (Ev.bind' (same_ints _ (by simp; omega)) ?_))))
      simp only [↓reduceIte]
      exact yes
    · -- it goes on in the other part
      right
      rw [decide_eq_false hout] at hcut
      have hIn : In l.length (it R c0 (T + m)) := by
        rw [hgm]
        exact ⟨fun e => hout (Or.inl e), Int.not_lt.1 (fun e => hout (Or.inr (Or.inl e))), Int.not_le.1 (fun e => hout (Or.inr (Or.inr e)))⟩
      have hall : ∀ i, i ≤ T + m → In l.length (it R c0 i) := fun i hi => by
        rcases Nat.eq_or_lt_of_le hi with e | e
        · subst e; exact hIn
        · exact hin2 i e
      refine ⟨T + m, emb pre suf d, Nat.lt_add_of_pos_right hm0, ⟨hgm, by rw [← hgm]; exact hgoodm, hall, hT', Nat.succ_le_of_lt hN⟩, fun h => hcut (Ev.succ ?_)⟩
      simp only [standstilllaw05_BlockParts.j6, Bool.false_eq_true, ↓reduceIte]
      have hgo : Ev (fun k => standstilllaw05_BlockParts.l0 k d.1 ((pre.length : Int) + d.2.1) l (kk : Int) (pre ++ d.2.2 ++ suf) ((T + m : Nat) : Int) (wrap64 ((N : Int) + 1)) n s R x.1 x.2.1 x.2.2.1 x.2.2.2.1 x.2.2.2.2) true := by
        have e : wrap64 ((N : Int) + 1) = ((N + 1 : Nat) : Int) := by
          clear hT' hall hin2 hcut
          rw [wrap_id (by omega) (by omega)]
          omega
        rw [e]
        exact h
      refine Ev.ite (fun _ => hgo) (fun hk => Ev.ifn ?_ hgo)
      rcases hx with ⟨M, M1, M2, rfl⟩ | ⟨M1, rfl⟩
      · have hlt : T + m < M := by
          rcases Nat.lt_or_ge (T + m) M with h | h
          · exact h
          · exact absurd (hall M h) M2
        simp only
        exact Int.not_lt.2 (Int.ofNat_le.2 (Nat.le_of_lt hlt))
      · exact absurd rfl hk
  · -- the head never leaves the part
    left
    have hall : ∀ i, In l.length (it R c0 i) := fun i => hin3 (i + 1) (fun j _ => m1 j) i (by omega)
    have hxe := hx.one (Or.inr ⟨hall, rfl⟩)
    exact hsel' true (never_ev n s R l (kk : Int) x c.1 c.2.1 pre ys suf (T : Int) (N : Int) (b : Int) hb' (by rw [hxe]) hcross)

theorem parts_never (n s : Int) (R : List (List S57)) (l : List Int) (c0 : Mom) (kk : Nat) (x : Res) (vm : VM n s R) (h2 : 2 ≤ l.length) (h6 : l.length ≤ 6) (k1 : 1 ≤ kk) (k2 : kk < l.length) (g0 : Good n s l.length c0) (hx : Sem R l.length c0 x) (h3 : x.1 = 3) : ∀ (d T N : Nat) (c : Mom), N + d = 3001 → At n s R l c0 T N c →
    Ev (fun k => standstilllaw05_BlockParts.l0 k c.1 c.2.1 l (kk : Int) c.2.2 (T : Int) (N : Int) n s R x.1 x.2.1 x.2.2.1 x.2.2.2.1 x.2.2.2.2) true := by
  have yes : Ev (fun k => (standstilllaw05_awake.f k).bind fun t => some t) true := Ev.bind' awake_ev (Ev.now _)
  intro d
  induction d with
  | zero =>
    intro T N c hd h
    refine Ev.succ ?_
    simp only [standstilllaw05_BlockParts.l0]
    refine Ev.ifn (by omega) ?_
    have : (x.1 != 3) = false := by simp [h3]
    rw [this]
    refine Ev.succ ?_
    simp only [standstilllaw05_BlockParts.j2, Bool.false_eq_true, ↓reduceIte]
    exact yes
  | succ d ih =>
    intro T N c hd h
    refine Ev.succ ?_
    simp only [standstilllaw05_BlockParts.l0]
    refine Ev.ifp (by omega) ?_
    rcases round n s R l c0 kk x vm h2 h6 k1 k2 g0 hx T N c h (by omega) with h | ⟨T', c', hT, h', hgo⟩
    · exact h
    · exact hgo (ih T' (N + 1) c' (by omega) h')
theorem parts_exit (n s : Int) (R : List (List S57)) (l : List Int) (c0 : Mom) (kk : Nat) (x : Res) (vm : VM n s R) (h2 : 2 ≤ l.length) (h6 : l.length ≤ 6) (k1 : 1 ≤ kk) (k2 : kk < l.length) (g0 : Good n s l.length c0) (hx : Sem R l.length c0 x) (M : Nat) (hM : M ≤ 147456) (hM1 : ¬ In l.length (it R c0 M)) (h3 : x.1 ≠ 3) : ∀ (d T N : Nat) (c : Mom), T + d = M → N ≤ T → At n s R l c0 T N c →
    Ev (fun k => standstilllaw05_BlockParts.l0 k c.1 c.2.1 l (kk : Int) c.2.2 (T : Int) (N : Int) n s R x.1 x.2.1 x.2.2.1 x.2.2.2.1 x.2.2.2.2) true := by
  intro d
  induction d using Nat.strongRecOn with
  | _ d ih =>
    intro T N c hd hNT h
    have hTM : T < M := by
      rcases Nat.lt_or_ge T M with h' | h'
      · exact h'
      · exact absurd (h.in_ M h') hM1
    have go : Ev (fun k => standstilllaw05_BlockParts.j2 k c.1 c.2.1 l (kk : Int) c.2.2 (T : Int) (N : Int) true n s R x.1 x.2.1 x.2.2.1 x.2.2.2.1 x.2.2.2.2) true := by
      rcases round n s R l c0 kk x vm h2 h6 k1 k2 g0 hx T N c h (by omega) with h | ⟨T', c', hT, h', hgo⟩
      · exact h
      · have hTM' : T' < M := by
          rcases Nat.lt_or_ge T' M with h'' | h''
          · exact h''
          · exact absurd (h'.in_ M h'') hM1
        exact hgo (ih (M - T') (by omega) T' (N + 1) c' (by omega) (by omega) h')
    refine Ev.succ ?_
    simp only [standstilllaw05_BlockParts.l0]
    have : (x.1 != 3) = true := by simp [h3]
    rw [this]
    exact Ev.ite (fun _ => go) (fun _ => go)

theorem BlockParts : BlockPartsStmt := by
  intro n s R st p l at_ hn hs hR hst hp hl hat
  have hRl : R.length ≤ 17592186044416 := by have h := hR.1; simp only [reachBytes] at h; omega
  have hll : l.length < 17592186044416 := by have h := hl.1; simp only [reachBytes] at h; omega
  have hab : 0 ≤ at_ ∧ at_ ≤ 255 := by
    simp [Lit.wf, IntKind.min, IntKind.max, IntKind.signed, IntKind.bits] at hat
    omega
  refine Ev.rounds (g := fun k => standstilllaw05_BlockParts.f k n s R st p l at_) ?_
  have yes : Ev (fun k => (standstilllaw05_awake.f k).bind fun t => some t) true := Ev.bind' awake_ev (Ev.now _)
  have skip : Ev (fun k => standstilllaw05_BlockParts.j0 k st p l at_ true n s R) true := by
    refine Ev.succ ?_
    simp only [standstilllaw05_BlockParts.j0, ↓reduceIte]
    exact yes
  have main : VM n s R → Args n s st p l → 2 ≤ l.length → Ev (fun k => standstilllaw05_BlockParts.j0 k st p l at_ false n s R) true := by
    intro vm ha h2
    obtain ⟨x, hx, hsem⟩ := Cross_ok vm ha
    have h6 := ha.2.2.2.1
    have e1 : wrap64 ((l.length : Int) - 1) = (l.length : Int) - 1 := wrap_id (by omega) (by omega)
    obtain ⟨kk, hkk⟩ : ∃ kk : Nat, kk = 1 + (at_.toNat) % (l.length - 1) := ⟨_, rfl⟩
    have hmod := Nat.mod_lt at_.toNat (show 0 < l.length - 1 by omega)
    have ek : wrap64 (1 + Int.tmod (wrap64 at_) ((l.length : Int) - 1)) = (kk : Int) := by
      have e2 : Int.tmod at_ ((l.length : Int) - 1) = ((at_.toNat % (l.length - 1) : Nat) : Int) := by
        rw [Int.tmod_eq_emod_of_nonneg hab.1]
        have h3 : at_ = (at_.toNat : Int) := by omega
        have h4 : (l.length : Int) - 1 = ((l.length - 1 : Nat) : Int) := by omega
        conv => lhs; rw [h3, h4]
        exact (Int.natCast_emod _ _).symm
      rw [wrap_id (x := at_) (by omega) (by omega), e2, wrap_id (by omega) (by omega), hkk]
      omega
    have hat0 : At n s R l (st, p, l) 0 0 (st, p, l) := ⟨rfl, ha.good, fun i hi => by
      obtain rfl : i = 0 := by omega
      exact ha.in_, by omega, by omega⟩
    have loop : Ev (fun k => standstilllaw05_BlockParts.l0 k st p l (kk : Int) l 0 0 n s R x.1 x.2.1 x.2.2.1 x.2.2.2.1 x.2.2.2.2) true := by
      rcases hsem with ⟨M, M1, M2, e⟩ | ⟨M1, e⟩
      · have hM := fresh_le vm h6 ha.good M1 (left_fresh M1 M2)
        have h3 : x.1 ≠ 3 := by
          rw [e]
          simp only
          unfold kind
          split <;> (try split) <;> omega
        exact parts_exit n s R l (st, p, l) kk x vm h2 h6 (by omega) (by omega) ha.good (Or.inl ⟨M, M1, M2, e⟩) M hM M2 h3 M 0 0 (st, p, l) (by omega) (by omega) hat0
      · exact parts_never n s R l (st, p, l) kk x vm h2 h6 (by omega) (by omega) ha.good (Or.inr ⟨M1, e⟩) (by rw [e]) 3001 0 0 (st, p, l) (by omega) hat0
    refine Ev.succ ?_
    simp only [standstilllaw05_BlockParts.j0, Bool.false_eq_true, ↓reduceIte, e1]
    refine Ev.ifn (by omega) (Ev.bind' hx ?_)
    simp only [↓reduceIte, Option.bind_some, List.nil_append, ek]
    refine Ev.ifp (by simp only [List.length_nil]; omega) ?_
    exact loop
  obtain ⟨b, hb⟩ := wide_ev n s R hRl
  unfold standstilllaw05_BlockParts.f
  refine Ev.bind' hb (Ev.ite (fun _ => skip) (fun _ => ?_))
  by_cases vm : VM n s R
  · refine Ev.bind' ((ref_valid n s R).pos vm) ?_
    simp only [↓reduceIte]
    refine Ev.ite (fun _ => skip) (fun _ => Ev.ite (fun _ => skip) (fun _ => ?_))
    by_cases hw : Digits s l ∧ 1 ≤ l.length ∧ l.length ≤ 6
    · refine Ev.bind' ((word_ev n s R l (by omega)).pos hw) ?_
      simp only [↓reduceIte]
      refine Ev.ite (fun _ => skip) (fun _ => Ev.ite (fun _ => skip) (fun _ => ?_))
      by_cases hp2 : p ≥ (l.length : Int)
      · rw [decide_eq_true hp2]; exact skip
      · rw [decide_eq_false hp2]
        exact main vm ⟨by omega, by omega, hw.2.1, hw.2.2, by omega, by omega, hw.1⟩ (by omega)
    · refine Ev.bind' ((word_ev n s R l (by omega)).neg hw) ?_
      simp only [Bool.false_eq_true, ↓reduceIte]
      exact skip
  · refine Ev.bind' ((ref_valid n s R).neg vm) ?_
    simp only [Bool.false_eq_true, ↓reduceIte]
    exact skip
end Go.Proofs.Ytfjfnpegpcdnaaa.Pure
