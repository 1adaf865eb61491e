/- What an argument that can be read as data looks like in memory: whole numbers, bools, slices, structs, one inside the other; for any program. -/
import Derived.Test.YtcdmgeceahmngaaWMore
import Derived.SizedLaws
import Derived.ChangeSlices
import Derived.WideShapes
namespace Go.Proofs.Ytcdmgeceahmngaa.Open
open Go.RowKit Go.ChangeShapes Go.WideShapes Go.Proofs.YtcdmgeceahmngaaW.PrintWords
set_option linter.unusedVariables false
set_option linter.unusedSimpArgs false
section
variable {H : Type} {enc : TypeId × Value → H} {P : Program} {w : World} {base : Nat} {spare : Nat → Bool} {held : Bool}

/-- What reads as data at type T is of kind K; 'ok' says more of it. -/
def Opens (enc : TypeId × Value → H) (P : Program) (w : World) (base : Nat) (spare : Nat → Bool) (held : Bool) {α : Type} (K : Kd α) (T : TypeId) (ok : α → Prop) : Prop :=
  ∀ (fuel : Nat) (cs : List Value) (y : DataW H × List MemPlace), DataW.trod enc P w base spare held fuel T cs = some y → (∀ m ∈ DataW.weights P T y.1, m ≤ reachBytes) → ∃ x, K.K w x cs ∧ ok x

theorem opens_int {T : TypeId} {k : IntKind} (ht : P.underlying T = some (.int k)) : Opens enc P w base spare held (Kd.int k) T (fun x => (Lit.int k x).wf = true) := by
  intro fuel cs y h _
  obtain ⟨n, rfl, _, hw⟩ := DataW.trod_int ht h
  exact ⟨n, rfl, hw⟩

theorem opens_bool {T : TypeId} (ht : P.underlying T = some .bool) : Opens enc P w base spare held Kd.bool T (fun _ => True) := by
  intro fuel cs y h _
  cases fuel with
  | zero => simp [DataW.trod] at h
  | succ n =>
    unfold DataW.trod at h
    rw [ht] at h
    split at h <;> simp_all
    rename_i b
    cases b
    · exact Or.inl rfl
    · exact Or.inr rfl

theorem cells_at : ∀ {n : Nat} {base : Nat} {a : Addr} {cs : List Value}, w.cells? base a n = some cs → cs.length = n ∧ ∀ i u, cs[i]? = some u → w.cell? (a.add i) = some u := by
  intro n base a cs h
  unfold World.cells? at h
  split at h
  · have key : ∀ (l : List Nat) (cs : List Value), l.mapM (fun i => w.cell? (a.add i)) = some cs → cs.length = l.length ∧ ∀ (j : Nat) (u : Value) (i : Nat), l[j]? = some i → cs[j]? = some u → w.cell? (a.add i) = some u := by
      intro l
      induction l with
      | nil => intro cs h; simp at h; subst h; exact ⟨rfl, fun j u i h => by simp at h⟩
      | cons b t ih =>
        intro cs h
        rw [List.mapM_cons] at h
        obtain ⟨v, hv, h⟩ := Option.bind_eq_some_iff.1 h
        obtain ⟨vs, hvs, h⟩ := Option.bind_eq_some_iff.1 h
        obtain rfl := Option.some.inj h
        obtain ⟨h1, h2⟩ := ih vs hvs
        refine ⟨by simp [h1], fun j u i hj hu => ?_⟩
        cases j with
        | zero => simp at hj hu; subst hj; subst hu; exact hv
        | succ j => simp at hj hu; exact h2 j u i hj hu
    obtain ⟨h1, h2⟩ := key _ _ h
    rw [List.length_range] at h1
    refine ⟨h1, fun i u hi => h2 i u i ?_ hi⟩
    have := (List.getElem?_eq_some_iff.1 hi).1
    rw [List.getElem?_range (by omega)]
  · cases h

theorem weightsAll_mem {e : TypeId} {d : DataW H} : ∀ {l : List (DataW H)}, d ∈ l → ∀ m ∈ DataW.weights P e d, m ∈ DataW.weightsAll P e l := by
  intro l hd m hm
  induction l with
  | nil => cases hd
  | cons a t ih =>
    rw [DataW.weightsAll]
    rcases List.mem_cons.1 hd with rfl | hd
    · exact List.mem_append_left _ hm
    · exact List.mem_append_right _ (ih hd)

theorem opens_slice {α : Type} {K : Kd α} {T E B : TypeId} {ok : α → Prop} (ht : P.underlying T = some (.slice E)) (hc : P.cellsOf E = K.sz) (hB : P.bytesOf E = B) (hE : Opens enc P w base spare held K E ok) :
    Opens enc P w base spare held (Kd.slice E K) T (fun xs => xs.length * B ≤ reachBytes ∧ ∀ x ∈ xs, ok x) := by
  intro fuel cs y h hw
  rcases DataW.trod_slice ht h with ⟨rfl, rfl⟩ | ⟨a, len, cap, elems, rest, n, rfl, rfl, rfl, hb, hl, hm, hlen, hel, _, _⟩
  · exact ⟨[], ⟨none, 0, rfl, Nat.le_refl _, Kd.C_nil K w⟩, by simp, fun x hx => by cases hx⟩
  · have hw1 : (elems.length + rest.length) * B ≤ reachBytes := by
      have := hw ((elems.length + rest.length) * B) (by simp only [DataW.weights, ht, List.length_map, hB]; exact List.mem_cons_self)
      exact this
    have each : ∀ i, i < len → ∃ x, ok x ∧ ∃ c, c.length = K.sz ∧ K.K w x c ∧ ∀ j u, c[j]? = some u → w.cell? (a.add (i * K.sz + j)) = some u := by
      intro i hi
      have h1 := hel i hi
      have h2 : i < elems.length := by omega
      rw [List.getElem?_eq_getElem h2] at h1
      obtain ⟨c, hcs, htr⟩ := Option.bind_eq_some_iff.1 h1
      obtain ⟨x, hK, hok⟩ := hE n c _ htr (fun m hm => hw m (by
        simp only [DataW.weights, ht]
        refine List.mem_cons_of_mem _ (List.mem_append_left _ (weightsAll_mem (List.mem_map_of_mem (List.getElem_mem h2)) m hm))))
      obtain ⟨h3, h4⟩ := cells_at hcs
      rw [hc] at h3 h4
      refine ⟨x, hok, c, h3, hK, fun j u hj => ?_⟩
      have := h4 j u hj
      rw [add_add] at this
      exact this
    have pick : ∀ m, m ≤ len → ∃ xs : List α, xs.length = m ∧ (∀ x ∈ xs, ok x) ∧ ∀ (j : Nat) (p : α), xs[j]? = some p → ∃ c, c.length = K.sz ∧ K.K w p c ∧ ∀ i u, c[i]? = some u → w.cell? (a.add (j * K.sz + i)) = some u := by
      intro m
      induction m with
      | zero => exact fun _ => ⟨[], rfl, (fun x hx => by cases hx), (fun j p hj => by simp at hj)⟩
      | succ m ih =>
        intro hm
        obtain ⟨xs, h1, h2, h3⟩ := ih (by omega)
        obtain ⟨x, hx, hc⟩ := each m (by omega)
        refine ⟨xs ++ [x], by simp [h1], fun z hz => ?_, fun j p hj => ?_⟩
        · rcases List.mem_append.1 hz with hz | hz
          · exact h2 z hz
          · rw [List.mem_singleton.1 hz]; exact hx
        · rcases Nat.lt_or_ge j m with hjm | hjm
          · rw [List.getElem?_append_left (by omega)] at hj
            exact h3 j p hj
          · have hj' : j = m := by
              have := (List.getElem?_eq_some_iff.1 hj).1
              rw [List.length_append, List.length_singleton] at this
              omega
            subst hj'
            rw [← h1] at hj
            simp at hj
            subst hj
            exact hc
    obtain ⟨xs, h1, h2, h3⟩ := pick len (Nat.le_refl _)
    have hmx : (maxLen : Nat) = 9223372036854775807 := rfl
    refine ⟨xs, ⟨some a, cap, by rw [h1], by omega, rfl, by omega, fun _ => ⟨a, rfl, h3⟩⟩, ?_, h2⟩
    refine Nat.le_trans (Nat.mul_le_mul_right _ ?_) hw1
    omega

/-- Fields from offset o on. -/
def OpensL (enc : TypeId × Value → H) (P : Program) (w : World) (base : Nat) (spare : Nat → Bool) (held : Bool) {α : Type} (K : Kd α) (fs : List Field) (o : Nat) (ok : α → Prop) : Prop :=
  ∀ (n : Nat) (cs : List Value) (ys : List (DataW H × List MemPlace)), cs.length = o + K.sz →
    (∀ (i : Nat) (f : Field), fs[i]? = some f → ∃ y, ys[i]? = some y ∧ DataW.trod enc P w base spare held n f.type ((cs.drop f.offset).take (P.cellsOf f.type)) = some y ∧ ∀ m ∈ DataW.weights P f.type y.1, m ≤ reachBytes) → ∃ x, K.K w x (cs.drop o) ∧ ok x

theorem opensL_one {α : Type} {K : Kd α} {f : Field} {o : Nat} {ok : α → Prop} (ho : f.offset = o) (hc : P.cellsOf f.type = K.sz) (hE : Opens enc P w base spare held K f.type ok) : OpensL enc P w base spare held K [f] o ok := by
  intro n cs ys hl h
  obtain ⟨y, _, h1, h2⟩ := h 0 f rfl
  obtain ⟨x, hK, hok⟩ := hE n _ y h1 h2
  rw [ho, hc, List.take_of_length_le (by rw [List.length_drop]; omega)] at hK
  exact ⟨x, hK, hok⟩

theorem opensL_cons {α β : Type} {K : Kd α} {K' : Kd β} {f : Field} {fs : List Field} {o o' : Nat} {ok : α → Prop} {ok' : β → Prop} (ho : f.offset = o) (hc : P.cellsOf f.type = K.sz) (hE : Opens enc P w base spare held K f.type ok) (ho' : o' = o + K.sz)
    (hR : OpensL enc P w base spare held K' fs o' ok') : OpensL enc P w base spare held (Kd.pair K K') (f :: fs) o (fun x => ok x.1 ∧ ok' x.2) := by
  intro n cs ys hl h
  have hsz : (Kd.pair K K').sz = K.sz + K'.sz := rfl
  rw [hsz] at hl
  obtain ⟨y, hy, h1, h2⟩ := h 0 f rfl
  obtain ⟨x, hK, hok⟩ := hE n _ y h1 h2
  obtain ⟨x', hK', hok'⟩ := hR n cs (ys.drop 1) (by omega) (fun i g hg => by
    obtain ⟨y', hy', h3, h4⟩ := h (i + 1) g (by simpa using hg)
    exact ⟨y', by rw [List.getElem?_drop, Nat.add_comm]; exact hy', h3, h4⟩)
  rw [ho, hc] at hK
  subst ho'
  refine ⟨(x, x'), ⟨(cs.drop o).take K.sz, cs.drop (o + K.sz), ?_, hK, hK'⟩, hok, hok'⟩
  rw [← List.drop_drop, List.take_append_drop]

theorem opens_struct {α β : Type} {K : Kd α} {T : TypeId} {fs : List Field} {ok : α → Prop} (proj : β → α) (inv : α → β) (hinv : ∀ p, proj (inv p) = p) (ht : P.underlying T = some (.struct fs.toArray)) (hc : P.cellsOf T = K.sz) (hF : OpensL enc P w base spare held K fs 0 ok) :
    Opens enc P w base spare held (Kd.iso K proj) T (fun x => ok (proj x)) := by
  intro fuel cs y h hw
  obtain ⟨xs, n, rfl, rfl, hl, hlen, hf⟩ := DataW.trod_struct ht h
  have hlen' : xs.length = fs.length := by simpa using hlen
  obtain ⟨p, hK, hok⟩ := hF n cs xs (by rw [hl, hc, Nat.zero_add]) (fun i f hi => by
    have hi' : fs.toArray[i]? = some f := by simpa using hi
    have h1 := hf i f hi'
    have hlt : i < xs.length := by rw [hlen']; exact (List.getElem?_eq_some_iff.1 hi).1
    rw [List.getElem?_eq_getElem hlt] at h1
    refine ⟨xs[i], List.getElem?_eq_getElem hlt, h1, fun m hm => hw m ?_⟩
    simp only [DataW.weights, ht]
    exact DataW.weights_mem_each (j := i) (t := f.type) (d := xs[i].1) (by simp [hi]) (by simp [List.getElem?_eq_getElem hlt]) m hm)
  refine ⟨inv p, ?_, ?_⟩
  · show K.K w (proj (inv p)) cs
    rw [hinv]
    simpa using hK
  · show ok (proj (inv p))
    rw [hinv]
    exact hok

/-- An argument. -/
theorem opens_arg {α : Type} {K : Kd α} {T : TypeId} {ok : α → Prop} {v : Value} {d : DataW H} {ps : List MemPlace} {ts : List TypeId} {ds : List (DataW H)} {j : Nat} (hO : Opens enc P w base spare held K T ok) (h : DataW.Trod enc P w base spare held T v d ps)
    (hsz : (DataW.weightsEach P ts ds).all (· ≤ reachBytes) = true) (ht : ts[j]? = some T) (hd : ds[j]? = some d) : ∃ x, K.K w x v.cells.toList ∧ ok x := by
  obtain ⟨fuel, hf⟩ := h
  refine hO fuel _ _ hf (fun m hm => ?_)
  have := List.all_eq_true.1 hsz _ (DataW.weights_mem_each ht hd m hm)
  simpa using this
end
end Go.Proofs.Ytcdmgeceahmngaa.Open
