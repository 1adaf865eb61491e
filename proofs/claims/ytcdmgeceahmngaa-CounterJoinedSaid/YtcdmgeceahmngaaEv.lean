/- What a function answers from some number of rounds on: small words for pure proofs. -/
import Derived.Test.YtcdmgeceahmngaaWMore
namespace Go.Proofs.Ytcdmgeceahmngaa.Pure
open Go.RowKit Go.Proofs.YtcdmgeceahmngaaW.PrintWords Go.Proofs.YtcdmgeceahmngaaW.PrintLast Go.Proofs.YtcdmgeceahmngaaW.PrintMore
set_option linter.unusedVariables false

theorem wrap_id {x : Int} (h0 : -9223372036854775808 ≤ x) (h1 : x ≤ 9223372036854775807) : wrap64 x = x := by
  unfold wrap64
  omega
theorem Ev.bind' {α β : Type} {g : Nat → Option α} {f : Nat → α → Option β} {a : α} {r : β} (h : Ev g a) (k : Ev (fun n => f n a) r) : Ev (fun n => (g n).bind (f n)) r := Ev.bind h k
theorem Ev.eq {α : Type} {g f : Nat → Option α} {r : α} (k : Ev f r) (h : ∀ k, g k = f k) : Ev g r := Ev.congr h k
theorem Ev.succ {α : Type} {g : Nat → Option α} {r : α} (h : Ev (fun k => g (k + 1)) r) : Ev g r := Ev.step (f := fun k => g (k + 1)) (fun _ => rfl) h
theorem Ev.ite {α : Type} {c : Prop} [Decidable c] {a b : Nat → Option α} {r : α} (h1 : c → Ev a r) (h2 : ¬ c → Ev b r) : Ev (fun k => if c then a k else b k) r := by
  by_cases h : c
  · simpa [h] using h1 h
  · simpa [h] using h2 h
theorem Ev.ifp {α : Type} {c : Prop} [Decidable c] {a b : Nat → Option α} {r : α} (h : c) (k : Ev a r) : Ev (fun k => if c then a k else b k) r := Ev.ite (fun _ => k) (fun n => absurd h n)
theorem Ev.ifn {α : Type} {c : Prop} [Decidable c] {a b : Nat → Option α} {r : α} (h : ¬ c) (k : Ev b r) : Ev (fun k => if c then a k else b k) r := Ev.ite (fun n => absurd n h) (fun _ => k)
theorem Ev.the {α : Type} {f : Nat → Option α} {a b : α} (h : Ev f a) (k : Ev f b) : a = b := by
  obtain ⟨K, h⟩ := h
  obtain ⟨K', k⟩ := k
  have h1 := h (K + K') (by omega)
  rw [k (K + K') (by omega)] at h1
  exact (Option.some.inj h1).symm
theorem Ev.is {α : Type} {f : Nat → Option α} {a b : α} (h : Ev f a) (e : a = b) : Ev f b := e ▸ h

/-- f answers whether Q. -/
def EvP (f : Nat → Option Bool) (Q : Prop) : Prop := ∃ b, Ev f b ∧ (b = true ↔ Q)
theorem EvP.now {Q : Prop} {b : Bool} (h : b = true ↔ Q) : EvP (fun _ => some b) Q := ⟨b, Ev.now b, h⟩
theorem EvP.true {Q : Prop} (h : Q) : EvP (fun _ => some Bool.true) Q := ⟨_, Ev.now _, by simpa using h⟩
theorem EvP.false {Q : Prop} (h : ¬ Q) : EvP (fun _ => some Bool.false) Q := ⟨_, Ev.now _, by simpa using h⟩
theorem EvP.succ {g : Nat → Option Bool} {Q : Prop} (h : EvP (fun k => g (k + 1)) Q) : EvP g Q := by obtain ⟨b, e, h⟩ := h; exact ⟨b, Ev.succ e, h⟩
theorem EvP.ite {c : Prop} [Decidable c] {a b : Nat → Option Bool} {Q : Prop} (h1 : c → EvP a Q) (h2 : ¬ c → EvP b Q) : EvP (fun k => if c then a k else b k) Q := by
  by_cases h : c
  · simpa [h] using h1 h
  · simpa [h] using h2 h
theorem EvP.ifp {c : Prop} [Decidable c] {a b : Nat → Option Bool} {Q : Prop} (h : c) (k : EvP a Q) : EvP (fun k => if c then a k else b k) Q := EvP.ite (fun _ => k) (fun n => absurd h n)
theorem EvP.ifn {c : Prop} [Decidable c] {a b : Nat → Option Bool} {Q : Prop} (h : ¬ c) (k : EvP b Q) : EvP (fun k => if c then a k else b k) Q := EvP.ite (fun n => absurd n h) (fun _ => k)
theorem EvP.iff {f : Nat → Option Bool} {Q R : Prop} (h : Q ↔ R) (k : EvP f Q) : EvP f R := by obtain ⟨b, e, hb⟩ := k; exact ⟨b, e, hb.trans h⟩
theorem EvP.eq {g f : Nat → Option Bool} {Q : Prop} (h : EvP f Q) (e : ∀ k, g k = f k) : EvP g Q := by obtain ⟨b, h, hb⟩ := h; exact ⟨b, Ev.eq h e, hb⟩
theorem EvP.bind {g : Nat → Option Bool} {f : Nat → Bool → Option Bool} {R Q : Prop} (h : EvP g R) (h1 : R → EvP (fun k => f k Bool.true) Q) (h2 : ¬ R → EvP (fun k => f k Bool.false) Q) : EvP (fun k => (g k).bind (f k)) Q := by
  obtain ⟨b, e, hb⟩ := h
  cases b with
  | true => obtain ⟨c, e2, hc⟩ := h1 (hb.1 rfl); exact ⟨c, Ev.bind' e e2, hc⟩
  | false => obtain ⟨c, e2, hc⟩ := h2 (fun h => by cases hb.2 h); exact ⟨c, Ev.bind' e e2, hc⟩
theorem EvP.bindE {α : Type} {g : Nat → Option α} {f : Nat → α → Option Bool} {a : α} {Q : Prop} (h : Ev g a) (h1 : EvP (fun k => f k a) Q) : EvP (fun k => (g k).bind (f k)) Q := by
  obtain ⟨b, e, hb⟩ := h1; exact ⟨b, Ev.bind' h e, hb⟩
theorem EvP.pos {f : Nat → Option Bool} {Q : Prop} (h : EvP f Q) (q : Q) : Ev f Bool.true := by obtain ⟨b, e, hb⟩ := h; exact hb.2 q ▸ e
theorem EvP.neg {f : Nat → Option Bool} {Q : Prop} (h : EvP f Q) (q : ¬ Q) : Ev f Bool.false := by
  obtain ⟨b, e, hb⟩ := h
  cases b with
  | true => exact absurd (hb.1 rfl) q
  | false => exact e
theorem all_step {P : Int → Prop} {i n : Int} (hi : i < n) (h : P i) : (∀ j, i + 1 ≤ j → j < n → P j) ↔ (∀ j, i ≤ j → j < n → P j) :=
  ⟨fun k j h0 h1 => if e : j = i then e ▸ h else k j (by omega) h1, fun k j h0 h1 => k j (by omega) h1⟩
theorem all_end {P : Int → Prop} {i n : Int} (hi : ¬ i < n) : ∀ j, i ≤ j → j < n → P j := fun j h0 h1 => by omega
end Go.Proofs.Ytcdmgeceahmngaa.Pure
