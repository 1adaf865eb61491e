/- One leap: what the program does. -/
import Derived.Test.YtpemcbjdlpajlaaLBase
import Derived.Test.YtpemcbjdlpajlaaG1x6
import Derived.Test.YtpemcbjdlpajlaaG1x7
namespace Go.Proofs.Ytpemcbjdlpajlaa.Pure
open Go.RowKit Go.Proofs.YtpemcbjdlpajlaaW.PrintWords Go.Proofs.YtpemcbjdlpajlaaW.PrintLast Go.Proofs.YtpemcbjdlpajlaaW.PrintMore Go.Proofs.Ytpemcbjdlpajlaa.G1
set_option linter.unusedVariables false
set_option linter.unusedSimpArgs false

def putIn (x c : Int) : List S62 → List S62
  | [] => [⟨x, c⟩]
  | r :: t => if r.f0 = x then ⟨x, wrap64 (r.f1 + c)⟩ :: t else ⟨x, c⟩ :: r :: t
def push (l : List S62) (x c : Int) : List S62 := if c = 0 then l else if x = 0 ∧ l.length = 0 then l else putIn x c l
def pop : List S62 → Int × List S62
  | [] => (0, [])
  | r :: t => (r.f0, if r.f1 = 1 then t else ⟨r.f0, wrap64 (r.f1 - 1)⟩ :: t)
theorem push_len (l : List S62) (x c : Int) : (push l x c).length ≤ l.length + 1 := by
  unfold push
  split
  · omega
  · split
    · omega
    · cases l with
      | nil => simp [putIn]
      | cons r t => simp only [putIn]; split <;> simp
theorem pop_len (l : List S62) : (pop l).2.length ≤ l.length := by
  cases l with
  | nil => simp [pop]
  | cons r t => simp only [pop]; split <;> simp
theorem rd0 (r : S62) (t : List S62) : rd_T62 (r :: t) 0 = r := rfl
theorem run_ev (l : List S62) (h : l.length < 8796093022208) : api_Run.f l = some l := by
  unfold api_Run.f
  simp [h]
theorem before_ev (x c : Int) (l : List S62) (h : l.length < 8796093022207) : Ev (fun k => leap_before.f k x c l) (push l x c) := by
  have yes : Ev (fun k => leap_before.j0 k x c l true) l := Ev.succ (by simp only [leap_before.j0, ↓reduceIte]; exact Ev.now _)
  unfold leap_before.f push
  by_cases hc : c = 0
  · simpa [hc] using yes
  · refine Ev.ifn hc ?_
    rw [if_neg hc]
    have no : ¬ (x = 0 ∧ l.length = 0) → Ev (fun k => leap_before.j0 k x c l false) (putIn x c l) := by
      intro hn
      refine Ev.succ ?_
      simp only [leap_before.j0, Bool.false_eq_true, ↓reduceIte]
      cases l with
      | nil => simpa [putIn] using Ev.now _
      | cons r t =>
        simp only [List.length_cons] at h
        rw [putIn]
        refine Ev.ifp (by simp only [List.length_cons]; omega) (Ev.ifp (by simp only [List.length_cons]; omega) ?_)
        rw [rd0]
        by_cases hx : r.f0 = x
        · refine Ev.ifp hx ?_
          rw [run_ev _ (by simp only [List.length_cons]; omega)]
          simp only [Option.bind_some]
          refine Ev.ifp (by simp only [List.length_cons]; omega) ?_
          simp only [hx, ↓reduceIte, rd0]
          exact Ev.now _
        · refine Ev.ifn hx ?_
          simp only [Option.bind_some, hx, ↓reduceIte]
          refine Ev.ifp (by simp only [List.length_cons, List.length_nil]; omega) ?_
          exact Ev.now _
    by_cases hx : x = 0
    · refine Ev.ifp hx ?_
      by_cases hl : l.length = 0
      · rw [if_pos ⟨hx, hl⟩]
        simpa [hl] using yes
      · rw [if_neg (fun h => hl h.2)]
        have : ((l.length : Int) == 0) = false := beq_eq_false_iff_ne.mpr (by omega)
        rw [this]
        exact no (fun h => hl h.2)
    · refine Ev.ifn hx ?_
      rw [if_neg (fun h => hx h.1)]
      exact no (fun h => hx h.1)
theorem split_ev (l : List S62) (h : l.length < 8796093022208) : leap_split.f l = some (pop l) := by
  unfold leap_split.f
  cases l with
  | nil => simp [pop]
  | cons r t =>
    simp only [List.length_cons] at h
    rw [if_neg (by simp only [List.length_cons]; omega), if_pos (by simp only [List.length_cons]; omega), rd0, pop]
    by_cases hr : r.f1 = 1
    · rw [if_pos hr, if_pos (by simp only [List.length_cons]; omega), if_pos hr]; rfl
    · rw [if_neg hr, if_neg hr, run_ev _ (by simp only [List.length_cons]; omega)]
      simp only [Option.bind_some]
      rw [if_pos (by simp only [List.length_cons]; omega), rd0]
      rfl
def mv (r : S37) (st sy : Int) (A : List S62) : Option (Int × List S62) :=
  if r.f2 = st then (match A with
    | [] => if sy = 0 then none else some (1, [])
    | h :: t => if h.f0 = sy then some (wrap64 (1 + h.f1), t) else some (1, h :: t))
  else some (1, A)
def rule (Q : List (List S37)) (st sy : Int) : S37 := rd_T37 (rd_L2 Q st) sy
def ahead (r : S37) (L R : List S62) : List S62 := if r.f1 < 0 then L else R
def out (r : S37) (pos k : Int) (A B : List S62) : Int × Int × Int × List S62 × List S62 :=
  (r.f2, wrap64 (pos + wrap64 (r.f1 * k)), (pop A).1, if r.f1 < 0 then (pop A).2 else push B r.f0 k, if r.f1 < 0 then push B r.f0 k else (pop A).2)
theorem leap_ev (n s : Int) (Q : List (List S37)) (st pos sy : Int) (L R : List S62) (h0 : 0 ≤ st) (h1 : st < (Q.length : Int)) (h2 : 0 ≤ sy) (h3 : sy < ((rd_L2 Q st).length : Int)) (hL : L.length ≤ 2000) (hR : R.length ≤ 2000) :
    Ev (fun k => leap_leap.f k n s Q st pos sy L R) (match mv (rule Q st sy) st sy (ahead (rule Q st sy) L R) with
      | none => (st, pos, sy, L, R, 0, true)
      | some (k, A) => let o := out (rule Q st sy) pos k A (ahead (rule Q st sy) R L); (o.1, o.2.1, o.2.2.1, o.2.2.2.1, o.2.2.2.2, k, false)) := by
  unfold leap_leap.f
  refine Ev.ifp h0 (Ev.ifp h1 (Ev.ifp h2 (Ev.ifp h3 ?_)))
  have fin : ∀ (A B : List S62) (k : Int), A.length ≤ 2000 → B.length ≤ 2000 → Ev (fun q => leap_leap.j2 q A B k st pos sy L R (rule Q st sy).f0 (rule Q st sy).f1 (rule Q st sy).f2) (let o := out (rule Q st sy) pos k A B; (o.1, o.2.1, o.2.2.1, o.2.2.2.1, o.2.2.2.2, k, false)) := by
    intro A B k hA hB
    refine Ev.succ ?_
    simp only [leap_leap.j2]
    refine Ev.bind' (before_ev _ _ _ (by omega)) ?_
    rw [split_ev _ (by omega)]
    simp only [Option.bind_some, out]
    have e1 := run_ev (push B (rule Q st sy).f0 k) (by have := push_len B (rule Q st sy).f0 k; omega)
    have e2 := run_ev (pop A).2 (by have := pop_len A; omega)
    rw [e1, e2]
    simp only [Option.bind_some]
    refine Ev.ite (fun h => ?_) (fun h => ?_)
    · simp only [h, ↓reduceIte]; exact Ev.now _
    · simp only [h, ↓reduceIte]; exact Ev.now _
  have mid : ∀ (A B : List S62), A.length ≤ 2000 → B.length ≤ 2000 → Ev (fun q => leap_leap.j0 q A B st pos sy L R (rule Q st sy).f0 (rule Q st sy).f1 (rule Q st sy).f2) (match mv (rule Q st sy) st sy A with
      | none => (st, pos, sy, L, R, 0, true)
      | some (k, A) => let o := out (rule Q st sy) pos k A B; (o.1, o.2.1, o.2.2.1, o.2.2.2.1, o.2.2.2.2, k, false)) := by
    intro A B hA hB
    refine Ev.succ ?_
    simp only [leap_leap.j0, mv]
    by_cases hn : (rule Q st sy).f2 = st
    · refine Ev.ifp hn ?_
      rw [if_pos hn]
      cases A with
      | nil =>
        refine Ev.ifp (by simp) ?_
        refine Ev.succ ?_
        simp only [leap_leap.j1, beq_iff_eq]
        by_cases hs : sy = 0
        · refine Ev.ifp hs ?_
          simp only [hs, ↓reduceIte]
          exact Ev.now _
        · refine Ev.ifn hs ?_
          simp only [hs, ↓reduceIte]
          exact Ev.ifn (by simp) (fin [] B 1 (by simp) hB)
      | cons h t =>
        simp only [List.length_cons] at hA
        refine Ev.ifn (by simp only [List.length_cons]; omega) ?_
        refine Ev.succ ?_
        simp only [leap_leap.j1, Bool.false_eq_true, ↓reduceIte]
        refine Ev.ifp (by simp only [List.length_cons]; omega) (Ev.ifp (by simp only [List.length_cons]; omega) ?_)
        rw [rd0]
        by_cases hs : h.f0 = sy
        · refine Ev.ifp hs (Ev.ifp (by simp only [List.length_cons]; omega) ?_)
          simp only [hs, ↓reduceIte, List.drop_one, List.tail_cons]
          exact fin t B _ (by omega) hB
        · refine Ev.ifn hs ?_
          simp only [hs, ↓reduceIte]
          exact fin (h :: t) B 1 (by simp only [List.length_cons]; omega) hB
    · refine Ev.ifn hn ?_
      rw [if_neg hn]
      exact fin A B 1 hA hB
  by_cases hm : (rule Q st sy).f1 < 0
  · refine Ev.ifp hm ?_
    simp only [ahead, hm, ↓reduceIte]
    exact mid L R hL hR
  · refine Ev.ifn hm ?_
    simp only [ahead, hm, ↓reduceIte]
    exact mid R L hR hL
end Go.Proofs.Ytpemcbjdlpajlaa.Pure
