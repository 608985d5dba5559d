/- The law for regions that draw their order, inside a round of a range over a function. No program in sight. -/
import Derived.Test.YtbniicobkhiniaaRG3
import Derived.OrdersIn
import Derived.ControlIn
import Derived.TacticsIn
namespace Go.Sz
open Go.RowKit
section
variable {P : Program} {md : Region.Mode} {ops : Array Oper}
theorem rows_in {l n : Nat} {row : String} {args : Array Value} {w : World} {R : Value → World → Prop} (h : Rows P row args w R) : RowsIn (Fence.wide.inRound l) n P row args w R :=
  fun c cs _ => let ⟨v, w', r, s⟩ := h c cs; ⟨v, w', r, stepsIn_wide.2 s⟩
theorem calls_in {l n : Nat} {f : FuncId} {args : Array Value} {w : World} {R : Ending → World → Prop} (h : Calls P f args w R) : CallsIn (Fence.wide.inRound l) n P f args w R := (callsIn_wide (n := n)).2 h
theorem operIn_of {l n : Nat} {o : Oper} {a : Act} {w : World} {K K' : Act → World → Prop} {Q : Exit → Act → World → Prop} (hd : ∀ c, o.op ≠ .defer c) (hK : ∀ a w, K a w → K' a w) (h : o.wp P a w K Q) : o.wpIn (Fence.wide.inRound l) n P a w K' Q := by
  refine ⟨fun _ _ => trivial, ?_⟩
  rw [show (Fence.wide.inRound l).round = some l from rfl, Oper.semAt_some l _ _ hd]
  unfold Oper.wp at h
  generalize (execOp a.eval o).run P w = r at *
  cases r with
  | ok x w' =>
    cases x <;> simp only [Oper.upon, Oper.uponIn] at h ⊢
    case enter =>
      refine ⟨fun e => (by cases e), calls_in (Calls.mono h ?_)⟩
      intro e w' he
      cases e <;> first | exact hK _ _ he | exact he
    case row => exact ⟨fun e => (by cases e), (rows_in h).mono fun _ _ he => hK _ _ he⟩
    all_goals first | exact hK _ _ h | exact h.elim
  | halt x w' =>
    cases x <;> simp only [Oper.upon, Oper.uponIn] at h ⊢ <;> first | exact h | exact h.elim
theorem wpAnyIn_of {l n : Nat} {Q : Exit → Act → World → Prop} (hL : ¬ LetsOut Q) (hd : ∀ (i : Nat) (o : Oper), ops[i]? = some o → ∀ c, o.op ≠ .defer c) :
    ∀ (k : Nat) (listed : Array Bool) (a : Act) (w : World), wpAny P md ops Q k listed a w → wpAnyIn (Fence.wide.inRound l) n P md ops Q k listed a w := by
  intro k
  induction k with
  | zero => intro listed a w h; exact h
  | succ k ih =>
    intro listed a w h
    refine ⟨h.1, fun i hi => ?_⟩
    have h1 := h.2 i hi
    unfold wpOp at h1
    unfold wpOpIn
    cases ho : ops[i]? with
    | none => simp only [ho] at h1 ⊢; exact ih _ _ _ h1
    | some o =>
      simp only [ho] at h1 ⊢
      by_cases hw : Region.wanted o (yielded ops a.tmps) = true
      · simp only [hw, if_true] at h1 ⊢
        rcases h1 with h1 | h1
        · exact operIn_of (hd i o ho) (fun a w h => ih _ _ _ h) h1
        · exact absurd h1.2 hL
      · simp only [hw, if_false, Bool.false_eq_true] at h1 ⊢
        exact ⟨fun _ _ => trivial, ih _ _ _ h1⟩
def noDefer (ops : Array Oper) : Bool := ops.all fun o => match o.op with | .defer _ => false | _ => true
theorem noDefer_at {ops : Array Oper} (h : noDefer ops = true) {i : Nat} {o : Oper} (ho : ops[i]? = some o) : ∀ c, o.op ≠ .defer c := by
  intro c hc
  have := (Array.all_eq_true_iff_forall_mem.1 h) o (Array.mem_of_getElem? ho)
  rw [hc] at this
  cases this
/-- what may end a region, but running out of room -/
def noOut (Q : Exit → Act → World → Prop) : Exit → Act → World → Prop
  | .outgrown, _, _ => False
  | e, a, w => Q e a w
theorem noOut_imp {Q : Exit → Act → World → Prop} : ∀ e a w, noOut Q e a w → Q e a w := by
  intro e a w h
  cases e <;> first | exact h | exact h.elim
theorem wpIn_round_any {l n id : Nat} {Q : Exit → Act → World → Prop} {a : Act} {w : World} (hm : P.follows .mixedOrders = true) (hd : noDefer ops = true)
    (h : wpAny P .any ops (noOut Q) ops.size (Array.replicate ops.size false) a w.drew) : (Code.region id ops true).wpIn (Fence.wide.inRound l) n P Q a w := by
  refine wpIn_mono ?_ (noOut_imp (Q := Q))
  exact wpIn_region_any hm (wpAnyIn_of (fun ⟨_, _, h⟩ => h) (fun i o ho => noDefer_at hd ho) _ _ _ _ h)
theorem wpAny_region_rel {Q : Exit → Act → World → Prop} {a : Act} {w : World} {l : List Oper} (T : Nat → Option Spec) (m t : Nat) (hB : relB l.toArray m t = true)
    (h : wpRel P l.toArray .any w.drew T (fun a' g' => ∀ W, Cl w.drew T All g' W → wpAny P .any l.toArray Q t (firstB m t) a' W) (l.take m) 0 a (fun _ => none)) : wpAny P .any l.toArray Q l.toArray.size (Array.replicate l.toArray.size false) a w.drew := by
  simp only [relB, Bool.and_eq_true, decide_eq_true_eq, List.all_eq_true, List.mem_range] at hB
  obtain ⟨⟨⟨hmt, hs⟩, hlex⟩, htail⟩ := hB
  have hml : m ≤ l.length := by simp at hmt; omega
  have hlen : (l.take m).length = m := by simp; omega
  have hW : Cl w.drew T All (fun _ => none) w.drew := ⟨Ext.refl _, fun _ _ _ _ hv => by cases hv⟩
  have hd : Down .any l.toArray (Array.replicate l.toArray.size false) := fun j hj => by
    exfalso
    rcases Nat.lt_or_ge j l.length with h | h <;> simp [h] at hj
  have key := rel_lex (P := P) (md := .any) (m := m) (W0 := w.drew) (T := T) (ops := l.toArray) hs (l.take m) 0 (Array.replicate l.toArray.size false) a (fun _ => none) (fun j hj => by
    rw [hlen] at hj
    rw [List.getElem?_take, if_pos hj]
    simp) (by simp; omega) (by rw [hlen]; exact hlex) hd (fun _ _ => rfl) ⟨_, hW⟩ h
  rw [hlen] at key
  have := wpAny_of_rel (P := P) hmt (fun j h1 h2 i hi => by
    have := htail (j - m) (by omega) i hi
    rwa [show m + (j - m) = j by omega] at this) m _ a _ w.drew hd (by simp) (fun j h1 h2 => by
      simp only [List.size_toArray] at h2
      simp [h2]) hW key
  rw [hmt] at this
  exact this
theorem wpIn_round_rel {yl n id : Nat} {Q : Exit → Act → World → Prop} {a : Act} {w : World} {l : List Oper} (T : Nat → Option Spec) (m t : Nat) (hm : P.follows .mixedOrders = true) (hd : noDefer l.toArray = true) (hB : relB l.toArray m t = true)
    (h : wpRel P l.toArray .any w.drew T (fun a' g' => ∀ W, Cl w.drew T All g' W → wpAny P .any l.toArray (noOut Q) t (firstB m t) a' W) (l.take m) 0 a (fun _ => none)) : (Code.region id l.toArray true).wpIn (Fence.wide.inRound yl) n P Q a w :=
  wpIn_round_any hm hd (wpAny_region_rel T m t hB h)
theorem wpIn_round_rel_all {yl n id : Nat} {Q : Exit → Act → World → Prop} {a : Act} {w : World} {l : List Oper} (T : Nat → Option Spec) (hm : P.follows .mixedOrders = true) (hd : noDefer l.toArray = true) (hB : relB l.toArray l.length 0 = true)
    (h : wpRel P l.toArray .any w.drew T (fun a' g' => ∀ W, Cl w.drew T All g' W → Q .normal a' W) l 0 a (fun _ => none)) : (Code.region id l.toArray true).wpIn (Fence.wide.inRound yl) n P Q a w := by
  refine wpIn_round_any hm hd ?_
  refine wpAny_region_rel T l.length 0 hB ?_
  rw [List.take_length]
  have hr : Region.ready .any l.toArray (firstB l.length 0) = [] := by
    unfold Region.ready firstB
    rw [List.filter_eq_nil_iff]
    intro i hi
    have : i < l.length := by simpa using List.mem_range.1 hi
    simp [this]
  have e : (fun (a' : Act) (g' : Gh) => ∀ W, Cl w.drew T All g' W → wpAny P .any l.toArray (noOut Q) 0 (firstB l.length 0) a' W) = (fun a' g' => ∀ W, Cl w.drew T All g' W → Q .normal a' W) := by
    funext a' g'
    simp only [wpAny, hr, true_and]
    rfl
  rw [e]
  exact h
end
end Go.Sz
