/- Names: a range over an iterator that itself ranges over iterators. No program in sight. -/
import Derived.Test.YtimigpfoflilcaaNB
import Derived.Test.YtimigpfoflilcaaNA
import Derived.RangeFuncNested
import Derived.RangeFuncBox
import Derived.RangeFuncBound
import Derived.RangeFuncCalls
import Derived.RangeFuncLeaves
import Derived.Shelf.Abstract
import Derived.Shelf.RegionOpen
import Derived.WalkKit
import Derived.OwnWalkIn
import Derived.TacticsInMore
import Derived.LoopNIn
import Derived.LoopIn
import Derived.Maps.AppendAt
namespace Go.Sz
open Go.RowKit
theorem roundIn_wide {n m : Nat} {P : Program} {l : Nat} {f : FuncId} {tmps : Array Value} {assign body : Code} {w : World} {R : Ending → World → Prop} (h : RoundIn Fence.wide n P l f tmps assign body w R) : RoundIn Fence.wide m P l f tmps assign body w R := ⟨h.1, fun c cs _ => h.2 c cs (room_wide _)⟩
theorem yieldAt_wide {n m : Nat} {P : Program} {l : Nat} {args : Array Value} {w : World} {R : Ending → World → Prop} (h : YieldAt Fence.wide n P l args w R) : YieldAt Fence.wide m P l args w R := by
  obtain ⟨fn, tmps, assign, body, hy, hR⟩ := h
  exact ⟨fn, tmps, assign, body, hy, roundIn_wide hR⟩
theorem heap_al {w : World} {o : Obj} {i : Nat} : (w.alloc o).heap[i]? = if i = w.heap.size then some o else w.heap[i]? := by
  show (w.heap.push o)[i]? = _
  rw [Array.getElem?_push]
/-- the blocks of cells lie as they lay -/
def KpC (A B : World) : Prop := A.heap.size ≤ B.heap.size ∧ ∀ (b : Nat) (o : Obj), A.heap[b]? = some o → o.isCells = true → B.heap[b]? = some o
theorem KpC.refl (A : World) : KpC A A := ⟨Nat.le_refl _, fun _ _ h _ => h⟩
theorem KpC.trans {A B C : World} (h : KpC A B) (k : KpC B C) : KpC A C := ⟨Nat.le_trans h.1 k.1, fun b o h1 h2 => k.2 b o (h.2 b o h1 h2) h2⟩
theorem Ext.kpC {A B : World} (h : Ext A B) : KpC A B := ⟨h.size, fun b _ h1 _ => (h.block b (Array.getElem?_eq_some_iff.1 h1).1).trans h1⟩
theorem KpC.put {W : World} {l : Nat} {o o' : Obj} (h : W.heap[l]? = some o) (ho : o.isCells = false) : KpC W (W.putObj l o') := ⟨by simp, fun b x h1 h2 => by
  by_cases e : l = b
  · subst e
    rw [h] at h1
    cases h1
    rw [ho] at h2
    cases h2
  · exact (World.putObj_heap_other (fun h => e h.symm)).trans h1⟩
theorem cell_isCells {W : World} {p : Addr} {v : Value} (h : W.cell? p = some v) : ∃ o, W.heap[p.block]? = some o ∧ o.isCells = true := by
  unfold World.cell? at h
  cases e : W.heap[p.block]? with
  | none => rw [e] at h; simp at h
  | some o =>
    rw [e] at h
    cases o <;> first | exact ⟨_, rfl, rfl⟩ | simp at h
theorem KpC.cell {A B : World} (h : KpC A B) {p : Addr} {v : Value} (hc : A.cell? p = some v) : B.cell? p = some v := by
  obtain ⟨o, h1, h2⟩ := cell_isCells hc
  exact (World.cell?_of_block ((h.2 _ _ h1 h2).trans h1.symm)).trans hc
theorem SL.kpC {A B : World} {s : Nat} {ao : Option Addr} {cap : Nat} {rows : List (List Value)} (h : SL A s ao cap rows) (hE : KpC A B) : SL B s ao cap rows := by
  refine ⟨SL.le h, SL.max h, SL.nil h, SL.wid h, fun i j r v hr hv => ?_⟩
  obtain ⟨b, o, e, hc⟩ := SL.cells h i j r v hr hv
  exact ⟨b, o, e, hE.cell hc⟩
theorem RepU.kpC {w W : World} {r : Rt} {c : List Value} (h : RepU w r c) (hE : KpC w W) : RepU W r c := by
  induction h with
  | mk r ao cap rows hs hl _ ho ih => exact .mk r ao cap rows (hs.kpC hE) hl ih ho
theorem RepC.kpC {w W : World} {ao : Option Addr} {cap : Nat} {l : List Cr} (h : RepC w ao cap l) (hE : KpC w W) : RepC W ao cap l := by
  obtain ⟨rows, h1, h2, h3⟩ := h
  refine ⟨rows, h1.kpC hE, h2, fun i k c hk hc => ?_⟩
  obtain ⟨u, v, e, hu, hv, ho⟩ := h3 i k c hk hc
  exact ⟨u, v, e, hu.kpC hE, hv.kpC hE, ho⟩
theorem ownFrom_kpC {β : Type} {B : Nat} {w₀ : World} : OwnFrom B (fun (_ : β) W => KpC w₀ W) := fun _ X Y row hs hg hr => ⟨Nat.le_trans hs.1 hg.size, fun b o h1 h2 => by
  have h3 := hs.2 b o h1 h2
  refine (hg.block b (Array.getElem?_eq_some_iff.1 h3).1 (fun e => ?_)).trans h3
  obtain ⟨-, o', h4, h5⟩ := hr b e.symm
  rw [h3] at h4
  cases h4
  rw [h2] at h5
  cases h5⟩
theorem ownFrom_mono {β : Type} {B C : Nat} {I : β → World → Prop} (h : OwnFrom B I) (hb : B ≤ C) : OwnFrom C I := fun s W W' row hs hg hr => h s W W' row hs hg fun r e => ⟨Nat.le_trans hb (hr r e).1, (hr r e).2⟩
theorem ownFrom_ext {β : Type} {B : Nat} {I : β → World → Prop} (h : OwnFrom B I) {s : β} {A W : World} (hs : I s A) (hE : Ext A W) : I s W := h s A W none hs ⟨hE.os, hE.tape, hE.output, hE.size, fun k hk _ => hE.block k hk⟩ (fun r hr => by cases hr)
theorem _root_.Go.KeepsFrom.up {B C : Nat} {X Y : World} (h : KeepsFrom B X Y) (hb : B ≤ C) : KeepsFrom C X Y := ⟨h.size, fun k o hk => h.same k o (Nat.le_trans hb hk)⟩
theorem keepsFrom_put {B l : Nat} {W : World} {o o' : Obj} (hl : l < B) (_ : W.heap[l]? = some o) : KeepsFrom B W (W.putObj l o') := ⟨by simp, fun k x hk h1 _ => (World.putObj_heap_other (fun e => by omega)).trans h1⟩
theorem Ext.keepsFrom {A B : World} (h : Ext A B) (n : Nat) : KeepsFrom n A B := ⟨h.size, fun k _ _ h1 _ => (h.block k (Array.getElem?_eq_some_iff.1 h1).1).trans h1⟩
/-- the marks of an activation's loops over iterators -/
def mk1 (D : Nat) : Deferred := { target := .collected D, args := #[] }
def Marks (B : Nat) (L : List Nat) (W : World) : Prop := L.Nodup ∧ ∀ D ∈ L, B ≤ D ∧ W.heap[D]? = some (.deferred (some []))
theorem Marks.keep {B : Nat} {L : List Nat} {A W : World} (h : Marks B L A) (hk : KeepsFrom B A W) : Marks B L W := ⟨h.1, fun D hD => ⟨(h.2 D hD).1, hk.same D _ (h.2 D hD).1 (h.2 D hD).2 rfl⟩⟩
theorem Marks.lt {B : Nat} {L : List Nat} {A : World} (h : Marks B L A) : ∀ D ∈ L, D < A.heap.size := fun D hD => (Array.getElem?_eq_some_iff.1 (h.2 D hD).2).1
theorem Marks.nil (B : Nat) (W : World) : Marks B [] W := ⟨List.nodup_nil, fun _ h => (by cases h)⟩
theorem Marks.cons {B D n : Nat} {L : List Nat} {W : World} (h : Marks B L W) (hl : ∀ D ∈ L, D < n) (hn : n ≤ D) (hb : B ≤ D) (hD : W.heap[D]? = some (.deferred (some []))) : Marks B (D :: L) W :=
  ⟨List.nodup_cons.2 ⟨fun hm => by have := hl D hm; omega, h.1⟩, fun E hE => by
    rcases List.mem_cons.1 hE with rfl | hE
    · exact ⟨hb, hD⟩
    · exact h.2 E hE⟩
theorem marks_own {B N : Nat} {L : List Nat} (hl : ∀ D ∈ L, D < N) : OwnFrom N (fun (_ : Unit) W => Marks B L W) := fun _ X Y row hs hg hr => ⟨hs.1, fun D hD => ⟨(hs.2 D hD).1, (hg.block D (Array.getElem?_eq_some_iff.1 (hs.2 D hD).2).1 (fun e => by have h1 := (hr D e.symm).1; have h2 := hl D hD; omega)).trans (hs.2 D hD).2⟩⟩
/-- on the way out every mark is taken -/
theorem leaves_marks {P : Program} {F : Fence} {n : Nat} {fn : Func} {tmps : Array Value} {R : Ending → World → Prop} {B : Nat} {I : World → Prop} (hI : OwnFrom B (fun (_ : Unit) W => I W)) {v : Value}
    (hv : ∀ W, I W → (results fn tmps).run P W = .ok v W) (hR : ∀ W, I W → R (.returned v) W) : ∀ (L : List Nat) (W : World), Marks B L W → I W → LeavesInM F n P fn tmps R (L.map mk1) .returning W := by
  intro L
  induction L with
  | nil => exact fun W _ hi => ⟨v, hv W hi, hR W hi⟩
  | cons D L ih =>
    intro W hM hi
    have h1 := hM.2 D (List.mem_cons_self ..)
    refine ⟨by simp, .inl ⟨D, _, rfl, run_takeDeferred h1.2, ih _ ⟨(List.nodup_cons.1 hM.1).2, fun E hE => ?_⟩ (hI.putObj (s := ()) _ hi h1.1 h1.2 rfl)⟩⟩
    have h2 := hM.2 E (List.mem_cons_of_mem _ hE)
    exact ⟨h2.1, (World.putObj_heap_other (by rintro rfl; exact (List.nodup_cons.1 hM.1).1 hE)).trans h2.2⟩
/-- an iterator yields the elements of a list, one by one -/
def SeqC {α : Type} (P : Program) (g : Nat) (lb : Array Value) (encs : α → Array Value) (xs : List α) (w : World) : Prop :=
  ∀ (l : Nat) (J Jx : List α → World → Prop) (W : World), Ext w W → OwnFrom W.heap.size J → OwnFrom W.heap.size Jx →
    (∀ pre x rest W1, xs = pre ++ x :: rest → J pre W1 → YieldAt Fence.wide 0 P l (encs x) W1 fun e W' => (e = .returned (.bool true) ∧ J (pre ++ [x]) W' ∧ KpC W1 W' ∧ KeepsFrom W.heap.size W1 W') ∨ (e = .returned (.bool false) ∧ Jx (pre ++ [x]) W' ∧ KeepsFrom W.heap.size W1 W')) →
    J [] W → Calls P g (#[.func (.yield l) #[] #[]] ++ lb) W fun e W' => (∃ v, e = .returned v) ∧ (J xs W' ∨ ∃ pre, Jx pre W')
theorem SeqC.ext {α : Type} {P : Program} {g : Nat} {lb : Array Value} {encs : α → Array Value} {xs : List α} {w w' : World} (h : SeqC P g lb encs xs w) (hE : Ext w w') : SeqC P g lb encs xs w' :=
  fun l J Jx W hW => h l J Jx W (hE.trans hW)
/-- the statement 'for x := range seq' over such an iterator -/
theorem wpIn_rangeC {α : Type} {P : Program} {n : Nat} {g : Operand} {ps : Array Tmp} {assign body : Code} {Q : Exit → Act → World → Prop} {a : Act} {w : World}
    {gf : Nat} {lb : Array Value} (hg : a.eval g = .func (.func gf) #[] lb) (eg : ∀ args w, (callFunc gf args).run P w = .ok (.enter gf args) w)
    {encs : α → Array Value} {xs : List α} (hseq : SeqC P gf lb encs xs w) (hps : ∀ x, (encs x).size = ps.size)
    (I : List α → World → Prop) (Ix : Code → List α → World → Prop) (hI : OwnFrom w.heap.size I) (hIx : ∀ c, OwnFrom w.heap.size (Ix c)) (h0 : I [] w) (Ax : α → Act → World → Prop) (hAx : ∀ x a', OwnFrom w.heap.size (fun (_ : Unit) W => Ax x a' W))
    (hassign : ∀ (l : Nat) (pre : List α) (x : α) (rest : List α) (W : World) (K : Act → World → Prop), xs = pre ++ x :: rest → I pre W → (∀ a' W', KeepsFrom w.heap.size W W' → KpC W W' → I pre W' → Ax x a' W' → K a' W') →
      assign.wpIn (Fence.wide.inRound l) n P (Exit.then K (fun _ _ _ => False)) { tmps := (ps.zip (encs x)).foldl (fun t (p, v) => t.setIfInBounds p v) a.tmps, defers := [] } W)
    (hbody : ∀ (l : Nat) (pre : List α) (x : α) (rest : List α) (a' : Act) (W : World), xs = pre ++ x :: rest → w.heap.size ≤ l → (∃ r, W.heap[l]? = some (.loop r)) → I pre W → Ax x a' W → body.wpIn (Fence.wide.inRound l) n P (ownPostG w.heap.size KpC I Ix (pre ++ [x]) W) a' W)
    (hdone : ∀ (D : Nat) (W : World), w.heap.size ≤ D → I xs W → W.heap[D]? = some (.deferred (some [])) → Q .normal { a with defers := { target := .collected D, args := #[] } :: a.defers } W)
    (hstop : ∀ (D : Nat) (c : Code) (pre : List α) (W : World), w.heap.size ≤ D → Ix c pre W → W.heap[D]? = some (.deferred (some [])) → c.wpIn Fence.wide n P Q { a with defers := { target := .collected D, args := #[] } :: a.defers } W) :
    (Code.rangeFunc g ps assign body).wpIn Fence.wide n P Q a w := by
  refine wpIn_rangeFunc fun fn _ => ?_
  obtain ⟨R, hR⟩ : ∃ R : LoopState → Option Code → Loop, R = fun st pe => { state := st, pending := pe, fn, tmps := a.tmps, params := ps, assign, body, defers := w.heap.size } := ⟨_, rfl⟩
  obtain ⟨V, hV⟩ : ∃ V, (w.alloc (.deferred (some []))).alloc (.loop (R .ready none)) = V := ⟨_, rfl⟩
  have hVE : Ext w V := hV ▸ ((Ext.refl w).alloc _).alloc _
  have hVs : V.heap.size = w.heap.size + 2 := by rw [← hV]; simp
  have hL : V.heap[w.heap.size + 1]? = some (.loop (R .ready none)) := by rw [← hV]; have := World.alloc_heap_new (w.alloc (.deferred (some []))) (.loop (R .ready none)); rwa [World.size_alloc] at this
  have hD : V.heap[w.heap.size]? = some (.deferred (some [])) := by rw [← hV]; exact (Below.heap_alloc _ _ _ (by simp)).trans (World.alloc_heap_new w _)
  have hkeep : ∀ {A B : World} {row : Option Nat} {k : Nat} {o : Obj}, A.grownBy B row → (∀ r, row = some r → V.heap.size ≤ r ∧ ∃ o : Obj, A.heap[r]? = some o ∧ o.isCells = false) → k < V.heap.size → A.heap[k]? = some o → B.heap[k]? = some o := fun hg hr hk ha =>
    (hg.block _ (Array.getElem?_eq_some_iff.1 ha).1 (fun e => by have := (hr _ e.symm).1; omega)).trans ha
  have hdown : ∀ {A : World} {row : Option Nat}, (∀ r, row = some r → V.heap.size ≤ r ∧ ∃ o : Obj, A.heap[r]? = some o ∧ o.isCells = false) → (∀ r, row = some r → w.heap.size ≤ r ∧ ∃ o : Obj, A.heap[r]? = some o ∧ o.isCells = false) := fun hr r e => ⟨by have := (hr r e).1; omega, (hr r e).2⟩
  refine ⟨w.heap.size + 1, [{ target := .collected w.heap.size, args := #[] }], V, { target := .fn (.func gf) lb, args := #[.func (.yield (w.heap.size + 1)) #[] #[]] }, V, gf,
    #[.func (.yield (w.heap.size + 1)) #[] #[]] ++ lb, V, ?_, ?_, ?_, ?_, ?_, ?_⟩
  · rw [← hV, hR]; exact run_enterLoop_outer _ _ _ _ _
  · simp only [resolve, hg]; simp [go_sem]
  · intro f' _; trivial
  · simp [invoke, go_sem, eg]
  · intro h; cases h
  · refine callsIn_wide.2 ((hseq (w.heap.size + 1)
      (fun pre W => I pre W ∧ W.heap[w.heap.size + 1]? = some (.loop (R .ready none)) ∧ W.heap[w.heap.size]? = some (.deferred (some [])))
      (fun pre W => ∃ c, Ix c pre W ∧ W.heap[w.heap.size + 1]? = some (.loop (R .done (some c))) ∧ W.heap[w.heap.size]? = some (.deferred (some [])))
      V hVE
      (fun s A B row hs hg hr => ⟨hI s A B row hs.1 hg (hdown hr), hkeep hg hr (by omega) hs.2.1, hkeep hg hr (by omega) hs.2.2⟩)
      (fun s A B row hs hg hr => by
        obtain ⟨c, hc, hl, hk⟩ := hs
        exact ⟨c, hIx c s A B row hc hg (hdown hr), hkeep hg hr (by omega) hl, hkeep hg hr (by omega) hk⟩)
      ?_ ⟨ownFrom_ext hI h0 hVE, hL, hD⟩).mono ?_)
    · rintro pre x rest W hxs ⟨hi, hl, hk⟩
      have hy := run_yield (P := P) (args := encs x) hl (by rw [hR]; exact hps x)
      rw [hR] at hy
      refine yieldAt_wide (n := n) ⟨fn, _, assign, body, hy, roundIn_of_wpIn trivial (hassign _ pre x rest W _ hxs hi ?_)⟩
      clear hy
      intro a' Wa hkfa hkpa hia hax
      replace hl := hkfa.same _ _ (by omega) hl rfl
      replace hk := hkfa.same _ _ (Nat.le_refl _) hk rfl
      have hlt := (Array.getElem?_eq_some_iff.1 hl).1
      refine ⟨_, run_beginRound hl (by rw [hR]), ?_⟩
      have hl2 : (Wa.putObj (w.heap.size + 1) (.loop { R .ready none with state := .busy })).heap[w.heap.size + 1]? = some (.loop { R .ready none with state := .busy }) := World.putObj_heap_same hlt
      have hk2 : (Wa.putObj (w.heap.size + 1) (.loop { R .ready none with state := .busy })).heap[w.heap.size]? = some (.deferred (some [])) := (World.putObj_heap_other (by omega)).trans hk
      have hw2 : KpC Wa (Wa.putObj (w.heap.size + 1) (.loop { R .ready none with state := .busy })) := .put hl rfl
      refine wpIn_mono (hbody _ pre x rest a' _ hxs (by omega) ⟨_, hl2⟩ (hI.putObj _ hia (by omega) hl rfl) ((hAx x a').putObj (s := ()) _ hax (by omega) hl rfl)) ?_
      have fin : ∀ (jump : Option Code) (X : World), KeepsFrom w.heap.size (Wa.putObj (w.heap.size + 1) (.loop { R .ready none with state := .busy })) X →
          (Instr.endRound (w.heap.size + 1) jump).run P X = .ok (.bool jump.isNone) (X.putObj (w.heap.size + 1) (.loop (R (if jump.isNone then .ready else .done) jump))) ∧
          X.heap[w.heap.size + 1]? = some (.loop { R .ready none with state := .busy }) ∧
          (X.putObj (w.heap.size + 1) (.loop (R (if jump.isNone then .ready else .done) jump))).heap[w.heap.size + 1]? = some (.loop (R (if jump.isNone then .ready else .done) jump)) ∧
          (X.putObj (w.heap.size + 1) (.loop (R (if jump.isNone then .ready else .done) jump))).heap[w.heap.size]? = some (.deferred (some [])) := fun jump X hX => by
        have hl3 := hX.same _ _ (by omega) hl2 rfl
        have h1 := run_endRound (P := P) jump hl3
        rw [hR] at h1 hl3 ⊢
        exact ⟨h1, hl3, World.putObj_heap_same (Array.getElem?_eq_some_iff.1 hl3).1, (World.putObj_heap_other (by omega)).trans (hX.same _ _ (Nat.le_refl _) hk2 rfl)⟩
      have kf : ∀ {X : World} {y : Option Code}, KeepsFrom w.heap.size (Wa.putObj (w.heap.size + 1) (.loop { R .ready none with state := .busy })) X → X.heap[w.heap.size + 1]? = some (.loop { R .ready none with state := .busy }) → KeepsFrom V.heap.size W (X.putObj (w.heap.size + 1) (.loop (R (if y.isNone then .ready else .done) y))) := fun q f1 =>
        (hkfa.up (by omega)).trans ((keepsFrom_put (by omega) hl).trans ((q.up (by omega)).trans (keepsFrom_put (by omega) f1)))
      rintro e a3 X hp
      cases e with
      | normal =>
        obtain ⟨q1, q2, q3⟩ := hp
        obtain ⟨hr, f1, f2, f3⟩ := fin none X q1
        exact ⟨_, _, hr, .inl ⟨rfl, ⟨hI.putObj _ q3 (by omega) f1 rfl, f2, f3⟩, hkpa.trans (hw2.trans (q2.trans (.put f1 rfl))), kf (y := none) q1 f1⟩⟩
      | ret =>
        obtain ⟨q1, q3⟩ := hp
        obtain ⟨hr, f1, f2, f3⟩ := fin (some .ret) X q1
        exact ⟨_, _, hr, .inr ⟨rfl, ⟨.ret, (hIx _).putObj _ q3 (by omega) f1 rfl, f2, f3⟩, kf (y := some (.ret)) q1 f1⟩⟩
      | exit id =>
        obtain ⟨q1, q3⟩ := hp
        obtain ⟨hr, f1, f2, f3⟩ := fin (some (.exit id)) X q1
        exact ⟨_, _, hr, .inr ⟨rfl, ⟨.exit id, (hIx _).putObj _ q3 (by omega) f1 rfl, f2, f3⟩, kf (y := some (.exit id)) q1 f1⟩⟩
      | goto t =>
        obtain ⟨q1, q3⟩ := hp
        obtain ⟨hr, f1, f2, f3⟩ := fin (some (.goto t)) X q1
        exact ⟨_, _, hr, .inr ⟨rfl, ⟨.goto t, (hIx _).putObj _ q3 (by omega) f1 rfl, f2, f3⟩, kf (y := some (.goto t)) q1 f1⟩⟩
      | panic ch => exact hp.elim
      | outgrown => exact hp.elim
    · rintro e X ⟨⟨v, rfl⟩, (⟨hi, hl, hk⟩ | ⟨pre, c, hi, hl, hk⟩)⟩
      · exact ⟨none, _, by have := run_endLoop (P := P) hl (by rw [hR]; simp); rw [hR] at this; exact this, hdone _ _ (Nat.le_refl _) (hI.putObj _ hi (by omega) hl rfl) ((World.putObj_heap_other (by omega)).trans hk)⟩
      · exact ⟨some c, _, by have := run_endLoop (P := P) hl (by rw [hR]; simp); rw [hR] at this; exact this, hstop _ c pre _ (Nat.le_refl _) ((hIx c).putObj _ hi (by omega) hl rfl) ((World.putObj_heap_other (by omega)).trans hk)⟩
end Go.Sz
namespace Go.Sz
open Go.RowKit
theorem choose_list {α β γ : Type} {R : α → β → γ → Prop} : ∀ (us : List α) (vs : List β), vs.length = us.length → (∀ (i : Nat) a b, us[i]? = some a → vs[i]? = some b → ∃ c, R a b c) →
    ∃ cs : List γ, cs.length = us.length ∧ ∀ (i : Nat) a b c, us[i]? = some a → vs[i]? = some b → cs[i]? = some c → R a b c := by
  intro us
  induction us with
  | nil => exact fun vs _ _ => ⟨[], rfl, fun i a b c h => by simp at h⟩
  | cons a us ih =>
    intro vs hl h
    cases vs with
    | nil => simp at hl
    | cons b vs =>
      obtain ⟨c, hc⟩ := h 0 a b rfl rfl
      obtain ⟨cs, h1, h2⟩ := ih vs (by simpa using hl) fun i x y hx hy => h (i + 1) x y (by simpa using hx) (by simpa using hy)
      refine ⟨c :: cs, by simp [h1], fun i x y z hx hy hz => ?_⟩
      cases i with
      | zero => cases hx; cases hy; cases hz; exact hc
      | succ i => exact h2 i x y z (by simpa using hx) (by simpa using hy) (by simpa using hz)
/-- a part: a rule, and where its kids lie -/
abbrev PU := Rt × Option Addr × Nat
def PU.cells (x : PU) : List Value := x.1.cells x.2.1 x.2.2
def encP (x : PU) : Array Value := #[.agg x.cells.toArray]
theorem flatten_snoc {α : Type} {xss : List (List α)} {m : Nat} {xs : List α} (h : xss[m]? = some xs) : (xss.take (m + 1)).flatten = (xss.take m).flatten ++ xs := by
  rw [List.take_add_one, h]
  simp
theorem flatten_at {α : Type} {xss : List (List α)} {m : Nat} {xs : List α} (h : xss[m]? = some xs) : xss.flatten = (xss.take m).flatten ++ (xs ++ (xss.drop (m + 1)).flatten) := by
  rw [← List.append_assoc, ← flatten_snoc h, ← List.flatten_append, List.take_append_drop]
theorem map_flatten_of {xss : List (List PU)} {ks : List Rt} (hl : xss.length = ks.length) (h : ∀ (i : Nat) k xs, ks[i]? = some k → xss[i]? = some xs → xs.map (·.1) = k.parts) : xss.flatten.map (·.1) = partsL ks := by
  induction ks generalizing xss with
  | nil =>
    obtain rfl : xss = [] := List.length_eq_zero_iff.1 hl
    rw [partsL]; rfl
  | cons k ks ih =>
    cases xss with
    | nil => simp at hl
    | cons xs xss =>
      rw [partsL, List.flatten_cons, List.map_append, h 0 k xs rfl rfl, ih (by simpa using hl) fun i a b ha hb => h (i + 1) a b (by simpa using ha) (by simpa using hb)]
theorem cells_at {W : World} {B : Nat} {cs : List Value} {t : TypeId} {fr : Nat × Nat} (h : W.heap[B]? = some (.cells cs.toArray t fr)) (j : Nat) (v : Value) (hj : cs[j]? = some v) : W.cell? ⟨B, j, none⟩ = some v := by
  simp [World.cell?, h, hj]
end Go.Sz
namespace Go.Proofs.Ytimigpfoflilcaa
open Go.RowKit Go.Sz Go.Shelf
attribute [local go_sem] Oper.semAt_some
theorem parts_any (x : PU) (w : World) : Calls Try.prog 85 (encP x) w fun e w' =>
    e = .returned (.func (.func 87) #[] #[.pointer (some ⟨w.heap.size, 0, none⟩)]) ∧ w' = w.alloc (.cells x.cells.toArray 39) := by
  unfold encP PU.cells Rt.cells
  go_enter Try.func85, Try.ntmps85
  go_wp2_with fail
  go_ret
  exact ⟨rfl, rfl⟩
set_option maxRecDepth 100000 in
set_option maxHeartbeats 6400000 in
theorem parts1_seq {w : World} {r : Rt} {c : List Value} (h : RepU w r c) : ∃ xs : List PU, xs.map (·.1) = r.parts ∧ ∀ (W : World) (g : Nat), KpC w W → (∀ (j : Nat) (v : Value), c[j]? = some v → W.cell? ⟨g, j, none⟩ = some v) →
    SeqC Try.prog 87 #[.pointer (some ⟨g, 0, none⟩)] encP xs W := by
  induction h with
  | mk r ao cap rows hs hl hk ho ih =>
    obtain ⟨xss, hxl, hxs⟩ := choose_list r.kids rows hl ih
    refine ⟨(r, ao, cap) :: xss.flatten, ?_, ?_⟩
    · rw [Rt.parts_eq, List.map_cons, map_flatten_of hxl fun i k xs hk' hx => (hxs i k _ xs hk' (List.getElem?_eq_getElem (by rw [hl]; exact (List.getElem?_eq_some_iff.1 hk').1)) hx).1]
    intro W0 g hKW hg l J Jx W hW hJ hJx hY h0
    have hX : Ext W (W.alloc (.cells #[.func (.yield l) #[] #[]] 133)) := (Ext.refl W).alloc _
    have HJ := Lib.hid hJ
    have HJX := Lib.hid hJx
    have HY := Lib.hid hY
    have HK0 := Lib.hid (hKW.trans (hW.trans hX).kpC)
    have HXS := Lib.hid hxs
    have HKU := Lib.hid hk
    have HS := Lib.hid hs
    have HXL := Lib.hid (And.intro hxl hl)
    have HG := Lib.hid fun (j : Nat) (v : Value) (e : (r.cells ao cap)[j]? = some v) => (hW.trans hX).cell (hg j v e)
    have hs1 := hs.max
    have hs2 := hs.le
    have h0' := ownFrom_ext hJ h0 hX
    have HSZ := Lib.hid hX.size
    have g0 : (W.alloc (.cells #[.func (.yield l) #[] #[]] 133)).cell? ⟨W.heap.size, 0, none⟩ = some (.func (.yield l) #[] #[]) := by simp
    have HF := Lib.hid g0
    clear hY hJ hJx hKW hg hxs hxl hk ho ih hs h0 hW hX
    refine (callsIn_wide (n := 6)).1 ?_
    refine callsIn_of_wp_marks Try.func87 rfl trivial ?_ rfl
    simp only [Try.ntmps87, List.size_toArray, List.length_cons, List.length_nil, Nat.reduceAdd, Nat.reduceSub, Array.replicate_succ, Array.replicate_zero, List.push_toArray, List.append_toArray, List.nil_append, List.cons_append]
    have c0 := HG.out 0 _ rfl
    have c1 := HG.out 1 _ rfl
    have c2 := HG.out 2 _ rfl
    have c3 := HG.out 3 _ rfl
    have c4 := HG.out 4 _ rfl
    have c5 := HG.out 5 _ rfl
    obtain ⟨fn, tmps, assign, body, hy, hR⟩ := yieldAt_wide (m := 5) (HY.out [] (r, ao, cap) xss.flatten _ rfl h0')
    unfold encP PU.cells Rt.cells at hy
    gi_wp2
    refine hR.mono ?_
    clear hy hR
    rintro e W6 (⟨rfl, hJ6, hk6, hf6⟩ | ⟨rfl, hJx6, hf6⟩)
    · have HK6 := Lib.hid hk6
      have HJ6 := Lib.hid hJ6
      have c5' := hk6.cell c5
      clear c0 c1 c2 c3 c4 c5 hk6 hf6 h0' hJ6
      gi_wp2
      clear c5' g0
      refine wpIn_loop (fun a' wr => ∃ (m : Nat) (L : List Nat) (u4 u5 u14 u15 u16 u17 u18 u19 u20 u21 u22 u23 u24 : Value), a' = { tmps := #[.func (.yield l) #[] #[], .pointer (some ⟨g, 0, none⟩), .pointer (some ⟨W.heap.size, 0, none⟩), undef, u4, u5, .func (.yield l) #[] #[], .agg #[.int .i64 r.op, .int .i64 r.co, .string r.nm, .int .i64 r.n, .int .i64 r.d, .slice ao r.kids.length cap], .bool true, .bool false, .pointer (some ⟨g, 5, none⟩), .slice ao r.kids.length cap, .int .i64 r.kids.length, .int .i64 m, u14, u15, u16, u17, u18, u19, u20, u21, u22, u23, u24], defers := L.map mk1 } ∧ m ≤ r.kids.length ∧ Marks W.heap.size L wr ∧ KpC (W.alloc (.cells #[.func (.yield l) #[] #[]] 133)) wr ∧ J ((r, ao, cap) :: (xss.take m).flatten) wr) (fun a' _ => r.kids.length - (intOf (a'.tmps[13]!)).toNat) ⟨0, [], _, _, _, _, _, _, _, _, _, _, _, _, _, rfl, by omega, Marks.nil _ _, HK6.out, HJ6.out⟩ ?_
      rintro a' wr ⟨m, L, u4, u5, u14, u15, u16, u17, u18, u19, u20, u21, u22, u23, u24, rfl, hm, hM, hK, hJm⟩
      have HM := Lib.hid hM
      have HK := Lib.hid hK
      have HJM := Lib.hid hJm
      clear hM hK hJm
      by_cases hlt : m < r.kids.length
      · have hki : (m : Int) < (r.kids.length : Int) := by omega
        obtain ⟨k, hk⟩ : ∃ k, r.kids[m]? = some k := ⟨_, List.getElem?_eq_getElem hlt⟩
        obtain ⟨xs, hx⟩ : ∃ xs, xss[m]? = some xs := ⟨_, List.getElem?_eq_getElem (by rw [HXL.out.1]; exact hlt)⟩
        obtain ⟨cc, hcc⟩ : ∃ cc, rows[m]? = some cc := ⟨_, List.getElem?_eq_getElem (by rw [HXL.out.2]; exact hlt)⟩
        obtain ⟨ka, kc, rfl, -, -⟩ := (HKU.out m k cc hk hcc).out
        have HSEQ := Lib.hid (HXS.out m k _ xs hk hcc hx).2
        obtain ⟨b, o, rfl, -⟩ := HS.out.cells m 0 _ _ hcc rfl
        have hrow : ∀ (j : Nat) (v : Value), (k.cells ka kc)[j]? = some v → wr.cell? ⟨b, o + m * 6 + j, none⟩ = some v := fun j v hj => by
          obtain ⟨b', o', e, hw⟩ := HS.out.cells m j _ _ hcc hj
          cases e
          exact HK.out.cell (HK0.out.cell hw)
        have d0 : wr.cell? ⟨b, o + m * 6, none⟩ = some (.int .i64 k.op) := hrow 0 _ rfl
        have d1 : wr.cell? ⟨b, o + m * 6 + 1, none⟩ = some (.int .i64 k.co) := hrow 1 _ rfl
        have d2 : wr.cell? ⟨b, o + m * 6 + 2, none⟩ = some (.string k.nm) := hrow 2 _ rfl
        have d3 : wr.cell? ⟨b, o + m * 6 + 3, none⟩ = some (.int .i64 k.n) := hrow 3 _ rfl
        have d4 : wr.cell? ⟨b, o + m * 6 + 4, none⟩ = some (.int .i64 k.d) := hrow 4 _ rfl
        have d5 : wr.cell? ⟨b, o + m * 6 + 5, none⟩ = some (.slice ka k.kids.length kc) := hrow 5 _ rfl
        have HSN := Lib.hid (flatten_snoc hx)
        have HAT := Lib.hid (flatten_at hx)
        clear hrow hk hx hcc
        have hwf : Fence.wide.fn 85 := trivial
        gi_wp2_with (gi_at_call 85; refine (callsIn_wide.2 (parts_any (k, ka, kc) _)).mono ?_; rintro e w5 ⟨rfl, hw5⟩; rw [show PU.cells (k, ka, kc) = [.int .i64 k.op, .int .i64 k.co, .string k.nm, .int .i64 k.n, .int .i64 k.d, .slice ka k.kids.length kc] from rfl] at hw5; subst hw5)
        have hEl : Ext wr ((wr.alloc (.cells #[.int .i64 k.op, .int .i64 k.co, .string k.nm, .int .i64 k.n, .int .i64 k.d, .slice ka k.kids.length kc] 39)).alloc (.cells #[.int .i64 k.op, .int .i64 k.co, .string k.nm, .int .i64 k.n, .int .i64 k.d, .slice ka k.kids.length kc] 39)) := ((Ext.refl wr).alloc _).alloc _
        have hsl : ((wr.alloc (.cells #[.int .i64 k.op, .int .i64 k.co, .string k.nm, .int .i64 k.n, .int .i64 k.d, .slice ka k.kids.length kc] 39)).alloc (.cells #[.int .i64 k.op, .int .i64 k.co, .string k.nm, .int .i64 k.n, .int .i64 k.d, .slice ka k.kids.length kc] 39)).heap.size = wr.heap.size + 2 := by simp
        have hbl := cells_at (cs := [.int .i64 k.op, .int .i64 k.co, .string k.nm, .int .i64 k.n, .int .i64 k.d, .slice ka k.kids.length kc]) ((World.alloc_heap_new (wr.alloc (.cells #[.int .i64 k.op, .int .i64 k.co, .string k.nm, .int .i64 k.n, .int .i64 k.d, .slice ka k.kids.length kc] 39)) (.cells #[.int .i64 k.op, .int .i64 k.co, .string k.nm, .int .i64 k.n, .int .i64 k.d, .slice ka k.kids.length kc] 39)))
        rw [World.size_alloc] at hbl
        clear d0 d1 d2 d3 d4 d5 hwf
        generalize ((wr.alloc (.cells #[.int .i64 k.op, .int .i64 k.co, .string k.nm, .int .i64 k.n, .int .i64 k.d, .slice ka k.kids.length kc] 39)).alloc (.cells #[.int .i64 k.op, .int .i64 k.co, .string k.nm, .int .i64 k.n, .int .i64 k.d, .slice ka k.kids.length kc] 39)) = Wl at *
        have hseq := HSEQ.out Wl (wr.heap.size + 1) (HK0.out.trans (HK.out.trans hEl.kpC)) hbl
        have hsz1 : W.heap.size ≤ wr.heap.size := Nat.le_trans HSZ.out HK.out.1
        have hML := HM.out.keep (hEl.keepsFrom W.heap.size)
        refine wpIn_rangeC rfl (enters_of Try.func87 (by kernel_rfl) rfl) hseq (fun _ => rfl)
          (fun pre V => J ((r, some ⟨b, o, none⟩, cap) :: ((xss.take m).flatten ++ pre)) V ∧ KpC Wl V ∧ Marks W.heap.size L V)
          (fun c pre V => c = .ret ∧ (∃ p, Jx p V) ∧ Marks W.heap.size L V)
          (fun pre X Y row hs hg hr => ⟨ownFrom_mono HJ.out (by omega) _ X Y row hs.1 hg hr, ownFrom_kpC (B := Wl.heap.size) () X Y row hs.2.1 hg hr, marks_own hML.lt () X Y row hs.2.2 hg hr⟩)
          (fun c pre X Y row hs hg hr => ⟨hs.1, hs.2.1.imp fun p hp => ownFrom_mono HJX.out (by omega) _ X Y row hp hg hr, marks_own hML.lt () X Y row hs.2.2 hg hr⟩)
          ⟨by rw [List.append_nil]; exact ownFrom_ext HJ.out HJM.out hEl, KpC.refl _, hML⟩
          (fun x a' V => ∃ Bx, V.heap[Bx]? = some (.cells #[.int .i64 x.1.op, .int .i64 x.1.co, .string x.1.nm, .int .i64 x.1.n, .int .i64 x.1.d, .slice x.2.1 x.1.kids.length x.2.2] 39 (0, 0)) ∧ a' = { tmps := #[.func (.yield l) #[] #[], .pointer (some ⟨g, 0, none⟩), .pointer (some ⟨W.heap.size, 0, none⟩), undef, .pointer (some ⟨wr.heap.size, 0, none⟩), .pointer (some ⟨Bx, 0, none⟩), .func (.yield l) #[] #[], .agg #[.int .i64 r.op, .int .i64 r.co, .string r.nm, .int .i64 r.n, .int .i64 r.d, .slice (some ⟨b, o, none⟩) r.kids.length cap], .bool true, .bool false, .pointer (some ⟨g, 5, none⟩), .slice (some ⟨b, o, none⟩) r.kids.length cap, .int .i64 r.kids.length, .int .i64 m, .bool true, .pointer (some ⟨b, o + m * 6, none⟩), .agg #[.int .i64 k.op, .int .i64 k.co, .string k.nm, .int .i64 k.n, .int .i64 k.d, .slice ka k.kids.length kc], .agg #[.int .i64 k.op, .int .i64 k.co, .string k.nm, .int .i64 k.n, .int .i64 k.d, .slice ka k.kids.length kc], .func (.func 87) #[] #[.pointer (some ⟨wr.heap.size + 1, 0, none⟩)], .agg #[.int .i64 x.1.op, .int .i64 x.1.co, .string x.1.nm, .int .i64 x.1.n, .int .i64 x.1.d, .slice x.2.1 x.1.kids.length x.2.2], u20, u21, u22, u23, u24], defers := [] })
          (fun x a' _ X Y row hs hg hr => by
            obtain ⟨Bx, h2, h3⟩ := hs
            exact ⟨Bx, (hg.block Bx (Array.getElem?_eq_some_iff.1 h2).1 (fun e' => by obtain ⟨_, o, ho, hc⟩ := hr Bx e'.symm; rw [h2] at ho; cases ho; cases hc)).trans h2, h3⟩)
          ?assign ?body ?done ?stop
        case assign =>
          rintro yl pre x rest V K hxs ⟨h1, h2, h3⟩ hK
          have hcx : x.cells = [.int .i64 x.1.op, .int .i64 x.1.co, .string x.1.nm, .int .i64 x.1.n, .int .i64 x.1.d, .slice x.2.1 x.1.kids.length x.2.2] := rfl
          unfold encP
          rw [hcx]
          gi_wp2
          have hA := (Ext.refl V).alloc (.cells #[.int .i64 x.1.op, .int .i64 x.1.co, .string x.1.nm, .int .i64 x.1.n, .int .i64 x.1.d, .slice x.2.1 x.1.kids.length x.2.2] 39)
          exact hK _ _ (hA.keepsFrom _) hA.kpC ⟨ownFrom_ext (ownFrom_mono HJ.out (show W.heap.size ≤ Wl.heap.size by omega)) h1 hA, h2.trans hA.kpC, h3.keep (hA.keepsFrom _)⟩ ⟨V.heap.size, World.alloc_heap_new V _, rfl⟩
        case body =>
          rintro yl pre x rest a' V hxs hl ⟨rr, hr⟩ ⟨h1, h2, h3⟩ ⟨Bx, hbx, rfl⟩
          obtain ⟨fn, tmps, assign, body, hy, hR⟩ := yieldAt_wide (m := 5) (HY.out ((r, some ⟨b, o, none⟩, cap) :: ((xss.take m).flatten ++ pre)) x (rest ++ (xss.drop (m + 1)).flatten) V (by rw [HAT.out, hxs]; simp) h1)
          have f0 := cells_at (cs := [.int .i64 x.1.op, .int .i64 x.1.co, .string x.1.nm, .int .i64 x.1.n, .int .i64 x.1.d, .slice x.2.1 x.1.kids.length x.2.2]) hbx 0 _ rfl
          have f1 := cells_at (cs := [.int .i64 x.1.op, .int .i64 x.1.co, .string x.1.nm, .int .i64 x.1.n, .int .i64 x.1.d, .slice x.2.1 x.1.kids.length x.2.2]) hbx 1 _ rfl
          have f2 := cells_at (cs := [.int .i64 x.1.op, .int .i64 x.1.co, .string x.1.nm, .int .i64 x.1.n, .int .i64 x.1.d, .slice x.2.1 x.1.kids.length x.2.2]) hbx 2 _ rfl
          have f3 := cells_at (cs := [.int .i64 x.1.op, .int .i64 x.1.co, .string x.1.nm, .int .i64 x.1.n, .int .i64 x.1.d, .slice x.2.1 x.1.kids.length x.2.2]) hbx 3 _ rfl
          have f4 := cells_at (cs := [.int .i64 x.1.op, .int .i64 x.1.co, .string x.1.nm, .int .i64 x.1.n, .int .i64 x.1.d, .slice x.2.1 x.1.kids.length x.2.2]) hbx 4 _ rfl
          have f5 := cells_at (cs := [.int .i64 x.1.op, .int .i64 x.1.co, .string x.1.nm, .int .i64 x.1.n, .int .i64 x.1.d, .slice x.2.1 x.1.kids.length x.2.2]) hbx 5 _ rfl
          have g0 := h2.cell (hEl.kpC.cell (HK.out.cell HF.out))
          unfold encP PU.cells Rt.cells at hy
          have H23 := Lib.hid (And.intro h2 h3)
          have HSE := Lib.hid hEl
          clear hxs hbx h1 h2 h3 hseq hML hEl hbl hr
          gi_wp2
          refine hR.mono ?_
          clear hy hR
          rintro e V6 (⟨rfl, hJ6, hk6, hf6⟩ | ⟨rfl, hJx6, hf6⟩)
          · gi_wp2
            exact ⟨hf6.up (by omega), hk6, by simpa using hJ6, H23.out.1.trans hk6, H23.out.2.keep hf6⟩
          · gi_wp2
            exact ⟨hf6.up (by omega), rfl, ⟨_, hJx6⟩, H23.out.2.keep hf6⟩
        case done =>
          rintro D V hD ⟨h1, h2, h3⟩ hK
          have HD := Lib.hid (h3.cons hML.lt hD (by omega) hK)
          have HJ1 := Lib.hid h1
          have HK1 := Lib.hid (HK.out.trans (hEl.kpC.trans h2))
          clear h1 h2 h3 hK hseq hML hEl hbl
          gi_wp2
          refine ⟨⟨m + 1, D :: L, _, _, _, _, _, _, _, _, _, _, _, _, _, rfl, by omega, HD.out, HK1.out, by rw [HSN.out]; exact HJ1.out⟩, ?_⟩
          simp [intOf]
          omega
        case stop =>
          rintro D c pre V hD ⟨rfl, h1, h3⟩ hK
          have HD := h3.cons hML.lt hD (by omega) hK
          clear hseq hML hEl hbl
          gi_wp2
          exact leaves_marks (I := fun W => ∃ p, Jx p W) (fun _ X Y row hs hg hr => hs.imp fun p hp => HJX.out _ X Y row hp hg hr) (fun _ _ => results_none rfl _ _ _) (fun W h => ⟨⟨_, rfl⟩, .inr h⟩) (D :: L) V HD h1
      · have hki : ¬ (m : Int) < (r.kids.length : Int) := by omega
        obtain rfl : m = r.kids.length := by omega
        have hend := HJM.out
        rw [List.take_of_length_le (by rw [HXL.out.1]; exact Nat.le_refl _)] at hend
        gi_wp2
        exact leaves_marks (I := fun W => J ((r, ao, cap) :: xss.flatten) W) (fun _ X Y row hs hg hr => HJ.out _ X Y row hs hg hr) (fun _ _ => results_none rfl _ _ _) (fun W h => ⟨⟨_, rfl⟩, .inl h⟩) L wr HM.out hend
    · clear c0 c1 c2 c3 c4 c5
      gi_wp2
      exact ⟨_, results_none rfl _ _ _, ⟨_, rfl⟩, .inr ⟨_, hJx6⟩⟩
end Go.Proofs.Ytimigpfoflilcaa
namespace Go.Sz
open Go.RowKit
/-- the course that a part needs -/
def needP (l : List Cr) (p : Rt) : Option Nat := if p.op = 5 ∨ p.op = 6 then meantN l p.nm p.co else none
def needX (l : List Cr) (x : PU) : Option Nat := needP l x.1
theorem needsN_eq (l : List Cr) (c : Cr) {xs : List PU} (h : xs.map (·.1) = c.need.parts) : needsN l c = xs.filterMap (needX l) := by
  unfold needsN
  rw [← h, List.filterMap_map]
  rfl
theorem filterMap_yes {α β : Type} {f : α → Option β} {pre rest : List α} {x : α} {y : β} (h : f x = some y) : (pre ++ x :: rest).filterMap f = pre.filterMap f ++ y :: rest.filterMap f := by simp [h]
theorem filterMap_snoc {α β : Type} {f : α → Option β} {pre : List α} {x : α} : (pre ++ [x]).filterMap f = pre.filterMap f ++ (f x).toList := by
  rw [List.filterMap_append]
  congr 1
theorem findC_of_some {l : List Cr} {nm : ByteArray} {nu : Int} {i : Nat} (h : meantN l nm nu = some i) : findC l (isM nm nu) = (i : Int) := by rw [findC_meant, h]
theorem findC_of_none {l : List Cr} {nm : ByteArray} {nu : Int} (h : meantN l nm nu = none) : findC l (isM nm nu) = -1 := by rw [findC_meant, h]
theorem meantN_lt {l : List Cr} {nm : ByteArray} {nu : Int} {i : Nat} (h : meantN l nm nu = some i) : i < l.length := by
  unfold meantN at h
  exact (List.findIdx?_eq_some_iff_getElem.1 h).1
theorem needsN_lt {l : List Cr} {c : Cr} {n : Nat} (h : n ∈ needsN l c) : n < l.length := by
  unfold needsN at h
  obtain ⟨p, -, hp⟩ := List.mem_filterMap.1 h
  by_cases hc : p.op = 5 ∨ p.op = 6
  · rw [if_pos hc] at hp; exact meantN_lt hp
  · rw [if_neg hc] at hp; cases hp
def encN (n : Nat) : Array Value := #[.int .i64 n]
/-- the cells of a catalogue -/
def CatA (ao : Option Addr) (n cap : Nat) (vs : Value × Value × Value × Value × Value × Value) : Array Value := #[.slice ao n cap, vs.1, vs.2.1, vs.2.2.1, vs.2.2.2.1, vs.2.2.2.2.1, vs.2.2.2.2.2]
structure CatBox (W : World) (g : Nat) (ao : Option Addr) (n cap : Nat) (v1 v2 v3 v4 v5 v6 : Value) : Prop where
  c0 : W.cell? ⟨g, 0, none⟩ = some (.slice ao n cap)
  c1 : W.cell? ⟨g, 1, none⟩ = some v1
  c2 : W.cell? ⟨g, 2, none⟩ = some v2
  c3 : W.cell? ⟨g, 3, none⟩ = some v3
  c4 : W.cell? ⟨g, 4, none⟩ = some v4
  c5 : W.cell? ⟨g, 5, none⟩ = some v5
  c6 : W.cell? ⟨g, 6, none⟩ = some v6
theorem CatBox.kpC {A B : World} {g : Nat} {ao : Option Addr} {n cap : Nat} {v1 v2 v3 v4 v5 v6 : Value} (h : CatBox A g ao n cap v1 v2 v3 v4 v5 v6) (hE : KpC A B) : CatBox B g ao n cap v1 v2 v3 v4 v5 v6 :=
  ⟨hE.cell h.c0, hE.cell h.c1, hE.cell h.c2, hE.cell h.c3, hE.cell h.c4, hE.cell h.c5, hE.cell h.c6⟩
theorem CatBox.of {W : World} {g : Nat} {ao : Option Addr} {n cap : Nat} {v1 v2 v3 v4 v5 v6 : Value} {t : TypeId} {fr : Nat × Nat} (h : W.heap[g]? = some (.cells #[.slice ao n cap, v1, v2, v3, v4, v5, v6] t fr)) : CatBox W g ao n cap v1 v2 v3 v4 v5 v6 :=
  have k := cells_at (cs := [.slice ao n cap, v1, v2, v3, v4, v5, v6]) h
  ⟨k 0 _ rfl, k 1 _ rfl, k 2 _ rfl, k 3 _ rfl, k 4 _ rfl, k 5 _ rfl, k 6 _ rfl⟩
end Go.Sz
namespace Go.Proofs.Ytimigpfoflilcaa
open Go.RowKit Go.Sz Go.Shelf
attribute [local go_sem] Oper.semAt_some
theorem needs_any (ao : Option Addr) (k cap : Nat) (v1 v2 v3 v4 v5 v6 : Value) (i : Int) (w : World) : Calls Try.prog 72 #[.agg #[.slice ao k cap, v1, v2, v3, v4, v5, v6], .int .i64 i] w fun e w' =>
    e = .returned (.func (.func 84) #[] #[.pointer (some ⟨w.heap.size, 0, none⟩), .pointer (some ⟨w.heap.size + 1, 0, none⟩)]) ∧ w' = (w.alloc (.cells #[.slice ao k cap, v1, v2, v3, v4, v5, v6] 29)).alloc (.cells #[.int .i64 i] 3) := by
  go_enter Try.func72, Try.ntmps72
  go_wp2_with fail
  go_ret
  exact ⟨rfl, rfl⟩
set_option maxRecDepth 100000 in
set_option maxHeartbeats 6400000 in
theorem needs1_seq {l : List Cr} {c : Cr} {i : Nat} (hi : l[i]? = some c) (gc ga : Nat) (ao : Option Addr) (cap : Nat) (v1 v2 v3 v4 v5 v6 : Value) (W0 : World) (hc : CatBox W0 gc ao l.length cap v1 v2 v3 v4 v5 v6) (ha : W0.cell? ⟨ga, 0, none⟩ = some (.int .i64 i)) (hR : RepC W0 ao cap l) :
    SeqC Try.prog 84 #[.pointer (some ⟨gc, 0, none⟩), .pointer (some ⟨ga, 0, none⟩)] encN (needsN l c) W0 := by
  intro yl J Jx W hW hJ hJx hY h0
  have hX : Ext W (W.alloc (.cells #[.func (.yield yl) #[] #[]] 128)) := (Ext.refl W).alloc _
  obtain ⟨B, o, a, n, b, m, rfl, hk, -, ho, -, -, hcells⟩ := (hR.ext (hW.trans hX)).at hi
  have hlt : i < l.length := (List.getElem?_eq_some_iff.1 hi).1
  have hki : (i : Int) < (l.length : Int) := by omega
  obtain ⟨xs, hxs, hseq0⟩ := parts1_seq (RepU.of hk ho)
  have HNE := Lib.hid (needsN_eq l c hxs)
  rw [HNE.out] at hY ⊢
  have HJ := Lib.hid hJ
  have HJX := Lib.hid hJx
  have HY := Lib.hid hY
  have HSEQ := Lib.hid hseq0
  have HR := Lib.hid (hR.ext (hW.trans hX))
  have HC := Lib.hid (hc.kpC (hW.trans hX).kpC)
  have hsL := hR.max
  have hsz : (W.alloc (.cells #[.func (.yield yl) #[] #[]] 128)).heap.size = W.heap.size + 1 := by simp
  have g0 : (W.alloc (.cells #[.func (.yield yl) #[] #[]] 128)).cell? ⟨W.heap.size, 0, none⟩ = some (.func (.yield yl) #[] #[]) := by simp
  have HF := Lib.hid g0
  have HJ0 := Lib.hid (ownFrom_ext hJ h0 hX)
  have d1 := HC.out.c0
  have d2 := (hW.trans hX).cell ha
  have e0 : (W.alloc (.cells #[.func (.yield yl) #[] #[]] 128)).cell? ⟨B, o + i * 16 + 4, none⟩ = some (.int .i64 c.need.op) := hcells 4 _ rfl
  have e1 : (W.alloc (.cells #[.func (.yield yl) #[] #[]] 128)).cell? ⟨B, o + i * 16 + 5, none⟩ = some (.int .i64 c.need.co) := hcells 5 _ rfl
  have e2 : (W.alloc (.cells #[.func (.yield yl) #[] #[]] 128)).cell? ⟨B, o + i * 16 + 6, none⟩ = some (.string c.need.nm) := hcells 6 _ rfl
  have e3 : (W.alloc (.cells #[.func (.yield yl) #[] #[]] 128)).cell? ⟨B, o + i * 16 + 7, none⟩ = some (.int .i64 c.need.n) := hcells 7 _ rfl
  have e4 : (W.alloc (.cells #[.func (.yield yl) #[] #[]] 128)).cell? ⟨B, o + i * 16 + 8, none⟩ = some (.int .i64 c.need.d) := hcells 8 _ rfl
  have e5 : (W.alloc (.cells #[.func (.yield yl) #[] #[]] 128)).cell? ⟨B, o + i * 16 + 9, none⟩ = some (.slice a c.need.kids.length n) := hcells 9 _ rfl
  clear hY hJ hJx h0 hW hX hcells hk ho hxs hseq0 hR hc ha hi HNE g0
  refine (callsIn_wide (n := 6)).1 ?_
  refine callsIn_of_wp_marks Try.func84 rfl trivial ?_ rfl
  simp only [Try.ntmps84, List.size_toArray, List.length_cons, List.length_nil, Nat.reduceAdd, Nat.reduceSub, Array.replicate_succ, Array.replicate_zero, List.push_toArray, List.append_toArray, List.nil_append, List.cons_append]
  have hwf : Fence.wide.fn 85 := trivial
  gi_wp2_with (gi_at_call 85; refine (callsIn_wide.2 (parts_any (c.need, a, n) _)).mono ?_; rintro e w5 ⟨rfl, hw5⟩; rw [show PU.cells (c.need, a, n) = [.int .i64 c.need.op, .int .i64 c.need.co, .string c.need.nm, .int .i64 c.need.n, .int .i64 c.need.d, .slice a c.need.kids.length n] from rfl] at hw5; subst hw5)
  clear d1 d2 e0 e1 e2 e3 e4 e5 hwf
  have hEl : Ext (W.alloc (.cells #[.func (.yield yl) #[] #[]] 128)) ((W.alloc (.cells #[.func (.yield yl) #[] #[]] 128)).alloc (.cells #[.int .i64 c.need.op, .int .i64 c.need.co, .string c.need.nm, .int .i64 c.need.n, .int .i64 c.need.d, .slice a c.need.kids.length n] 39)) := (Ext.refl _).alloc _
  have hsl : ((W.alloc (.cells #[.func (.yield yl) #[] #[]] 128)).alloc (.cells #[.int .i64 c.need.op, .int .i64 c.need.co, .string c.need.nm, .int .i64 c.need.n, .int .i64 c.need.d, .slice a c.need.kids.length n] 39)).heap.size = W.heap.size + 2 := by simp
  have hbl := cells_at (cs := [.int .i64 c.need.op, .int .i64 c.need.co, .string c.need.nm, .int .i64 c.need.n, .int .i64 c.need.d, .slice a c.need.kids.length n]) (World.alloc_heap_new (W.alloc (.cells #[.func (.yield yl) #[] #[]] 128)) (.cells #[.int .i64 c.need.op, .int .i64 c.need.co, .string c.need.nm, .int .i64 c.need.n, .int .i64 c.need.d, .slice a c.need.kids.length n] 39))
  rw [World.size_alloc] at hbl
  have HB := Lib.hid hbl
  clear hbl
  generalize ((W.alloc (.cells #[.func (.yield yl) #[] #[]] 128)).alloc (.cells #[.int .i64 c.need.op, .int .i64 c.need.co, .string c.need.nm, .int .i64 c.need.n, .int .i64 c.need.d, .slice a c.need.kids.length n] 39)) = Wl at *
  generalize (W.alloc (.cells #[.func (.yield yl) #[] #[]] 128)) = Wa at *
  refine wpIn_rangeC rfl (enters_of Try.func87 (by kernel_rfl) rfl) (HSEQ.out Wl (W.heap.size + 1) hEl.kpC HB.out) (fun _ => rfl)
    (fun pre V => J (pre.filterMap (needX l)) V ∧ KpC Wl V)
    (fun k pre V => k = .ret ∧ ∃ p, Jx p V)
    (fun pre X Y row hs hg hr => ⟨ownFrom_mono HJ.out (by omega) _ X Y row hs.1 hg hr, ownFrom_kpC (B := Wl.heap.size) () X Y row hs.2 hg hr⟩)
    (fun k pre X Y row hs hg hr => ⟨hs.1, hs.2.imp fun p hp => ownFrom_mono HJX.out (by omega) _ X Y row hp hg hr⟩)
    ⟨ownFrom_ext HJ.out HJ0.out hEl, KpC.refl _⟩
    (fun x a' V => ∃ Bx, V.heap[Bx]? = some (.cells #[.int .i64 x.1.op, .int .i64 x.1.co, .string x.1.nm, .int .i64 x.1.n, .int .i64 x.1.d, .slice x.2.1 x.1.kids.length x.2.2] 39 (0, 0)) ∧ a' = { tmps := #[.func (.yield yl) #[] #[], .pointer (some ⟨gc, 0, none⟩), .pointer (some ⟨ga, 0, none⟩), .pointer (some ⟨W.heap.size, 0, none⟩), .pointer (some ⟨Bx, 0, none⟩), undef, .pointer (some ⟨gc, 0, none⟩), .slice (some ⟨B, o, none⟩) l.length cap, .int .i64 i, .pointer (some ⟨B, o + i * 16, none⟩), .pointer (some ⟨B, o + i * 16 + 4, none⟩), .agg #[.int .i64 c.need.op, .int .i64 c.need.co, .string c.need.nm, .int .i64 c.need.n, .int .i64 c.need.d, .slice a c.need.kids.length n], .func (.func 87) #[] #[.pointer (some ⟨W.heap.size + 1, 0, none⟩)], .agg #[.int .i64 x.1.op, .int .i64 x.1.co, .string x.1.nm, .int .i64 x.1.n, .int .i64 x.1.d, .slice x.2.1 x.1.kids.length x.2.2], undef, undef, undef, undef, undef, undef, undef, undef, undef, undef, undef, undef, undef, undef, undef, undef, undef, undef, undef, undef, undef, undef], defers := [] })
    (fun x a' _ X Y row hs hg hr => by
      obtain ⟨Bx, h2, h3⟩ := hs
      exact ⟨Bx, (hg.block Bx (Array.getElem?_eq_some_iff.1 h2).1 (fun e' => by obtain ⟨_, o, ho, hc⟩ := hr Bx e'.symm; rw [h2] at ho; cases ho; cases hc)).trans h2, h3⟩)
    ?assign ?body ?done ?stop
  case assign =>
    rintro yl' pre x rest V K hxs ⟨h1, h2⟩ hK
    have hcx : x.cells = [.int .i64 x.1.op, .int .i64 x.1.co, .string x.1.nm, .int .i64 x.1.n, .int .i64 x.1.d, .slice x.2.1 x.1.kids.length x.2.2] := rfl
    unfold encP
    rw [hcx]
    gi_wp2
    have hA := (Ext.refl V).alloc (.cells #[.int .i64 x.1.op, .int .i64 x.1.co, .string x.1.nm, .int .i64 x.1.n, .int .i64 x.1.d, .slice x.2.1 x.1.kids.length x.2.2] 39)
    exact hK _ _ (hA.keepsFrom _) hA.kpC ⟨ownFrom_ext (ownFrom_mono HJ.out (show W.heap.size ≤ Wl.heap.size by omega)) h1 hA, h2.trans hA.kpC⟩ ⟨V.heap.size, World.alloc_heap_new V _, rfl⟩
  case body =>
    rintro yl' pre x rest a' V hxs hl ⟨rr, hr⟩ ⟨h1, h2⟩ ⟨Bx, hbx, rfl⟩
    have hq := cells_at (cs := [.int .i64 x.1.op, .int .i64 x.1.co, .string x.1.nm, .int .i64 x.1.n, .int .i64 x.1.d, .slice x.2.1 x.1.kids.length x.2.2]) hbx
    have f0 := hq 0 _ rfl
    have f1 := hq 1 _ rfl
    have f2 := hq 2 _ rfl
    have q0 := h2.cell (hEl.kpC.cell HF.out)
    obtain ⟨k0, k1, k2, k3, k4, k5, k6⟩ := HC.out.kpC (hEl.kpC.trans h2)
    have HQ := Lib.hid (And.intro h1 h2)
    have HX := Lib.hid hxs
    have HSE := Lib.hid hEl
    have HM := Lib.hid fun (V' : World) (e : KpC V V') => meant_any l x.1.nm x.1.co (some ⟨B, o, none⟩) cap v1 v2 v3 v4 v5 v6 V' (HR.out.kpC (hEl.kpC.trans (h2.trans e)))
    clear hxs hbx h1 h2 hEl hr hq
    have hwf : Fence.wide.fn 80 := trivial
    by_cases hop : x.1.op = 5 ∨ x.1.op = 6
    · have hnp : needX l x = meantN l x.1.nm x.1.co := by unfold needX needP; rw [if_pos hop]
      have hguard : ((x.1.op != 5) = false) ∨ ((x.1.op != 5) = true ∧ (x.1.op != 6) = false) := by
        by_cases h5 : x.1.op = 5
        · exact .inl (by rw [h5]; rfl)
        · exact .inr ⟨by simpa using h5, by rw [hop.resolve_left h5]; rfl⟩
      clear hop
      cases hmm : meantN l x.1.nm x.1.co with
      | some j =>
        have HFC := Lib.hid (findC_of_some hmm)
        have HNP := Lib.hid (hnp.trans hmm)
        clear hnp hmm
        have hj0 : (0 : Int) ≤ (j : Int) := by omega
        rcases hguard with h5 | ⟨h5, h6⟩
        all_goals
          gi_wp2_with (gi_at_call 80; refine (calls_in (HM.out V (KpC.refl _))).mono ?_; rintro e w5 ⟨rfl, hE5⟩; rw [HFC.out]; have q0' := hE5.cell q0; obtain ⟨fn, tmps, assign, body, hy, hR⟩ := yieldAt_wide (m := 5) (HY.out (pre.filterMap (needX l)) j (rest.filterMap (needX l)) w5 (by rw [HX.out, filterMap_yes HNP.out]) (ownFrom_ext HJ.out HQ.out.1 hE5)); have HE5 := Lib.hid hE5; clear q0 hE5 k0 k1 k2 k3 k4 k5 k6 f0 f1 f2; unfold encN at hy)
          refine hR.mono ?_
          clear hy hR
          rintro e V6 (⟨rfl, hJ6, hk6, hf6⟩ | ⟨rfl, hJx6, hf6⟩)
          · gi_wp2
            exact ⟨((HE5.out.keepsFrom _).trans hf6).up (by omega), HE5.out.kpC.trans hk6, by rw [filterMap_snoc, HNP.out]; exact hJ6, HQ.out.2.trans (HE5.out.kpC.trans hk6)⟩
          · gi_wp2
            exact ⟨((HE5.out.keepsFrom _).trans hf6).up (by omega), rfl, ⟨_, hJx6⟩⟩
      | none =>
        have HFC := Lib.hid (findC_of_none hmm)
        have HNP := Lib.hid (hnp.trans hmm)
        clear hnp hmm
        rcases hguard with h5 | ⟨h5, h6⟩
        all_goals
          gi_wp2_with (gi_at_call 80; refine (calls_in (HM.out V (KpC.refl _))).mono ?_; rintro e w5 ⟨rfl, hE5⟩; rw [HFC.out]; have q0' := hE5.cell q0; have HE5 := Lib.hid hE5; clear q0 hE5 k0 k1 k2 k3 k4 k5 k6 f0 f1 f2)
          rename_i hKK x1 x2 x3 x4
          refine ⟨fun f h => (by cases h), hKK _ _ ?_⟩
          clear hKK x4
          gi_wp2
          exact ⟨(HE5.out.keepsFrom _), HE5.out.kpC, by rw [filterMap_snoc, HNP.out, Option.toList_none, List.append_nil]; exact ownFrom_ext (ownFrom_mono HJ.out (show W.heap.size ≤ Wl.heap.size by omega)) HQ.out.1 HE5.out, HQ.out.2.trans HE5.out.kpC⟩
    · have hnp : needX l x = none := by unfold needX needP; rw [if_neg hop]
      have h5 : (x.1.op != 5) = true := by simpa using fun e => hop (.inl e)
      have h6 : (x.1.op != 6) = true := by simpa using fun e => hop (.inr e)
      clear hop
      gi_wp2
      exact ⟨KeepsFrom.refl _ _, KpC.refl _, by rw [filterMap_snoc, hnp, Option.toList_none, List.append_nil]; exact HQ.out.1, HQ.out.2⟩
  case done =>
    rintro D V hD ⟨h1, h2⟩ hK
    gi_wp2
    exact leaves_marks (I := fun W => J (xs.filterMap (needX l)) W) (fun _ X Y row hs hg hr => HJ.out _ X Y row hs hg hr) (fun _ _ => results_none rfl _ _ _) (fun W h => ⟨⟨_, rfl⟩, .inl h⟩) [D] V ((Marks.nil _ V).cons (n := D) (by simp) (Nat.le_refl _) (by omega) hK) h1
  case stop =>
    rintro D k pre V hD ⟨rfl, h1⟩ hK
    gi_wp2
    exact leaves_marks (I := fun W => ∃ p, Jx p W) (fun _ X Y row hs hg hr => hs.imp fun p hp => HJX.out _ X Y row hp hg hr) (fun _ _ => results_none rfl _ _ _) (fun W h => ⟨⟨_, rfl⟩, .inr h⟩) [D] V ((Marks.nil _ V).cons (n := D) (by simp) (Nat.le_refl _) (by omega) hK) h1
end Go.Proofs.Ytimigpfoflilcaa
