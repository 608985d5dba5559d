/- Names: catalogues in plain Lean and in memory; what Resolve answers. -/
import Derived.Test.YtimigpfoflilcaaYL
import Derived.Test.YtimigpfoflilcaaYM
namespace Go.Sz
open Go.RowKit
structure Pr where
  a : ByteArray
  b : ByteArray
  x : Int
  y : Int
  deriving DecidableEq
structure Rq where
  nm : ByteArray
  cr : Int
  gr : Int
  ho : Bool
  nms : List ByteArray
  fr : List Int
  deriving DecidableEq
structure Pg where
  nm : ByteArray
  nu : Int
  us : Int
  ea : Int
  mn : Int
  md : Int
  rq : List Rq
  deriving DecidableEq
structure Kl where
  nm : ByteArray
  ea : Int
  mn : Int
  md : Int
  deriving DecidableEq
structure Fe where
  nm : ByteArray
  cr : Int
  deriving DecidableEq
structure Cu where
  k : Int
  w : Int
  a : Int
  u : Int
  deriving DecidableEq
/-- a catalogue -/
structure Cat where
  cs : List Cr
  sm : List Pr
  pg : List Pg
  kl : List Kl
  fe : List Fe
  ho : List Kl
  cu : List Cu
def Cat.empty : Cat := ⟨[], [], [], [], [], [], []⟩
def Pr.cells (p : Pr) : List Value := [.string p.a, .string p.b, .int .i64 p.x, .int .i64 p.y]
def Kl.cells (p : Kl) : List Value := [.string p.nm, .int .i64 p.ea, .int .i64 p.mn, .int .i64 p.md]
def Fe.cells (p : Fe) : List Value := [.string p.nm, .int .i64 p.cr]
def Cu.cells (p : Cu) : List Value := [.int .i64 p.k, .int .i64 p.w, .int .i64 p.a, .int .i64 p.u]
def Rq.cells (q : Rq) (na : Option Addr) (nc : Nat) (fa : Option Addr) (fc : Nat) : List Value := [.string q.nm, .int .i64 q.cr, .int .i64 q.gr, .bool q.ho, .slice na q.nms.length nc, .slice fa q.fr.length fc]
def Pg.cells (p : Pg) (a : Option Addr) (c : Nat) : List Value := [.string p.nm, .int .i64 p.nu, .int .i64 p.us, .int .i64 p.ea, .int .i64 p.mn, .int .i64 p.md, .slice a p.rq.length c]
/-- requirements in memory -/
def RepQ (w : World) (ao : Option Addr) (cap : Nat) (l : List Rq) : Prop :=
  ∃ rows, SL w 6 ao cap rows ∧ rows.length = l.length ∧ ∀ (i : Nat) (q : Rq) (c : List Value), l[i]? = some q → rows[i]? = some c → ∃ na nc fa fc, c = q.cells na nc fa fc ∧ SL w 1 na nc (srows q.nms) ∧ SL w 1 fa fc (irows q.fr)
/-- programmes in memory -/
def RepG (w : World) (ao : Option Addr) (cap : Nat) (l : List Pg) : Prop :=
  ∃ rows, SL w 7 ao cap rows ∧ rows.length = l.length ∧ ∀ (i : Nat) (p : Pg) (c : List Value), l[i]? = some p → rows[i]? = some c → ∃ a k, c = p.cells a k ∧ RepQ w a k p.rq
theorem RepQ.kpC {w W : World} {ao : Option Addr} {cap : Nat} {l : List Rq} (h : RepQ w ao cap l) (hk : KpC w W) : RepQ W ao cap l := by
  obtain ⟨rows, h1, h2, h3⟩ := h
  refine ⟨rows, h1.kpC hk, h2, fun i q c hq hc => ?_⟩
  obtain ⟨na, nc, fa, fc, e, g1, g2⟩ := h3 i q c hq hc
  exact ⟨na, nc, fa, fc, e, g1.kpC hk, g2.kpC hk⟩
theorem RepG.kpC {w W : World} {ao : Option Addr} {cap : Nat} {l : List Pg} (h : RepG w ao cap l) (hk : KpC w W) : RepG W ao cap l := by
  obtain ⟨rows, h1, h2, h3⟩ := h
  refine ⟨rows, h1.kpC hk, h2, fun i q c hq hc => ?_⟩
  obtain ⟨a, k, e, g⟩ := h3 i q c hq hc
  exact ⟨a, k, e, g.kpC hk⟩
theorem RepQ.ext {w W : World} {ao : Option Addr} {cap : Nat} {l : List Rq} (h : RepQ w ao cap l) (hE : Ext w W) : RepQ W ao cap l := h.kpC hE.kpC
theorem RepG.ext {w W : World} {ao : Option Addr} {cap : Nat} {l : List Pg} (h : RepG w ao cap l) (hE : Ext w W) : RepG W ao cap l := h.kpC hE.kpC
/-- where the seven slices of a catalogue lie -/
structure Adr where
  a0 : Option Addr
  k0 : Nat
  a1 : Option Addr
  k1 : Nat
  a2 : Option Addr
  k2 : Nat
  a3 : Option Addr
  k3 : Nat
  a4 : Option Addr
  k4 : Nat
  a5 : Option Addr
  k5 : Nat
  a6 : Option Addr
  k6 : Nat
def Cat.cells (c : Cat) (d : Adr) : List Value := [.slice d.a0 c.cs.length d.k0, .slice d.a1 c.sm.length d.k1, .slice d.a2 c.pg.length d.k2, .slice d.a3 c.kl.length d.k3, .slice d.a4 c.fe.length d.k4, .slice d.a5 c.ho.length d.k5, .slice d.a6 c.cu.length d.k6]
structure RepX (w : World) (d : Adr) (c : Cat) : Prop where
  cs : RepC w d.a0 d.k0 c.cs
  sm : SL w 4 d.a1 d.k1 (c.sm.map Pr.cells)
  pg : RepG w d.a2 d.k2 c.pg
  kl : SL w 4 d.a3 d.k3 (c.kl.map Kl.cells)
  fe : SL w 2 d.a4 d.k4 (c.fe.map Fe.cells)
  ho : SL w 4 d.a5 d.k5 (c.ho.map Kl.cells)
  cu : SL w 4 d.a6 d.k6 (c.cu.map Cu.cells)
theorem RepX.ext {w W : World} {d : Adr} {c : Cat} (h : RepX w d c) (hE : Ext w W) : RepX W d c := ⟨h.cs.ext hE, h.sm.ext hE, h.pg.ext hE, h.kl.ext hE, h.fe.ext hE, h.ho.ext hE, h.cu.ext hE⟩
/-- what bounds a catalogue -/
structure Cat.Ok (c : Cat) : Prop where
  n0 : c.cs.length ≤ 1000
  n1 : c.sm.length ≤ 1000
  n2 : c.pg.length ≤ 1000
  n3 : c.kl.length ≤ 1000
  n4 : c.fe.length ≤ 1000
  n5 : c.ho.length ≤ 1000
  rq : ∀ p ∈ c.pg, p.rq.length ≤ 1000 ∧ ∀ q ∈ p.rq, q.fr.length ≤ 1000
  ru : ∀ x ∈ c.cs, x.need.parts.length ≤ 100000 ∧ x.bar.parts.length ≤ 100000
  s0 : ∀ x ∈ c.cs, x.nm.size ≤ maxLen
  s2 : ∀ p ∈ c.pg, p.nm.size ≤ maxLen ∧ inI64 p.nu ∧ ∀ q ∈ p.rq, q.nm.size ≤ maxLen
  s3 : ∀ x ∈ c.kl, x.nm.size ≤ maxLen
  s4 : ∀ x ∈ c.fe, x.nm.size ≤ maxLen
  s5 : ∀ x ∈ c.ho, x.nm.size ≤ maxLen
/-- a partial map over a list -/
def travO {α β : Type} (f : α → Option β) : List α → Option (List β)
  | [] => some []
  | a :: l => (f a).bind fun b => (travO f l).map fun bs => b :: bs
theorem travO_len {α β : Type} {f : α → Option β} : ∀ {l : List α} {r : List β}, travO f l = some r → r.length = l.length := by
  intro l
  induction l with
  | nil => intro r h; cases h; rfl
  | cons a l ih =>
    intro r h
    rw [travO] at h
    cases e : f a with
    | none => rw [e] at h; cases h
    | some b =>
      rw [e] at h
      cases e2 : travO f l with
      | none => rw [e2] at h; cases h
      | some bs => rw [e2] at h; cases h; simp [ih e2]
theorem travO_snoc {α β : Type} {f : α → Option β} {l : List α} {a : α} {r : List β} {b : β} (h : travO f l = some r) (hb : f a = some b) : travO f (l ++ [a]) = some (r ++ [b]) := by
  induction l generalizing r with
  | nil => cases h; simp [travO, hb]
  | cons x l ih =>
    rw [travO] at h
    cases e : f x with
    | none => rw [e] at h; cases h
    | some y =>
      rw [e] at h
      cases e2 : travO f l with
      | none => rw [e2] at h; cases h
      | some bs => rw [e2] at h; cases h; rw [List.cons_append, travO, e, ih e2]; rfl
theorem travO_bad {α β : Type} {f : α → Option β} {l m : List α} {a : α} (ha : f a = none) : travO f (l ++ a :: m) = none := by
  induction l with
  | nil => rw [List.nil_append, travO, ha]; rfl
  | cons x l ih =>
    rw [List.cons_append, travO, ih]
    cases f x <;> rfl
def resC (l : List Cr) (c : Cr) : Option Cr := (c.need.res l).bind fun n => (c.bar.res l).map fun b => { c with need := n, bar := b }
def resP (l : List Cr) (p : Pr) : Option Pr := (numR l p.a p.x).bind fun x => (numR l p.b p.y).map fun y => { p with x := x, y := y }
def resQ (l : List Cr) (q : Rq) : Option Rq := (travO (fun x : ByteArray × Int => numR l x.1 x.2) (q.nms.zip q.fr)).map fun fr => { q with fr := fr }
def resG (l : List Cr) (p : Pg) : Option Pg := (travO (resQ l) p.rq).map fun rq => { p with rq := rq }
/-- the numbers of all references -/
def Cat.nums (c : Cat) : Option Cat := (travO (resC c.cs) c.cs).bind fun cs => (travO (resP c.cs) c.sm).bind fun sm => (travO (resG c.cs) c.pg).map fun pg => { c with cs := cs, sm := sm, pg := pg }
/-- some requirement's names are not as many as its numbers -/
def Cat.arg (c : Cat) : Bool := c.pg.any fun p => p.rq.any fun q => q.nms.length != q.fr.length
/-- nothing is defined twice -/
def Cat.once (c : Cat) : Prop := (c.cs.map Cr.nm).Nodup ∧ (c.cs.map Cr.nu).Nodup ∧ (c.pg.map Pg.nm).Nodup ∧ (c.pg.map Pg.nu).Nodup ∧ (∀ p ∈ c.pg, (p.rq.map Rq.nm).Nodup) ∧ (c.kl.map Kl.nm).Nodup ∧ (c.fe.map Fe.nm).Nodup ∧ (c.ho.map Kl.nm).Nodup
instance (c : Cat) : Decidable c.once := by unfold Cat.once; infer_instance
/-- what Resolve answers: an error, or a catalogue -/
def Cat.resN (c : Cat) : Int × Cat := if c.arg = true then (1, .empty) else if ¬ c.once then (111, .empty) else match c.nums with
  | none => (110, .empty)
  | some y => if (listedN c.cs).1.length < c.cs.length then (112, .empty) else (0, y)
theorem Cat.resN_arg {c : Cat} (h : c.arg = true) : c.resN = (1, .empty) := by unfold Cat.resN; rw [if_pos h]
theorem Cat.resN_twice {c : Cat} (h : c.arg = false) (h2 : ¬ c.once) : c.resN = (111, .empty) := by unfold Cat.resN; rw [if_neg (by rw [h]; simp), if_pos h2]
theorem Cat.resN_name {c : Cat} (h : c.arg = false) (h2 : c.once) (h3 : c.nums = none) : c.resN = (110, .empty) := by unfold Cat.resN; rw [if_neg (by rw [h]; simp), if_neg (by simpa using h2), h3]
theorem Cat.resN_cycle {c y : Cat} (h : c.arg = false) (h2 : c.once) (h3 : c.nums = some y) (h4 : (listedN c.cs).1.length < c.cs.length) : c.resN = (112, .empty) := by unfold Cat.resN; rw [if_neg (by rw [h]; simp), if_neg (by simpa using h2), h3]; simp only [if_pos h4]
theorem Cat.resN_ok {c y : Cat} (h : c.arg = false) (h2 : c.once) (h3 : c.nums = some y) (h4 : ¬ (listedN c.cs).1.length < c.cs.length) : c.resN = (0, y) := by unfold Cat.resN; rw [if_neg (by rw [h]; simp), if_neg (by simpa using h2), h3]; simp only [if_neg h4]
/-- what Resolve answers, in memory -/
def resPost (c : Cat) (w : World) : Ending → World → Prop := fun e w' => ∃ d, e = .returned (.tuple #[.agg (c.resN.2.cells d).toArray, .int .i64 c.resN.1]) ∧ RepX w' d c.resN.2 ∧ Ext w w'
def zero7 : List Value := [.slice none 0 0, .slice none 0 0, .slice none 0 0, .slice none 0 0, .slice none 0 0, .slice none 0 0, .slice none 0 0]
theorem RepC.nil (w : World) : RepC w none 0 [] := ⟨[], SL.empty _ _, rfl, fun i k c h => by simp at h⟩
theorem RepG.nil (w : World) : RepG w none 0 [] := ⟨[], SL.empty _ _, rfl, fun i k c h => by simp at h⟩
def Adr.nil : Adr := ⟨none, 0, none, 0, none, 0, none, 0, none, 0, none, 0, none, 0⟩
theorem RepX.nil (w : World) : RepX w Adr.nil Cat.empty := ⟨RepC.nil w, SL.empty _ _, RepG.nil w, SL.empty _ _, SL.empty _ _, SL.empty _ _, SL.empty _ _⟩
end Go.Sz
