/- Names: Resolve, the innermost loop: the numbers of a requirement. -/
import Derived.Test.YtimigpfoflilcaaYS
namespace Go.Sz
open Go.RowKit
/-- the numbers of a requirement -/
def resF (l : List Cr) (x : ByteArray × Int) : Option Int := numR l x.1 x.2
theorem resQ_eq (l : List Cr) (q : Rq) : resQ l q = (travO (resF l) (q.nms.zip q.fr)).map fun fr => { q with fr := fr } := rfl
theorem zip_at {α β : Type} {l : List α} {r : List β} {j : Nat} {x : α} {y : β} (hx : l[j]? = some x) (hy : r[j]? = some y) : (l.zip r)[j]? = some (x, y) := by
  rw [List.getElem?_zip_eq_some]
  exact ⟨hx, hy⟩
theorem nums_req {c : Cat} {m k : Nat} {p : Pg} {q : Rq} (hp : c.pg[m]? = some p) (hq : p.rq[k]? = some q) (h : resQ c.cs q = none) : c.nums = none := by
  unfold Cat.nums
  have h1 : resG c.cs p = none := by unfold resG; rw [trav_bad_at hq h]; rfl
  rw [trav_bad_at hp h1]
  cases travO (resC c.cs) c.cs with
  | none => rfl
  | some a => cases travO (resP c.cs) c.sm <;> rfl
end Go.Sz
namespace Go.Proofs.Ytimigpfoflilcaa
open Go.RowKit Go.Sz
/-- the first loop in a loop's body -/
def inL : Code → Code
  | .loop c => (loopsOf c).getD 0 .skip
  | _ => .skip
set_option maxRecDepth 1000000 in
set_option maxHeartbeats 6400000 in
theorem loopE8 (c : Cat) (d : Adr) (w W : World) (hX : RepX w d c) (hV : ResV W w.heap.size 29 32 (c.cells d)) (hE : Ext w W) (ha : c.arg = false) (ho : c.once) (mp kq : Nat) (p : Pg) (q : Rq) (hp : c.pg[mp]? = some p) (hq : p.rq[kq]? = some q) (hoq : okQ q = true) (na fa : Option Addr) (nc fc : Nat) (hn : SL w 1 na nc (srows q.nms)) (hf : SL w 1 fa fc (irows q.fr))
    (gQ nQ lC k Bq DF fC : Nat) (fA : Option Addr) (curQ : List Value) (hQ : Row W gQ 64 curQ) (hcq : curQ[k * 6 + 5]? = some (.slice fA q.fr.length fC)) (hkn : k < nQ) (hBq : Row W Bq 64 [Value.string q.nm, Value.int .i64 q.cr, Value.int .i64 q.gr, Value.bool q.ho, Value.slice na q.nms.length nc, Value.slice fa q.fr.length fc])
    (hO : W.ownsRow DF 3 1 (.slice fA q.fr.length fC) q.fr.length (irows q.fr).flatten) (hQD : gQ < DF) (hBD : Bq < DF) (hwD : w.heap.size + 3 ≤ DF) (x0 x4 x5 x6 x7 x8 x9 x10 x11 x12 x13 x14 x15 x19 x20 x21 x22 x23 x24 x25 x26 x27 x28 x29 x30 x31 x32 x33 x34 x35 x36 x37 x38 x39 x40 x41 x42 x43 x44 x45 x46 x47 x48 x49 x50 x51 x52 x53 x54 x55 x56 x57 x58 x59 x60 x61 x62 x63 x64 x65 x66 x67 x68 x69 x70 x71 x72 x73 x74 x75 x76 x77 x78 x79 x80 x81 x82 x83 x84 x85 x86 x87 x88 x89 x90 x91 x92 x93 x94 x95 x96 x97 x98 x99 x100 x101 x102 x103 x104 x105 x106 x107 x108 x109 x110 x111 x112 x113 x114 x115 x116 x117 x118 x119 x120 x121 x122 x123 x124 x125 x126 x127 x128 x129 x130 x131 x132 x133 x134 x135 x136 x137 x138 x139 x140 x141 x142 x143 x144 x145 x146 x147 x148 x149 x150 x151 x152 x153 x154 x155 x156 x157 x158 x159 x160 x161 x162 x163 x164 x165 x166 x167 x168 x169 x170 x171 x172 x173 x174 x175 x176 x177 x178 x179 x180 x181 x182 x186 x187 x188 x189 x190 x191 x192 x193 x194 x195 x196 x197 x198 x199 x200 x201 x202 x203 x204 x205 x206 x207 x208 x209 x210 x211 x212 x213 x214 x215 x216 x217 x218 x219 x220 x221 x222 x223 : Value) :
    Code.wp Try.prog (inL (inL (lpR 4))) (lpQ 14 c d w fun a V => ∃ y19 y20 y185 y186 y187 y188 y189 y190 y191 y192 y193 y194 y195 y196 y197 y198 y199 y200 y201 y202 y203 y204 y205 : Value, a = { tmps := (x0 :: (.pointer (some ⟨w.heap.size, 0, none⟩)) :: (.pointer (some ⟨w.heap.size + 1, 0, none⟩)) :: (.pointer (some ⟨w.heap.size + 2, 0, none⟩)) :: x4 :: x5 :: x6 :: x7 :: x8 :: x9 :: x10 :: x11 :: x12 :: x13 :: x14 :: x15 :: (.slice (some ⟨gQ, 0, none⟩) nQ lC) :: (.int .i64 k) :: (.pointer (some ⟨Bq, 0, none⟩)) :: y19 :: y20 :: x21 :: x22 :: x23 :: x24 :: x25 :: x26 :: x27 :: x28 :: x29 :: x30 :: x31 :: x32 :: x33 :: x34 :: x35 :: x36 :: x37 :: x38 :: x39 :: x40 :: x41 :: x42 :: x43 :: x44 :: x45 :: x46 :: x47 :: x48 :: x49 :: x50 :: x51 :: x52 :: x53 :: x54 :: x55 :: x56 :: x57 :: x58 :: x59 :: x60 :: x61 :: x62 :: x63 :: x64 :: x65 :: x66 :: x67 :: x68 :: x69 :: x70 :: x71 :: x72 :: x73 :: x74 :: x75 :: x76 :: x77 :: x78 :: x79 :: x80 :: x81 :: x82 :: x83 :: x84 :: x85 :: x86 :: x87 :: x88 :: x89 :: x90 :: x91 :: x92 :: x93 :: x94 :: x95 :: x96 :: x97 :: x98 :: x99 :: x100 :: x101 :: x102 :: x103 :: x104 :: x105 :: x106 :: x107 :: x108 :: x109 :: x110 :: x111 :: x112 :: x113 :: x114 :: x115 :: x116 :: x117 :: x118 :: x119 :: x120 :: x121 :: x122 :: x123 :: x124 :: x125 :: x126 :: x127 :: x128 :: x129 :: x130 :: x131 :: x132 :: x133 :: x134 :: x135 :: x136 :: x137 :: x138 :: x139 :: x140 :: x141 :: x142 :: x143 :: x144 :: x145 :: x146 :: x147 :: x148 :: x149 :: x150 :: x151 :: x152 :: x153 :: x154 :: x155 :: x156 :: x157 :: x158 :: x159 :: x160 :: x161 :: x162 :: x163 :: x164 :: x165 :: x166 :: x167 :: x168 :: x169 :: x170 :: x171 :: x172 :: x173 :: x174 :: x175 :: x176 :: x177 :: x178 :: x179 :: x180 :: x181 :: x182 :: (.slice na q.nms.length nc) :: (.int .i64 q.nms.length) :: y185 :: y186 :: y187 :: y188 :: y189 :: y190 :: y191 :: y192 :: y193 :: y194 :: y195 :: y196 :: y197 :: y198 :: y199 :: y200 :: y201 :: y202 :: y203 :: y204 :: y205 :: x206 :: x207 :: x208 :: x209 :: x210 :: x211 :: x212 :: x213 :: x214 :: x215 :: x216 :: x217 :: x218 :: x219 :: x220 :: x221 :: x222 :: x223 :: []).toArray, defers := dfR w.heap.size } ∧ ResV V w.heap.size 29 32 (c.cells d) ∧ Ext w V ∧ KpB fA W V ∧ ∃ ns : List Int, travO (resF c.cs) (q.nms.zip q.fr) = some ns ∧ V.ownsRow DF 3 1 (.slice fA q.fr.length fC) q.fr.length (irows ns).flatten) { tmps := (x0 :: (.pointer (some ⟨w.heap.size, 0, none⟩)) :: (.pointer (some ⟨w.heap.size + 1, 0, none⟩)) :: (.pointer (some ⟨w.heap.size + 2, 0, none⟩)) :: x4 :: x5 :: x6 :: x7 :: x8 :: x9 :: x10 :: x11 :: x12 :: x13 :: x14 :: x15 :: (.slice (some ⟨gQ, 0, none⟩) nQ lC) :: (.int .i64 k) :: (.pointer (some ⟨Bq, 0, none⟩)) :: x19 :: x20 :: x21 :: x22 :: x23 :: x24 :: x25 :: x26 :: x27 :: x28 :: x29 :: x30 :: x31 :: x32 :: x33 :: x34 :: x35 :: x36 :: x37 :: x38 :: x39 :: x40 :: x41 :: x42 :: x43 :: x44 :: x45 :: x46 :: x47 :: x48 :: x49 :: x50 :: x51 :: x52 :: x53 :: x54 :: x55 :: x56 :: x57 :: x58 :: x59 :: x60 :: x61 :: x62 :: x63 :: x64 :: x65 :: x66 :: x67 :: x68 :: x69 :: x70 :: x71 :: x72 :: x73 :: x74 :: x75 :: x76 :: x77 :: x78 :: x79 :: x80 :: x81 :: x82 :: x83 :: x84 :: x85 :: x86 :: x87 :: x88 :: x89 :: x90 :: x91 :: x92 :: x93 :: x94 :: x95 :: x96 :: x97 :: x98 :: x99 :: x100 :: x101 :: x102 :: x103 :: x104 :: x105 :: x106 :: x107 :: x108 :: x109 :: x110 :: x111 :: x112 :: x113 :: x114 :: x115 :: x116 :: x117 :: x118 :: x119 :: x120 :: x121 :: x122 :: x123 :: x124 :: x125 :: x126 :: x127 :: x128 :: x129 :: x130 :: x131 :: x132 :: x133 :: x134 :: x135 :: x136 :: x137 :: x138 :: x139 :: x140 :: x141 :: x142 :: x143 :: x144 :: x145 :: x146 :: x147 :: x148 :: x149 :: x150 :: x151 :: x152 :: x153 :: x154 :: x155 :: x156 :: x157 :: x158 :: x159 :: x160 :: x161 :: x162 :: x163 :: x164 :: x165 :: x166 :: x167 :: x168 :: x169 :: x170 :: x171 :: x172 :: x173 :: x174 :: x175 :: x176 :: x177 :: x178 :: x179 :: x180 :: x181 :: x182 :: (.slice na q.nms.length nc) :: (.int .i64 q.nms.length) :: (.int .i64 0) :: x186 :: x187 :: x188 :: x189 :: x190 :: x191 :: x192 :: x193 :: x194 :: x195 :: x196 :: x197 :: x198 :: x199 :: x200 :: x201 :: x202 :: x203 :: x204 :: x205 :: x206 :: x207 :: x208 :: x209 :: x210 :: x211 :: x212 :: x213 :: x214 :: x215 :: x216 :: x217 :: x218 :: x219 :: x220 :: x221 :: x222 :: x223 :: []).toArray, defers := dfR w.heap.size } W := by
  conv => arg 2; whnf
  have HX := Lib.hid hX
  have HA := Lib.hid ha
  have HON := Lib.hid ho
  have HPM := Lib.hid hp
  have HQM := Lib.hid hq
  have HQD := Lib.hid hQD
  have HBD := Lib.hid hBD
  have HWD := Lib.hid hwD
  have HV0 := Lib.hid hV
  have HE0 := Lib.hid hE
  have HQ0 := Lib.hid hQ
  have HB0 := Lib.hid hBq
  have HO0 := Lib.hid hO
  have HCQ := Lib.hid hcq
  have HN := Lib.hid hn
  have HF := Lib.hid hf
  have HLE : Hid (q.nms.length = q.fr.length) := Lib.hid (by unfold okQ at hoq; simpa using hoq)
  have hs1 : (q.nms.length : Int) ≤ 9223372036854775807 := srows_max hn
  have hs2 : (q.fr.length : Int) ≤ 9223372036854775807 := irows_max hf
  have hkni : (k : Int) < (nQ : Int) := by omega
  clear hX hV hE ha ho hp hq hQD hBD hwD hQ hBq hO hcq hn hf hoq
  go_loopw [185] (fun iv wr => ∃ (j : Nat) (ns : List Int), iv = .int .i64 j ∧ j ≤ q.nms.length ∧ ResV wr w.heap.size 29 32 (c.cells d) ∧ Ext w wr ∧ KpB fA W wr ∧ wr.ownsRow DF 3 1 (.slice fA q.fr.length fC) q.fr.length (irows ns ++ (irows q.fr).drop j).flatten ∧
      (travO (resF c.cs) ((q.nms.zip q.fr).take j) = some ns ∧ ns.length = j)) (fun iv _ => q.nms.length - (intOf iv).toNat)
  case atStart => exact ⟨0, [], rfl, by omega, HV0.out, HE0.out, (KpC.refl _).kpB, by simpa [irows] using HO0.out, by rw [List.take_zero]; rfl, rfl⟩
  case round =>
    obtain ⟨j, ns, rfl, hm, hV, hE, hB, hO, hP⟩ := hrel
    have HV1 := Lib.hid hV
    have HE1 := Lib.hid hE
    have HB1 := Lib.hid hB
    have HO1 := Lib.hid hO
    have HP1 := Lib.hid hP
    clear hV hE hB hO hP
    by_cases hlt : j < q.nms.length
    · have hki : (j : Int) < (q.nms.length : Int) := by omega
      have hlf : j < q.fr.length := by have := HLE.out; omega
      have hkf : (j : Int) < (q.fr.length : Int) := by omega
      obtain ⟨nm, hnm⟩ : ∃ nm, q.nms[j]? = some nm := ⟨_, List.getElem?_eq_getElem hlt⟩
      obtain ⟨f, hff⟩ : ∃ f, q.fr[j]? = some f := ⟨_, List.getElem?_eq_getElem hlf⟩
      have hzip := zip_at hnm hff
      obtain ⟨bN, oN, rfl, hcn⟩ := s_at HN.out HE1.out hnm
      obtain ⟨bF, oF, rfl, hcf⟩ := irows_cell (i := j) HF.out (Ext.refl _) hlf
      rw [(List.getElem?_eq_some_iff.1 hff).2] at hcf
      obtain ⟨g, cap', rest, ev, hgD, hrow, hgc, hgm, hgl⟩ := Row.of_own HO1.out (by omega)
      cases ev
      have hcq := HCQ.out
      have hil : (irows ns).length = j := by unfold irows; rw [List.length_map]; exact HP1.out.2
      have hcc : (irows q.fr)[j]? = some [.int .i64 f] := by unfold irows; rw [List.getElem?_map, hff]; rfl
      have hwd : ∀ r ∈ irows ns ++ (irows q.fr).drop j, r.length = 1 := fun r hr => by
        rcases List.mem_append.1 hr with hr | hr
        · exact irows_wid _ r hr
        · exact irows_wid _ r (List.mem_of_mem_drop hr)
      have hmid : (irows ns ++ (irows q.fr).drop j)[j]? = some [.int .i64 f] := by
        rw [List.getElem?_append_right (by rw [hil]; exact Nat.le_refl _), hil, Nat.sub_self, List.getElem?_drop]
        exact hcc
      have HNU1 : Hid (∀ W, Ext w W → Calls Try.prog 48 #[.agg #[Value.slice d.a0 c.cs.length d.k0, Value.slice d.a1 c.sm.length d.k1, Value.slice d.a2 c.pg.length d.k2, Value.slice d.a3 c.kl.length d.k3, Value.slice d.a4 c.fe.length d.k4, Value.slice d.a5 c.ho.length d.k5, Value.slice d.a6 c.cu.length d.k6], .string nm, .int .i64 f] W (numPost (numR c.cs nm f) W)) := Lib.hid fun W hE => number_any c.cs nm f d.a0 d.k0 _ _ _ _ _ _ W (HX.out.cs.ext hE)
      have HCELL : Hid (∀ W, (Ext w W ∧ ResV W w.heap.size 29 32 (c.cells d) ∧ Row W gQ 64 curQ ∧ Row W Bq 64 [Value.string q.nm, Value.int .i64 q.cr, Value.int .i64 q.gr, Value.bool q.ho, Value.slice (some ⟨bN, oN, none⟩) q.nms.length nc, Value.slice (some ⟨bF, oF, none⟩) q.fr.length fc]) → W.cell? ⟨w.heap.size, 0, none⟩ = some (.slice d.a0 c.cs.length d.k0) ∧ W.cell? ⟨w.heap.size, 1, none⟩ = some (.slice d.a1 c.sm.length d.k1) ∧ W.cell? ⟨w.heap.size, 2, none⟩ = some (.slice d.a2 c.pg.length d.k2) ∧ W.cell? ⟨w.heap.size, 3, none⟩ = some (.slice d.a3 c.kl.length d.k3) ∧ W.cell? ⟨w.heap.size, 4, none⟩ = some (.slice d.a4 c.fe.length d.k4) ∧ W.cell? ⟨w.heap.size, 5, none⟩ = some (.slice d.a5 c.ho.length d.k5) ∧ W.cell? ⟨w.heap.size, 6, none⟩ = some (.slice d.a6 c.cu.length d.k6) ∧ W.cell? ⟨gQ, k * 6 + 5, none⟩ = some (.slice (some ⟨g, 0, none⟩) q.fr.length fC) ∧ W.cell? ⟨Bq, 5, none⟩ = some (.slice (some ⟨bF, oF, none⟩) q.fr.length fc) ∧ W.cell? ⟨bF, oF + j, none⟩ = some (.int .i64 f)) := Lib.hid fun W h => ⟨h.2.1.1.cell rfl, h.2.1.1.cell rfl, h.2.1.1.cell rfl, h.2.1.1.cell rfl, h.2.1.1.cell rfl, h.2.1.1.cell rfl, h.2.1.1.cell rfl, h.2.2.1.cell hcq, h.2.2.2.cell rfl, h.1.cell hcf⟩
      have hgQ : gQ ≠ g := by have := HQD.out; omega
      have hgB : Bq ≠ g := by have := HBD.out; omega
      have hg3 : w.heap.size + 2 < g := by have := HWD.out; omega
      have hne : ∀ B, B ≠ g → ∀ a, some (⟨g, 0, none⟩ : Addr) = some a → B ≠ a.block := fun B h a e => by cases e; exact h
      have HQ1 : Hid (Row wr gQ 64 curQ) := Lib.hid (HB1.out.2 _ _ (hne _ hgQ) HQ0.out rfl)
      have HBQ1 : Hid (Row wr Bq 64 [Value.string q.nm, Value.int .i64 q.cr, Value.int .i64 q.gr, Value.bool q.ho, Value.slice (some ⟨bN, oN, none⟩) q.nms.length nc, Value.slice (some ⟨bF, oF, none⟩) q.fr.length fc]) := Lib.hid (HB1.out.2 _ _ (hne _ hgB) HB0.out rfl)
      have HROW := Lib.hid hrow
      have HWDT := Lib.hid hwd
      have HMID := Lib.hid hmid
      have HGD := Lib.hid (And.intro hgD (And.intro hgl (And.intro hgc hgm)))
      have HIL := Lib.hid hil
      have HCC := Lib.hid hcc
      have HZ := Lib.hid hzip
      have HGN := Lib.hid (And.intro hgQ (And.intro hgB hg3))
      clear hrow hwd hmid hgD hgl hgc hgm hcc hil hzip hcq hcf hne hgQ hgB hg3 hnm hff
      go_wp2_with fail
      clear hcn
      have hHeld0 : Ext w wr.drew ∧ ResV wr.drew w.heap.size 29 32 (c.cells d) ∧ Row wr.drew gQ 64 curQ ∧ Row wr.drew Bq 64 [Value.string q.nm, Value.int .i64 q.cr, Value.int .i64 q.gr, Value.bool q.ho, Value.slice (some ⟨bN, oN, none⟩) q.nms.length nc, Value.slice (some ⟨bF, oF, none⟩) q.fr.length fc] := ⟨HE1.out.trans (Ext.refl _).drew, HV1.out.kpC (Ext.refl _).drew.kpC, HQ1.out.kpC (Ext.refl _).drew.kpC, HBQ1.out.kpC (Ext.refl _).drew.kpC⟩
      refine wp_region_held_drew (S := fun W => Ext w W ∧ ResV W w.heap.size 29 32 (c.cells d) ∧ Row W gQ 64 curQ ∧ Row W Bq 64 [Value.string q.nm, Value.int .i64 q.cr, Value.int .i64 q.gr, Value.bool q.ho, Value.slice (some ⟨bN, oN, none⟩) q.nms.length nc, Value.slice (some ⟨bF, oF, none⟩) q.fr.length fc]) (by kernel_rfl) hHeld0 (fun hHeld => ?_)
      clear hHeld0
      refine wpAnyH_take (i := 0) (oi := ?oi69) (v := ?v69) ?hi69 (by kernel_rfl) (by kernel_rfl) (by kernel_rfl) ?hQ69 (Or.inl ⟨?hw69, ?hy69⟩) hHeld ?rest69
      case hi69 =>
        simp only [List.getElem?_toArray, List.getElem?_cons_zero] <;> rfl
      case hQ69 => exact fun _ _ _ h => ResD.put (by decide) (by decide) h
      case hw69 => rfl
      case hy69 =>
        intro wS hSw
        obtain ⟨k0, k1, k2, k3, k4, k5, k6, y5, e5, f0⟩ := HCELL.out wS hSw
        go_simp
        first | done | with_reducible rfl | rfl
      simp only [Act.put, List.setIfInBounds_toArray, List.set_cons_zero, List.set_cons_succ]
      refine wpAnyH_take (i := 1) (oi := ?oi70) (v := ?v70) ?hi70 (by kernel_rfl) (by kernel_rfl) (by kernel_rfl) ?hQ70 (Or.inl ⟨?hw70, ?hy70⟩) hHeld ?rest70
      case hi70 =>
        simp only [List.getElem?_toArray, List.getElem?_cons_succ, List.getElem?_cons_zero] <;> rfl
      case hQ70 => exact fun _ _ _ h => ResD.put (by decide) (by decide) h
      case hw70 => rfl
      case hy70 =>
        intro wS hSw
        obtain ⟨k0, k1, k2, k3, k4, k5, k6, y5, e5, f0⟩ := HCELL.out wS hSw
        go_simp
        first | done | with_reducible rfl | rfl
      simp only [Act.put, List.setIfInBounds_toArray, List.set_cons_zero, List.set_cons_succ]
      refine wpAnyH_take (i := 2) (oi := ?oi71) (v := ?v71) ?hi71 (by kernel_rfl) (by kernel_rfl) (by kernel_rfl) ?hQ71 (Or.inl ⟨?hw71, ?hy71⟩) hHeld ?rest71
      case hi71 =>
        simp only [List.getElem?_toArray, List.getElem?_cons_succ, List.getElem?_cons_zero] <;> rfl
      case hQ71 => exact fun _ _ _ h => ResD.put (by decide) (by decide) h
      case hw71 => rfl
      case hy71 =>
        intro wS hSw
        obtain ⟨k0, k1, k2, k3, k4, k5, k6, y5, e5, f0⟩ := HCELL.out wS hSw
        go_simp
        first | done | with_reducible rfl | rfl
      simp only [Act.put, List.setIfInBounds_toArray, List.set_cons_zero, List.set_cons_succ]
      refine wpAnyH_take (i := 3) (oi := ?oi72) (v := ?v72) ?hi72 (by kernel_rfl) (by kernel_rfl) (by kernel_rfl) ?hQ72 (Or.inl ⟨?hw72, ?hy72⟩) hHeld ?rest72
      case hi72 =>
        simp only [List.getElem?_toArray, List.getElem?_cons_succ, List.getElem?_cons_zero] <;> rfl
      case hQ72 => exact fun _ _ _ h => ResD.put (by decide) (by decide) h
      case hw72 => rfl
      case hy72 =>
        intro wS hSw
        obtain ⟨k0, k1, k2, k3, k4, k5, k6, y5, e5, f0⟩ := HCELL.out wS hSw
        go_simp
        first | done | with_reducible rfl | rfl
      simp only [Act.put, List.setIfInBounds_toArray, List.set_cons_zero, List.set_cons_succ]
      refine wpAnyH_take (i := 4) (oi := ?oi73) (v := ?v73) ?hi73 (by kernel_rfl) (by kernel_rfl) (by kernel_rfl) ?hQ73 (Or.inl ⟨?hw73, ?hy73⟩) hHeld ?rest73
      case hi73 =>
        simp only [List.getElem?_toArray, List.getElem?_cons_succ, List.getElem?_cons_zero] <;> rfl
      case hQ73 => exact fun _ _ _ h => ResD.put (by decide) (by decide) h
      case hw73 => rfl
      case hy73 =>
        intro wS hSw
        obtain ⟨k0, k1, k2, k3, k4, k5, k6, y5, e5, f0⟩ := HCELL.out wS hSw
        go_simp
        first | done | with_reducible rfl | rfl
      simp only [Act.put, List.setIfInBounds_toArray, List.set_cons_zero, List.set_cons_succ]
      refine wpAnyH_take (i := 5) (oi := ?oi74) (v := ?v74) ?hi74 (by kernel_rfl) (by kernel_rfl) (by kernel_rfl) ?hQ74 (Or.inl ⟨?hw74, ?hy74⟩) hHeld ?rest74
      case hi74 =>
        simp only [List.getElem?_toArray, List.getElem?_cons_succ, List.getElem?_cons_zero] <;> rfl
      case hQ74 => exact fun _ _ _ h => ResD.put (by decide) (by decide) h
      case hw74 => rfl
      case hy74 =>
        intro wS hSw
        obtain ⟨k0, k1, k2, k3, k4, k5, k6, y5, e5, f0⟩ := HCELL.out wS hSw
        go_simp
        first | done | with_reducible rfl | rfl
      simp only [Act.put, List.setIfInBounds_toArray, List.set_cons_zero, List.set_cons_succ]
      refine wpAnyH_take (i := 6) (oi := ?oi75) (v := ?v75) ?hi75 (by kernel_rfl) (by kernel_rfl) (by kernel_rfl) ?hQ75 (Or.inl ⟨?hw75, ?hy75⟩) hHeld ?rest75
      case hi75 =>
        simp only [List.getElem?_toArray, List.getElem?_cons_succ, List.getElem?_cons_zero] <;> rfl
      case hQ75 => exact fun _ _ _ h => ResD.put (by decide) (by decide) h
      case hw75 => rfl
      case hy75 =>
        intro wS hSw
        obtain ⟨k0, k1, k2, k3, k4, k5, k6, y5, e5, f0⟩ := HCELL.out wS hSw
        go_simp
        first | done | with_reducible rfl | rfl
      simp only [Act.put, List.setIfInBounds_toArray, List.set_cons_zero, List.set_cons_succ]
      refine wpAnyH_take (i := 7) (oi := ?oi76) (v := ?v76) ?hi76 (by kernel_rfl) (by kernel_rfl) (by kernel_rfl) ?hQ76 (Or.inl ⟨?hw76, ?hy76⟩) hHeld ?rest76
      case hi76 =>
        simp only [List.getElem?_toArray, List.getElem?_cons_succ, List.getElem?_cons_zero] <;> rfl
      case hQ76 => exact fun _ _ _ h => ResD.put (by decide) (by decide) h
      case hw76 => rfl
      case hy76 =>
        intro wS hSw
        obtain ⟨k0, k1, k2, k3, k4, k5, k6, y5, e5, f0⟩ := HCELL.out wS hSw
        go_simp
        first | done | with_reducible rfl | rfl
      simp only [Act.put, List.setIfInBounds_toArray, List.set_cons_zero, List.set_cons_succ]
      refine wpAnyH_take (i := 8) (oi := ?oi77) (v := ?v77) ?hi77 (by kernel_rfl) (by kernel_rfl) (by kernel_rfl) ?hQ77 (Or.inl ⟨?hw77, ?hy77⟩) hHeld ?rest77
      case hi77 =>
        simp only [List.getElem?_toArray, List.getElem?_cons_succ, List.getElem?_cons_zero] <;> rfl
      case hQ77 => exact fun _ _ _ h => ResD.put (by decide) (by decide) h
      case hw77 => rfl
      case hy77 =>
        intro wS hSw
        obtain ⟨k0, k1, k2, k3, k4, k5, k6, y5, e5, f0⟩ := HCELL.out wS hSw
        go_simp
        first | done | with_reducible rfl | rfl
      simp only [Act.put, List.setIfInBounds_toArray, List.set_cons_zero, List.set_cons_succ]
      refine wpAnyH_take (i := 9) (oi := ?oi78) (v := ?v78) ?hi78 (by kernel_rfl) (by kernel_rfl) (by kernel_rfl) ?hQ78 (Or.inl ⟨?hw78, ?hy78⟩) hHeld ?rest78
      case hi78 =>
        simp only [List.getElem?_toArray, List.getElem?_cons_succ, List.getElem?_cons_zero] <;> rfl
      case hQ78 => exact fun _ _ _ h => ResD.put (by decide) (by decide) h
      case hw78 => rfl
      case hy78 =>
        intro wS hSw
        obtain ⟨k0, k1, k2, k3, k4, k5, k6, y5, e5, f0⟩ := HCELL.out wS hSw
        go_simp
        first | done | with_reducible rfl | rfl
      simp only [Act.put, List.setIfInBounds_toArray, List.set_cons_zero, List.set_cons_succ]
      refine wpAnyH_take (i := 10) (oi := ?oi79) (v := ?v79) ?hi79 (by kernel_rfl) (by kernel_rfl) (by kernel_rfl) ?hQ79 (Or.inl ⟨?hw79, ?hy79⟩) hHeld ?rest79
      case hi79 =>
        simp only [List.getElem?_toArray, List.getElem?_cons_succ, List.getElem?_cons_zero] <;> rfl
      case hQ79 => exact fun _ _ _ h => ResD.put (by decide) (by decide) h
      case hw79 => rfl
      case hy79 =>
        intro wS hSw
        obtain ⟨k0, k1, k2, k3, k4, k5, k6, y5, e5, f0⟩ := HCELL.out wS hSw
        go_simp
        first | done | with_reducible rfl | rfl
      simp only [Act.put, List.setIfInBounds_toArray, List.set_cons_zero, List.set_cons_succ]
      refine wpAnyH_take (i := 11) (oi := ?oi80) (v := ?v80) ?hi80 (by kernel_rfl) (by kernel_rfl) (by kernel_rfl) ?hQ80 (Or.inl ⟨?hw80, ?hy80⟩) hHeld ?rest80
      case hi80 =>
        simp only [List.getElem?_toArray, List.getElem?_cons_succ, List.getElem?_cons_zero] <;> rfl
      case hQ80 => exact fun _ _ _ h => ResD.put (by decide) (by decide) h
      case hw80 => rfl
      case hy80 =>
        intro wS hSw
        obtain ⟨k0, k1, k2, k3, k4, k5, k6, y5, e5, f0⟩ := HCELL.out wS hSw
        go_simp
        first | done | with_reducible rfl | rfl
      simp only [Act.put, List.setIfInBounds_toArray, List.set_cons_zero, List.set_cons_succ]
      refine wpAnyH_take (i := 12) (oi := ?oi81) (v := ?v81) ?hi81 (by kernel_rfl) (by kernel_rfl) (by kernel_rfl) ?hQ81 (Or.inl ⟨?hw81, ?hy81⟩) hHeld ?rest81
      case hi81 =>
        simp only [List.getElem?_toArray, List.getElem?_cons_succ, List.getElem?_cons_zero] <;> rfl
      case hQ81 => exact fun _ _ _ h => ResD.put (by decide) (by decide) h
      case hw81 => rfl
      case hy81 =>
        intro wS hSw
        obtain ⟨k0, k1, k2, k3, k4, k5, k6, y5, e5, f0⟩ := HCELL.out wS hSw
        go_simp
        first | done | with_reducible rfl | rfl
      simp only [Act.put, List.setIfInBounds_toArray, List.set_cons_zero, List.set_cons_succ]
      cases hnn : numR c.cs nm f with
      | none =>
        refine wpAnyH_ready (rs := [13]) (by kernel_rfl) (by simp) ?_
        refine AllReadyH.cons rfl (fun K hK => ?_) AllReadyH.nil
        go_simp
        go_at_call 48
        refine (HNU1.out _ hHeld.1).mono ?_
        rw [hnn]
        rintro e w9 ⟨rfl, hE9⟩
        exact ⟨rfl, rfl, rfl, _, rfl, Cat.resN_name HA.out HON.out (nums_req HPM.out HQM.out (by rw [resQ_eq, trav_bad_at HZ.out (show resF c.cs (nm, f) = none from hnn)]; rfl)), hHeld.2.1.kpC hE9.kpC, hHeld.1.trans hE9⟩
      | some nx =>
        refine wpAnyH_ready (rs := [13]) (by kernel_rfl) (by simp) ?_
        refine AllReadyH.cons rfl (fun K hK => ?_) AllReadyH.nil
        go_simp
        go_at_call 48
        refine (HNU1.out _ hHeld.1).mono ?_
        rw [hnn]
        have HNN := Lib.hid hnn
        clear hnn
        rintro e w9 ⟨rfl, hE9⟩
        refine hK.out _ _ ⟨hHeld.1.trans hE9, hHeld.2.1.kpC hE9.kpC, hHeld.2.2.1.kpC hE9.kpC, hHeld.2.2.2.kpC hE9.kpC⟩ (fun hHeld => ?_)
        clear hK K
        have HE9 := Lib.hid ((Ext.refl wr).drew.trans hE9)
        have HROW9 := Lib.hid (HROW.out.kpC ((Ext.refl wr).drew.trans hE9).kpC)
        clear hE9
        try simp only [Act.put]
        refine wpAnyH_take (i := 14) (oi := ?oi82) (v := ?v82) ?hi82 (by kernel_rfl) (by kernel_rfl) (by kernel_rfl) ?hQ82 (Or.inl ⟨?hw82, ?hy82⟩) hHeld ?rest82
        case hi82 =>
          simp only [List.getElem?_toArray, List.getElem?_cons_succ, List.getElem?_cons_zero] <;> rfl
        case hQ82 => exact fun _ _ _ h => ResD.put (by decide) (by decide) h
        case hw82 => rfl
        case hy82 =>
          intro wS hSw
          obtain ⟨k0, k1, k2, k3, k4, k5, k6, y5, e5, f0⟩ := HCELL.out wS hSw
          go_simp
          first | done | with_reducible rfl | rfl
        simp only [Act.put, List.setIfInBounds_toArray, List.set_cons_zero, List.set_cons_succ]
        have hbd : j + 1 ≤ ((irows ns ++ (irows q.fr).drop j).flatten ++ rest).length := by
          have h1 := HGD.out.2.1
          have h2 := HGD.out.2.2.1
          rw [h1]
          omega
        have hsl := (HROW9.out.there (o := j) (n := 1) (by omega))
        obtain ⟨o2, ho2⟩ := Option.isSome_iff_exists.1 (hsl 0 (by omega)).1
        have z2 := HROW9.out.froz j
        rw [Nat.add_zero] at ho2
        refine wpAnyH_ready (rs := [15]) (by kernel_rfl) (by simp) ?_
        refine AllReadyH.cons rfl (fun K hK => ?_) AllReadyH.nil
        go_simp
        have hgr1 := setCell_grown w9 g j (.int .i64 nx)
        have hRowA := HROW9.out.put (o := j) (.int .i64 nx) (by omega)
        have hfs := flat_set (k := 1) (j := 0) (rest := rest) (vs := [Value.int .i64 nx]) (by simp) _ j _ HMID.out HWDT.out
        simp only [Nat.mul_one, Nat.add_zero, List.length_singleton] at hfs
        rw [hfs, drop_at HCC.out, set_mid HIL.out] at hRowA
        replace hRowA : Row (w9.setCell ⟨g, j, none⟩ (.int .i64 nx)) g 3 ((irows ns ++ [[Value.int .i64 nx]] ++ (irows q.fr).drop (j + 1)).flatten ++ rest) := hRowA
        refine hK.out _ _ ⟨Below.grown hHeld.1 hgr1 hHeld.1.size (fun x hx => by cases hx; have := HGN.out.2.2; omega), hHeld.2.1.kpE (grown_kpE hgr1) HGN.out.2.2, hHeld.2.2.1.kpE (grown_kpE hgr1) HGN.out.1, hHeld.2.2.2.kpE (grown_kpE hgr1) HGN.out.2.1⟩ (fun hHeld => ?_)
        clear hK K ho2 z2 hsl hfs
        have HFIN := Lib.hid (And.intro hHeld (And.intro (grown_kpE hgr1) hRowA))
        clear hRowA hgr1 hHeld hbd
        generalize w9.setCell ⟨g, j, none⟩ (.int .i64 nx) = w10 at *
        try simp only [Act.put]
        refine wpAnyH_done (by kernel_rfl) ?_ _
        go_wp2_with fail
        go_roundw
        case rel =>
          refine ⟨j + 1, ns ++ [nx], by go_num, by omega, HFIN.out.1.2.1, HFIN.out.1.1, ?_, ?_, ?_, ?_⟩
          · exact (HB1.out.trans HE9.out.kpC.kpB).trans (KpE.kpB (a := ⟨g, 0, none⟩) HFIN.out.2.1)
          · have e : irows (ns ++ [nx]) = irows ns ++ [[Value.int .i64 nx]] := by unfold irows; rw [List.map_append]; rfl
            have hwf : ∀ r ∈ irows ns ++ [[Value.int .i64 nx]] ++ (irows q.fr).drop (j + 1), r.length = 1 := fun r hr => by
              rcases List.mem_append.1 hr with hr | hr
              · rcases List.mem_append.1 hr with hr | hr
                · exact irows_wid _ r hr
                · obtain rfl := List.mem_singleton.1 hr; rfl
              · exact irows_wid _ r (List.mem_of_mem_drop hr)
            have hfl : (irows q.fr).length = q.fr.length := List.length_map _
            rw [e]
            refine HFIN.out.2.2.own hwf ?_ HGD.out.2.2.1 HGD.out.2.2.2 ?_ HGD.out.1
            · rw [List.length_append, List.length_append, HIL.out, List.length_drop, hfl, List.length_singleton]; omega
            · have h1 := HGD.out.2.1
              rw [← h1, List.length_append, List.length_append]
              congr 1
              rw [flat_len _ HWDT.out, flat_len (size := 1) _ hwf]
              simp only [List.length_append, List.length_drop, HIL.out, hfl, List.length_singleton]
              omega
          · rw [take_snoc' HZ.out]
            exact travO_snoc HP1.out.1 HNN.out
          · rw [List.length_append, HP1.out.2]; rfl
        case measure => simp [intOf] <;> omega
    · have hki : ¬ (j : Int) < (q.nms.length : Int) := by omega
      obtain rfl : j = q.nms.length := by omega
      have hfl : (irows q.fr).length = q.fr.length := List.length_map _
      rw [List.drop_of_length_le (by rw [hfl, HLE.out]; exact Nat.le_refl _), List.append_nil] at HO1
      rw [List.take_of_length_le (by rw [List.length_zip]; exact Nat.min_le_left _ _)] at HP1
      clear hfl
      go_wp2_with fail
      exact ⟨rfl, ⟨_, _, _, _, _, _, _, _, _, _, _, _, _, _, _, _, _, _, _, _, _, _, _, rfl⟩, HV1.out, HE1.out, HB1.out, ns, HP1.out.1, HO1.out⟩
end Go.Proofs.Ytimigpfoflilcaa
