/- Names: what the examples compute. -/
import Derived.Test.YtimigpfoflilcaaZC
import Derived.Test.YtimigpfoflilcaaS4n
import Derived.Test.YtimigpfoflilcaaZ7
namespace Go.Sz
open Go.RowKit
def bA : ByteArray := ⟨#[65]⟩
def bB : ByteArray := ⟨#[66]⟩
def bZ : ByteArray := ⟨#[90]⟩
def catC (l : List Cr) : Cat := ⟨l, [], [], [], [], [], []⟩
def crB : Cr := courseN bB 18 [bA]
def crA : Cr := courseN bA 17 []
def crA' : Cr := { courseN bA 17 [] with bar := .mk 2 0 ⟨#[]⟩ 0 0 [.mk 9 0 bZ 0 0 []] }
def crS : Cr := courseN bA 17 [bA]
def crB' : Cr := { crB with need := .mk 1 0 ⟨#[]⟩ 0 0 [.mk 5 17 bA 1 0 []] }
theorem tA : bA.toList = [65] := by rw [ByteArray.toList_eq]; rfl
theorem tB : bB.toList = [66] := by rw [ByteArray.toList_eq]; rfl
theorem tZ : bZ.toList = [90] := by rw [ByteArray.toList_eq]; rfl
theorem t0 : (⟨#[]⟩ : ByteArray).toList = [] := by rw [ByteArray.toList_eq]
theorem sf_find : findR [crB, crA] bA = (17, true) := by simp [findR, isF, crB, crA, courseN, tA, tB]
theorem sf_find0 : findR [] bA = (0, false) := rfl
theorem sf_mA : meantN [crB, crA] bA 0 = some 1 := by simp [meantN, crB, crA, courseN, tA, tB, List.findIdx?_cons]
theorem sf_mS : meantN [crS] bA 0 = some 0 := by simp [meantN, crS, courseN, tA, List.findIdx?_cons]
theorem needs_course (l : List Cr) (nm : ByteArray) (nu : Int) (ns : List ByteArray) : needsN l (courseN nm nu ns) = ns.filterMap fun n => meantN l n 0 := by
  have hp : ((ns.map passR).map Rt.parts).flatten = ns.map passR := by
    induction ns with
    | nil => rfl
    | cons n ns ih => rw [List.map_cons, List.map_cons, List.flatten_cons, ih]; simp [passR, Rt.parts, partsL]
  have h0 : (courseN nm nu ns).need.parts = (courseN nm nu ns).need :: ns.map passR := by
    rw [Rt.parts_eq, partsL_eq]
    show _ :: ((ns.map passR).map Rt.parts).flatten = _
    rw [hp]
  unfold needsN
  rw [h0, List.filterMap_cons_none (by rw [if_neg]; show ¬ ((1 : Int) = 5 ∨ (1 : Int) = 6); omega), List.filterMap_map]
  congr 1
theorem sf_nB : needsN [crB, crA] crB = [1] := by
  show needsN [crB, crA] (courseN bB 18 [bA]) = _
  rw [needs_course, List.filterMap_cons_some (f := fun n => meantN [crB, crA] n 0) sf_mA]
  rfl
theorem sf_nA : needsN [crB, crA] crA = [] := by
  show needsN [crB, crA] (courseN bA 17 []) = _
  rw [needs_course]
  rfl
theorem sf_nS : needsN [crS] crS = [0] := by
  show needsN [crS] (courseN bA 17 [bA]) = _
  rw [needs_course, List.filterMap_cons_some (f := fun n => meantN [crS] n 0) sf_mS]
  rfl
theorem sf_lst : listedN [crB, crA] = ([1, 0], [true, true]) := by
  simp [listedN, listN, firstN, readyN, sf_nB, sf_nA, List.range_succ]
theorem sf_lstS : listedN [crS] = ([], [false]) := by
  simp [listedN, listN, firstN, readyN, sf_nS, List.range_succ]
theorem sf_lst0 : listedN [] = ([], []) := by simp [listedN, listN, firstN]
theorem sf_ord : ordL [crB, crA] = [17, 18] ∧ ordE [crB, crA] = 0 := by
  unfold ordL ordE
  rw [sf_lst]
  exact ⟨rfl, rfl⟩
theorem sf_ord0 : ordL [] = [] ∧ ordE [] = 0 := by
  unfold ordL ordE
  rw [sf_lst0]
  exact ⟨rfl, rfl⟩
theorem sf_cyc : cycL [crB, crA] = [] := by
  unfold cycL
  rw [sf_lst]
  rfl
theorem sf_cycS : cycL [crS] = [17] := by
  unfold cycL
  rw [sf_lstS]
  have hn : nextN [crS] [false] 0 = some 0 := by
    unfold nextN
    show (needsN [crS] crS).find? _ = _
    rw [sf_nS]
    rfl
  have hw : wayN [crS] [false] 2 [] 0 = ([0], 0) := by
    rw [wayN_step (by simp), hn]
    show wayN [crS] [false] 1 [0] 0 = _
    rw [wayN_stop (by simp)]
  show ((wayN [crS] [false] 2 [] 0).1.drop ((findI (ints (wayN [crS] [false] 2 [] 0).1) ((wayN [crS] [false] 2 [] 0).2 : Int)).toNat)).map (nuAt [crS]) = _
  rw [hw]
  rfl
theorem sf_num1 : numR [crB, crA] bA 0 = some 17 := by simp [numR, isF, tA, tB, crB, crA, courseN]
theorem sf_res1 : (catC [crB, crA]).resN = (0, catC [crB', crA]) := by
  refine Cat.resN_ok ?_ ?_ ?_ ?_
  · simp [Cat.arg, catC]
  · simp [Cat.once, catC, crB, crA, courseN, bA, bB]
  · simp [Cat.nums, catC, travO, resC, crB', crB, crA, courseN, passR, Rt.res, resL, Rt.num, Rt.op, Rt.nm, Rt.co]
    have := sf_num1
    simp only [crB, crA, courseN, passR, List.map_cons, List.map_nil] at this
    simp [this]
  · simp [catC, sf_lst]
theorem sf_res2 : (catC [courseN bA 17 [], courseN bB 17 []]).resN = (111, .empty) := by
  refine Cat.resN_twice ?_ ?_
  · simp [Cat.arg, catC]
  · simp [Cat.once, catC, courseN]
theorem sf_res3 : (catC [crA']).resN = (110, .empty) := by
  refine Cat.resN_name ?_ ?_ ?_
  · simp [Cat.arg, catC]
  · simp [Cat.once, catC]
  · simp [Cat.nums, catC, travO, resC, crA', courseN, Rt.res, resL, Rt.num, Rt.op, Rt.nm, Rt.co, numR, isF, tZ, tA]
theorem sf_res4 : (catC [crS]).resN = (112, .empty) := by
  have hn : numR [crS] bA 0 = some 17 := by simp [numR, isF, tA, crS, courseN]
  have hs : ∃ y, (catC [crS]).nums = some y := by
    simp [Cat.nums, catC, travO, resC, crS, courseN, passR, Rt.res, resL, Rt.num, Rt.op, Rt.nm, Rt.co]
    simp only [crS, courseN, passR, List.map_cons, List.map_nil] at hn
    simp [hn]
  obtain ⟨y, hy⟩ := hs
  refine Cat.resN_cycle ?_ ?_ hy ?_
  · simp [Cat.arg, catC]
  · simp [Cat.once, catC]
  · simp [catC, sf_lstS]
theorem sf_res0 : (Cat.empty).resN = (0, .empty) := by
  refine Cat.resN_ok ?_ ?_ ?_ ?_
  · simp [Cat.arg, Cat.empty]
  · simp [Cat.once, Cat.empty]
  · simp [Cat.nums, Cat.empty, travO]
  · simp [Cat.empty]
end Go.Sz
