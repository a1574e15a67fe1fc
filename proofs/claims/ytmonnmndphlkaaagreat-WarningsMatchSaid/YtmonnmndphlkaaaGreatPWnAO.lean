/- What the law's proof leans on. No condition. -/
import Derived.Test.YtmonnmndphlkaaaGreatPWnAN
import Derived.Laws.Externs
import Derived.Lib.Bytealg
import Derived.Shelf.GgSortFunc.InsertionK
import Derived.Shelf.SlSortCmp.Insertion
namespace Go.Kw
open Go.Lib Go.Sort Go.Proofs
set_option linter.unusedVariables false
/-! ### The order of octets -/
/-! ### Rows of sums, sorted -/
abbrev Sum32 := { l : List UInt8 // l.length = 32 }
instance : Inhabited Sum32 := ⟨⟨List.replicate 32 0, by simp⟩⟩
def enc32 (x : Sum32) : List Value := x.1.map b8
theorem S32.of (ds : List Sum32) : S32 (ds.map (·.1)) := by
  intro s hs
  obtain ⟨x, _, rfl⟩ := List.mem_map.1 hs
  exact x.2
theorem flatK_eq (ds : List Sum32) : flatK enc32 32 ds.toArray = ((ds.map (·.1)).flatten.map b8).toArray := by
  have hS := S32.of ds
  have hlen : ((ds.map (·.1)).flatten.map b8).length = ds.length * 32 := by rw [flat32_lenV hS, List.length_map]
  apply Array.ext
  · rw [size_flatK, List.size_toArray, List.size_toArray, hlen]
  · intro t h1 h2
    have ht : t < ds.length * 32 := by simpa using h1
    have hd : t / 32 < ds.length := Nat.div_lt_of_lt_mul (by omega)
    have e1 : (flatK enc32 32 ds.toArray)[t]! = (enc32 ds.toArray[t / 32]!)[t % 32]! := get_flatK _ _ _ _ (by simpa using ht)
    rw [getElem!_pos _ t h1] at e1
    rw [e1]
    have e2 : ds.toArray[t / 32]! = ds[t / 32] := by rw [getElem!_pos _ _ (by simpa using hd)]; simp
    have e3 := flat32_getV hS (i := t / 32) (by rw [List.length_map]; exact hd)
    rw [e2]
    have e4 : gt (ds.map (·.1)) (t / 32) = ds[t / 32].1 := by rw [gt_eq _ _ (by rw [List.length_map]; exact hd)]; simp
    rw [e4] at e3
    rw [enc32, ← e3]
    have hm : t % 32 < 32 := Nat.mod_lt _ (by decide)
    have hlt : t < ((ds.map (·.1)).flatten.map b8).length := by rw [hlen]; exact ht
    have hsum : t / 32 * 32 + t % 32 = t := by omega
    rw [getElem!_pos _ _ (by rw [List.length_take, List.length_drop, hlen]; omega)]
    simp only [List.getElem_take, List.getElem_drop, List.getElem_toArray, hsum]
theorem holdsV {w : World} {g : Nat} {cur : Array Value} {e : TypeId} {F : Array Value} (hb : w.heap[g]? = some (.cells cur e (0, 0))) (ht : cur.toList.take F.size = F.toList) : Holds id w g 0 F := by
  intro j hj
  refine ⟨?_, by simp [World.frozen?, hb]⟩
  have h1 : (cur.toList.take F.size)[j]? = F.toList[j]? := by rw [ht]
  rw [List.getElem?_take_of_lt hj] at h1
  simp only [World.cell?, hb, Nat.zero_add]
  simp only [Option.isSome_none, Bool.false_eq_true, if_false]
  rw [← Array.getElem?_toList, h1]
  simp [hj]
theorem heapV {w : World} {g n : Nat} {os : Array Obj} {cur : Array Value} {e : TypeId} {fr : Nat × Nat} (d : Array Value) (hb : w.heap[g]? = some (.cells cur e fr)) :
    (grow (putRow id (Sort.ahead w n) g 0 d) os).heap[g]? = some (.cells (putCells id 0 d cur) e fr) := by
  have hg : g < w.heap.size := (Array.getElem?_eq_some_iff.1 hb).1
  rw [heap_grow_old _ _ (by simpa using hg)]
  simp [putRow, mapBlock, Sort.ahead, Array.getElem?_modify, hb, onCells]
theorem oldV {w : World} {g n k : Nat} {os : Array Obj} (d : Array Value) (hk : k < w.heap.size) (hne : g ≠ k) : (grow (putRow id (Sort.ahead w n) g 0 d) os).heap[k]? = w.heap[k]? := by
  rw [heap_grow_old _ _ (by simpa using hk)]
  simp [putRow, mapBlock, Sort.ahead, Array.getElem?_modify, hne]
theorem takeV (cur ts : Array Value) (h : ts.size ≤ cur.size) : (putCells id 0 ts cur).toList.take ts.size = ts.toList := by
  apply List.ext_getElem?
  intro j
  by_cases hj : j < ts.size
  · rw [List.getElem?_take_of_lt hj, Array.getElem?_toList]
    simp [putCells, hj, show j < cur.size by omega]
  · rw [List.getElem?_take_eq_none (by omega), List.getElem?_eq_none (by simp; omega)]
theorem St.sorted {w : World} {g c n m : Nat} {E : TypeId} {os : Array Obj} {l l' : List (List UInt8)} {ds : List Sum32} (hS : w.ownsRow 0 E 32 (.slice (some ⟨g, 0, none⟩) n c) n (l.flatten.map b8)) (hl : ds.map (·.1) = l') (hn : l'.length = n) :
    St w [g] (sortWorldK enc32 32 w g 0 m ds.toArray os) [.row (.slice (some ⟨g, 0, none⟩) n c) E 32 n (l'.flatten.map b8)] := by
  obtain ⟨hlen, hnil | ⟨g', cap, cur, hv, hbase, hb, h1, h2, h3, h4⟩⟩ := hS
  · exact absurd hnil.1 (by simp)
  · simp only [Value.slice.injEq, Option.some.injEq, Addr.mk.injEq, and_true] at hv
    obtain ⟨rfl, _, rfl⟩ := hv
    subst hl
    have hF := flatK_eq ds
    have hfl : ((ds.map (·.1)).flatten.map b8).length = n * 32 := by rw [flat32_lenV (S32.of ds), hn]
    unfold sortWorldK putRowK
    rw [hF]
    refine ⟨rfl, rfl, rfl, by simp, fun k hk hne => oldV _ hk (fun e => hne (by simp [e])), ?_, by simp [Item.id, Value.ownBlock]⟩
    intro x hx
    obtain rfl := List.mem_singleton.1 hx
    refine ⟨⟨hfl, .inr ⟨g, c, _, rfl, Nat.zero_le _, heapV _ hb, h1, h2, by simp [putCells, h3], ?_⟩⟩, fun k hk => .inr ?_⟩
    · have := takeV cur ((ds.map (·.1)).flatten.map b8).toArray (by rw [List.size_toArray, hfl, h3]; exact Nat.mul_le_mul_right _ h1)
      rw [List.size_toArray, hfl] at this
      exact this
    · simp only [Value.ownBlock, Option.some.injEq] at hk
      simp [hk]
end Go.Kw
