/- value.nodes: by induction on the tree. -/
import Derived.Test.YtflpefkohpjjpaaGreatDoorQNNodes
set_option linter.unusedSimpArgs false
set_option linter.unusedVariables false
namespace Go.Proofs.YtflpefkohpjjpaaGreatDoor
open Go.RowKit
theorem dF(w:World)(a:Obj):(w.alloc a).heap[w.heap.size]?=some a:=by
 show(w.heap.push a)[w.heap.size]?=some a
 simp
theorem Pq(w:World)(a:Obj)(b:Obj):((w.alloc a).alloc b).heap[w.heap.size+1]?=some b:=by
 show((w.heap.push a).push b)[w.heap.size+1]?=some b
 rw[Array.getElem?_push,if_pos (by simp)]
theorem Pv(w:World)(a b c:Obj):(((w.alloc a).alloc b).alloc c).heap[w.heap.size+1+1]?=some c:=by
 show(((w.heap.push a).push b).push c)[w.heap.size+1+1]?=some c
 rw[Array.getElem?_push,if_pos (by simp)]
end Go.Proofs.YtflpefkohpjjpaaGreatDoor
