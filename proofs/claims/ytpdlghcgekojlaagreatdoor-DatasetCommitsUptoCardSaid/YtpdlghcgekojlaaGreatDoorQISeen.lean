/- A map[string]bool that a call makes: the names that it has seen. -/
import Derived.Test.YtpdlghcgekojlaaGreatDoorQI1
import Derived.Maps.Own
import Derived.Maps.Views
set_option linter.unusedSimpArgs false
set_option linter.unusedVariables false
namespace Go.Proofs.YtpdlghcgekojlaaGreatDoor
open Go.RowKit Go.Maps
def seenD:List ByteArray→DataW Unit
 |[]=>.map []
 |n::r=>(seenD r).put (.string n.data.toList) (.lit (.bool true))
theorem Ir:∀l,IsMap (seenD l)
 |[]=>isMap_empty
 |_::r=>(Ir r).put _ _
theorem bytes_inj{a b:ByteArray}(h:a.data.toList=b.data.toList):a=b:=by
 cases a;cases b;simp at h;subst h;rfl
def abd(l:List ByteArray)(s:ByteArray):Bool:=l.any fun n=>decide (n.data.toList=s.data.toList)
theorem OW(s:ByteArray):∀l:List ByteArray,(seenD l).atKey (.string s.data.toList) (.lit (.bool false))=.lit (.bool (abd l s))
 |[]=>rfl
 |n::r=>by
  by_cases h:s=n
  ·subst h
   unfold seenD
   rw[atKey_put_same (Ir r) (by trivial)];simp[abd]
  unfold seenD
  rw[atKey_put_other (fun e=>h (bytes_inj (by simpa using e))),OW s r];simp only[abd,List.any_cons];rw[decide_eq_false (fun e=>h (bytes_inj e.symm)),Bool.false_or]
def Seen(w:World)(B n:Nat)(l:List ByteArray):Prop:=w.ownsMap Tryz.prog 9 (plainElem Tryz.prog 4) B n (seenD l)
theorem OX:Keyed Tryz.prog 9:=string_keyed Tryz.underlying9
theorem Seen.look{w:World}{B n:Nat}{l:List ByteArray}(h:Seen w B n l)(s:ByteArray)(hs:s.size≤maxLen):(Instr.lookup 285 (.map (some B)) (.string s) false).run Tryz.prog w=.ok (.bool (abd l s)) w:=by
 obtain⟨v,ps,hrun,hv⟩:=World.ownsMap.lookup (t:=285) (e:=4) h OX Tryz.underlying285 (z:=.bool false) (by kernel_rfl) (plainElem_bool Tryz.underlying4 false) (WideMaps.keyOf_string_mk Tryz.underlying9 hs)
 rw[OW] at hv
 rw[hrun]
 have hb:=Tryz.underlying4
 cases v<;>simp[plainElem,hb] at hv
 rw[hv.1]
theorem Seen.put{w:World}{B n:Nat}{l:List ByteArray}(h:Seen w B n l)(s:ByteArray)(hs:s.size≤maxLen)(hn:n<maxLen):
 ∃w',(Instr.mapUpdate 285 (.map (some B)) (.string s) (.bool true)).run Tryz.prog w=.ok () w'∧Seen w' B (n+1) (s::l)∧w.grownBy w' (some B):=
 World.ownsMap.update (t:=285) (e:=4) h OX Tryz.underlying285 hn (WideMaps.keyOf_string_mk Tryz.underlying9 hs) (plainElem_bool Tryz.underlying4 true)
theorem Seen.made(w:World):Seen (w.alloc (.map #[] 0)) w.heap.size 0 []:=World.ownsMap_made _ _ _ _
theorem Seen.kept{w w':World}{B n:Nat}{l:List ByteArray}(h:Seen w B n l)(he:Ext w w'):Seen w' B n l:=World.ownsMap.kept h (he.only none) (by simp)
end Go.Proofs.YtpdlghcgekojlaaGreatDoor
