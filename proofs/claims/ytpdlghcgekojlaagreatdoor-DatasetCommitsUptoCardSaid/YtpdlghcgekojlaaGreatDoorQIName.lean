/- value.isName. -/
import Derived.Test.YtpdlghcgekojlaaGreatDoorQI1
set_option linter.unusedSimpArgs false
set_option linter.unusedVariables false
namespace Go.Proofs.YtpdlghcgekojlaaGreatDoor
open Go.RowKit
def oW(c:Nat):Bool:=decide (33≤c)&&decide (c≤126)&&!(c==46)
def OV(l:List UInt8):Bool:=match l with
 |[]=>false
 |c::_=>decide (l.length≤32)&&!(c.toNat==36)&&l.all fun c=>oW c.toNat
def nameB(s:ByteArray):Bool:=OV s.data.toList
theorem byte_at(s:ByteArray)(k:Nat)(h:k<s.size):s.data.toList[k]?=some s[k]:=by
 rw[List.getElem?_eq_getElem (by simpa using h)];rfl
theorem Bv(s:ByteArray)(h:32<s.size):nameB s=false:=by
 unfold nameB OV
 split
 ·rfl
 rename_i c r hc
 have:(c::r).length=s.size:=by rw[←hc];simp
 rw[decide_eq_false (by rw[←hc] at this;omega)];simp
theorem Bz(s:ByteArray)(h:s.size=0):nameB s=false:=by
 have h1:s.data.toList.length=0:=by rw[←h];simp
 have:s.data.toList=[]:=List.length_eq_zero_iff.1 h1
 unfold nameB OV;rw[this]
theorem yA(s:ByteArray)(h0:0<s.size)(h1:s.size≤32):nameB s=(!(s[0].toNat==36)&&s.data.toList.all fun c=>oW c.toNat):=by
 have hb:=byte_at s 0 h0
 have h2:s.data.toList.length=s.size:=by simp
 unfold nameB OV
 cases hl:s.data.toList with
 |nil=>rw[hl] at h2;simp at h2;omega
 |cons c r=>
  rw[hl] at hb h2
  have hc:c=s[0]:=by simpa using hb
  simp only
  rw[decide_eq_true (by omega),hc];simp
theorem sJ(s:ByteArray)(f:UInt8→Bool)(k:Nat)(h:k<s.size)(e:f s[k]=false):s.data.toList.all f=false:=by
 rw[List.all_eq_false]
 exact⟨s[k],List.mem_of_getElem? (byte_at s k h),by simp[e]⟩
theorem LK(s:ByteArray)(f:UInt8→Bool)(h:∀i (hi:i<s.size),f s[i]=true):s.data.toList.all f=true:=by
 rw[List.all_eq_true]
 intro c hc
 obtain⟨i,hi,rfl⟩:=List.mem_iff_getElem.1 hc
 exact h i (by simpa using hi)
end Go.Proofs.YtpdlghcgekojlaaGreatDoor
