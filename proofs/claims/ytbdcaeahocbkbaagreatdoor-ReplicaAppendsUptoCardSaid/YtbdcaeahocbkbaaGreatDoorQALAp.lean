/- ReplicaAppends returns true: Append returns what the reference returns. -/
import Derived.Test.YtbdcaeahocbkbaaGreatDoorQA5
import Derived.Test.YtbdcaeahocbkbaaGreatDoorQA6
set_option linter.unusedSimpArgs false
set_option linter.unusedVariables false
namespace Go.Proofs.YtbdcaeahocbkbaaGreatDoor
open Go.RowKit
theorem Xo(l:List Int)(k:Nat)(n:Int)(hk:k<l.length)(hl:l.length≤1000):ap4 l (k:Int) n=some (l.set k n):=by
 simp only[ap4,alZ,Tq,Tn,Mo.den,ak,aj,aA,au,ay,decide_eq_true (show(0:Int)≤(k:Int) by omega),decide_eq_true (show(k:Int)<(l.length:Int) by omega),cond_true,Option.bind_some,sD hk,Int.toNat_natCast]
 rw[if_pos (by simp;omega)]
def aqv(m:aB)(e:aF):Bool:=match m.bn[m.bn.length-1]? with
 |some x=>decide (e.dQ≤x.dQ)
 |none=>false
theorem aqw(m:aB)(e:aF)(hl:m.bn.length≤1000):adf e m=some (aqv m e)∧WU e m=some (aqv m e):=by
 unfold adf Y2 WU Tv aqv
 simp only[Mo.den,ak,aj,aA,au,ay]
 by_cases h:0<m.bn.length
 ·have e1:IntKind.wrap .i64 ((m.bn.length:Int)-1)=((m.bn.length-1:Nat):Int):=by rw[w64 (by omega) (by omega)];omega
  rw[decide_eq_true (show(0:Int)<(m.bn.length:Int) by omega),e1,aqb _ _ (by omega),List.getElem?_eq_getElem (by omega)]
  exact⟨rfl,rfl⟩
 ·have h0:m.bn.length=0:=by omega
  rw[decide_eq_false (show ¬(0:Int)<(m.bn.length:Int) by omega),List.getElem?_eq_none (by omega)]
  exact⟨rfl,rfl⟩
def NK(m:aB)(e:aF)(k:Nat):aB:=aB.BR (aB.xY m (m.bn++[e])) (m.bg.set k ((m.bn++[e]).length:Int))
theorem aa2(m:aB)(e:aF)(g:Good m)(hb:aW m.lf1≤9000000)(he:aW e.lf1≤9000000)(hf:jm e.lf1):
 (∃a b x,Q81 m e=some (a,x)∧ap6 m e=some (b,x)∧x≠0)∨
 ∃n,Q81 m e=some (n,0)∧ap6 m e=some (n,0)∧aW n.lf1≤20000000:=by
 have s1:=g.s1
 have s7:=g.s7
 have i0:=g.i0
 have i1:=g.i1
 have lg:=g.lg
 have c0:=g.c0
 obtain⟨v,hv,_⟩:=I4 e (by omega)
 have hv2:Q28 e=some v:=(amV e (by omega) hf).trans hv
 obtain⟨o1,o2⟩:=aqw m e (by omega)
 unfold Q81 aqR ap6 al0
 simp only[Mo.den,ak,aj,aA,au,ay,hv,hv2,o1,o2,Option.bind_some]
 by_cases hr:m.gX=2
 case neg=>
  have hne:(m.gX != 2)=true:=by simp[hr]
  rw[hne]
  exact .inl ⟨_,_,25,rfl,rfl,by decide⟩
 have hne:(m.gX != 2)=false:=by simp[hr]
 rw[hne]
 simp only[cond_false]
 by_cases hv0:v=0
 case neg=>
  have:(v != 0)=true:=by simp[hv0]
  rw[this]
  exact .inl ⟨_,_,v,rfl,rfl,hv0⟩
 have hvf:(v != 0)=false:=by simp[hv0]
 rw[hvf]
 simp only[cond_false]
 cases ht:(e.bW != m.bW) with
 |true=>exact .inl ⟨_,_,24,rfl,rfl,by decide⟩
 |false=>
 simp only[cond_false]
 cases ho:aqv m e with
 |true=>exact .inl ⟨_,_,23,rfl,rfl,by decide⟩
 |false=>
 simp only[cond_false]
 rw[decide_eq_false (show ¬(16384:Int)≤(m.bn.length:Int) by omega)]
 simp only[cond_false]
 obtain⟨_,hlen,_,hrange⟩:=g.pr hr
 obtain⟨k,hk,hkl⟩:∃k:Nat,m.fID=(k:Int)∧k<m.bg.length:=⟨m.fID.toNat,by omega,by omega⟩
 have hbe:bM ([e].map aF.lf)≤10000000:=by
  have:=iW aF.lf (x:=e) (l:=[e]) (by simp)
  simp only[List.map_cons,List.map_nil,bM,aF.aX];omega
 have hw:IntKind.wrap .i64 ((m.bn.length:Int)+1)=((m.bn++[e]).length:Int):=by
  rw[w64 (by omega) (by omega),List.length_append,List.length_cons,List.length_nil];omega
 rw[MP m (by omega),IU [e] hbe]
 simp only[Option.bind_some,Y3,QB,Mo.den,ak,aj,aA,au,ay,hk,decide_eq_true (show(0:Int)≤(k:Int) by omega),decide_eq_true (show(k:Int)<(m.bg.length:Int) by omega),cond_true,sD hkl,Int.toNat_natCast,hw,Xo m.bg k _ hkl (by omega)]
 have hg:(m.bn.length+[e].length)*1208≤140737488355328:=by simp only[List.length_cons,List.length_nil];omega
 have hg0:(([]:List aF).length+m.bn.length)*1208≤140737488355328:=by rw[List.length_nil,Nat.zero_add];exact Nat.le_trans (Nat.mul_le_mul_right _ (show m.bn.length≤1000 by omega)) (by decide)
 rw[if_pos hg,if_pos hg0,if_pos hg]
 have hml:(NK m e k).bn.length=m.bn.length+1:=by show(m.bn++[e]).length=_;simp
 obtain⟨t, a1, a2⟩:=aaA (NK m e k) s1 s7 c0 (by omega) fun _=>by
  refine⟨by show((m.bg.set k _).length:Int)=_;rw[List.length_set];exact hlen,fun x hx=>?_⟩
  rw[hml]
  rcases List.mem_or_eq_of_mem_set hx with h|h
  ·have:=hrange x h;omega
  ·rw[h,List.length_append,List.length_cons,List.length_nil];omega
 refine .inr ⟨aB.qK (NK m e k) t,?_,?_,?_⟩
 ·exact(congrArg (fun z=>Option.bind z fun r=>some (r,(0:Int))) a1)
 ·exact(congrArg (fun z=>Option.bind z fun r=>some (r,(0:Int))) a2)
 ·rw[aaz]
  have e1:=kN m
  have e2:=kN (NK m e k)
  have e3:bM ((m.bn++[e]).map aF.lf)=bM (m.bn.map aF.lf)+bM ([e].map aF.lf):=by rw[List.map_append,Tz]
  have e4:bM ((m.bg.set k ((m.bn++[e]).length:Int)).map lfI)=bM (m.bg.map lfI):=by rw[CJ,CJ,List.length_set]
  have e5:bM ((NK m e k).bn.map aF.lf)=bM ((m.bn++[e]).map aF.lf):=rfl
  have e6:bM ((NK m e k).bg.map lfI)=bM (m.bg.map lfI):=e4
  have e7:(NK m e k).fNext=m.fNext:=rfl
  rw[e7] at e2
  omega
theorem aa3(m:aB)(e:aF)(hb:aW m.lf1≤9000000)(he:aW e.lf1≤9000000)(hf:jm e.lf1):auG m e=some true:=by
 unfold auG al8
 obtain⟨b,h1,h2⟩:=amh m (by omega)
 simp only[Mo.den,ak,aj,aA,au,ay,h1,ahD,Option.bind_some]
 cases b with
 |false=>rfl
 |true=>
  simp only[Bool.not_true,cond_false]
  rcases aa2 m e (h2 rfl) hb he hf with⟨a,c,x,k1,k2,k3⟩|⟨n,k1,k2,k3⟩
  ·rw[k1,k2]
   have n1:(x != 0)=true:=by simp[k3]
   simp only[Option.bind_some,bne_self_eq_false,cond_false,n1,cond_true]
  ·rw[k1,k2]
   simp only[Option.bind_some,bne_self_eq_false,cond_false,IQ n (by omega),cond_true]
end Go.Proofs.YtbdcaeahocbkbaaGreatDoor
