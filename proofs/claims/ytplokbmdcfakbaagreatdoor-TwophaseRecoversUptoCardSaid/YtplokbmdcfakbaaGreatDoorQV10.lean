/- Which models come to an end (printed by totgen.py). -/
import Derived.Test.YtplokbmdcfakbaaGreatDoorQV9
set_option linter.unusedSimpArgs false
set_option linter.unusedVariables false
namespace Go.Proofs.YtplokbmdcfakbaaGreatDoor
open Go.RowKit
theorem R12_same_tot (p_a : List ByteArray) (p_b : List ByteArray) (h_p_a : bulkR (p_a.map lfS) ≤ 100000000) (h_p_b : bulkR (p_b.map lfS) ≤ 100000000) : Tot (Q62 p_a p_b) Any := by
  have := len_strs p_a
  have := len_strs p_b
  show MT (Q62_T p_a p_b) Any
  refine MT.say (MT.ite (fun c4010 => ?_) (fun c4010 => ?_))
  ·have c4010' : ¬ ((p_a.length : Int) = (p_b.length : Int)) := by simpa using c4010
   exact MT.say MT.any
  ·have c4010' : (p_a.length : Int) = (p_b.length : Int) := by simpa using c4010
   refine MT.say (MT.ask2 (R := Any) ?_ ?_ ?_)
   ·refine T.cnt (fun _ => True) ?_
    intro k1 hk1
    show MT (Q62_L0_T p_a p_b ((k1 : Nat) : Int)) _
    refine MT.say (MT.ite (fun c4046 => ?_) (fun c4046 => ?_))
    ·have c4046' := of_decide_eq_true c4046
     refine MT.say (MT.ask (tot_gidx p_a ((k1 : Nat) : Int) (by omega) (by omega)) (fun x4047 _ hx2 => ?_))
     have := mem_str hx2
     refine MT.say (MT.ask (tot_gidx p_b ((k1 : Nat) : Int) (by omega) (by omega)) (fun x4049 _ hx3 => ?_))
     have := mem_str hx3
     refine MT.say (MT.ite (fun c4051 => ?_) (fun c4051 => ?_))
     ·exact MT.say (MT.ret trivial)
     ·exact MT.say (MT.ret ⟨rfl, by omega⟩)
    ·have c4046' := of_decide_eq_false c4046
     exact MT.say (MT.ret trivial)
   ·intro o4054 h4053 _
    exact MT.say MT.any
   ·intro o4055 h4053 _
    exact MT.say MT.any
theorem R12_Valid_tot (p_l : List GOrder) (h_p_l : bulkR (p_l.map GOrder.lf) ≤ 100000000) : Tot (Q36 p_l) Any := by
  have := len_orders p_l
  show MT (Q36_T p_l) Any
  refine MT.say (MT.ite (fun c3990 => ?_) (fun c3990 => ?_))
  ·have c3990' := of_decide_eq_true c3990
   exact MT.say MT.any
  ·have c3990' := of_decide_eq_false c3990
   refine MT.say (MT.ask2 (R := Any) ?_ ?_ ?_)
   ·refine T.cnt (fun _ => True) ?_
    intro k4 hk4
    show MT (Q36_L6_T p_l ((k4 : Nat) : Int)) _
    refine MT.say (MT.ite (fun c4194 => ?_) (fun c4194 => ?_))
    ·have c4194' := of_decide_eq_true c4194
     refine MT.say (MT.ask (tot_gidx p_l ((k4 : Nat) : Int) (by omega) (by omega)) (fun x4195 _ hx5 => ?_))
     have := mem_order hx5
     have := bulk_order x4195
     have := len_strs x4195.fPath
     refine MT.say (MT.ask (R := Any) ?_ ?_)
     ·exact T.wk (T.val (Path_val x4195.fPath))
     ·intro r4197 h4198 _
      refine MT.say (MT.ite (fun c4199 => ?_) (fun c4199 => ?_))
      ·exact MT.say (MT.ret trivial)
      ·refine MT.say (MT.ask2 (R := Any) ?_ ?_ ?_)
       ·refine T.cnt (fun _ => True) ?_
        intro k6 hk6
        show MT (Q36_L0_T p_l ((k4 : Nat) : Int) ((k6 : Nat) : Int)) _
        refine MT.ite (fun c4209 => ?_) (fun c4209 => ?_)
        ·have c4209' := of_decide_eq_true c4209
         refine MT.say (MT.ask (tot_gidx p_l ((k4 : Nat) : Int) (by omega) (by omega)) (fun x4210 _ hx7 => ?_))
         have := mem_order hx7
         have := bulk_order x4210
         have := len_strs x4210.fPath
         refine MT.say (MT.ask (tot_gidx p_l ((k6 : Nat) : Int) (by omega) (by omega)) (fun x4212 _ hx8 => ?_))
         have := mem_order hx8
         have := bulk_order x4212
         have := len_strs x4212.fPath
         refine MT.say (MT.ask (R := Any) ?_ ?_)
         ·exact T.wk (R12_same_tot x4210.fPath x4212.fPath (by first | omega | (simp; done) | decide) (by first | omega | (simp; done) | decide))
         ·intro r4214 h4215 _
          refine MT.say (MT.ite (fun c4216 => ?_) (fun c4216 => ?_))
          ·exact MT.say (MT.ret trivial)
          ·exact MT.say (MT.ret ⟨rfl, by omega⟩)
        ·have c4209' := of_decide_eq_false c4209
         exact MT.say (MT.ret trivial)
       ·intro o4219 h4218 _
        exact MT.say (MT.ret trivial)
       ·intro o4220 h4218 _
        exact MT.say (MT.ret ⟨rfl, by omega⟩)
    ·have c4194' := of_decide_eq_false c4194
     exact MT.say (MT.ret trivial)
   ·intro o4224 h4223 _
    exact MT.say MT.any
   ·intro o4225 h4223 _
    exact MT.say MT.any
theorem R13_count_tot0 (n_ : Nat) : ∀ (p_p : GPred) (p_levels : Int) (p_left : Int), bulkL p_p.lf1 < n_ → bulkL p_p.lf1 ≤ 100000000 → Tot ((RB10_F n_).m1 p_p p_levels p_left) Any := by
  induction n_ with
  | zero => intro p_p p_levels p_left h; omega
  | succ n_ ih =>
    intro p_p p_levels p_left h_ h_p_p
    have := bulk_pred p_p
    have := len_preds p_p.fKids
    show MT (Q39_T (RB10_F n_) p_p p_levels p_left) Any
    refine MT.ask (R := fun b_ => (b_ = true → True) ∧ (b_ = false → ¬ (p_levels = 0) ∧ ¬ ((p_left : Int) ≤ 0) ∧ True)) ?_ ?_
    ·show MT (Q39_J0_T (RB10_F n_) p_left p_levels p_p) _
     refine MT.ite (fun c4251 => ?_) (fun c4251 => ?_)
     ·have c4251' : p_levels = 0 := by simpa using c4251
      exact MT.say (MT.ret ⟨(fun _ => trivial), (fun h_ => by cases h_)⟩)
     ·have c4251' : ¬ (p_levels = 0) := by simpa using c4251
      exact MT.say (MT.ret ⟨(fun _ => trivial), (fun h_ => ⟨(by first | assumption | omega), (of_decide_eq_false h_), trivial⟩)⟩)
    ·intro r4253 h4254 f_r4253
     refine MT.say (MT.ite (fun c4256 => ?_) (fun c4256 => ?_))
     ·exact MT.say MT.any
     ·have q9 := f_r4253.2 (c4256)
      refine MT.say (MT.ask (R := Any) ?_ ?_)
      ·refine T.cntR (fun _ => True) ?_
       intro v4300 k10 hk10
       show MT (Q39_L10_T (RB10_F n_) p_levels p_p (v4300, ((k10 : Nat) : Int))) _
       refine MT.ask (R := fun b_ => (b_ = true → (((k10 : Nat) : Int) : Int) < (p_p.fKids.length : Int) ∧ (0 : Int) ≤ v4300 ∧ True) ∧ (b_ = false → True)) ?_ ?_
       ·show MT (Q39_J5_T (RB10_F n_) p_levels p_p v4300 ((k10 : Nat) : Int)) _
        refine MT.say (MT.ite (fun c4302 => ?_) (fun c4302 => ?_))
        ·have c4302' := of_decide_eq_true c4302
         exact MT.say (MT.ret ⟨(fun h_ => ⟨(by first | assumption | omega), (of_decide_eq_true h_), trivial⟩), (fun _ => trivial)⟩)
        ·have c4302' := of_decide_eq_false c4302
         exact MT.say (MT.ret ⟨(fun h_ => by cases h_), (fun _ => trivial)⟩)
       ·intro r4304 h4305 f_r4304
        refine MT.say (MT.ite (fun c4306 => ?_) (fun c4306 => ?_))
        ·have q11 := f_r4304.1 (c4306)
         refine MT.say (MT.ask (tot_gidx p_p.fKids ((k10 : Nat) : Int) (by omega) (by omega)) (fun x4307 _ hx12 => ?_))
         have := mem_pred hx12
         have := bulk_pred x4307
         refine MT.say (MT.ask (R := Any) ?_ ?_)
         ·exact (ih x4307 (IntKind.wrap .i64 (p_levels - 1)) v4300 (by omega) (by first | omega | (simp; done) | decide))
         ·intro r4309 h4310 _
          exact MT.say (MT.ret ⟨rfl, by omega⟩)
        ·exact MT.say (MT.ret trivial)
      ·intro r4313 h4314 _
       exact MT.say MT.any
theorem R13_count_tot (p_p : GPred) (p_levels : Int) (p_left : Int) (h_p_p : bulkL p_p.lf1 ≤ 100000000) : Tot (Q39 p_p p_levels p_left) Any := R13_count_tot0 FU p_p p_levels p_left (by have := FU_big; omega) h_p_p
theorem R13_kids_tot (p_p : GPred) (h_p_p : bulkL p_p.lf1 ≤ 100000000) : Tot (Q61 p_p) Any := by
  have := bulk_pred p_p
  have := len_preds p_p.fKids
  show MT (Q61_T p_p) Any
  repeat' (first | exact MT.any | refine MT.say ?_ | refine MT.ite (fun _ => ?_) (fun _ => ?_) | refine MT.askT ?_ (fun _ _ => ?_) | refine ⟨(show MT _ Any from ?_)⟩)
theorem R13_hasArgs_tot (p_op : Int) : Tot (Q75 p_op) Any := by
  show MT (Q75_T p_op) Any
  repeat' (first | exact MT.any | refine MT.say ?_ | refine MT.ite (fun _ => ?_) (fun _ => ?_))
theorem R13_numbers_tot (p_p : GPred) (h_p_p : bulkL p_p.lf1 ≤ 100000000) : Tot (Q25 p_p) Any := by
  have := bulk_pred p_p
  show MT (Q25_T p_p) Any
  repeat' (first | exact MT.any | refine MT.say ?_ | refine MT.ite (fun _ => ?_) (fun _ => ?_) | refine MT.askT ?_ (fun _ _ => ?_) | refine ⟨(show MT _ Any from ?_)⟩)
theorem R13_OnPath_tot (p_op : Int) : Tot (Q82 p_op) Any := by
  show MT (Q82_T p_op) Any
  repeat' (first | exact MT.any | refine MT.say ?_ | refine MT.ite (fun _ => ?_) (fun _ => ?_))
theorem R13_hasText_tot (p_op : Int) : Tot (Q76 p_op) Any := by
  show MT (Q76_T p_op) Any
  repeat' (first | exact MT.any | refine MT.say ?_ | refine MT.ite (fun _ => ?_) (fun _ => ?_))
theorem R13_hasArg_tot (p_op : Int) : Tot (Q83 p_op) Any := by
  show MT (Q83_T p_op) Any
  repeat' (first | exact MT.any | refine MT.say ?_ | refine MT.ite (fun _ => ?_) (fun _ => ?_) | refine MT.askT ?_ (fun _ _ => ?_) | exact ⟨T.wk (R13_hasText_tot _)⟩)
theorem R10_in_tot (p_n : Int) : Tot (Q84 p_n) Any := by
  show MT (Q84_T p_n) Any
  repeat' (first | exact MT.any | refine MT.say ?_ | refine MT.ite (fun _ => ?_) (fun _ => ?_))
theorem R10_Is_tot (p_p : GPoint) (h_p_p : bulkL p_p.lf1 ≤ 100000000) : Tot (Q96 p_p) Any := by
  have := bulk_point p_p
  show MT (Q96_T p_p) Any
  repeat' (first | exact MT.any | refine MT.say ?_ | refine MT.ite (fun _ => ?_) (fun _ => ?_) | refine MT.askT ?_ (fun _ _ => ?_) | exact ⟨T.wk (R10_in_tot _)⟩)
theorem R10_Valid_tot (p_s : GShape) (h_p_s : bulkL p_s.lf1 ≤ 100000000) : Tot (Q22 p_s) Any := by
  have := bulk_shape p_s
  have := len_points p_s.fPoints
  show MT (Q22_T p_s) Any
  refine MT.say (MT.ite (fun c4647 => ?_) (fun c4647 => ?_))
  ·have c4647' := of_decide_eq_true c4647
   exact MT.say MT.any
  ·have c4647' := of_decide_eq_false c4647
   refine MT.say (MT.ask2 (R := Any) ?_ ?_ ?_)
   ·refine T.cnt (fun _ => True) ?_
    intro k13 hk13
    show MT (Q22_L0_T p_s ((k13 : Nat) : Int)) _
    refine MT.ite (fun c4689 => ?_) (fun c4689 => ?_)
    ·have c4689' := of_decide_eq_true c4689
     refine MT.say (MT.ask (tot_gidx p_s.fPoints ((k13 : Nat) : Int) (by omega) (by omega)) (fun x4690 _ hx14 => ?_))
     have := bulk_point x4690
     refine MT.say (MT.ask (R := Any) ?_ ?_)
     ·exact T.wk (R10_Is_tot x4690 (by first | omega | (simp; done) | decide))
     ·intro r4692 h4693 _
      refine MT.say (MT.ite (fun c4694 => ?_) (fun c4694 => ?_))
      ·exact MT.say (MT.ret trivial)
      ·exact MT.say (MT.ret ⟨rfl, by omega⟩)
    ·have c4689' := of_decide_eq_false c4689
     exact MT.say (MT.ret trivial)
   ·intro o4697 h4696 _
    exact MT.say MT.any
   ·intro o4698 h4696 _
    refine MT.say (MT.ask (R := fun b_ => (b_ = true → p_s.fKind = 1 ∧ (p_s.fPoints.length : Int) = 2 ∧ True) ∧ (b_ = false → True)) ?_ ?_)
    ·show MT (Q22_J6_T p_s) _
     refine MT.ite (fun c4725 => ?_) (fun c4725 => ?_)
     ·have c4725' : p_s.fKind = 1 := by simpa using c4725
      exact MT.say (MT.ret ⟨(fun h_ => ⟨(by first | assumption | omega), (by simpa using h_), trivial⟩), (fun _ => trivial)⟩)
     ·have c4725' : ¬ (p_s.fKind = 1) := by simpa using c4725
      exact MT.say (MT.ret ⟨(fun h_ => by cases h_), (fun _ => trivial)⟩)
    ·intro r4727 h4728 f_r4727
     refine MT.say (MT.ask (R := fun b_ => (b_ = true → r4727 = true ∧ p_s.fR = 0 ∧ True) ∧ (b_ = false → True)) ?_ ?_)
     ·show MT (Q22_J11_T p_s r4727) _
      refine MT.ite (fun c4729 => ?_) (fun c4729 => ?_)
      ·have q15 := f_r4727.1 (c4729)
       exact MT.say (MT.ret ⟨(fun h_ => ⟨(by first | assumption | omega), (by simpa using h_), trivial⟩), (fun _ => trivial)⟩)
      ·exact MT.say (MT.ret ⟨(fun h_ => by cases h_), (fun _ => trivial)⟩)
     ·intro r4731 h4732 f_r4731
      refine MT.say (MT.ask (R := fun b_ => (b_ = true → True) ∧ (b_ = false → r4731 = false ∧ True)) ?_ ?_)
      ·show MT (Q22_J16_T p_s r4731) _
       refine MT.ite (fun c4733 => ?_) (fun c4733 => ?_)
       ·have q16 := f_r4731.1 (c4733)
        have q17 := f_r4727.1 (q16.1)
        exact MT.say (MT.ret ⟨(fun _ => trivial), (fun h_ => by cases h_)⟩)
       ·refine MT.say (MT.ite (fun c4734 => ?_) (fun c4734 => ?_))
        ·have c4734' : p_s.fKind = 2 := by simpa using c4734
         refine MT.say (MT.ite (fun c4735 => ?_) (fun c4735 => ?_))
         ·have c4735' : (p_s.fPoints.length : Int) = 1 := by simpa using c4735
          refine MT.say (MT.ask (R := Any) ?_ ?_)
          ·exact T.wk (R10_in_tot p_s.fR )
          ·intro r4736 h4737 _
           exact MT.say (MT.ret ⟨(fun _ => trivial), (fun h_ => ⟨(by first | assumption | omega), trivial⟩)⟩)
         ·have c4735' : ¬ ((p_s.fPoints.length : Int) = 1) := by simpa using c4735
          exact MT.say (MT.ret ⟨(fun h_ => by cases h_), (fun h_ => ⟨(by first | assumption | omega), trivial⟩)⟩)
        ·have c4734' : ¬ (p_s.fKind = 2) := by simpa using c4734
         exact MT.say (MT.ret ⟨(fun h_ => by cases h_), (fun h_ => ⟨(by first | assumption | omega), trivial⟩)⟩)
      ·intro r4739 h4740 f_r4739
       refine MT.say (MT.ask (R := fun b_ => (b_ = true → True) ∧ (b_ = false → r4739 = false ∧ True)) ?_ ?_)
       ·show MT (Q22_J21_T p_s r4739) _
        refine MT.ite (fun c4741 => ?_) (fun c4741 => ?_)
        ·exact MT.say (MT.ret ⟨(fun _ => trivial), (fun h_ => by cases h_)⟩)
        ·have q18 := f_r4739.2 (c4741)
         refine MT.say (MT.ite (fun c4742 => ?_) (fun c4742 => ?_))
         ·have c4742' : p_s.fKind = 3 := by simpa using c4742
          refine MT.say (MT.ite (fun c4743 => ?_) (fun c4743 => ?_))
          ·have c4743' := of_decide_eq_true c4743
           exact MT.say (MT.ret ⟨(fun _ => trivial), (fun h_ => ⟨(by first | assumption | omega), trivial⟩)⟩)
          ·have c4743' := of_decide_eq_false c4743
           exact MT.say (MT.ret ⟨(fun h_ => by cases h_), (fun h_ => ⟨(by first | assumption | omega), trivial⟩)⟩)
         ·have c4742' : ¬ (p_s.fKind = 3) := by simpa using c4742
          exact MT.say (MT.ret ⟨(fun h_ => by cases h_), (fun h_ => ⟨(by first | assumption | omega), trivial⟩)⟩)
       ·intro r4749 h4750 f_r4749
        refine MT.say (MT.ite (fun c4752 => ?_) (fun c4752 => ?_))
        ·exact MT.say MT.any
        ·have q19 := f_r4749.2 (c4752)
         have q20 := f_r4739.2 (q19.1)
         exact MT.say MT.any
theorem R13_noShape_tot (p_s : GShape) (h_p_s : bulkL p_s.lf1 ≤ 100000000) : Tot (Q43 p_s) Any := by
  have := bulk_shape p_s
  have := len_points p_s.fPoints
  show MT (Q43_T p_s) Any
  repeat' (first | exact MT.any | refine MT.say ?_ | refine MT.ite (fun _ => ?_) (fun _ => ?_) | refine MT.askT ?_ (fun _ _ => ?_) | refine ⟨(show MT _ Any from ?_)⟩)
theorem R13_noExpr_tot (p_e : GExpr) (h_p_e : bulkL p_e.lf1 ≤ 100000000) : Tot (Q18 p_e) Any := by
  have := bulk_expr p_e
  have := len_strs p_e.fPath
  have := len_strs p_e.fNames
  have := bulk_val p_e.fArg
  have := len_exprs p_e.fKids
  show MT (Q18_T p_e) Any
  repeat' (first | exact MT.any | refine MT.say ?_ | refine MT.ite (fun _ => ?_) (fun _ => ?_) | refine MT.askT ?_ (fun _ _ => ?_) | exact ⟨T.wk (T.val (Missing_val _))⟩ | refine ⟨(show MT _ Any from ?_)⟩)
theorem R13_unused_tot (p_p : GPred) (h_p_p : bulkL p_p.lf1 ≤ 100000000) : Tot (Q9 p_p) Any := by
  have := bulk_pred p_p
  have := len_strs p_p.fPath
  have := bulk_val p_p.fArg
  have := len_vals p_p.fArgs
  have := bulk_shape p_p.fShape
  have := bulk_expr p_p.fExpr
  show MT (Q9_T p_p) Any
  repeat' (first | exact MT.any | refine MT.say ?_ | refine MT.ite (fun _ => ?_) (fun _ => ?_) | refine MT.askT ?_ (fun _ _ => ?_) | exact ⟨T.wk (T.val (Missing_val _))⟩ | exact ⟨T.wk (R13_OnPath_tot _)⟩ | exact ⟨T.wk (R13_hasArg_tot _)⟩ | exact ⟨T.wk (R13_hasArgs_tot _)⟩ | exact ⟨T.wk (R13_noExpr_tot _ (by first | omega | decide))⟩ | exact ⟨T.wk (R13_noShape_tot _ (by first | omega | decide))⟩ | refine ⟨(show MT _ Any from ?_)⟩)
theorem R08_Kids_tot (p_op : Int) : Tot (Q28 p_op) Any := by
  show MT (Q28_T p_op) Any
  repeat' (first | exact MT.any | refine MT.say ?_ | refine MT.ite (fun _ => ?_) (fun _ => ?_) | refine MT.askT ?_ (fun _ _ => ?_) | refine ⟨(show MT _ Any from ?_)⟩)
theorem R08_named_tot (p_l : List ByteArray) (h_p_l : bulkR (p_l.map lfS) ≤ 100000000) : Tot (Q37 p_l) Any := by
  have := len_strs p_l
  show MT (Q37_T p_l) Any
  refine MT.ask2 (R := Any) ?_ ?_ ?_
  ·refine T.cnt (fun _ => True) ?_
   intro k21 hk21
   show MT (Q37_L6_T p_l ((k21 : Nat) : Int)) _
   refine MT.say (MT.ite (fun c5297 => ?_) (fun c5297 => ?_))
   ·have c5297' := of_decide_eq_true c5297
    refine MT.say (MT.ask (tot_gidx p_l ((k21 : Nat) : Int) (by omega) (by omega)) (fun x5298 _ hx22 => ?_))
    have := mem_str hx22
    refine MT.say (MT.ask (R := Any) ?_ ?_)
    ·exact T.wk (T.val (Name_val x5298))
    ·intro r5300 h5301 _
     refine MT.say (MT.ite (fun c5302 => ?_) (fun c5302 => ?_))
     ·exact MT.say (MT.ret trivial)
     ·refine MT.say (MT.ask2 (R := Any) ?_ ?_ ?_)
      ·refine T.cnt (fun _ => True) ?_
       intro k23 hk23
       show MT (Q37_L0_T p_l ((k21 : Nat) : Int) ((k23 : Nat) : Int)) _
       refine MT.ite (fun c5310 => ?_) (fun c5310 => ?_)
       ·have c5310' := of_decide_eq_true c5310
        refine MT.say (MT.ask (tot_gidx p_l ((k23 : Nat) : Int) (by omega) (by omega)) (fun x5311 _ hx24 => ?_))
        have := mem_str hx24
        refine MT.say (MT.ask (tot_gidx p_l ((k21 : Nat) : Int) (by omega) (by omega)) (fun x5313 _ hx25 => ?_))
        have := mem_str hx25
        refine MT.say (MT.ite (fun c5315 => ?_) (fun c5315 => ?_))
        ·exact MT.say (MT.ret trivial)
        ·exact MT.say (MT.ret ⟨rfl, by omega⟩)
       ·have c5310' := of_decide_eq_false c5310
        exact MT.say (MT.ret trivial)
      ·intro o5318 h5317 _
       exact MT.say (MT.ret trivial)
      ·intro o5319 h5317 _
       exact MT.say (MT.ret ⟨rfl, by omega⟩)
   ·have c5297' := of_decide_eq_false c5297
    exact MT.say (MT.ret trivial)
  ·intro o5322 h5321 _
   exact MT.say MT.any
  ·intro o5323 h5321 _
   exact MT.say MT.any
theorem R01_Same_tot0 (n_ : Nat) : ∀ (p_a : GValue) (p_b : GValue), bulkL p_a.lf1 < n_ → bulkL p_a.lf1 ≤ 100000000 → bulkL p_b.lf1 ≤ 100000000 → Tot ((RB13_F n_).m1 p_a p_b) Any := by
  induction n_ with
  | zero => intro p_a p_b h; omega
  | succ n_ ih =>
    intro p_a p_b h_ h_p_a h_p_b
    have := bulk_val p_a
    have := len_vals p_a.fList
    have := len_fields p_a.fDoc
    have := bulk_val p_b
    have := len_vals p_b.fList
    have := len_fields p_b.fDoc
    show MT (Q12_T (RB13_F n_) p_a p_b) Any
    refine MT.ask (R := fun b_ => (b_ = true → True) ∧ (b_ = false → p_a.fKind = p_b.fKind ∧ p_a.fInt = p_b.fInt ∧ True)) ?_ ?_
    ·show MT (Q12_J0_T (RB13_F n_) p_a p_b) _
     refine MT.ite (fun c5391 => ?_) (fun c5391 => ?_)
     ·have c5391' : ¬ (p_a.fKind = p_b.fKind) := by simpa using c5391
      exact MT.say (MT.ret ⟨(fun _ => trivial), (fun h_ => by cases h_)⟩)
     ·have c5391' : p_a.fKind = p_b.fKind := by simpa using c5391
      exact MT.say (MT.ret ⟨(fun _ => trivial), (fun h_ => ⟨(by first | assumption | omega), (by simpa using h_), trivial⟩)⟩)
    ·intro r5393 h5394 f_r5393
     refine MT.say (MT.ask (R := fun b_ => (b_ = true → True) ∧ (b_ = false → r5393 = false ∧ True)) ?_ ?_)
     ·show MT (Q12_J5_T (RB13_F n_) p_a p_b r5393) _
      refine MT.ite (fun c5395 => ?_) (fun c5395 => ?_)
      ·exact MT.say (MT.ret ⟨(fun _ => trivial), (fun h_ => by cases h_)⟩)
      ·have q26 := f_r5393.2 (c5395)
       exact MT.say (MT.ret ⟨(fun _ => trivial), (fun h_ => ⟨(by first | assumption | omega), trivial⟩)⟩)
     ·intro r5397 h5398 f_r5397
      refine MT.say (MT.ask (R := fun b_ => (b_ = true → True) ∧ (b_ = false → r5397 = false ∧ (p_a.fList.length : Int) = (p_b.fList.length : Int) ∧ True)) ?_ ?_)
      ·show MT (Q12_J10_T (RB13_F n_) p_a p_b r5397) _
       refine MT.ite (fun c5399 => ?_) (fun c5399 => ?_)
       ·exact MT.say (MT.ret ⟨(fun _ => trivial), (fun h_ => by cases h_)⟩)
       ·have q27 := f_r5397.2 (c5399)
        have q28 := f_r5393.2 (q27.1)
        exact MT.say (MT.ret ⟨(fun _ => trivial), (fun h_ => ⟨(by first | assumption | omega), (by simpa using h_), trivial⟩)⟩)
      ·intro r5401 h5402 f_r5401
       refine MT.say (MT.ask (R := fun b_ => (b_ = true → True) ∧ (b_ = false → r5401 = false ∧ (p_a.fDoc.length : Int) = (p_b.fDoc.length : Int) ∧ True)) ?_ ?_)
       ·show MT (Q12_J15_T (RB13_F n_) p_a p_b r5401) _
        refine MT.ite (fun c5403 => ?_) (fun c5403 => ?_)
        ·exact MT.say (MT.ret ⟨(fun _ => trivial), (fun h_ => by cases h_)⟩)
        ·have q29 := f_r5401.2 (c5403)
         have q30 := f_r5397.2 (q29.1)
         have q31 := f_r5393.2 (q30.1)
         exact MT.say (MT.ret ⟨(fun _ => trivial), (fun h_ => ⟨(by first | assumption | omega), (by simpa using h_), trivial⟩)⟩)
       ·intro r5405 h5406 f_r5405
        refine MT.say (MT.ite (fun c5408 => ?_) (fun c5408 => ?_))
        ·exact MT.say MT.any
        ·have q32 := f_r5405.2 (c5408)
         have q33 := f_r5401.2 (q32.1)
         have q34 := f_r5397.2 (q33.1)
         have q35 := f_r5393.2 (q34.1)
         refine MT.say (MT.ask2 (R := Any) ?_ ?_ ?_)
         ·refine T.cnt (fun _ => True) ?_
          intro k36 hk36
          show MT (Q12_L20_T (RB13_F n_) p_a p_b ((k36 : Nat) : Int)) _
          refine MT.say (MT.ite (fun c5454 => ?_) (fun c5454 => ?_))
          ·have c5454' := of_decide_eq_true c5454
           refine MT.say (MT.ask (tot_gidx p_a.fList ((k36 : Nat) : Int) (by omega) (by omega)) (fun x5455 _ hx37 => ?_))
           have := mem_val hx37
           have := bulk_val x5455
           refine MT.say (MT.ask (tot_gidx p_b.fList ((k36 : Nat) : Int) (by omega) (by omega)) (fun x5457 _ hx38 => ?_))
           have := mem_val hx38
           have := bulk_val x5457
           refine MT.say (MT.ask (R := Any) ?_ ?_)
           ·exact (ih x5455 x5457 (by omega) (by first | omega | (simp; done) | decide) (by first | omega | (simp; done) | decide))
           ·intro r5459 h5460 _
            refine MT.say (MT.ite (fun c5461 => ?_) (fun c5461 => ?_))
            ·exact MT.say (MT.ret trivial)
            ·exact MT.say (MT.ret ⟨rfl, by omega⟩)
          ·have c5454' := of_decide_eq_false c5454
           exact MT.say (MT.ret trivial)
         ·intro o5464 h5463 _
          exact MT.say MT.any
         ·intro o5465 h5463 _
          refine MT.say (MT.ask2 (R := Any) ?_ ?_ ?_)
          ·refine T.cnt (fun _ => True) ?_
           intro k39 hk39
           show MT (Q12_L31_T (RB13_F n_) p_a p_b ((k39 : Nat) : Int)) _
           refine MT.say (MT.ite (fun c5548 => ?_) (fun c5548 => ?_))
           ·have c5548' := of_decide_eq_true c5548
            refine MT.say (MT.ask (R := Any) ?_ ?_)
            ·show MT (Q12_J26_T (RB13_F n_) p_a p_b ((k39 : Nat) : Int)) Any
             refine MT.ask (tot_gidx p_a.fDoc ((k39 : Nat) : Int) (by omega) (by omega)) (fun x5549 _ hx40 => ?_)
             have := mem_field hx40
             have := bulk_field x5549
             refine MT.say (MT.ask (tot_gidx p_b.fDoc ((k39 : Nat) : Int) (by omega) (by omega)) (fun x5551 _ hx41 => ?_))
             have := mem_field hx41
             have := bulk_field x5551
             refine MT.say (MT.ite (fun c5553 => ?_) (fun c5553 => ?_))
             ·exact MT.say MT.any
             ·refine MT.say (MT.ask (tot_gidx p_a.fDoc ((k39 : Nat) : Int) (by omega) (by omega)) (fun x5554 _ hx42 => ?_))
              have := mem_field hx42
              have := bulk_field x5554
              have := bulk_val x5554.fValue
              refine MT.say (MT.ask (tot_gidx p_b.fDoc ((k39 : Nat) : Int) (by omega) (by omega)) (fun x5556 _ hx43 => ?_))
              have := mem_field hx43
              have := bulk_field x5556
              have := bulk_val x5556.fValue
              refine MT.say (MT.ask (R := Any) ?_ ?_)
              ·exact (ih x5554.fValue x5556.fValue (by omega) (by first | omega | (simp; done) | decide) (by first | omega | (simp; done) | decide))
              ·intro r5558 h5559 _
               exact MT.say MT.any
            ·intro r5561 h5562 _
             refine MT.say (MT.ite (fun c5563 => ?_) (fun c5563 => ?_))
             ·exact MT.say (MT.ret trivial)
             ·exact MT.say (MT.ret ⟨rfl, by omega⟩)
           ·have c5548' := of_decide_eq_false c5548
            exact MT.say (MT.ret trivial)
          ·intro o5566 h5565 _
           exact MT.say MT.any
          ·intro o5567 h5565 _
           exact MT.say MT.any
theorem R01_Same_tot (p_a : GValue) (p_b : GValue) (h_p_a : bulkL p_a.lf1 ≤ 100000000) (h_p_b : bulkL p_b.lf1 ≤ 100000000) : Tot (Q12 p_a p_b) Any := R01_Same_tot0 FU p_a p_b (by have := FU_big; omega) h_p_a h_p_b
theorem R08_node_tot (p_e : GExpr) (h_p_e : bulkL p_e.lf1 ≤ 100000000) : Tot (Q4 p_e) Any := by
  have := bulk_expr p_e
  have := len_strs p_e.fPath
  have := len_strs p_e.fNames
  have := bulk_val p_e.fArg
  have := len_exprs p_e.fKids
  show MT (Q4_T p_e) Any
  repeat' (first | exact MT.any | refine MT.say ?_ | refine MT.ite (fun _ => ?_) (fun _ => ?_) | refine MT.askT ?_ (fun _ _ => ?_) | exact ⟨T.wk (T.val (Name_val _))⟩ | exact ⟨T.wk (R01_Same_tot _ _ (by first | omega | decide) (by first | omega | decide))⟩ | exact ⟨T.wk (Valid_tot _ (by first | omega | decide))⟩ | exact ⟨T.wk (T.val (Path_val _))⟩ | exact ⟨T.wk (R08_Kids_tot _)⟩ | exact ⟨T.wk (R08_named_tot _ (by first | omega | decide))⟩ | refine ⟨(show MT _ Any from ?_)⟩)
theorem R08_check_tot0 (n_ : Nat) : ∀ (p_e : GExpr) (p_number : Int) (p_level : Int), bulkL p_e.lf1 < n_ → bulkL p_e.lf1 ≤ 100000000 → Tot ((RB12_F n_).m1 p_e p_number p_level) Any := by
  induction n_ with
  | zero => intro p_e p_number p_level h; omega
  | succ n_ ih =>
    intro p_e p_number p_level h_ h_p_e
    have := bulk_expr p_e
    have := len_exprs p_e.fKids
    show MT (Q44_T (RB12_F n_) p_e p_number p_level) Any
    refine MT.ask (R := fun b_ => (b_ = true → True) ∧ (b_ = false → ¬ ((16 : Int) < p_level) ∧ ¬ ((256 : Int) < p_number) ∧ True)) ?_ ?_
    ·show MT (Q44_J0_T (RB12_F n_) p_e p_level p_number) _
     refine MT.ite (fun c4926 => ?_) (fun c4926 => ?_)
     ·have c4926' := of_decide_eq_true c4926
      exact MT.say (MT.ret ⟨(fun _ => trivial), (fun h_ => by cases h_)⟩)
     ·have c4926' := of_decide_eq_false c4926
      exact MT.say (MT.ret ⟨(fun _ => trivial), (fun h_ => ⟨(by first | assumption | omega), (of_decide_eq_false h_), trivial⟩)⟩)
    ·intro r4928 h4929 f_r4928
     refine MT.say (MT.ite (fun c4931 => ?_) (fun c4931 => ?_))
     ·exact MT.say MT.any
     ·have q44 := f_r4928.2 (c4931)
      refine MT.say (MT.ask (R := Any) ?_ ?_)
      ·exact T.wk (R08_node_tot p_e (by first | omega | (simp; done) | decide))
      ·intro r5614 h5615 _
       refine MT.say (MT.ite (fun c5617 => ?_) (fun c5617 => ?_))
       ·have c5617' : ¬ (r5614 = 0) := by simpa using c5617
        exact MT.say MT.any
       ·have c5617' : r5614 = 0 := by simpa using c5617
        refine MT.say (MT.ask2 (R := Any) ?_ ?_ ?_)
        ·refine T.cntR (fun _ => True) ?_
         intro v5659 k45 hk45
         show MT (Q44_L5_T (RB12_F n_) p_e p_level (v5659, ((k45 : Nat) : Int))) _
         refine MT.say (MT.ite (fun c5661 => ?_) (fun c5661 => ?_))
         ·have c5661' := of_decide_eq_true c5661
          refine MT.say (MT.ask (tot_gidx p_e.fKids ((k45 : Nat) : Int) (by omega) (by omega)) (fun x5662 _ hx46 => ?_))
          have := mem_expr hx46
          have := bulk_expr x5662
          refine MT.say (MT.ask (R := Any) ?_ ?_)
          ·exact (ih x5662 (IntKind.wrap .i64 (v5659 + 1)) (IntKind.wrap .i64 (p_level + 1)) (by omega) (by first | omega | (simp; done) | decide))
          ·intro r5664 h5665 _
           refine MT.say (MT.ite (fun c5666 => ?_) (fun c5666 => ?_))
           ·have c5666' : ¬ (r5664.2 = 0) := by simpa using c5666
            exact MT.say (MT.ret trivial)
           ·have c5666' : r5664.2 = 0 := by simpa using c5666
            exact MT.say (MT.ret ⟨rfl, by omega⟩)
         ·have c5661' := of_decide_eq_false c5661
          exact MT.say (MT.ret trivial)
        ·intro o5675 h5674 _
         exact MT.say MT.any
        ·intro o5676 h5674 _
         exact MT.say MT.any
theorem R08_check_tot (p_e : GExpr) (p_number : Int) (p_level : Int) (h_p_e : bulkL p_e.lf1 ≤ 100000000) : Tot (Q44 p_e p_number p_level) Any := R08_check_tot0 FU p_e p_number p_level (by have := FU_big; omega) h_p_e
theorem R08_Valid_tot (p_e : GExpr) (h_p_e : bulkL p_e.lf1 ≤ 100000000) : Tot (Q93 p_e) Any := by
  have := bulk_expr p_e
  show MT (Q93_T p_e) Any
  repeat' (first | exact MT.any | refine MT.say ?_ | refine MT.ite (fun _ => ?_) (fun _ => ?_) | refine MT.askT ?_ (fun _ _ => ?_) | exact ⟨T.wk (R08_check_tot _ _ _ (by first | omega | decide))⟩)
theorem R13_node_tot0 (n_ : Nat) : ∀ (p_p : GPred) (p_elem : Bool), bulkL p_p.lf1 < n_ → bulkL p_p.lf1 ≤ 100000000 → Tot ((RB11_F n_).m1 p_p p_elem) Any := by
  induction n_ with
  | zero => intro p_p p_elem h; omega
  | succ n_ ih =>
    intro p_p p_elem h_ h_p_p
    have := bulk_pred p_p
    have := len_strs p_p.fPath
    have := bulk_val p_p.fArg
    have := len_vals p_p.fArgs
    have := bulk_shape p_p.fShape
    have := bulk_expr p_p.fExpr
    have := len_preds p_p.fKids
    show MT (Q3_T (RB11_F n_) p_p p_elem) Any
    refine MT.ask (R := fun b_ => (b_ = true → True) ∧ (b_ = false → ¬ ((p_p.fOp : Int) < 1) ∧ ¬ ((24 : Int) < p_p.fOp) ∧ True)) ?_ ?_
    ·show MT (Q3_J0_T (RB11_F n_) p_elem p_p) _
     refine MT.ite (fun c4488 => ?_) (fun c4488 => ?_)
     ·have c4488' := of_decide_eq_true c4488
      exact MT.say (MT.ret ⟨(fun _ => trivial), (fun h_ => by cases h_)⟩)
     ·have c4488' := of_decide_eq_false c4488
      exact MT.say (MT.ret ⟨(fun _ => trivial), (fun h_ => ⟨(by first | assumption | omega), (of_decide_eq_false h_), trivial⟩)⟩)
    ·intro r4490 h4491 f_r4490
     refine MT.say (MT.ask (R := fun b_ => (b_ = true → True) ∧ (b_ = false → r4490 = false ∧ True)) ?_ ?_)
     ·show MT (Q3_J5_T (RB11_F n_) p_elem p_p r4490) _
      refine MT.ite (fun c4492 => ?_) (fun c4492 => ?_)
      ·exact MT.say (MT.ret ⟨(fun _ => trivial), (fun h_ => by cases h_)⟩)
      ·have q47 := f_r4490.2 (c4492)
       refine MT.say (MT.ask (R := Any) ?_ ?_)
       ·exact T.wk (R13_kids_tot p_p (by first | omega | (simp; done) | decide))
       ·intro r4493 h4494 _
        exact MT.say (MT.ret ⟨(fun _ => trivial), (fun h_ => ⟨(by first | assumption | omega), trivial⟩)⟩)
     ·intro r4496 h4497 f_r4496
      refine MT.say (MT.ask (R := fun b_ => (b_ = true → True) ∧ (b_ = false → r4496 = false ∧ True)) ?_ ?_)
      ·show MT (Q3_J10_T (RB11_F n_) p_elem p_p r4496) _
       refine MT.ite (fun c4498 => ?_) (fun c4498 => ?_)
       ·exact MT.say (MT.ret ⟨(fun _ => trivial), (fun h_ => by cases h_)⟩)
       ·have q48 := f_r4496.2 (c4498)
        have q49 := f_r4490.2 (q48.1)
        refine MT.say (MT.ask (R := Any) ?_ ?_)
        ·exact T.wk (R13_hasArgs_tot p_p.fOp )
        ·intro r4499 h4500 _
         refine MT.say (MT.ite (fun c4501 => ?_) (fun c4501 => ?_))
         ·exact MT.say (MT.ret ⟨(fun _ => trivial), (fun h_ => ⟨(by first | assumption | omega), trivial⟩)⟩)
         ·exact MT.say (MT.ret ⟨(fun h_ => by cases h_), (fun h_ => ⟨(by first | assumption | omega), trivial⟩)⟩)
      ·intro r4503 h4504 f_r4503
       refine MT.say (MT.ask (R := fun b_ => (b_ = true → True) ∧ (b_ = false → r4503 = false ∧ True)) ?_ ?_)
       ·show MT (Q3_J15_T (RB11_F n_) p_elem p_p r4503) _
        refine MT.ite (fun c4505 => ?_) (fun c4505 => ?_)
        ·exact MT.say (MT.ret ⟨(fun _ => trivial), (fun h_ => by cases h_)⟩)
        ·have q50 := f_r4503.2 (c4505)
         have q51 := f_r4496.2 (q50.1)
         have q52 := f_r4490.2 (q51.1)
         refine MT.say (MT.ask (R := Any) ?_ ?_)
         ·exact T.wk (R13_numbers_tot p_p (by first | omega | (simp; done) | decide))
         ·intro r4506 h4507 _
          exact MT.say (MT.ret ⟨(fun _ => trivial), (fun h_ => ⟨(by first | assumption | omega), trivial⟩)⟩)
       ·intro r4509 h4510 f_r4509
        refine MT.say (MT.ite (fun c4512 => ?_) (fun c4512 => ?_))
        ·exact MT.say MT.any
        ·have q53 := f_r4509.2 (c4512)
         have q54 := f_r4503.2 (q53.1)
         have q55 := f_r4496.2 (q54.1)
         have q56 := f_r4490.2 (q55.1)
         refine MT.say (MT.ask (R := Any) ?_ ?_)
         ·show MT (Q3_J20_T (RB11_F n_) p_elem p_p) Any
          refine MT.ask (R := Any) ?_ ?_
          ·exact T.wk (R13_OnPath_tot p_p.fOp )
          ·intro r4527 h4528 _
           refine MT.say (MT.ite (fun c4529 => ?_) (fun c4529 => ?_))
           ·refine MT.say (MT.ask (R := Any) ?_ ?_)
            ·exact T.wk (T.val (Path_val p_p.fPath))
            ·intro r4530 h4531 _
             exact MT.say MT.any
           ·exact MT.say MT.any
         ·intro r4533 h4534 _
          refine MT.say (MT.ask (R := fun b_ => (b_ = true → r4533 = true ∧ True) ∧ (b_ = false → True)) ?_ ?_)
          ·show MT (Q3_J25_T (RB11_F n_) p_elem p_p r4533) _
           refine MT.ite (fun c4535 => ?_) (fun c4535 => ?_)
           ·refine MT.say (MT.ite (fun c4536 => ?_) (fun c4536 => ?_))
            ·exact MT.say (MT.ret ⟨(fun h_ => ⟨(by first | assumption | omega), trivial⟩), (fun _ => trivial)⟩)
            ·exact MT.say (MT.ret ⟨(fun h_ => ⟨(by first | assumption | omega), trivial⟩), (fun h_ => by cases h_)⟩)
           ·exact MT.say (MT.ret ⟨(fun h_ => by cases h_), (fun _ => trivial)⟩)
          ·intro r4538 h4539 f_r4538
           refine MT.say (MT.ite (fun c4541 => ?_) (fun c4541 => ?_))
           ·have q57 := f_r4538.1 (c4541)
            exact MT.say MT.any
           ·refine MT.say (MT.ask (R := Any) ?_ ?_)
            ·show MT (Q3_J30_T (RB11_F n_) p_elem p_p) Any
             refine MT.ask (R := Any) ?_ ?_
             ·exact T.wk (R13_hasArg_tot p_p.fOp )
             ·intro r4559 h4560 _
              refine MT.say (MT.ite (fun c4561 => ?_) (fun c4561 => ?_))
              ·refine MT.say (MT.ask (R := Any) ?_ ?_)
               ·exact T.wk (Valid_tot p_p.fArg (by first | omega | (simp; done) | decide))
               ·intro r4562 h4563 _
                refine MT.say (MT.ite (fun c4564 => ?_) (fun c4564 => ?_))
                ·exact MT.say MT.any
                ·refine MT.say (MT.ask (R := Any) ?_ ?_)
                 ·exact T.wk (R13_hasText_tot p_p.fOp )
                 ·intro r4565 h4566 _
                  refine MT.say (MT.ite (fun c4567 => ?_) (fun c4567 => ?_))
                  ·exact MT.say MT.any
                  ·exact MT.say MT.any
              ·exact MT.say MT.any
            ·intro r4569 h4570 _
             refine MT.say (MT.ite (fun c4572 => ?_) (fun c4572 => ?_))
             ·exact MT.say MT.any
             ·refine MT.say (MT.ask2 (R := Any) ?_ ?_ ?_)
              ·refine T.cnt (fun _ => True) ?_
               intro k58 hk58
               show MT (Q3_L40_T (RB11_F n_) p_elem p_p ((k58 : Nat) : Int)) _
               refine MT.ask (R := fun b_ => (b_ = true → (((k58 : Nat) : Int) : Int) < (p_p.fArgs.length : Int) ∧ True) ∧ (b_ = false → True)) ?_ ?_
               ·show MT (Q3_J35_T (RB11_F n_) p_elem p_p ((k58 : Nat) : Int)) _
                refine MT.say (MT.ite (fun c4629 => ?_) (fun c4629 => ?_))
                ·have c4629' := of_decide_eq_true c4629
                 refine MT.say (MT.ask (R := Any) ?_ ?_)
                 ·exact T.wk (R13_hasArgs_tot p_p.fOp )
                 ·intro r4630 h4631 _
                  exact MT.say (MT.ret ⟨(fun h_ => ⟨(by first | assumption | omega), trivial⟩), (fun _ => trivial)⟩)
                ·have c4629' := of_decide_eq_false c4629
                 exact MT.say (MT.ret ⟨(fun h_ => by cases h_), (fun _ => trivial)⟩)
               ·intro r4633 h4634 f_r4633
                refine MT.say (MT.ite (fun c4635 => ?_) (fun c4635 => ?_))
                ·have q59 := f_r4633.1 (c4635)
                 refine MT.say (MT.ask (tot_gidx p_p.fArgs ((k58 : Nat) : Int) (by omega) (by omega)) (fun x4636 _ hx60 => ?_))
                 have := mem_val hx60
                 have := bulk_val x4636
                 refine MT.say (MT.ask (R := Any) ?_ ?_)
                 ·exact T.wk (Valid_tot x4636 (by first | omega | (simp; done) | decide))
                 ·intro r4638 h4639 _
                  refine MT.say (MT.ite (fun c4640 => ?_) (fun c4640 => ?_))
                  ·exact MT.say (MT.ret trivial)
                  ·exact MT.say (MT.ret ⟨rfl, by omega⟩)
                ·exact MT.say (MT.ret trivial)
              ·intro o4643 h4642 _
               exact MT.say MT.any
              ·intro o4644 h4642 _
               refine MT.say (MT.ask2 (R := Any) ?_ ?_ ?_)
               ·show MT (Q3_J46_T (RB11_F n_) p_elem p_p) Any
                refine MT.ite (fun c4758 => ?_) (fun c4758 => ?_)
                ·have c4758' : p_p.fOp = 18 := by simpa using c4758
                 refine MT.say (MT.ask (R := Any) ?_ ?_)
                 ·exact T.wk (R10_Valid_tot p_p.fShape (by first | omega | (simp; done) | decide))
                 ·intro r4759 h4760 _
                  refine MT.say (MT.ite (fun c4761 => ?_) (fun c4761 => ?_))
                  ·have c4761' : ¬ (r4759 = 0) := by simpa using c4761
                   exact MT.say MT.any
                  ·have c4761' : r4759 = 0 := by simpa using c4761
                   exact MT.say MT.any
                ·have c4758' : ¬ (p_p.fOp = 18) := by simpa using c4758
                 exact MT.say MT.any
               ·intro o4766 h4765 _
                exact MT.say MT.any
               ·intro o4767 h4765 _
                refine MT.say (MT.ask (R := Any) ?_ ?_)
                ·exact T.wk (R13_unused_tot p_p (by first | omega | (simp; done) | decide))
                ·intro r4920 h4921 _
                 refine MT.say (MT.ite (fun c4923 => ?_) (fun c4923 => ?_))
                 ·exact MT.say MT.any
                 ·refine MT.say (MT.ite (fun c5683 => ?_) (fun c5683 => ?_))
                  ·have c5683' : p_p.fOp = 24 := by simpa using c5683
                   refine MT.say (MT.ask (R := Any) ?_ ?_)
                   ·exact T.wk (R08_Valid_tot p_p.fExpr (by first | omega | (simp; done) | decide))
                   ·intro r5686 h5687 _
                    exact MT.say MT.any
                  ·have c5683' : ¬ (p_p.fOp = 24) := by simpa using c5683
                   refine MT.say (MT.ask2 (R := Any) ?_ ?_ ?_)
                   ·refine T.cnt (fun _ => True) ?_
                    intro k61 hk61
                    show MT (Q3_L56_T (RB11_F n_) p_elem p_p ((k61 : Nat) : Int)) _
                    refine MT.say (MT.ite (fun c5752 => ?_) (fun c5752 => ?_))
                    ·have c5752' := of_decide_eq_true c5752
                     refine MT.say (MT.ask (R := Any) ?_ ?_)
                     ·show MT (Q3_J51_T (RB11_F n_) p_elem p_p ((k61 : Nat) : Int)) Any
                      refine MT.ask (tot_gidx p_p.fKids ((k61 : Nat) : Int) (by omega) (by omega)) (fun x5753 _ hx62 => ?_)
                      have := mem_pred hx62
                      have := bulk_pred x5753
                      refine MT.say (MT.ite (fun c5755 => ?_) (fun c5755 => ?_))
                      ·refine MT.say (MT.ask (R := Any) ?_ ?_)
                       ·exact (ih x5753 true (by omega) (by first | omega | (simp; done) | decide))
                       ·intro r5756 h5757 _
                        exact MT.say MT.any
                      ·refine MT.say (MT.ask (R := Any) ?_ ?_)
                       ·exact (ih x5753 (p_p.fOp == 15) (by omega) (by first | omega | (simp; done) | decide))
                       ·intro r5758 h5759 _
                        exact MT.say MT.any
                     ·intro r5761 h5762 _
                      refine MT.say (MT.ite (fun c5763 => ?_) (fun c5763 => ?_))
                      ·have c5763' : ¬ (r5761 = 0) := by simpa using c5763
                       exact MT.say (MT.ret trivial)
                      ·have c5763' : r5761 = 0 := by simpa using c5763
                       exact MT.say (MT.ret ⟨rfl, by omega⟩)
                    ·have c5752' := of_decide_eq_false c5752
                     exact MT.say (MT.ret trivial)
                   ·intro o5768 h5767 _
                    exact MT.say MT.any
                   ·intro o5769 h5767 _
                    exact MT.say MT.any
theorem R13_node_tot (p_p : GPred) (p_elem : Bool) (h_p_p : bulkL p_p.lf1 ≤ 100000000) : Tot (Q3 p_p p_elem) Any := R13_node_tot0 FU p_p p_elem (by have := FU_big; omega) h_p_p
theorem R13_Valid_tot (p_p : GPred) (h_p_p : bulkL p_p.lf1 ≤ 100000000) : Tot (Q94 p_p) Any := by
  have := bulk_pred p_p
  show MT (Q94_T p_p) Any
  repeat' (first | exact MT.any | refine MT.say ?_ | refine MT.ite (fun _ => ?_) (fun _ => ?_) | refine MT.askT ?_ (fun _ _ => ?_) | exact ⟨T.wk (R13_count_tot _ _ _ (by first | omega | decide))⟩ | exact ⟨T.wk (R13_node_tot _ _ (by first | omega | decide))⟩)
theorem R04_prefix_tot (p_a : List ByteArray) (p_b : List ByteArray) (h_p_a : bulkR (p_a.map lfS) ≤ 100000000) (h_p_b : bulkR (p_b.map lfS) ≤ 100000000) : Tot (Q60 p_a p_b) Any := by
  have := len_strs p_a
  have := len_strs p_b
  show MT (Q60_T p_a p_b) Any
  refine MT.say (MT.ite (fun c5817 => ?_) (fun c5817 => ?_))
  ·have c5817' := of_decide_eq_true c5817
   exact MT.say MT.any
  ·have c5817' := of_decide_eq_false c5817
   refine MT.say (MT.ask2 (R := Any) ?_ ?_ ?_)
   ·refine T.cnt (fun _ => True) ?_
    intro k63 hk63
    show MT (Q60_L0_T p_a p_b ((k63 : Nat) : Int)) _
    refine MT.say (MT.ite (fun c5853 => ?_) (fun c5853 => ?_))
    ·have c5853' := of_decide_eq_true c5853
     refine MT.say (MT.ask (tot_gidx p_a ((k63 : Nat) : Int) (by omega) (by omega)) (fun x5854 _ hx64 => ?_))
     have := mem_str hx64
     refine MT.say (MT.ask (tot_gidx p_b ((k63 : Nat) : Int) (by omega) (by omega)) (fun x5856 _ hx65 => ?_))
     have := mem_str hx65
     refine MT.say (MT.ite (fun c5858 => ?_) (fun c5858 => ?_))
     ·exact MT.say (MT.ret trivial)
     ·exact MT.say (MT.ret ⟨rfl, by omega⟩)
    ·have c5853' := of_decide_eq_false c5853
     exact MT.say (MT.ret trivial)
   ·intro o5861 h5860 _
    exact MT.say MT.any
   ·intro o5862 h5860 _
    exact MT.say MT.any
theorem R04_Same_tot (p_a : List ByteArray) (p_b : List ByteArray) (h_p_a : bulkR (p_a.map lfS) ≤ 100000000) (h_p_b : bulkR (p_b.map lfS) ≤ 100000000) : Tot (Q88 p_a p_b) Any := by
  have := len_strs p_a
  have := len_strs p_b
  show MT (Q88_T p_a p_b) Any
  repeat' (first | exact MT.any | refine MT.say ?_ | refine MT.ite (fun _ => ?_) (fun _ => ?_) | refine MT.askT ?_ (fun _ _ => ?_) | exact ⟨T.wk (R04_prefix_tot _ _ (by first | omega | decide) (by first | omega | decide))⟩)
theorem R08_Same_tot0 (n_ : Nat) : ∀ (p_a : GExpr) (p_b : GExpr), bulkL p_a.lf1 < n_ → bulkL p_a.lf1 ≤ 100000000 → bulkL p_b.lf1 ≤ 100000000 → Tot ((RB14_F n_).m1 p_a p_b) Any := by
  induction n_ with
  | zero => intro p_a p_b h; omega
  | succ n_ ih =>
    intro p_a p_b h_ h_p_a h_p_b
    have := bulk_expr p_a
    have := len_strs p_a.fPath
    have := len_strs p_a.fNames
    have := bulk_val p_a.fArg
    have := len_exprs p_a.fKids
    have := bulk_expr p_b
    have := len_strs p_b.fPath
    have := len_strs p_b.fNames
    have := bulk_val p_b.fArg
    have := len_exprs p_b.fKids
    show MT (Q13_T (RB14_F n_) p_a p_b) Any
    refine MT.ask (R := fun b_ => (b_ = true → True) ∧ (b_ = false → p_a.fOp = p_b.fOp ∧ True)) ?_ ?_
    ·show MT (Q13_J0_T (RB14_F n_) p_a p_b) _
     refine MT.ite (fun c5894 => ?_) (fun c5894 => ?_)
     ·have c5894' : ¬ (p_a.fOp = p_b.fOp) := by simpa using c5894
      exact MT.say (MT.ret ⟨(fun _ => trivial), (fun h_ => by cases h_)⟩)
     ·have c5894' : p_a.fOp = p_b.fOp := by simpa using c5894
      refine MT.say (MT.ask (R := Any) ?_ ?_)
      ·exact T.wk (R04_Same_tot p_a.fPath p_b.fPath (by first | omega | (simp; done) | decide) (by first | omega | (simp; done) | decide))
      ·intro r5895 h5896 _
       exact MT.say (MT.ret ⟨(fun _ => trivial), (fun h_ => ⟨(by first | assumption | omega), trivial⟩)⟩)
    ·intro r5898 h5899 f_r5898
     refine MT.say (MT.ask (R := fun b_ => (b_ = true → True) ∧ (b_ = false → r5898 = false ∧ True)) ?_ ?_)
     ·show MT (Q13_J5_T (RB14_F n_) p_a p_b r5898) _
      refine MT.ite (fun c5900 => ?_) (fun c5900 => ?_)
      ·exact MT.say (MT.ret ⟨(fun _ => trivial), (fun h_ => by cases h_)⟩)
      ·have q66 := f_r5898.2 (c5900)
       exact MT.say (MT.ret ⟨(fun _ => trivial), (fun h_ => ⟨(by first | assumption | omega), trivial⟩)⟩)
     ·intro r5902 h5903 f_r5902
      refine MT.say (MT.ask (R := fun b_ => (b_ = true → True) ∧ (b_ = false → r5902 = false ∧ True)) ?_ ?_)
      ·show MT (Q13_J10_T (RB14_F n_) p_a p_b r5902) _
       refine MT.ite (fun c5904 => ?_) (fun c5904 => ?_)
       ·exact MT.say (MT.ret ⟨(fun _ => trivial), (fun h_ => by cases h_)⟩)
       ·have q67 := f_r5902.2 (c5904)
        have q68 := f_r5898.2 (q67.1)
        refine MT.say (MT.ask (R := Any) ?_ ?_)
        ·exact T.wk (R04_Same_tot p_a.fNames p_b.fNames (by first | omega | (simp; done) | decide) (by first | omega | (simp; done) | decide))
        ·intro r5905 h5906 _
         exact MT.say (MT.ret ⟨(fun _ => trivial), (fun h_ => ⟨(by first | assumption | omega), trivial⟩)⟩)
      ·intro r5908 h5909 f_r5908
       refine MT.say (MT.ask (R := fun b_ => (b_ = true → True) ∧ (b_ = false → r5908 = false ∧ True)) ?_ ?_)
       ·show MT (Q13_J15_T (RB14_F n_) p_a p_b r5908) _
        refine MT.ite (fun c5910 => ?_) (fun c5910 => ?_)
        ·exact MT.say (MT.ret ⟨(fun _ => trivial), (fun h_ => by cases h_)⟩)
        ·have q69 := f_r5908.2 (c5910)
         have q70 := f_r5902.2 (q69.1)
         have q71 := f_r5898.2 (q70.1)
         refine MT.say (MT.ask (R := Any) ?_ ?_)
         ·exact T.wk (R01_Same_tot p_a.fArg p_b.fArg (by first | omega | (simp; done) | decide) (by first | omega | (simp; done) | decide))
         ·intro r5911 h5912 _
          exact MT.say (MT.ret ⟨(fun _ => trivial), (fun h_ => ⟨(by first | assumption | omega), trivial⟩)⟩)
       ·intro r5914 h5915 f_r5914
        refine MT.say (MT.ask (R := fun b_ => (b_ = true → True) ∧ (b_ = false → r5914 = false ∧ p_a.fN = p_b.fN ∧ True)) ?_ ?_)
        ·show MT (Q13_J20_T (RB14_F n_) p_a p_b r5914) _
         refine MT.ite (fun c5916 => ?_) (fun c5916 => ?_)
         ·exact MT.say (MT.ret ⟨(fun _ => trivial), (fun h_ => by cases h_)⟩)
         ·have q72 := f_r5914.2 (c5916)
          have q73 := f_r5908.2 (q72.1)
          have q74 := f_r5902.2 (q73.1)
          have q75 := f_r5898.2 (q74.1)
          exact MT.say (MT.ret ⟨(fun _ => trivial), (fun h_ => ⟨(by first | assumption | omega), (by simpa using h_), trivial⟩)⟩)
        ·intro r5918 h5919 f_r5918
         refine MT.say (MT.ask (R := fun b_ => (b_ = true → True) ∧ (b_ = false → r5918 = false ∧ (p_a.fKids.length : Int) = (p_b.fKids.length : Int) ∧ True)) ?_ ?_)
         ·show MT (Q13_J25_T (RB14_F n_) p_a p_b r5918) _
          refine MT.ite (fun c5920 => ?_) (fun c5920 => ?_)
          ·exact MT.say (MT.ret ⟨(fun _ => trivial), (fun h_ => by cases h_)⟩)
          ·have q76 := f_r5918.2 (c5920)
           have q77 := f_r5914.2 (q76.1)
           have q78 := f_r5908.2 (q77.1)
           have q79 := f_r5902.2 (q78.1)
           have q80 := f_r5898.2 (q79.1)
           exact MT.say (MT.ret ⟨(fun _ => trivial), (fun h_ => ⟨(by first | assumption | omega), (by simpa using h_), trivial⟩)⟩)
         ·intro r5922 h5923 f_r5922
          refine MT.say (MT.ite (fun c5925 => ?_) (fun c5925 => ?_))
          ·exact MT.say MT.any
          ·have q81 := f_r5922.2 (c5925)
           have q82 := f_r5918.2 (q81.1)
           have q83 := f_r5914.2 (q82.1)
           have q84 := f_r5908.2 (q83.1)
           have q85 := f_r5902.2 (q84.1)
           have q86 := f_r5898.2 (q85.1)
           refine MT.say (MT.ask2 (R := Any) ?_ ?_ ?_)
           ·refine T.cnt (fun _ => True) ?_
            intro k87 hk87
            show MT (Q13_L30_T (RB14_F n_) p_a p_b ((k87 : Nat) : Int)) _
            refine MT.say (MT.ite (fun c5971 => ?_) (fun c5971 => ?_))
            ·have c5971' := of_decide_eq_true c5971
             refine MT.say (MT.ask (tot_gidx p_a.fKids ((k87 : Nat) : Int) (by omega) (by omega)) (fun x5972 _ hx88 => ?_))
             have := mem_expr hx88
             have := bulk_expr x5972
             refine MT.say (MT.ask (tot_gidx p_b.fKids ((k87 : Nat) : Int) (by omega) (by omega)) (fun x5974 _ hx89 => ?_))
             have := mem_expr hx89
             have := bulk_expr x5974
             refine MT.say (MT.ask (R := Any) ?_ ?_)
             ·exact (ih x5972 x5974 (by omega) (by first | omega | (simp; done) | decide) (by first | omega | (simp; done) | decide))
             ·intro r5976 h5977 _
              refine MT.say (MT.ite (fun c5978 => ?_) (fun c5978 => ?_))
              ·exact MT.say (MT.ret trivial)
              ·exact MT.say (MT.ret ⟨rfl, by omega⟩)
            ·have c5971' := of_decide_eq_false c5971
             exact MT.say (MT.ret trivial)
           ·intro o5981 h5980 _
            exact MT.say MT.any
           ·intro o5982 h5980 _
            exact MT.say MT.any
theorem R08_Same_tot (p_a : GExpr) (p_b : GExpr) (h_p_a : bulkL p_a.lf1 ≤ 100000000) (h_p_b : bulkL p_b.lf1 ≤ 100000000) : Tot (Q13 p_a p_b) Any := R08_Same_tot0 FU p_a p_b (by have := FU_big; omega) h_p_a h_p_b
theorem R21_zero_tot (p_p : GPred) (h_p_p : bulkL p_p.lf1 ≤ 100000000) : Tot (Q11 p_p) Any := by
  have := bulk_pred p_p
  have := len_strs p_p.fPath
  have := bulk_val p_p.fArg
  have := len_vals p_p.fArgs
  have := bulk_shape p_p.fShape
  have := len_points p_p.fShape.fPoints
  have := bulk_expr p_p.fExpr
  have := len_preds p_p.fKids
  show MT (Q11_T p_p) Any
  repeat' (first | exact MT.any | refine MT.say ?_ | refine MT.ite (fun _ => ?_) (fun _ => ?_) | refine MT.askT ?_ (fun _ _ => ?_) | exact ⟨T.wk (R01_Same_tot _ _ (by first | omega | decide) (by first | omega | decide))⟩ | exact ⟨T.wk (R08_Same_tot _ _ (by first | omega | decide) (by first | omega | decide))⟩ | refine ⟨(show MT _ Any from ?_)⟩)
theorem R21_Valid_tot (p_x : GIndex) (h_p_x : bulkL p_x.lf1 ≤ 100000000) : Tot (Q54 p_x) Any := by
  have := bulk_index p_x
  have := len_orders p_x.fKeys
  have := bulk_pred p_x.fWhere
  show MT (Q54_T p_x) Any
  refine MT.ask (R := Any) ?_ ?_
  ·exact T.wk (T.val (Name_val p_x.fName))
  ·intro r3978 h3979 _
   refine MT.say (MT.ite (fun c3981 => ?_) (fun c3981 => ?_))
   ·exact MT.say MT.any
   ·refine MT.say (MT.ask (R := fun b_ => (b_ = true → True) ∧ (b_ = false → ¬ ((p_x.fKind : Int) < 1) ∧ ¬ ((3 : Int) < p_x.fKind) ∧ True)) ?_ ?_)
    ·show MT (Q54_J0_T p_x) _
     refine MT.ite (fun c3983 => ?_) (fun c3983 => ?_)
     ·have c3983' := of_decide_eq_true c3983
      exact MT.say (MT.ret ⟨(fun _ => trivial), (fun h_ => by cases h_)⟩)
     ·have c3983' := of_decide_eq_false c3983
      exact MT.say (MT.ret ⟨(fun _ => trivial), (fun h_ => ⟨(by first | assumption | omega), (of_decide_eq_false h_), trivial⟩)⟩)
    ·intro r3985 h3986 f_r3985
     refine MT.say (MT.ite (fun c3988 => ?_) (fun c3988 => ?_))
     ·exact MT.say MT.any
     ·have q90 := f_r3985.2 (c3988)
      refine MT.say (MT.ask (R := Any) ?_ ?_)
      ·exact T.wk (R12_Valid_tot p_x.fKeys (by first | omega | (simp; done) | decide))
      ·intro r4228 h4229 _
       refine MT.say (MT.ite (fun c4231 => ?_) (fun c4231 => ?_))
       ·have c4231' : ¬ (r4228 = 0) := by simpa using c4231
        exact MT.say MT.any
       ·have c4231' : r4228 = 0 := by simpa using c4231
        refine MT.say (MT.ask (R := fun b_ => (b_ = true → True) ∧ (b_ = false → ¬ ((p_x.fKeys.length : Int) = 0) ∧ True)) ?_ ?_)
        ·show MT (Q54_J5_T p_x) _
         refine MT.say (MT.ite (fun c4238 => ?_) (fun c4238 => ?_))
         ·have c4238' : (p_x.fKeys.length : Int) = 0 := by simpa using c4238
          exact MT.say (MT.ret ⟨(fun _ => trivial), (fun h_ => by cases h_)⟩)
         ·have c4238' : ¬ ((p_x.fKeys.length : Int) = 0) := by simpa using c4238
          refine MT.say (MT.ite (fun c4239 => ?_) (fun c4239 => ?_))
          ·have c4239' : ¬ (p_x.fKind = 1) := by simpa using c4239
           refine MT.say (MT.ite (fun c4240 => ?_) (fun c4240 => ?_))
           ·have c4240' := of_decide_eq_true c4240
            exact MT.say (MT.ret ⟨(fun _ => trivial), (fun h_ => by cases h_)⟩)
           ·have c4240' := of_decide_eq_false c4240
            refine MT.say (MT.ask (tot_gidx p_x.fKeys 0 (by omega) (by omega)) (fun x4241 _ hx91 => ?_))
            have := mem_order hx91
            have := bulk_order x4241
            refine MT.say (MT.ite (fun c4243 => ?_) (fun c4243 => ?_))
            ·exact MT.say (MT.ret ⟨(fun _ => trivial), (fun h_ => by cases h_)⟩)
            ·exact MT.say (MT.ret ⟨(fun _ => trivial), (fun h_ => ⟨(by first | assumption | omega), trivial⟩)⟩)
          ·have c4239' : p_x.fKind = 1 := by simpa using c4239
           exact MT.say (MT.ret ⟨(fun h_ => by cases h_), (fun h_ => ⟨(by first | assumption | omega), trivial⟩)⟩)
        ·intro r4245 h4246 f_r4245
         refine MT.say (MT.ite (fun c4248 => ?_) (fun c4248 => ?_))
         ·exact MT.say MT.any
         ·have q92 := f_r4245.2 (c4248)
          refine MT.say (MT.ite (fun c5774 => ?_) (fun c5774 => ?_))
          ·refine MT.say (MT.ask (R := Any) ?_ ?_)
           ·exact T.wk (R13_Valid_tot p_x.fWhere (by first | omega | (simp; done) | decide))
           ·intro r5777 h5778 _
            exact MT.say MT.any
          ·refine MT.say (MT.ask (R := Any) ?_ ?_)
           ·exact T.wk (R21_zero_tot p_x.fWhere (by first | omega | (simp; done) | decide))
           ·intro r5998 h5999 _
            refine MT.say (MT.ite (fun c6001 => ?_) (fun c6001 => ?_))
            ·exact MT.say MT.any
            ·exact MT.say MT.any
theorem R23_at_tot (p_l : List GIndex) (p_name : ByteArray) (h_p_l : bulkR (p_l.map GIndex.lf) ≤ 100000000) (h_p_name : p_name.size ≤ 100000000) : Tot (Q64 p_l p_name) Any := by
  have := len_indexes p_l
  show MT (Q64_T p_l p_name) Any
  refine MT.ask2 (R := Any) ?_ ?_ ?_
  ·refine T.cnt (fun _ => True) ?_
   intro k93 hk93
   show MT (Q64_L0_T p_l p_name ((k93 : Nat) : Int)) _
   refine MT.say (MT.ite (fun c6038 => ?_) (fun c6038 => ?_))
   ·have c6038' := of_decide_eq_true c6038
    refine MT.say (MT.ask (tot_gidx p_l ((k93 : Nat) : Int) (by omega) (by omega)) (fun x6039 _ hx94 => ?_))
    have := mem_index hx94
    have := bulk_index x6039
    refine MT.say (MT.ite (fun c6041 => ?_) (fun c6041 => ?_))
    ·exact MT.say (MT.ret trivial)
    ·exact MT.say (MT.ret ⟨rfl, by omega⟩)
   ·have c6038' := of_decide_eq_false c6038
    exact MT.say (MT.ret trivial)
  ·intro o6045 h6044 _
   exact MT.say MT.any
  ·intro o6046 h6044 _
   exact MT.say MT.any
theorem R14_different_tot (p_l : List ByteArray) (h_p_l : bulkR (p_l.map lfS) ≤ 100000000) : Tot (Q27 p_l) Any := by
  have := len_strs p_l
  show MT (Q27_T p_l) Any
  refine MT.ask2 (R := Any) ?_ ?_ ?_
  ·refine T.cnt (fun _ => True) ?_
   intro k95 hk95
   show MT (Q27_L6_T p_l ((k95 : Nat) : Int)) _
   refine MT.say (MT.ite (fun c6323 => ?_) (fun c6323 => ?_))
   ·have c6323' := of_decide_eq_true c6323
    refine MT.say (MT.ask (tot_gidx p_l ((k95 : Nat) : Int) (by omega) (by omega)) (fun x6324 _ hx96 => ?_))
    have := mem_str hx96
    refine MT.say (MT.ask (R := Any) ?_ ?_)
    ·exact T.wk (T.val (Name_val x6324))
    ·intro r6326 h6327 _
     refine MT.say (MT.ite (fun c6328 => ?_) (fun c6328 => ?_))
     ·exact MT.say (MT.ret trivial)
     ·refine MT.say (MT.ask2 (R := Any) ?_ ?_ ?_)
      ·refine T.cnt (fun _ => True) ?_
       intro k97 hk97
       show MT (Q27_L0_T p_l ((k95 : Nat) : Int) ((k97 : Nat) : Int)) _
       refine MT.ite (fun c6336 => ?_) (fun c6336 => ?_)
       ·have c6336' := of_decide_eq_true c6336
        refine MT.say (MT.ask (tot_gidx p_l ((k97 : Nat) : Int) (by omega) (by omega)) (fun x6337 _ hx98 => ?_))
        have := mem_str hx98
        refine MT.say (MT.ask (tot_gidx p_l ((k95 : Nat) : Int) (by omega) (by omega)) (fun x6339 _ hx99 => ?_))
        have := mem_str hx99
        refine MT.say (MT.ite (fun c6341 => ?_) (fun c6341 => ?_))
        ·exact MT.say (MT.ret trivial)
        ·exact MT.say (MT.ret ⟨rfl, by omega⟩)
       ·have c6336' := of_decide_eq_false c6336
        exact MT.say (MT.ret trivial)
      ·intro o6344 h6343 _
       exact MT.say (MT.ret trivial)
      ·intro o6345 h6343 _
       exact MT.say (MT.ret ⟨rfl, by omega⟩)
   ·have c6323' := of_decide_eq_false c6323
    exact MT.say (MT.ret trivial)
  ·intro o6348 h6347 _
   exact MT.say MT.any
  ·intro o6349 h6347 _
   exact MT.say MT.any
theorem R14_unused_tot (p_has : Bool) (p_v : GValue) (h_p_v : bulkL p_v.lf1 ≤ 100000000) : Tot (Q42 p_has p_v) Any := by
  have := bulk_val p_v
  show MT (Q42_T p_has p_v) Any
  repeat' (first | exact MT.any | refine MT.say ?_ | refine MT.ite (fun _ => ?_) (fun _ => ?_) | refine MT.askT ?_ (fun _ _ => ?_) | exact ⟨T.wk (R01_Same_tot _ _ (by first | omega | decide) (by first | omega | decide))⟩ | exact ⟨T.wk (Valid_tot _ (by first | omega | decide))⟩ | refine ⟨(show MT _ Any from ?_)⟩)
theorem R14_single_tot (p_s : GSchema) (h_p_s : bulkL p_s.lf1 ≤ 100000000) : Tot (Q8 p_s) Any := by
  have := bulk_schema p_s
  have := bulk_val p_s.fMin
  have := bulk_val p_s.fMax
  have := len_vals p_s.fEnum
  have := len_strs p_s.fRequired
  have := len_props p_s.fProps
  have := len_schemas p_s.fItems
  show MT (Q8_T p_s) Any
  refine MT.say (MT.ask (R := fun r_ : List ByteArray => bulkR (r_.map lfS) ≤ 100000000) (single_L0_tot p_s (by omega)) (fun r6190 _ r6190' => ?_))
  refine MT.say (MT.ask (R := Any) ?_ ?_)
  ·show MT (Q8_J6_T p_s r6190) Any
   refine MT.ask (R := Any) ?_ ?_
   ·exact T.wk (R14_different_tot p_s.fRequired (by first | omega | (simp; done) | decide))
   ·intro r6355 h6356 _
    refine MT.say (MT.ite (fun c6357 => ?_) (fun c6357 => ?_))
    ·exact MT.say MT.any
    ·refine MT.say (MT.ask (R := Any) ?_ ?_)
     ·exact T.wk (R14_different_tot r6190 (by first | omega | (simp; done) | decide))
     ·intro r6358 h6359 _
      exact MT.say MT.any
  ·intro r6362 h6363 _
   refine MT.say (MT.ite (fun c6365 => ?_) (fun c6365 => ?_))
   ·exact MT.say MT.any
   ·refine MT.say (MT.ask (R := fun b_ => (b_ = true → True) ∧ (b_ = false → ¬ ((p_s.fKinds : Int) < 0) ∧ ¬ ((Int.tmod p_s.fKinds 2) = 1) ∧ True)) ?_ ?_)
    ·show MT (Q8_J11_T p_s) _
     refine MT.ite (fun c6386 => ?_) (fun c6386 => ?_)
     ·have c6386' := of_decide_eq_true c6386
      exact MT.say (MT.ret ⟨(fun _ => trivial), (fun h_ => by cases h_)⟩)
     ·have c6386' := of_decide_eq_false c6386
      exact MT.say (MT.ret ⟨(fun _ => trivial), (fun h_ => ⟨(by first | assumption | omega), (by simpa using h_), trivial⟩)⟩)
    ·intro r6388 h6389 f_r6388
     refine MT.say (MT.ask (R := fun b_ => (b_ = true → True) ∧ (b_ = false → r6388 = false ∧ ¬ ((4096 : Int) ≤ p_s.fKinds) ∧ True)) ?_ ?_)
     ·show MT (Q8_J16_T p_s r6388) _
      refine MT.ite (fun c6390 => ?_) (fun c6390 => ?_)
      ·exact MT.say (MT.ret ⟨(fun _ => trivial), (fun h_ => by cases h_)⟩)
      ·have q100 := f_r6388.2 (c6390)
       exact MT.say (MT.ret ⟨(fun _ => trivial), (fun h_ => ⟨(by first | assumption | omega), (of_decide_eq_false h_), trivial⟩)⟩)
     ·intro r6392 h6393 f_r6392
      refine MT.say (MT.ask (R := fun b_ => (b_ = true → True) ∧ (b_ = false → r6392 = false ∧ ¬ ((p_s.fMinLen : Int) < 0) ∧ True)) ?_ ?_)
      ·show MT (Q8_J21_T p_s r6392) _
       refine MT.ite (fun c6394 => ?_) (fun c6394 => ?_)
       ·exact MT.say (MT.ret ⟨(fun _ => trivial), (fun h_ => by cases h_)⟩)
       ·have q101 := f_r6392.2 (c6394)
        have q102 := f_r6388.2 (q101.1)
        exact MT.say (MT.ret ⟨(fun _ => trivial), (fun h_ => ⟨(by first | assumption | omega), (of_decide_eq_false h_), trivial⟩)⟩)
      ·intro r6396 h6397 f_r6396
       refine MT.say (MT.ask (R := fun b_ => (b_ = true → True) ∧ (b_ = false → r6396 = false ∧ ¬ ((p_s.fMaxLen : Int) < (-1)) ∧ True)) ?_ ?_)
       ·show MT (Q8_J26_T p_s r6396) _
        refine MT.ite (fun c6398 => ?_) (fun c6398 => ?_)
        ·exact MT.say (MT.ret ⟨(fun _ => trivial), (fun h_ => by cases h_)⟩)
        ·have q103 := f_r6396.2 (c6398)
         have q104 := f_r6392.2 (q103.1)
         have q105 := f_r6388.2 (q104.1)
         exact MT.say (MT.ret ⟨(fun _ => trivial), (fun h_ => ⟨(by first | assumption | omega), (of_decide_eq_false h_), trivial⟩)⟩)
       ·intro r6400 h6401 f_r6400
        refine MT.say (MT.ask (R := fun b_ => (b_ = true → True) ∧ (b_ = false → r6400 = false ∧ ¬ ((1 : Int) < (p_s.fItems.length : Int)) ∧ True)) ?_ ?_)
        ·show MT (Q8_J31_T p_s r6400) _
         refine MT.ite (fun c6402 => ?_) (fun c6402 => ?_)
         ·exact MT.say (MT.ret ⟨(fun _ => trivial), (fun h_ => by cases h_)⟩)
         ·have q106 := f_r6400.2 (c6402)
          have q107 := f_r6396.2 (q106.1)
          have q108 := f_r6392.2 (q107.1)
          have q109 := f_r6388.2 (q108.1)
          exact MT.say (MT.ret ⟨(fun _ => trivial), (fun h_ => ⟨(by first | assumption | omega), (of_decide_eq_false h_), trivial⟩)⟩)
        ·intro r6404 h6405 f_r6404
         refine MT.say (MT.ite (fun c6407 => ?_) (fun c6407 => ?_))
         ·exact MT.say MT.any
         ·have q110 := f_r6404.2 (c6407)
          have q111 := f_r6400.2 (q110.1)
          have q112 := f_r6396.2 (q111.1)
          have q113 := f_r6392.2 (q112.1)
          have q114 := f_r6388.2 (q113.1)
          refine MT.say (MT.ask (R := Any) ?_ ?_)
          ·show MT (Q8_J36_T p_s) Any
           refine MT.ask (R := Any) ?_ ?_
           ·exact T.wk (R14_unused_tot p_s.fHasMin p_s.fMin (by first | omega | (simp; done) | decide))
           ·intro r6431 h6432 _
            refine MT.say (MT.ite (fun c6433 => ?_) (fun c6433 => ?_))
            ·exact MT.say MT.any
            ·refine MT.say (MT.ask (R := Any) ?_ ?_)
             ·exact T.wk (R14_unused_tot p_s.fHasMax p_s.fMax (by first | omega | (simp; done) | decide))
             ·intro r6434 h6435 _
              exact MT.say MT.any
          ·intro r6437 h6438 _
           refine MT.say (MT.ite (fun c6440 => ?_) (fun c6440 => ?_))
           ·exact MT.say MT.any
           ·refine MT.say (MT.ask2 (R := Any) ?_ ?_ ?_)
            ·refine T.cnt (fun _ => True) ?_
             intro k115 hk115
             show MT (Q8_L41_T p_s ((k115 : Nat) : Int)) _
             refine MT.say (MT.ite (fun c6476 => ?_) (fun c6476 => ?_))
             ·have c6476' := of_decide_eq_true c6476
              refine MT.say (MT.ask (tot_gidx p_s.fEnum ((k115 : Nat) : Int) (by omega) (by omega)) (fun x6477 _ hx116 => ?_))
              have := mem_val hx116
              have := bulk_val x6477
              refine MT.say (MT.ask (R := Any) ?_ ?_)
              ·exact T.wk (Valid_tot x6477 (by first | omega | (simp; done) | decide))
              ·intro r6479 h6480 _
               refine MT.say (MT.ite (fun c6481 => ?_) (fun c6481 => ?_))
               ·exact MT.say (MT.ret trivial)
               ·exact MT.say (MT.ret ⟨rfl, by omega⟩)
             ·have c6476' := of_decide_eq_false c6476
              exact MT.say (MT.ret trivial)
            ·intro o6484 h6483 _
             exact MT.say MT.any
            ·intro o6485 h6483 _
             exact MT.say MT.any
theorem R14_check_tot0 (n_ : Nat) : ∀ (p_s : GSchema) (p_number : Int) (p_level : Int), bulkL p_s.lf1 < n_ → bulkL p_s.lf1 ≤ 100000000 → Tot ((RB15_F n_).m1 p_s p_number p_level) Any := by
  induction n_ with
  | zero => intro p_s p_number p_level h; omega
  | succ n_ ih =>
    intro p_s p_number p_level h_ h_p_s
    have := bulk_schema p_s
    have := len_props p_s.fProps
    have := len_schemas p_s.fItems
    show MT (Q30_T (RB15_F n_) p_s p_number p_level) Any
    refine MT.ask (R := fun b_ => (b_ = true → True) ∧ (b_ = false → ¬ ((16 : Int) < p_level) ∧ ¬ ((64 : Int) < p_number) ∧ True)) ?_ ?_
    ·show MT (Q30_J0_T (RB15_F n_) p_level p_number p_s) _
     refine MT.ite (fun c6135 => ?_) (fun c6135 => ?_)
     ·have c6135' := of_decide_eq_true c6135
      exact MT.say (MT.ret ⟨(fun _ => trivial), (fun h_ => by cases h_)⟩)
     ·have c6135' := of_decide_eq_false c6135
      exact MT.say (MT.ret ⟨(fun _ => trivial), (fun h_ => ⟨(by first | assumption | omega), (of_decide_eq_false h_), trivial⟩)⟩)
    ·intro r6137 h6138 f_r6137
     refine MT.say (MT.ite (fun c6140 => ?_) (fun c6140 => ?_))
     ·exact MT.say MT.any
     ·have q117 := f_r6137.2 (c6140)
      refine MT.say (MT.ask (R := Any) ?_ ?_)
      ·exact T.wk (R14_single_tot p_s (by first | omega | (simp; done) | decide))
      ·intro r6488 h6489 _
       refine MT.say (MT.ite (fun c6491 => ?_) (fun c6491 => ?_))
       ·have c6491' : ¬ (r6488 = 0) := by simpa using c6491
        exact MT.say MT.any
       ·have c6491' : r6488 = 0 := by simpa using c6491
        refine MT.say (MT.ask2 (R := Any) ?_ ?_ ?_)
        ·refine T.cntR (fun _ => True) ?_
         intro v6560 k118 hk118
         show MT (Q30_L10_T (RB15_F n_) p_level p_s (v6560, ((k118 : Nat) : Int))) _
         refine MT.say (MT.ite (fun c6562 => ?_) (fun c6562 => ?_))
         ·have c6562' := of_decide_eq_true c6562
          rw [w64 (by omega) (by omega)] at c6562'
          refine MT.say (MT.ask (R := fun b_ => bulkL b_.lf1 < n_ ∧ bulkL b_.lf1 ≤ 100000000) ?_ (fun r6569 _ f_r6569 => ?_))
          ·show MT (Q30_J5_T (RB15_F n_) p_level p_s v6560 ((k118 : Nat) : Int)) _
           refine MT.ite (fun c6563 => ?_) (fun c6563 => ?_)
           ·have c6563' := of_decide_eq_true c6563
            refine MT.say (MT.ask (tot_gidx p_s.fProps ((k118 : Nat) : Int) (by omega) (by omega)) (fun x6564 _ hx119 => ?_))
            have := mem_prop hx119
            have := bulk_prop x6564
            have := bulk_schema x6564.fSchema
            exact MT.say (MT.ret ⟨by omega, by omega⟩)
           ·have c6563' := of_decide_eq_false c6563
            refine MT.say (MT.ask (tot_gidx p_s.fItems (IntKind.wrap .i64 (((k118 : Nat) : Int) - (p_s.fProps.length : Int))) (by rw [w64 (by omega) (by omega)]; omega) (by rw [w64 (by omega) (by omega)]; omega)) (fun x6566 _ hx120 => ?_))
            have := mem_schema hx120
            have := bulk_schema x6566
            exact MT.say (MT.ret ⟨by omega, by omega⟩)
          ·have f_r6569' := f_r6569.1
           have f_r6569'' := f_r6569.2
           refine MT.say (MT.ask (R := Any) ?_ ?_)
           ·exact (ih r6569 (IntKind.wrap .i64 (v6560 + 1)) (IntKind.wrap .i64 (p_level + 1)) (by omega) (by first | omega | (simp; done) | decide))
           ·intro r6571 h6572 _
            refine MT.say (MT.ite (fun c6573 => ?_) (fun c6573 => ?_))
            ·have c6573' : ¬ (r6571.2 = 0) := by simpa using c6573
             exact MT.say (MT.ret trivial)
            ·have c6573' : r6571.2 = 0 := by simpa using c6573
             exact MT.say (MT.ret ⟨rfl, by omega⟩)
         ·have c6562' := of_decide_eq_false c6562
          rw [w64 (by omega) (by omega)] at c6562'
          exact MT.say (MT.ret trivial)
        ·intro o6582 h6581 _
         exact MT.say MT.any
        ·intro o6583 h6581 _
         exact MT.say MT.any
theorem R14_check_tot (p_s : GSchema) (p_number : Int) (p_level : Int) (h_p_s : bulkL p_s.lf1 ≤ 100000000) : Tot (Q30 p_s p_number p_level) Any := R14_check_tot0 FU p_s p_number p_level (by have := FU_big; omega) h_p_s
theorem R14_Valid_tot (p_s : GSchema) (h_p_s : bulkL p_s.lf1 ≤ 100000000) : Tot (Q95 p_s) Any := by
  have := bulk_schema p_s
  show MT (Q95_T p_s) Any
  repeat' (first | exact MT.any | refine MT.say ?_ | refine MT.ite (fun _ => ?_) (fun _ => ?_) | refine MT.askT ?_ (fun _ _ => ?_) | exact ⟨T.wk (R14_check_tot _ _ _ (by first | omega | decide))⟩)
theorem R23_Valid_tot (p_d : GSpace) (h_p_d : bulkL p_d.lf1 ≤ 100000000) : Tot (Q34 p_d) Any := by
  have := bulk_space p_d
  have := len_indexes p_d.fIndexes
  have := bulk_schema p_d.fSchema
  show MT (Q34_T p_d) Any
  refine MT.ask (R := Any) ?_ ?_
  ·exact T.wk (T.val (Name_val p_d.fName))
  ·intro r3966 h3967 _
   refine MT.say (MT.ite (fun c3969 => ?_) (fun c3969 => ?_))
   ·exact MT.say MT.any
   ·refine MT.say (MT.ite (fun c3971 => ?_) (fun c3971 => ?_))
    ·have c3971' := of_decide_eq_true c3971
     exact MT.say MT.any
    ·have c3971' := of_decide_eq_false c3971
     refine MT.say (MT.ask2 (R := Any) ?_ ?_ ?_)
     ·refine T.cnt (fun _ => True) ?_
      intro k121 hk121
      show MT (Q34_L0_T p_d ((k121 : Nat) : Int)) _
      refine MT.say (MT.ite (fun c6096 => ?_) (fun c6096 => ?_))
      ·have c6096' := of_decide_eq_true c6096
       refine MT.say (MT.ask (tot_gidx p_d.fIndexes ((k121 : Nat) : Int) (by omega) (by omega)) (fun x6097 _ hx122 => ?_))
       have := mem_index hx122
       have := bulk_index x6097
       refine MT.say (MT.ask (R := Any) ?_ ?_)
       ·exact T.wk (R21_Valid_tot x6097 (by first | omega | (simp; done) | decide))
       ·intro r6099 h6100 _
        refine MT.say (MT.ite (fun c6101 => ?_) (fun c6101 => ?_))
        ·have c6101' : ¬ (r6099 = 0) := by simpa using c6101
         exact MT.say (MT.ret trivial)
        ·have c6101' : r6099 = 0 := by simpa using c6101
         refine MT.say (MT.ask (tot_gidx p_d.fIndexes ((k121 : Nat) : Int) (by omega) (by omega)) (fun x6102 _ hx123 => ?_))
         have := mem_index hx123
         have := bulk_index x6102
         refine MT.say (MT.ask (R := Any) ?_ ?_)
         ·exact T.wk (R23_at_tot p_d.fIndexes x6102.fName (by first | omega | (simp; done) | decide) (by first | omega | (simp; done) | decide))
         ·intro r6104 h6105 _
          refine MT.say (MT.ite (fun c6106 => ?_) (fun c6106 => ?_))
          ·have c6106' : ¬ (r6104 = ((k121 : Nat) : Int)) := by simpa using c6106
           exact MT.say (MT.ret trivial)
          ·have c6106' : r6104 = ((k121 : Nat) : Int) := by simpa using c6106
           exact MT.say (MT.ret ⟨rfl, by omega⟩)
      ·have c6096' := of_decide_eq_false c6096
       exact MT.say (MT.ret trivial)
     ·intro o6112 h6111 _
      exact MT.say MT.any
     ·intro o6113 h6111 _
      refine MT.say (MT.ask (R := fun b_ => (b_ = true → True) ∧ (b_ = false → ¬ ((p_d.fLevel : Int) < 0) ∧ ¬ ((2 : Int) < p_d.fLevel) ∧ True)) ?_ ?_)
      ·show MT (Q34_J6_T p_d) _
       refine MT.ite (fun c6123 => ?_) (fun c6123 => ?_)
       ·have c6123' := of_decide_eq_true c6123
        exact MT.say (MT.ret ⟨(fun _ => trivial), (fun h_ => by cases h_)⟩)
       ·have c6123' := of_decide_eq_false c6123
        exact MT.say (MT.ret ⟨(fun _ => trivial), (fun h_ => ⟨(by first | assumption | omega), (of_decide_eq_false h_), trivial⟩)⟩)
      ·intro r6125 h6126 f_r6125
       refine MT.say (MT.ask (R := fun b_ => (b_ = true → True) ∧ (b_ = false → r6125 = false ∧ True)) ?_ ?_)
       ·show MT (Q34_J11_T p_d r6125) _
        refine MT.ite (fun c6127 => ?_) (fun c6127 => ?_)
        ·exact MT.say (MT.ret ⟨(fun _ => trivial), (fun h_ => by cases h_)⟩)
        ·have q124 := f_r6125.2 (c6127)
         refine MT.say (MT.ite (fun c6128 => ?_) (fun c6128 => ?_))
         ·have c6128' : ¬ (p_d.fAction = 0) := by simpa using c6128
          exact MT.say (MT.ret ⟨(fun _ => trivial), (fun h_ => ⟨(by first | assumption | omega), trivial⟩)⟩)
         ·have c6128' : p_d.fAction = 0 := by simpa using c6128
          exact MT.say (MT.ret ⟨(fun h_ => by cases h_), (fun h_ => ⟨(by first | assumption | omega), trivial⟩)⟩)
       ·intro r6130 h6131 f_r6130
        refine MT.say (MT.ite (fun c6133 => ?_) (fun c6133 => ?_))
        ·exact MT.say MT.any
        ·have q125 := f_r6130.2 (c6133)
         have q126 := f_r6125.2 (q125.1)
         refine MT.say (MT.ask (R := Any) ?_ ?_)
         ·exact T.wk (R14_Valid_tot p_d.fSchema (by first | omega | (simp; done) | decide))
         ·intro r6588 h6589 _
          exact MT.say MT.any
theorem R40_simple_tot (p_kind : Int) : Tot (Q92 p_kind) Any := by
  show MT (Q92_T p_kind) Any
  repeat' (first | exact MT.any | refine MT.say ?_ | refine MT.ite (fun _ => ?_) (fun _ => ?_))
theorem R40_spaced_tot (p_kind : Int) : Tot (Q81 p_kind) Any := by
  show MT (Q81_T p_kind) Any
  repeat' (first | exact MT.any | refine MT.say ?_ | refine MT.ite (fun _ => ?_) (fun _ => ?_) | refine MT.askT ?_ (fun _ _ => ?_) | exact ⟨T.wk (R40_simple_tot _)⟩)
theorem R40_change_tot (p_kind : Int) : Tot (Q79 p_kind) Any := by
  show MT (Q79_T p_kind) Any
  repeat' (first | exact MT.any | refine MT.say ?_ | refine MT.ite (fun _ => ?_) (fun _ => ?_))
theorem R40_batch_tot (p_kind : Int) : Tot (Q86 p_kind) Any := by
  show MT (Q86_T p_kind) Any
  repeat' (first | exact MT.any | refine MT.say ?_ | refine MT.ite (fun _ => ?_) (fun _ => ?_))
theorem R40_transaction_tot (p_kind : Int) : Tot (Q77 p_kind) Any := by
  show MT (Q77_T p_kind) Any
  repeat' (first | exact MT.any | refine MT.say ?_ | refine MT.ite (fun _ => ?_) (fun _ => ?_))
theorem R40_unused_tot (p_w : GWrite) (h_p_w : bulkL p_w.lf1 ≤ 100000000) : Tot (Q6 p_w) Any := by
  have := bulk_write p_w
  have := bulk_val p_w.fKey
  have := bulk_val p_w.fDoc
  have := bulk_val p_w.fBefore
  have := bulk_space p_w.fDef
  have := bulk_index p_w.fIndex
  have := len_writes p_w.fWrites
  have := len_ints p_w.fShards
  show MT (Q6_T p_w) Any
  refine MT.ask (R := fun b_ => bulkL b_.lf1 ≤ 100000000) ?_ (fun r269 _ f_r269 => ?_)
  ·show MT (Q6_J0_T p_w) _
   refine MT.ite (fun c267 => ?_) (fun c267 => ?_)
   ·have c267' : p_w.fKind = 7 := by simpa using c267
    exact MT.say (MT.ret (by first | omega | (refine Nat.le_trans (bulk_sName _) ?_; omega)))
   ·have c267' : ¬ (p_w.fKind = 7) := by simpa using c267
    exact MT.say (MT.ret (by first | omega | (refine Nat.le_trans (bulk_sName _) ?_; omega)))
  ·have f_r269' := f_r269
   refine MT.say (MT.ask (R := Any) ?_ ?_)
   ·show MT (Q6_J5_T p_w r269) Any
    refine MT.ask (R := Any) ?_ ?_
    ·exact T.wk (R40_spaced_tot p_w.fKind )
    ·intro r275 h276 _
     refine MT.say (MT.ite (fun c277 => ?_) (fun c277 => ?_))
     ·exact MT.say MT.any
     ·exact MT.say MT.any
   ·intro r279 h280 _
    refine MT.say (MT.ask (R := fun b_ => (b_ = true → r279 = true ∧ True) ∧ (b_ = false → True)) ?_ ?_)
    ·show MT (Q6_J10_T p_w r269 r279) _
     refine MT.ite (fun c281 => ?_) (fun c281 => ?_)
     ·refine MT.say (MT.ask (R := Any) ?_ ?_)
      ·exact T.wk (R40_change_tot p_w.fKind )
      ·intro r283 h284 _
       refine MT.say (MT.ite (fun c285 => ?_) (fun c285 => ?_))
       ·exact MT.say (MT.ret ⟨(fun h_ => ⟨(by first | assumption | omega), trivial⟩), (fun h_ => by cases h_)⟩)
       ·refine MT.say (MT.ask (R := Any) ?_ ?_)
        ·exact T.wk (T.val (Missing_val p_w.fKey))
        ·intro r306 h307 _
         refine MT.say (MT.ite (fun c308 => ?_) (fun c308 => ?_))
         ·refine MT.say (MT.ask (R := Any) ?_ ?_)
          ·exact T.wk (T.val (Missing_val p_w.fBefore))
          ·intro r309 h310 _
           refine MT.say (MT.ite (fun c311 => ?_) (fun c311 => ?_))
           ·exact MT.say (MT.ret ⟨(fun h_ => ⟨(by first | assumption | omega), trivial⟩), (fun _ => trivial)⟩)
           ·exact MT.say (MT.ret ⟨(fun h_ => by cases h_), (fun _ => trivial)⟩)
         ·exact MT.say (MT.ret ⟨(fun h_ => by cases h_), (fun _ => trivial)⟩)
     ·exact MT.say (MT.ret ⟨(fun h_ => by cases h_), (fun _ => trivial)⟩)
    ·intro r313 h314 f_r313
     refine MT.say (MT.ask (R := fun b_ => (b_ = true → r313 = true ∧ True) ∧ (b_ = false → True)) ?_ ?_)
     ·show MT (Q6_J15_T p_w r269 r313) _
      refine MT.ite (fun c315 => ?_) (fun c315 => ?_)
      ·have q127 := f_r313.1 (c315)
       refine MT.say (MT.ite (fun c316 => ?_) (fun c316 => ?_))
       ·have c316' : p_w.fKind = 2 := by simpa using c316
        exact MT.say (MT.ret ⟨(fun h_ => ⟨(by first | assumption | omega), trivial⟩), (fun h_ => by cases h_)⟩)
       ·have c316' : ¬ (p_w.fKind = 2) := by simpa using c316
        refine MT.say (MT.ask (R := Any) ?_ ?_)
        ·exact T.wk (T.val (Missing_val p_w.fDoc))
        ·intro r317 h318 _
         exact MT.say (MT.ret ⟨(fun h_ => ⟨(by first | assumption | omega), trivial⟩), (fun _ => trivial)⟩)
      ·exact MT.say (MT.ret ⟨(fun h_ => by cases h_), (fun _ => trivial)⟩)
     ·intro r320 h321 f_r320
      refine MT.say (MT.ask (R := fun b_ => (b_ = true → r320 = true ∧ True) ∧ (b_ = false → True)) ?_ ?_)
      ·show MT (Q6_J20_T p_w r269 r320) _
       refine MT.ite (fun c322 => ?_) (fun c322 => ?_)
       ·have q128 := f_r320.1 (c322)
        have q129 := f_r313.1 (q128.1)
        refine MT.say (MT.ite (fun c323 => ?_) (fun c323 => ?_))
        ·have c323' : p_w.fKind = 4 := by simpa using c323
         exact MT.say (MT.ret ⟨(fun h_ => ⟨(by first | assumption | omega), trivial⟩), (fun h_ => by cases h_)⟩)
        ·have c323' : ¬ (p_w.fKind = 4) := by simpa using c323
         refine MT.say (MT.ask (R := Any) ?_ ?_)
         ·exact T.wk (noSpace_tot p_w.fDef (by first | omega | (simp; done) | decide))
         ·intro r2452 h2453 _
          exact MT.say (MT.ret ⟨(fun h_ => ⟨(by first | assumption | omega), trivial⟩), (fun _ => trivial)⟩)
       ·exact MT.say (MT.ret ⟨(fun h_ => by cases h_), (fun _ => trivial)⟩)
      ·intro r2455 h2456 f_r2455
       refine MT.say (MT.ask (R := fun b_ => (b_ = true → r2455 = true ∧ True) ∧ (b_ = false → True)) ?_ ?_)
       ·show MT (Q6_J25_T p_w r2455 r269) _
        refine MT.ite (fun c2457 => ?_) (fun c2457 => ?_)
        ·have q130 := f_r2455.1 (c2457)
         have q131 := f_r320.1 (q130.1)
         have q132 := f_r313.1 (q131.1)
         refine MT.say (MT.ite (fun c2458 => ?_) (fun c2458 => ?_))
         ·have c2458' : p_w.fKind = 6 := by simpa using c2458
          exact MT.say (MT.ret ⟨(fun h_ => ⟨(by first | assumption | omega), trivial⟩), (fun h_ => by cases h_)⟩)
         ·have c2458' : ¬ (p_w.fKind = 6) := by simpa using c2458
          refine MT.say (MT.ask (R := Any) ?_ ?_)
          ·exact T.wk (noIndex_tot r269 (by first | omega | (simp; done) | decide))
          ·intro r2467 h2468 _
           exact MT.say (MT.ret ⟨(fun h_ => ⟨(by first | assumption | omega), trivial⟩), (fun _ => trivial)⟩)
        ·exact MT.say (MT.ret ⟨(fun h_ => by cases h_), (fun _ => trivial)⟩)
       ·intro r2473 h2474 f_r2473
        refine MT.say (MT.ask (R := fun b_ => (b_ = true → r2473 = true ∧ True) ∧ (b_ = false → True)) ?_ ?_)
        ·show MT (Q6_J30_T p_w r2473) _
         refine MT.ite (fun c2475 => ?_) (fun c2475 => ?_)
         ·have q133 := f_r2473.1 (c2475)
          have q134 := f_r2455.1 (q133.1)
          have q135 := f_r320.1 (q134.1)
          have q136 := f_r313.1 (q135.1)
          refine MT.say (MT.ask (R := Any) ?_ ?_)
          ·exact T.wk (R40_transaction_tot p_w.fKind )
          ·intro r2477 h2478 _
           refine MT.say (MT.ite (fun c2479 => ?_) (fun c2479 => ?_))
           ·exact MT.say (MT.ret ⟨(fun h_ => ⟨(by first | assumption | omega), trivial⟩), (fun h_ => by cases h_)⟩)
           ·exact MT.say (MT.ret ⟨(fun h_ => ⟨(by first | assumption | omega), trivial⟩), (fun _ => trivial)⟩)
         ·exact MT.say (MT.ret ⟨(fun h_ => by cases h_), (fun _ => trivial)⟩)
        ·intro r2481 h2482 f_r2481
         refine MT.say (MT.ask (R := fun b_ => (b_ = true → r2481 = true ∧ True) ∧ (b_ = false → True)) ?_ ?_)
         ·show MT (Q6_J35_T p_w r2481) _
          refine MT.ite (fun c2483 => ?_) (fun c2483 => ?_)
          ·have q137 := f_r2481.1 (c2483)
           have q138 := f_r2473.1 (q137.1)
           have q139 := f_r2455.1 (q138.1)
           have q140 := f_r320.1 (q139.1)
           have q141 := f_r313.1 (q140.1)
           refine MT.say (MT.ite (fun c2484 => ?_) (fun c2484 => ?_))
           ·have c2484' : p_w.fKind = 10 := by simpa using c2484
            exact MT.say (MT.ret ⟨(fun h_ => ⟨(by first | assumption | omega), trivial⟩), (fun h_ => by cases h_)⟩)
           ·have c2484' : ¬ (p_w.fKind = 10) := by simpa using c2484
            refine MT.say (MT.ite (fun c2485 => ?_) (fun c2485 => ?_))
            ·have c2485' : p_w.fKind = 12 := by simpa using c2485
             exact MT.say (MT.ret ⟨(fun h_ => ⟨(by first | assumption | omega), trivial⟩), (fun h_ => by cases h_)⟩)
            ·have c2485' : ¬ (p_w.fKind = 12) := by simpa using c2485
             exact MT.say (MT.ret ⟨(fun h_ => ⟨(by first | assumption | omega), trivial⟩), (fun _ => trivial)⟩)
          ·exact MT.say (MT.ret ⟨(fun h_ => by cases h_), (fun _ => trivial)⟩)
         ·intro r2487 h2488 f_r2487
          refine MT.say (MT.ask (R := fun b_ => (b_ = true → r2487 = true ∧ True) ∧ (b_ = false → True)) ?_ ?_)
          ·show MT (Q6_J40_T p_w r2487) _
           refine MT.ite (fun c2489 => ?_) (fun c2489 => ?_)
           ·have q142 := f_r2487.1 (c2489)
            have q143 := f_r2481.1 (q142.1)
            have q144 := f_r2473.1 (q143.1)
            have q145 := f_r2455.1 (q144.1)
            have q146 := f_r320.1 (q145.1)
            have q147 := f_r313.1 (q146.1)
            refine MT.say (MT.ask (R := Any) ?_ ?_)
            ·exact T.wk (R40_batch_tot p_w.fKind )
            ·intro r2491 h2492 _
             refine MT.say (MT.ite (fun c2493 => ?_) (fun c2493 => ?_))
             ·exact MT.say (MT.ret ⟨(fun h_ => ⟨(by first | assumption | omega), trivial⟩), (fun h_ => by cases h_)⟩)
             ·exact MT.say (MT.ret ⟨(fun h_ => ⟨(by first | assumption | omega), trivial⟩), (fun _ => trivial)⟩)
           ·exact MT.say (MT.ret ⟨(fun h_ => by cases h_), (fun _ => trivial)⟩)
          ·intro r2495 h2496 f_r2495
           refine MT.say (MT.ask (R := fun b_ => (b_ = true → r2495 = true ∧ True) ∧ (b_ = false → True)) ?_ ?_)
           ·show MT (Q6_J45_T p_w r2495) _
            refine MT.ite (fun c2497 => ?_) (fun c2497 => ?_)
            ·have q148 := f_r2495.1 (c2497)
             have q149 := f_r2487.1 (q148.1)
             have q150 := f_r2481.1 (q149.1)
             have q151 := f_r2473.1 (q150.1)
             have q152 := f_r2455.1 (q151.1)
             have q153 := f_r320.1 (q152.1)
             have q154 := f_r313.1 (q153.1)
             refine MT.say (MT.ite (fun c2498 => ?_) (fun c2498 => ?_))
             ·have c2498' : p_w.fKind = 12 := by simpa using c2498
              exact MT.say (MT.ret ⟨(fun h_ => ⟨(by first | assumption | omega), trivial⟩), (fun h_ => by cases h_)⟩)
             ·have c2498' : ¬ (p_w.fKind = 12) := by simpa using c2498
              exact MT.say (MT.ret ⟨(fun h_ => ⟨(by first | assumption | omega), trivial⟩), (fun _ => trivial)⟩)
            ·exact MT.say (MT.ret ⟨(fun h_ => by cases h_), (fun _ => trivial)⟩)
           ·intro r2503 h2504 f_r2503
            refine MT.say (MT.ask (R := Any) ?_ ?_)
            ·show MT (Q6_J50_T r2503) Any
             exact MT.any
            ·intro r2505 h2506 _
             exact MT.say MT.any
theorem R40_shards_tot (p_l : List Int) (h_p_l : bulkR (p_l.map lfI) ≤ 100000000) : Tot (Q45 p_l) Any := by
  have := len_ints p_l
  show MT (Q45_T p_l) Any
  refine MT.ask2 (R := Any) ?_ ?_ ?_
  ·refine T.cnt (fun _ => True) ?_
   intro k155 hk155
   show MT (Q45_L5_T p_l ((k155 : Nat) : Int)) _
   refine MT.say (MT.ite (fun c2691 => ?_) (fun c2691 => ?_))
   ·have c2691' := of_decide_eq_true c2691
    refine MT.say (MT.ask (R := Any) ?_ ?_)
    ·show MT (Q45_J0_T p_l ((k155 : Nat) : Int)) Any
     refine MT.say (MT.ask (tot_gidx p_l ((k155 : Nat) : Int) (by omega) (by omega)) (fun x2692 _ hx156 => ?_))
     refine MT.say (MT.ite (fun c2694 => ?_) (fun c2694 => ?_))
     ·have c2694' := of_decide_eq_true c2694
      exact MT.say MT.any
     ·have c2694' := of_decide_eq_false c2694
      refine MT.say (MT.ask (tot_gidx p_l ((k155 : Nat) : Int) (by omega) (by omega)) (fun x2695 _ hx157 => ?_))
      refine MT.say (MT.ite (fun c2697 => ?_) (fun c2697 => ?_))
      ·have c2697' := of_decide_eq_true c2697
       exact MT.say MT.any
      ·have c2697' := of_decide_eq_false c2697
       refine MT.say (MT.ite (fun c2698 => ?_) (fun c2698 => ?_))
       ·have c2698' := of_decide_eq_true c2698
        refine MT.say (MT.ask (tot_gidx p_l (IntKind.wrap .i64 (((k155 : Nat) : Int) - 1)) (by rw [w64 (by omega) (by omega)]; omega) (by rw [w64 (by omega) (by omega)]; omega)) (fun x2699 _ hx158 => ?_))
        refine MT.say (MT.ask (tot_gidx p_l ((k155 : Nat) : Int) (by omega) (by omega)) (fun x2701 _ hx159 => ?_))
        exact MT.say MT.any
       ·have c2698' := of_decide_eq_false c2698
        exact MT.say MT.any
    ·intro r2704 h2705 _
     refine MT.say (MT.ite (fun c2706 => ?_) (fun c2706 => ?_))
     ·exact MT.say (MT.ret trivial)
     ·exact MT.say (MT.ret ⟨rfl, by omega⟩)
   ·have c2691' := of_decide_eq_false c2691
    exact MT.say (MT.ret trivial)
  ·intro o2709 h2708 _
   exact MT.say MT.any
  ·intro o2710 h2708 _
   exact MT.say MT.any
theorem R40_Identifier_tot (p_v : GValue) (h_p_v : bulkL p_v.lf1 ≤ 100000000) : Tot (Q26 p_v) Any := by
  have := bulk_val p_v
  show MT (Q26_T p_v) Any
  repeat' (first | exact MT.any | refine MT.say ?_ | refine MT.ite (fun _ => ?_) (fun _ => ?_) | refine MT.askT ?_ (fun _ _ => ?_) | exact ⟨T.wk (Valid_tot _ (by first | omega | decide))⟩ | refine ⟨(show MT _ Any from ?_)⟩)
theorem R40_own_tot (p_w : GWrite) (p_lo : Int) (p_hi : Int) (h_p_w : bulkL p_w.lf1 ≤ 100000000) : Tot (Q1 p_w p_lo p_hi) Any := by
  have := bulk_write p_w
  have := bulk_val p_w.fKey
  have := bulk_val p_w.fDoc
  have := bulk_val p_w.fBefore
  have := bulk_space p_w.fDef
  have := bulk_index p_w.fIndex
  have := len_writes p_w.fWrites
  have := len_ints p_w.fShards
  show MT (Q1_T p_w p_lo p_hi) Any
  refine MT.ask (R := fun b_ => (b_ = true → True) ∧ (b_ = false → ¬ ((p_w.fKind : Int) < p_lo) ∧ ¬ ((p_hi : Int) < p_w.fKind) ∧ True)) ?_ ?_
  ·show MT (Q1_J0_T p_hi p_lo p_w) _
   refine MT.ite (fun c2772 => ?_) (fun c2772 => ?_)
   ·have c2772' := of_decide_eq_true c2772
    exact MT.say (MT.ret ⟨(fun _ => trivial), (fun h_ => by cases h_)⟩)
   ·have c2772' := of_decide_eq_false c2772
    exact MT.say (MT.ret ⟨(fun _ => trivial), (fun h_ => ⟨(by first | assumption | omega), (of_decide_eq_false h_), trivial⟩)⟩)
  ·intro r2774 h2775 f_r2774
   refine MT.say (MT.ask (R := fun b_ => (b_ = true → True) ∧ (b_ = false → r2774 = false ∧ True)) ?_ ?_)
   ·show MT (Q1_J5_T p_w r2774) _
    refine MT.ite (fun c2776 => ?_) (fun c2776 => ?_)
    ·exact MT.say (MT.ret ⟨(fun _ => trivial), (fun h_ => by cases h_)⟩)
    ·have q160 := f_r2774.2 (c2776)
     refine MT.say (MT.ask (R := Any) ?_ ?_)
     ·exact T.wk (R40_unused_tot p_w (by first | omega | (simp; done) | decide))
     ·intro r2777 h2778 _
      exact MT.say (MT.ret ⟨(fun _ => trivial), (fun h_ => ⟨(by first | assumption | omega), trivial⟩)⟩)
   ·intro r2780 h2781 f_r2780
    refine MT.say (MT.ask (R := fun b_ => (b_ = true → True) ∧ (b_ = false → r2780 = false ∧ True)) ?_ ?_)
    ·show MT (Q1_J10_T p_w r2780) _
     refine MT.ite (fun c2782 => ?_) (fun c2782 => ?_)
     ·exact MT.say (MT.ret ⟨(fun _ => trivial), (fun h_ => by cases h_)⟩)
     ·have q161 := f_r2780.2 (c2782)
      have q162 := f_r2774.2 (q161.1)
      refine MT.say (MT.ask (R := Any) ?_ ?_)
      ·exact T.wk (R40_batch_tot p_w.fKind )
      ·intro r2783 h2784 _
       refine MT.say (MT.ite (fun c2785 => ?_) (fun c2785 => ?_))
       ·exact MT.say (MT.ret ⟨(fun _ => trivial), (fun h_ => ⟨(by first | assumption | omega), trivial⟩)⟩)
       ·exact MT.say (MT.ret ⟨(fun h_ => by cases h_), (fun h_ => ⟨(by first | assumption | omega), trivial⟩)⟩)
    ·intro r2787 h2788 f_r2787
     refine MT.say (MT.ask (R := Any) ?_ ?_)
     ·show MT (Q1_J15_T p_w r2787) Any
      exact MT.any
     ·intro r2789 h2790 _
      refine MT.say (MT.ite (fun c2851 => ?_) (fun c2851 => ?_))
      ·exact MT.say MT.any
      ·have q163 := f_r2787.2 (c2851)
       have q164 := f_r2780.2 (q163.1)
       have q165 := f_r2774.2 (q164.1)
       refine MT.say (MT.ite (fun c2911 => ?_) (fun c2911 => ?_))
       ·have c2911' := of_decide_eq_true c2911
        exact MT.say MT.any
       ·have c2911' := of_decide_eq_false c2911
        refine MT.say (MT.ask (R := Any) ?_ ?_)
        ·show MT (Q1_J20_T p_w) Any
         refine MT.ask (R := Any) ?_ ?_
         ·exact T.wk (R40_spaced_tot p_w.fKind )
         ·intro r2912 h2913 _
          refine MT.say (MT.ite (fun c2914 => ?_) (fun c2914 => ?_))
          ·refine MT.say (MT.ask (R := Any) ?_ ?_)
           ·exact T.wk (T.val (RName_val p_w.fSpace))
           ·intro r2915 h2916 _
            exact MT.say MT.any
          ·exact MT.say MT.any
        ·intro r2918 h2919 _
         refine MT.say (MT.ask (R := fun b_ => (b_ = true → True) ∧ (b_ = false → r2918 = false ∧ True)) ?_ ?_)
         ·show MT (Q1_J25_T p_w r2918) _
          refine MT.ite (fun c2920 => ?_) (fun c2920 => ?_)
          ·exact MT.say (MT.ret ⟨(fun _ => trivial), (fun h_ => by cases h_)⟩)
          ·refine MT.say (MT.ask (R := Any) ?_ ?_)
           ·exact T.wk (R40_transaction_tot p_w.fKind )
           ·intro r2921 h2922 _
            refine MT.say (MT.ite (fun c2923 => ?_) (fun c2923 => ?_))
            ·refine MT.say (MT.ask (R := Any) ?_ ?_)
             ·exact T.wk (T.val (RName_val p_w.fTxn))
             ·intro r2924 h2925 _
              exact MT.say (MT.ret ⟨(fun _ => trivial), (fun h_ => ⟨(by first | assumption | omega), trivial⟩)⟩)
            ·exact MT.say (MT.ret ⟨(fun h_ => by cases h_), (fun h_ => ⟨(by first | assumption | omega), trivial⟩)⟩)
         ·intro r2927 h2928 f_r2927
          refine MT.say (MT.ask (R := fun b_ => (b_ = true → True) ∧ (b_ = false → r2927 = false ∧ True)) ?_ ?_)
          ·show MT (Q1_J30_T p_w r2927) _
           refine MT.ite (fun c2929 => ?_) (fun c2929 => ?_)
           ·exact MT.say (MT.ret ⟨(fun _ => trivial), (fun h_ => by cases h_)⟩)
           ·have q166 := f_r2927.2 (c2929)
            refine MT.say (MT.ite (fun c2930 => ?_) (fun c2930 => ?_))
            ·have c2930' : p_w.fKind = 7 := by simpa using c2930
             refine MT.say (MT.ask (R := Any) ?_ ?_)
             ·exact T.wk (T.val (RName_val p_w.fIndex.fName))
             ·intro r2931 h2932 _
              exact MT.say (MT.ret ⟨(fun _ => trivial), (fun h_ => ⟨(by first | assumption | omega), trivial⟩)⟩)
            ·have c2930' : ¬ (p_w.fKind = 7) := by simpa using c2930
             exact MT.say (MT.ret ⟨(fun h_ => by cases h_), (fun h_ => ⟨(by first | assumption | omega), trivial⟩)⟩)
          ·intro r2934 h2935 f_r2934
           refine MT.say (MT.ask (R := Any) ?_ ?_)
           ·show MT (Q1_J35_T p_w r2934) Any
            exact MT.any
           ·intro r2936 h2937 _
            refine MT.say (MT.ite (fun c2970 => ?_) (fun c2970 => ?_))
            ·exact MT.say MT.any
            ·have q167 := f_r2934.2 (c2970)
             have q168 := f_r2927.2 (q167.1)
             refine MT.say (MT.ask (R := fun b_ => (b_ = true → p_w.fKind = 10 ∧ (p_w.fStamp : Int) < 1 ∧ True) ∧ (b_ = false → True)) ?_ ?_)
             ·show MT (Q1_J40_T p_w) _
              refine MT.ite (fun c2971 => ?_) (fun c2971 => ?_)
              ·have c2971' : p_w.fKind = 10 := by simpa using c2971
               exact MT.say (MT.ret ⟨(fun h_ => ⟨(by first | assumption | omega), (of_decide_eq_true h_), trivial⟩), (fun _ => trivial)⟩)
              ·have c2971' : ¬ (p_w.fKind = 10) := by simpa using c2971
               exact MT.say (MT.ret ⟨(fun h_ => by cases h_), (fun _ => trivial)⟩)
             ·intro r2973 h2974 f_r2973
              refine MT.say (MT.ask (R := fun b_ => (b_ = true → True) ∧ (b_ = false → r2973 = false ∧ ¬ ((p_w.fStamp : Int) < 0) ∧ True)) ?_ ?_)
              ·show MT (Q1_J45_T p_w r2973) _
               refine MT.ite (fun c2975 => ?_) (fun c2975 => ?_)
               ·have q169 := f_r2973.1 (c2975)
                exact MT.say (MT.ret ⟨(fun _ => trivial), (fun h_ => by cases h_)⟩)
               ·exact MT.say (MT.ret ⟨(fun _ => trivial), (fun h_ => ⟨(by first | assumption | omega), (of_decide_eq_false h_), trivial⟩)⟩)
              ·intro r2977 h2978 f_r2977
               refine MT.say (MT.ask (R := fun b_ => (b_ = true → True) ∧ (b_ = false → r2977 = false ∧ ¬ ((1099511627776 : Int) < p_w.fStamp) ∧ True)) ?_ ?_)
               ·show MT (Q1_J50_T p_w r2977) _
                refine MT.ite (fun c2979 => ?_) (fun c2979 => ?_)
                ·exact MT.say (MT.ret ⟨(fun _ => trivial), (fun h_ => by cases h_)⟩)
                ·have q170 := f_r2977.2 (c2979)
                 exact MT.say (MT.ret ⟨(fun _ => trivial), (fun h_ => ⟨(by first | assumption | omega), (of_decide_eq_false h_), trivial⟩)⟩)
               ·intro r2981 h2982 f_r2981
                refine MT.say (MT.ask (R := fun b_ => (b_ = true → True) ∧ (b_ = false → r2981 = false ∧ True)) ?_ ?_)
                ·show MT (Q1_J55_T p_w r2981) _
                 refine MT.ite (fun c2983 => ?_) (fun c2983 => ?_)
                 ·exact MT.say (MT.ret ⟨(fun _ => trivial), (fun h_ => by cases h_)⟩)
                 ·have q171 := f_r2981.2 (c2983)
                  have q172 := f_r2977.2 (q171.1)
                  refine MT.say (MT.ite (fun c2984 => ?_) (fun c2984 => ?_))
                  ·have c2984' : p_w.fKind = 12 := by simpa using c2984
                   refine MT.say (MT.ask (R := Any) ?_ ?_)
                   ·exact T.wk (R40_shards_tot p_w.fShards (by first | omega | (simp; done) | decide))
                   ·intro r2985 h2986 _
                    exact MT.say (MT.ret ⟨(fun _ => trivial), (fun h_ => ⟨(by first | assumption | omega), trivial⟩)⟩)
                  ·have c2984' : ¬ (p_w.fKind = 12) := by simpa using c2984
                   exact MT.say (MT.ret ⟨(fun h_ => by cases h_), (fun h_ => ⟨(by first | assumption | omega), trivial⟩)⟩)
                ·intro r2988 h2989 f_r2988
                 refine MT.say (MT.ask (R := Any) ?_ ?_)
                 ·show MT (Q1_J60_T p_w r2988) Any
                  exact MT.any
                 ·intro r2990 h2991 _
                  refine MT.say (MT.ite (fun c3002 => ?_) (fun c3002 => ?_))
                  ·exact MT.say MT.any
                  ·have q173 := f_r2988.2 (c3002)
                   have q174 := f_r2981.2 (q173.1)
                   have q175 := f_r2977.2 (q174.1)
                   refine MT.say (MT.ask (R := Any) ?_ ?_)
                   ·show MT (Q1_J65_T p_w) Any
                    refine MT.ask (R := Any) ?_ ?_
                    ·exact T.wk (R40_change_tot p_w.fKind )
                    ·intro r3003 h3004 _
                     refine MT.say (MT.ite (fun c3005 => ?_) (fun c3005 => ?_))
                     ·refine MT.say (MT.ask (R := Any) ?_ ?_)
                      ·exact T.wk (R40_Identifier_tot p_w.fKey (by first | omega | (simp; done) | decide))
                      ·intro r3006 h3007 _
                       exact MT.say MT.any
                     ·exact MT.say MT.any
                   ·intro r3009 h3010 _
                    refine MT.say (MT.ite (fun c3012 => ?_) (fun c3012 => ?_))
                    ·exact MT.say MT.any
                    ·refine MT.say (MT.ask2 (R := Any) ?_ ?_ ?_)
                     ·show MT (Q1_J70_T p_w) Any
                      refine MT.ite (fun c3924 => ?_) (fun c3924 => ?_)
                      ·have c3924' : p_w.fKind = 2 := by simpa using c3924
                       refine MT.say (MT.ask (R := Any) ?_ ?_)
                       ·exact T.wk (stored_tot p_w.fDoc p_w.fKey (by first | omega | (simp; done) | decide) (by first | omega | (simp; done) | decide))
                       ·intro r3925 h3926 _
                        refine MT.say (MT.ite (fun c3927 => ?_) (fun c3927 => ?_))
                        ·have c3927' : ¬ (r3925 = 0) := by simpa using c3927
                         exact MT.say MT.any
                        ·have c3927' : r3925 = 0 := by simpa using c3927
                         exact MT.say MT.any
                      ·have c3924' : ¬ (p_w.fKind = 2) := by simpa using c3924
                       exact MT.say MT.any
                     ·intro o3932 h3931 _
                      exact MT.say MT.any
                     ·intro o3933 h3931 _
                      refine MT.say (MT.ask (R := Any) ?_ ?_)
                      ·show MT (Q1_J75_T p_w) Any
                       refine MT.ask (R := Any) ?_ ?_
                       ·exact T.wk (R40_change_tot p_w.fKind )
                       ·intro r3939 h3940 _
                        refine MT.say (MT.ite (fun c3941 => ?_) (fun c3941 => ?_))
                        ·refine MT.say (MT.ask (R := Any) ?_ ?_)
                         ·exact T.wk (T.val (Missing_val p_w.fBefore))
                         ·intro r3942 h3943 _
                          exact MT.say MT.any
                        ·exact MT.say MT.any
                      ·intro r3945 h3946 _
                       refine MT.say (MT.ask2 (R := Any) ?_ ?_ ?_)
                       ·show MT (Q1_J80_T p_w r3945) Any
                        refine MT.ite (fun c3953 => ?_) (fun c3953 => ?_)
                        ·refine MT.say (MT.ask (R := Any) ?_ ?_)
                         ·exact T.wk (stored_tot p_w.fBefore p_w.fKey (by first | omega | (simp; done) | decide) (by first | omega | (simp; done) | decide))
                         ·intro r3954 h3955 _
                          refine MT.say (MT.ite (fun c3956 => ?_) (fun c3956 => ?_))
                          ·have c3956' : ¬ (r3954 = 0) := by simpa using c3956
                           exact MT.say MT.any
                          ·have c3956' : r3954 = 0 := by simpa using c3956
                           exact MT.say MT.any
                        ·exact MT.say MT.any
                       ·intro o3961 h3960 _
                        exact MT.say MT.any
                       ·intro o3962 h3960 _
                        refine MT.say (MT.ite (fun c6592 => ?_) (fun c6592 => ?_))
                        ·have c6592' : p_w.fKind = 4 := by simpa using c6592
                         refine MT.say (MT.ask (R := Any) ?_ ?_)
                         ·exact T.wk (R23_Valid_tot p_w.fDef (by first | omega | (simp; done) | decide))
                         ·intro r6595 h6596 _
                          exact MT.say MT.any
                        ·have c6592' : ¬ (p_w.fKind = 4) := by simpa using c6592
                         refine MT.say (MT.ite (fun c6600 => ?_) (fun c6600 => ?_))
                         ·have c6600' : p_w.fKind = 6 := by simpa using c6600
                          refine MT.say (MT.ask (R := Any) ?_ ?_)
                          ·exact T.wk (R21_Valid_tot p_w.fIndex (by first | omega | (simp; done) | decide))
                          ·intro r6603 h6604 _
                           exact MT.say MT.any
                         ·have c6600' : ¬ (p_w.fKind = 6) := by simpa using c6600
                          exact MT.say MT.any
theorem R40_Valid_tot (p_e : GEntry) (h_p_e : bulkL p_e.lf1 ≤ 100000000) : Tot (Q16 p_e) Any := by
  have := bulk_entry p_e
  have := bulk_write p_e.fWrite
  have := len_writes p_e.fWrite.fWrites
  show MT (Q16_T p_e) Any
  refine MT.ite (fun c233 => ?_) (fun c233 => ?_)
  ·have c233' := of_decide_eq_true c233
   exact MT.say MT.any
  ·have c233' := of_decide_eq_false c233
   refine MT.say (MT.ask (R := fun b_ => (b_ = true → True) ∧ (b_ = false → ¬ ((p_e.fStamp : Int) < 1) ∧ ¬ ((1099511627776 : Int) < p_e.fStamp) ∧ True)) ?_ ?_)
   ·show MT (Q16_J0_T p_e) _
    refine MT.ite (fun c234 => ?_) (fun c234 => ?_)
    ·have c234' := of_decide_eq_true c234
     exact MT.say (MT.ret ⟨(fun _ => trivial), (fun h_ => by cases h_)⟩)
    ·have c234' := of_decide_eq_false c234
     exact MT.say (MT.ret ⟨(fun _ => trivial), (fun h_ => ⟨(by first | assumption | omega), (of_decide_eq_false h_), trivial⟩)⟩)
   ·intro r236 h237 f_r236
    refine MT.say (MT.ask (R := fun b_ => (b_ = true → True) ∧ (b_ = false → r236 = false ∧ ¬ ((p_e.fNumber : Int) < 0) ∧ True)) ?_ ?_)
    ·show MT (Q16_J5_T p_e r236) _
     refine MT.ite (fun c238 => ?_) (fun c238 => ?_)
     ·exact MT.say (MT.ret ⟨(fun _ => trivial), (fun h_ => by cases h_)⟩)
     ·have q176 := f_r236.2 (c238)
      exact MT.say (MT.ret ⟨(fun _ => trivial), (fun h_ => ⟨(by first | assumption | omega), (of_decide_eq_false h_), trivial⟩)⟩)
    ·intro r240 h241 f_r240
     refine MT.say (MT.ask (R := Any) ?_ ?_)
     ·show MT (Q16_J10_T p_e r240) Any
      exact MT.any
     ·intro r242 h243 _
      refine MT.say (MT.ite (fun c252 => ?_) (fun c252 => ?_))
      ·exact MT.say MT.any
      ·have q177 := f_r240.2 (c252)
       have q178 := f_r236.2 (q177.1)
       refine MT.say (MT.ask (R := Any) ?_ ?_)
       ·show MT (Q16_J15_T p_e) Any
        refine MT.ite (fun c253 => ?_) (fun c253 => ?_)
        ·refine MT.say (MT.ask (R := Any) ?_ ?_)
         ·exact T.wk (T.val (RName_val p_e.fSession))
         ·intro r254 h255 _
          exact MT.say MT.any
        ·exact MT.say MT.any
       ·intro r257 h258 _
        refine MT.say (MT.ite (fun c260 => ?_) (fun c260 => ?_))
        ·exact MT.say MT.any
        ·refine MT.say (MT.ask (R := Any) ?_ ?_)
         ·exact T.wk (R40_own_tot p_e.fWrite 1 12 (by first | omega | (simp; done) | decide))
         ·intro r6607 h6608 _
          refine MT.say (MT.ite (fun c6610 => ?_) (fun c6610 => ?_))
          ·have c6610' : ¬ (r6607 = 0) := by simpa using c6610
           exact MT.say MT.any
          ·have c6610' : r6607 = 0 := by simpa using c6610
           refine MT.say (MT.ask (R := Any) ?_ ?_)
           ·show MT (Q16_J20_T p_e) Any
            refine MT.ite (fun c6612 => ?_) (fun c6612 => ?_)
            ·have c6612' : p_e.fWrite.fKind = 9 := by simpa using c6612
             exact MT.say MT.any
            ·have c6612' : ¬ (p_e.fWrite.fKind = 9) := by simpa using c6612
             exact MT.say MT.any
           ·intro r6614 h6615 _
            refine MT.say (MT.ask2 (R := Any) ?_ ?_ ?_)
            ·refine T.cnt (fun _ => True) ?_
             intro k179 hk179
             show MT (Q16_L25_T p_e r6614 ((k179 : Nat) : Int)) _
             refine MT.say (MT.ite (fun c6653 => ?_) (fun c6653 => ?_))
             ·have c6653' := of_decide_eq_true c6653
              refine MT.say (MT.ask (tot_gidx p_e.fWrite.fWrites ((k179 : Nat) : Int) (by omega) (by omega)) (fun x6654 _ hx180 => ?_))
              have := mem_write hx180
              have := bulk_write x6654
              refine MT.say (MT.ask (R := Any) ?_ ?_)
              ·exact T.wk (R40_own_tot x6654 2 r6614 (by first | omega | (simp; done) | decide))
              ·intro r6656 h6657 _
               refine MT.say (MT.ite (fun c6658 => ?_) (fun c6658 => ?_))
               ·have c6658' : ¬ (r6656 = 0) := by simpa using c6658
                exact MT.say (MT.ret trivial)
               ·have c6658' : r6656 = 0 := by simpa using c6658
                exact MT.say (MT.ret ⟨rfl, by omega⟩)
             ·have c6653' := of_decide_eq_false c6653
              exact MT.say (MT.ret trivial)
            ·intro o6663 h6662 _
             exact MT.say MT.any
            ·intro o6664 h6662 _
             exact MT.say MT.any
end Go.Proofs.YtplokbmdcfakbaaGreatDoor
set_option linter.unusedSimpArgs false
set_option linter.unusedVariables false
namespace Go.Proofs.YtplokbmdcfakbaaGreatDoor
open Go.RowKit
theorem CloneI_val (l : List Int) (h : l.length ≤ 16777216) : Q73 l = some l := by unfold Q73; rw [if_pos h]
def recD (w : GWrite) : GDecision := ⟨w.fTxn, w.fShards, List.replicate w.fShards.length 0, if w.fStamp = 0 then 4 else 3, w.fStamp, List.replicate w.fShards.length false⟩
theorem fresh_val (id : ByteArray) (l : List Int) (hl : l.length ≤ 100000000) : Q63 id l = some ⟨id, l, List.replicate l.length 0, 1, 0, List.replicate l.length false⟩ := by
  have h : Tot (Q63_L0 id l 0 [] [] []) (fun r => r = (l, List.replicate l.length 0, List.replicate l.length false)) := by
    refine T.forP l.length (by omega) (fun k s => s = ((k : Int), l.take k, List.replicate k 0, List.replicate k false)) _ rfl ?_ ?_
    · rintro k s hk rfl
      have hx := List.getElem?_eq_getElem hk
      simp only [Q63_L0_T, Mo.den, sbind_eq, sbind2_eq, sbind3_eq, bcase_eq, gcase_eq, ltt hx, gid hx, cond_true, Option.bind_some, List.length_take, List.length_replicate, List.length_cons, List.length_nil]
      refine T.grd (by omega) (T.grd (by omega) (T.grd (by omega) (T.ret ?_)))
      show _ = _
      rw [inc k (by omega), List.take_succ_eq_append_getElem hk, List.replicate_succ', List.replicate_succ']
    · rintro s rfl
      simp only [Q63_L0_T, Mo.den, sbind_eq, sbind2_eq, sbind3_eq, bcase_eq, gcase_eq, ltn, cond_false]
      exact T.ret (show _ = _ by rw [List.take_length])
  obtain ⟨r, h1, rfl⟩ := h
  unfold Q63 Q63_T
  simp only [Mo.den, sbind_eq, sbind2_eq, sbind3_eq, bcase_eq, gcase_eq, h1, Option.bind_some]
/-- entry j records a decision on t -/
def isD (l : List GEntry) (j : Nat) (t : ByteArray) : Prop := ∃ e, l[j]? = some e ∧ e.fWrite.fKind = 12 ∧ e.fWrite.fTxn = t
open Classical in
noncomputable def outs (l : List GEntry) : Nat → List GDecision
  | 0 => []
  | k + 1 => outs l k ++ match l[k]? with
    | some e => if e.fWrite.fKind = 12 ∧ ∀ j, k < j → ¬ isD l j e.fWrite.fTxn then [recD e.fWrite] else []
    | none => []
theorem outs_len (l : List GEntry) : ∀ k, (outs l k).length ≤ k
  | 0 => by simp [outs]
  | k + 1 => by
    have := outs_len l k
    simp only [outs, List.length_append]
    split
    · split <;> simp <;> omega
    · simp; omega
def mp (l : List GEntry) : Nat → List (ByteArray × Int)
  | 0 => []
  | k + 1 => match l[k]? with
    | some e => if e.fWrite.fKind = 12 then (e.fWrite.fTxn, (k : Int)) :: mp l k else mp l k
    | none => mp l k
theorem mp_len (l : List GEntry) : ∀ k, (mp l k).length ≤ k
  | 0 => by simp [mp]
  | k + 1 => by
    have := mp_len l k
    simp only [mp]
    split
    · split <;> simp <;> omega
    · omega
theorem mget_max (l : List GEntry) (t : ByteArray) : ∀ (n j : Nat), j < n → isD l j t → ∃ i, j ≤ i ∧ i < n ∧ isD l i t ∧ mget (mp l n) t 0 = (i : Int)
  | 0, j, h, _ => by omega
  | n + 1, j, h, hD => by
    by_cases hn : isD l n t
    · obtain ⟨e, h1, h2, h3⟩ := hn
      refine ⟨n, by omega, by omega, ⟨e, h1, h2, h3⟩, ?_⟩
      simp only [mp, h1, h2, if_true, mget, h3]
    · have hj : j < n := by
        rcases Nat.lt_succ_iff_lt_or_eq.1 h with h | rfl
        · exact h
        · exact absurd hD hn
      obtain ⟨i, h1, h2, h3, h4⟩ := mget_max l t n j hj hD
      refine ⟨i, h1, by omega, h3, ?_⟩
      rw [← h4]
      simp only [mp]
      cases he : l[n]? with
      | none => rfl
      | some e =>
        simp only
        by_cases hk : e.fWrite.fKind = 12
        · rw [if_pos hk]
          simp only [mget]
          rw [if_neg (fun ht => hn ⟨e, he, hk, ht.symm⟩)]
        · rw [if_neg hk]
theorem last_iff (l : List GEntry) (k : Nat) (e : GEntry) (he : l[k]? = some e) (hk : e.fWrite.fKind = 12) : mget (mp l l.length) e.fWrite.fTxn 0 = (k : Int) ↔ ∀ j, k < j → ¬ isD l j e.fWrite.fTxn := by
  have hl := len_at he
  constructor
  · intro h j hj hD
    have hD2 := hD
    obtain ⟨e', h1, _⟩ := hD2
    obtain ⟨i, h2, _, _, h4⟩ := mget_max l e.fWrite.fTxn l.length j (len_at h1) hD
    omega
  · intro h
    obtain ⟨i, h2, _, h3, h4⟩ := mget_max l e.fWrite.fTxn l.length k hl ⟨e, he, hk, rfl⟩
    rcases Nat.lt_or_eq_of_le h2 with h5 | rfl
    · exact absurd h3 (h i h5)
    · exact h4
theorem small_shards {l : List GEntry} {e : GEntry} (hb : bulkR (l.map GEntry.lf) ≤ 10000000) (he : e ∈ l) : e.fWrite.fShards.length ≤ 10000000 ∧ e.fWrite.fTxn.size ≤ 10000000 := by
  have h1 := mem_entry he
  have h2 := bulk_entry e
  have h3 := bulk_write e.fWrite
  have h4 := len_ints e.fWrite.fShards
  omega
open Classical in
theorem Recover_val (l : List GEntry) (hl : l.length ≤ 40) (hb : bulkR (l.map GEntry.lf) ≤ 10000000) : Q15 l = some (outs l l.length) := by
  have h1 : Tot (Q15_L5 l 0 []) (fun r => r = mp l l.length) := by
    refine T.forP l.length (by omega) (fun k s => s = ((k : Int), mp l k)) _ rfl ?_ ?_
    · rintro k s hk rfl
      have hx := List.getElem?_eq_getElem hk
      have hm := mp_len l k
      simp only [Q15_L5_T, Q15_J0, Q15_J0_T, Mo.den, sbind_eq, sbind2_eq, sbind3_eq, bcase_eq, gcase_eq, ltt hx, gid hx, cond_true, Option.bind_some]
      rw [inc k (by omega)]
      by_cases h : l[k].fWrite.fKind = 12
      · rw [show (l[k].fWrite.fKind == 12) = true by simpa using h]
        simp only [cond_true]
        rw [if_pos (by unfold maxLen; omega)]
        exact T.ret (show _ = _ by simp only [mp, hx, if_pos h])
      · rw [show (l[k].fWrite.fKind == 12) = false by simpa using h]
        simp only [cond_false, Option.bind_some]
        exact T.ret (show _ = _ by simp only [mp, hx, if_neg h])
    · rintro s rfl
      simp only [Q15_L5_T, Mo.den, sbind_eq, sbind2_eq, sbind3_eq, bcase_eq, gcase_eq, ltn, cond_false]
      exact T.ret rfl
  have h2 : Tot (Q15_L26 l (mp l l.length) 0 []) (fun r => r = outs l l.length) := by
    refine T.forP l.length (by omega) (fun k s => s = ((k : Int), outs l k)) _ rfl ?_ ?_
    · rintro k s hk rfl
      have hx := List.getElem?_eq_getElem hk
      have hm := outs_len l k
      have hs := (small_shards hb (mem_at hx)).1
      simp only [Q15_L26_T, Q15, Q15_T, Q15_L26, Q15_L26_T, Q15_J21, Q15_J21_T, Q15_J16, Q15_J16_T, Q15_J11, Q15_J11_T, Q15_L5, Q15_L5_T, Q15_J0, Q15_J0_T, Mo.den, sbind_eq, sbind2_eq, sbind3_eq, bcase_eq, gcase_eq, ltt hx, gid hx, cond_true, Option.bind_some]
      rw [inc k (by omega)]
      by_cases h : l[k].fWrite.fKind = 12
      · rw [show (l[k].fWrite.fKind != 12) = false by simpa using h]
        simp only [cond_false, Option.bind_some]
        have hi := last_iff l k l[k] hx h
        by_cases h3 : ∀ j, k < j → ¬ isD l j l[k].fWrite.fTxn
        · rw [show (mget (mp l l.length) l[k].fWrite.fTxn 0 != (k : Int)) = false by simpa using hi.2 h3]
          simp only [cond_false, CloneI_val _ (show l[k].fWrite.fShards.length ≤ 16777216 by omega), Option.bind_some, Int.toNat_natCast, List.length_cons, List.length_nil]
          rw [if_pos (by unfold maxLen; omega), if_pos (by unfold maxLen; omega)]
          have e : (bif l[k].fWrite.fStamp == 0 then some (4 : Int) else some 3) = some (if l[k].fWrite.fStamp = 0 then 4 else 3) := by
            by_cases h0 : l[k].fWrite.fStamp = 0
            · rw [show (l[k].fWrite.fStamp == 0) = true by simpa using h0, if_pos h0]; rfl
            · rw [show (l[k].fWrite.fStamp == 0) = false by simpa using h0, if_neg h0]; rfl
          rw [e]
          simp only [Option.bind_some]
          rw [if_pos (by omega)]
          refine T.ret (show _ = _ from ?_)
          simp only [outs, hx]
          rw [if_pos (show l[k].fWrite.fKind = 12 ∧ _ from ⟨h, h3⟩)]; rfl
        · rw [show (mget (mp l l.length) l[k].fWrite.fTxn 0 != (k : Int)) = true by simpa using fun h4 => h3 (hi.1 h4)]
          simp only [cond_true, Option.bind_some]
          refine T.ret (show _ = _ from ?_)
          simp only [outs, hx]
          rw [if_neg (fun h4 => h3 h4.2), List.append_nil]
      · rw [show (l[k].fWrite.fKind != 12) = true by simpa using h]
        simp only [cond_true, Option.bind_some]
        refine T.ret (show _ = _ from ?_)
        simp only [outs, hx]
        rw [if_neg (fun h4 => h h4.1), List.append_nil]
    · rintro s rfl
      simp only [Q15_L26_T, Mo.den, sbind_eq, sbind2_eq, sbind3_eq, bcase_eq, gcase_eq, ltn, cond_false]
      exact T.ret rfl
  obtain ⟨r, e1, rfl⟩ := h1
  obtain ⟨r, e2, rfl⟩ := h2
  unfold Q15 Q15_T
  simp only [Mo.den, sbind_eq, sbind2_eq, sbind3_eq, bcase_eq, gcase_eq, e1, e2, Option.bind_some]
open Classical in
theorem RRecover_val (l : List GEntry) (hl : l.length ≤ 40) (hb : bulkR (l.map GEntry.lf) ≤ 10000000) : Q19 l = some (outs l l.length) := by
  have h1 : ∀ (k : Nat) (e : GEntry) (o : List GDecision), l[k]? = some e → Tot (Q19_L5 o l (k : Int) e (e.fWrite.fKind == 12) ((k + 1 : Nat) : Int)) (fun r => r = decide (e.fWrite.fKind = 12 ∧ ∀ j, k < j → ¬ isD l j e.fWrite.fTxn)) := by
    intro k e o he
    have hk := len_at he
    refine T.forP (l.length - (k + 1)) (by omega) (fun m s => s = (decide (e.fWrite.fKind = 12 ∧ ∀ j, k < j → j < k + 1 + m → ¬ isD l j e.fWrite.fTxn), ((k + 1 + m : Nat) : Int))) _ ?_ ?_ ?_
    · refine Prod.ext ?_ rfl
      show (e.fWrite.fKind == 12) = _
      rw [Bool.eq_iff_iff]
      simp only [beq_iff_eq, decide_eq_true_eq]
      exact ⟨fun h => ⟨h, fun j h1 h2 => by omega⟩, fun h => h.1⟩
    · rintro m s hm rfl
      have hx := List.getElem?_eq_getElem (show k + 1 + m < l.length by omega)
      simp only [Q19_L5_T, Q19_J0, Q19_J0_T, Mo.den, sbind_eq, sbind2_eq, sbind3_eq, bcase_eq, gcase_eq, ltt hx, gid hx, cond_true, Option.bind_some]
      rw [inc (k + 1 + m) (by omega)]
      have hD : isD l (k + 1 + m) e.fWrite.fTxn ↔ l[k + 1 + m].fWrite.fKind = 12 ∧ l[k + 1 + m].fWrite.fTxn = e.fWrite.fTxn := by
        constructor
        · rintro ⟨e', h1, h2, h3⟩
          rw [hx] at h1; injection h1 with h1; subst h1; exact ⟨h2, h3⟩
        · rintro ⟨h2, h3⟩; exact ⟨_, hx, h2, h3⟩
      have key : (bif decide (e.fWrite.fKind = 12 ∧ ∀ j, k < j → j < k + 1 + m → ¬ isD l j e.fWrite.fTxn) then bif l[k + 1 + m].fWrite.fKind != 12 then some true else some (!decide (l[k + 1 + m].fWrite.fTxn = e.fWrite.fTxn)) else some false) =
          some (decide (e.fWrite.fKind = 12 ∧ ∀ j, k < j → j < k + 1 + (m + 1) → ¬ isD l j e.fWrite.fTxn)) := by
        by_cases h : e.fWrite.fKind = 12 ∧ ∀ j, k < j → j < k + 1 + m → ¬ isD l j e.fWrite.fTxn
        · rw [decide_eq_true h]
          simp only [cond_true]
          by_cases h2 : isD l (k + 1 + m) e.fWrite.fTxn
          · have h3 := hD.1 h2
            rw [decide_eq_false (show ¬ (e.fWrite.fKind = 12 ∧ ∀ j, k < j → j < k + 1 + (m + 1) → ¬ isD l j e.fWrite.fTxn) from fun h4 => h4.2 (k + 1 + m) (by omega) (by omega) h2), show (l[k + 1 + m].fWrite.fKind != 12) = false by simpa using h3.1, decide_eq_true h3.2]; rfl
          · rw [decide_eq_true (show e.fWrite.fKind = 12 ∧ ∀ j, k < j → j < k + 1 + (m + 1) → ¬ isD l j e.fWrite.fTxn from ⟨h.1, fun j h3 h4 => by
              rcases Nat.lt_or_eq_of_le (show j ≤ k + 1 + m by omega) with h5 | rfl
              · exact h.2 j h3 h5
              · exact h2⟩)]
            by_cases h3 : l[k + 1 + m].fWrite.fKind = 12
            · rw [show (l[k + 1 + m].fWrite.fKind != 12) = false by simpa using h3, decide_eq_false (fun h4 => h2 (hD.2 ⟨h3, h4⟩))]; rfl
            · rw [show (l[k + 1 + m].fWrite.fKind != 12) = true by simpa using h3]; rfl
        · rw [decide_eq_false h, decide_eq_false (show ¬ (e.fWrite.fKind = 12 ∧ ∀ j, k < j → j < k + 1 + (m + 1) → ¬ isD l j e.fWrite.fTxn) from fun h2 => h ⟨h2.1, fun j h3 h4 => h2.2 j h3 (by omega)⟩)]; rfl
      rw [key]
      exact T.ret rfl
    · rintro s rfl
      have e1 : ((k + 1 + (l.length - (k + 1)) : Nat) : Int) = (l.length : Int) := by omega
      simp only [Q19_L5_T, Mo.den, sbind_eq, sbind2_eq, sbind3_eq, bcase_eq, gcase_eq, e1, ltn, cond_false]
      refine T.ret (show _ = _ from ?_)
      rw [Bool.eq_iff_iff]
      simp only [decide_eq_true_eq]
      refine ⟨fun h => ⟨h.1, fun j h2 h3 => ?_⟩, fun h => ⟨h.1, fun j h2 _ => h.2 j h2⟩⟩
      obtain ⟨e', h4, h5⟩ := h3
      exact h.2 j h2 (by have := len_at h4; omega) ⟨e', h4, h5⟩
  have h2 : Tot (Q19_L21 l 0 []) (fun r => r = outs l l.length) := by
    refine T.forP l.length (by omega) (fun k s => s = ((k : Int), outs l k)) _ rfl ?_ ?_
    · rintro k s hk rfl
      have hx := List.getElem?_eq_getElem hk
      have hm := outs_len l k
      have hs := (small_shards hb (mem_at hx)).1
      obtain ⟨b, e1, rfl⟩ := h1 k l[k] (outs l k) hx
      simp only [Q19_L21_T, Q19_J16, Q19_J16_T, Q19_J11, Q19_J11_T, Mo.den, sbind_eq, sbind2_eq, sbind3_eq, bcase_eq, gcase_eq, ltt hx, gid hx, cond_true, Option.bind_some]
      rw [inc k (by omega), e1]
      simp only [Option.bind_some]
      by_cases h3 : l[k].fWrite.fKind = 12 ∧ ∀ j, k < j → ¬ isD l j l[k].fWrite.fTxn
      · rw [decide_eq_true h3]
        simp only [Bool.not_true, cond_false, fresh_val _ _ (show l[k].fWrite.fShards.length ≤ 100000000 by omega), Option.bind_some, List.length_cons, List.length_nil]
        have e : ∀ d : GDecision, (bif l[k].fWrite.fStamp == 0 then some ((d.sState 4).sCommit l[k].fWrite.fStamp) else some ((d.sState 3).sCommit l[k].fWrite.fStamp)) = some ((d.sState (if l[k].fWrite.fStamp = 0 then 4 else 3)).sCommit l[k].fWrite.fStamp) := by
          intro d
          by_cases h0 : l[k].fWrite.fStamp = 0
          · rw [show (l[k].fWrite.fStamp == 0) = true by simpa using h0, if_pos h0]; rfl
          · rw [show (l[k].fWrite.fStamp == 0) = false by simpa using h0, if_neg h0]; rfl
        rw [e]
        simp only [Option.bind_some]
        rw [if_pos (by omega)]
        refine T.ret (show _ = _ from ?_)
        simp only [outs, hx]
        rw [if_pos h3]; rfl
      · rw [decide_eq_false h3]
        simp only [Bool.not_false, cond_true, Option.bind_some]
        refine T.ret (show _ = _ from ?_)
        simp only [outs, hx]
        rw [if_neg h3, List.append_nil]
    · rintro s rfl
      simp only [Q19_L21_T, Mo.den, sbind_eq, sbind2_eq, sbind3_eq, bcase_eq, gcase_eq, ltn, cond_false]
      exact T.ret rfl
  obtain ⟨r, e2, rfl⟩ := h2
  unfold Q19 Q19_T
  simp only [Mo.den, sbind_eq, sbind2_eq, sbind3_eq, bcase_eq, gcase_eq, e2, Option.bind_some]
theorem Same_refl (d : GDecision) (h1 : d.fShards.length ≤ 100000000) (h2 : d.fVotes.length ≤ 100000000) (h3 : d.fAcked.length ≤ 100000000) : Q7 d d = some true := by
  have e1 : Tot (Q7_L25 d d 0) (fun r => r = .inr ()) := by
    refine T.forL d.fShards (by omega) _ (fun k x hx => ?_) ?_
    · simp only [Q7_L25_T, Mo.den, sbind_eq, sbind2_eq, sbind3_eq, bcase_eq, gcase_eq, ltt hx, gid hx, cond_true, Option.bind_some, bne_self_eq_false, cond_false]; exact T.ret rfl
    · simp only [Q7_L25_T, Mo.den, sbind_eq, sbind2_eq, sbind3_eq, bcase_eq, gcase_eq, ltn, cond_false]; exact T.ret rfl
  have e2 : Tot (Q7_L31 d d 0) (fun r => r = .inr ()) := by
    refine T.forL d.fVotes (by omega) _ (fun k x hx => ?_) ?_
    · simp only [Q7_L31_T, Mo.den, sbind_eq, sbind2_eq, sbind3_eq, bcase_eq, gcase_eq, ltt hx, gid hx, cond_true, Option.bind_some, bne_self_eq_false, cond_false]; exact T.ret rfl
    · simp only [Q7_L31_T, Mo.den, sbind_eq, sbind2_eq, sbind3_eq, bcase_eq, gcase_eq, ltn, cond_false]; exact T.ret rfl
  have e3 : Tot (Q7_L37 d d 0) (fun r => r = .inr ()) := by
    refine T.forL d.fAcked (by omega) _ (fun k x hx => ?_) ?_
    · simp only [Q7_L37_T, Mo.den, sbind_eq, sbind2_eq, sbind3_eq, bcase_eq, gcase_eq, ltt hx, gid hx, cond_true, Option.bind_some, BEq.rfl, Bool.not_true, cond_false]; exact T.ret rfl
    · simp only [Q7_L37_T, Mo.den, sbind_eq, sbind2_eq, sbind3_eq, bcase_eq, gcase_eq, ltn, cond_false]; exact T.ret rfl
  obtain ⟨_, e1, rfl⟩ := e1
  obtain ⟨_, e2, rfl⟩ := e2
  obtain ⟨_, e3, rfl⟩ := e3
  unfold Q7 Q7_T Q7_J20 Q7_J20_T Q7_J15 Q7_J15_T Q7_J10 Q7_J10_T Q7_J5 Q7_J5_T Q7_J0 Q7_J0_T
  simp only [Mo.den, sbind_eq, sbind2_eq, sbind3_eq, bcase_eq, gcase_eq, decide_true, Bool.not_true, cond_false, bne_self_eq_false, Option.bind_some, e1, e2, e3]
theorem outs_small (l : List GEntry) (hb : bulkR (l.map GEntry.lf) ≤ 10000000) : ∀ (k : Nat) (d : GDecision), d ∈ outs l k → Q7 d d = some true
  | 0, d, h => by simp [outs] at h
  | k + 1, d, h => by
    simp only [outs, List.mem_append] at h
    rcases h with h | h
    · exact outs_small l hb k d h
    · split at h
      · rename_i e he
        split at h
        · have hs := (small_shards hb (mem_at he)).1
          obtain rfl : d = recD e.fWrite := by simpa using h
          exact Same_refl _ (by show e.fWrite.fShards.length ≤ _; omega) (by show (List.replicate _ _).length ≤ _; rw [List.length_replicate]; omega) (by show (List.replicate _ _).length ≤ _; rw [List.length_replicate]; omega)
        · simp at h
      · simp at h
theorem awake_val : Q2 = some true := by kernel_rfl
theorem recovers_law (l : List GEntry) (hb : bulkR (l.map GEntry.lf) ≤ 10000000) : Q23 l = some true := by
  unfold Q23 Q23_T
  simp only [Mo.den, sbind_eq, sbind2_eq, sbind3_eq, bcase_eq, gcase_eq]
  by_cases a1 : 40 < l.length
  · rw [decide_eq_true (show (40 : Int) < (l.length : Int) by omega), awake_val]; rfl
  rw [decide_eq_false (show ¬ (40 : Int) < (l.length : Int) by omega)]
  simp only [cond_false]
  have h1 : Tot (Q23_L0 l 0) (fun r => r = .inl true ∨ r = .inr ()) := by
    refine T.forL l (by omega) _ (fun k x hx => ?_) ?_
    · have hm := mem_entry (mem_at hx)
      simp only [Q23_L0_T, Mo.den, sbind_eq, sbind2_eq, sbind3_eq, bcase_eq, gcase_eq, ltt hx, gid hx, cond_true, Option.bind_some, awake_val]
      exact T.bind (R40_Valid_tot x (by omega)) fun r _ => T.ite (fun _ => T.ret (.inl rfl)) fun _ => T.ret rfl
    · simp only [Q23_L0_T, Mo.den, sbind_eq, sbind2_eq, sbind3_eq, bcase_eq, gcase_eq, ltn, cond_false]; exact T.ret (.inr rfl)
  obtain ⟨r, e1, rfl | rfl⟩ := h1
  · simp only [e1, Option.bind_some]
  · simp only [e1, Option.bind_some, Recover_val l (by omega) hb, RRecover_val l (by omega) hb, bne_self_eq_false, cond_false]
    have h2 : Tot (Q23_L6 (outs l l.length) (outs l l.length) 0) (fun r => r = .inr ()) := by
      have := outs_len l l.length
      refine T.forL (outs l l.length) (by omega) _ (fun k x hx => ?_) ?_
      · simp only [Q23_L6_T, Mo.den, sbind_eq, sbind2_eq, sbind3_eq, bcase_eq, gcase_eq, ltt hx, gid hx, cond_true, Option.bind_some, outs_small l hb l.length x (mem_at hx), Bool.not_true, cond_false]; exact T.ret rfl
      · simp only [Q23_L6_T, Mo.den, sbind_eq, sbind2_eq, sbind3_eq, bcase_eq, gcase_eq, ltn, cond_false]; exact T.ret rfl
    obtain ⟨_, e2, rfl⟩ := h2
    simp only [e2, Option.bind_some, awake_val]
end Go.Proofs.YtplokbmdcfakbaaGreatDoor
