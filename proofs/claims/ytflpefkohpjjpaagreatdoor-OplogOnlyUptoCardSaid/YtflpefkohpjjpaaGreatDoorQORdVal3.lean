/- (*codec.reader).value at a document, and whole (printed by genval3.py). -/
import Derived.Test.YtflpefkohpjjpaaGreatDoorQORdFld
set_option linter.unusedSimpArgs false
set_option linter.unusedVariables false
namespace Go.Proofs.YtflpefkohpjjpaaGreatDoor
open Go.RowKit
theorem pK.value {lo w0 hi:Nat} {w w':World} {x:Value} {ns:List ByteArray} {ts:List Tr} (h:pK lo w x ns ts) (hk:Same lo w w') (h0:w0 ≤ lo) (hh:w.heap.size ≤ hi) (hl:ts.length * 96 ≤ 140737488351232) :
    kY w0 hi w' (.mk 5 0 ⟨#[]⟩ [] ns ts) (.agg #[.int .i64 5,.int .i64 0,.string ⟨#[]⟩,.slice none 0 0,x]) := by
  have hln:ns.length = ts.length := by obtain ⟨cs,_,h2⟩ := h; exact dL.len _ _ _ h2
  obtain ⟨a,c,rfl,h1,h2,h3⟩ := h.aie hh
  unfold kY jk
  refine ⟨none,0,a,c,rfl,⟨by unfold maxLen; decide,by unfold I64; omega,by unfold I64; omega⟩,⟨Nat.le_refl _,by simp⟩,by unfold maxLen; omega,⟨h1,hl⟩,h2,hln,by unfold kR; trivial,?_⟩
  exact jV.sub (lu (fun i hF hi=>⟨⟨by omega,hF.2⟩,hk i hF.1 hi⟩)) _ _ _ _ h3
def ZG:Except Int ((List ByteArray × List Tr) × Nat × Nat) → Except Int (Tr × Nat × Nat)
  | .error e=>.error e
  | .ok ((ns,ds),q2,bg2)=>.ok (.mk 5 0 ⟨#[]⟩ [] ns ds,q2,bg2)
set_option maxRecDepth 20000 in
set_option maxHeartbeats 2000000 in
theorem amj (s:ByteArray) (W0:World) (d rb p bg:Nat) (lv:Int) (w:World) (hs:s.size ≤ 1000000000000000) (hlv:lv = 16 - d) (hd:d ≤ 16) (hp:p ≤ s.size) (hbg:bg ≤ 1024) (hE:Ext W0 w) (hrb0:W0.heap.size ≤ rb) (hT:Tabs W0) (h:w.heap[rb]? = some (dQ s p bg)) (hb:bg < 1024) (hlt:p < s.size) (hk:bZ s p = 5) (ih:X5 s W0 d) :
    Calls Tryz.prog 223 #[.pointer (some ⟨rb,0,none⟩),.int .i64 lv] w (lS rb s w (ZG (Jd s d (bg + 1) (dY s (p + 1))))) := by
  obtain ⟨x,hx⟩ : ∃ x,Jd s d (bg + 1) (dY s (p + 1)) = x := ⟨_,rfl⟩
  obtain ⟨r,hr⟩ : ∃ r,ZG x = r := ⟨_,rfl⟩
  rw [hx,hr]
  have HX := Lib.hid hx
  have HR := Lib.hid hr
  have HIH := Lib.hid ih
  clear hx hr ih
  have ck := bF h
  have cf := bQ h
  have hrb := fP h
  have HT := Lib.hid hT
  have H := Lib.hid h
  have hne:rb ≠ w.heap.size := by omega
  have d0:decide (lv ≤ 16) = true := by simp; omega
  have d1:decide ((bg:Int) < 1024) = true := by simp; omega
  have HLV := Lib.hid hlv
  have hlv1 : 0 ≤ lv ∧ lv ≤ 16 := by omega
  clear hlv
  clear hT h
  go_enter Tryz.func223,Tryz.ntmps223
  go_wp2_with fail
  refine (gI _ _).mono ?_
  rintro e w1 ⟨rfl,rfl⟩
  have HB2 := Lib.hid (bI (jF H.out ((bg:Int) + 1) (bg' := bg + 1) (by omega)) (.cells #[.int .i64 0,.int .i64 0,.string ⟨#[]⟩,.slice none 0 0,.slice none 0 0] 25))
  have HG2:Hid (w.grownBy ((w.setCell ⟨rb,2,none⟩ (.int .i64 ((bg:Int) + 1))).alloc (.cells #[.int .i64 0,.int .i64 0,.string ⟨#[]⟩,.slice none 0 0,.slice none 0 0] 25)) (some rb)) := bK (bP (World.grownBy.refl _ _) (.inl rfl) _) _
  have HA2:Hid (((w.setCell ⟨rb,2,none⟩ (.int .i64 ((bg:Int) + 1))).alloc (.cells #[.int .i64 0,.int .i64 0,.string ⟨#[]⟩,.slice none 0 0,.slice none 0 0] 25)).heap[w.heap.size]? = some (.cells #[.int .i64 0,.int .i64 0,.string ⟨#[]⟩,.slice none 0 0,.slice none 0 0] 25 (0,0))) := by
    have := fH (w.setCell ⟨rb,2,none⟩ (.int .i64 ((bg:Int) + 1))) (.cells #[.int .i64 0,.int .i64 0,.string ⟨#[]⟩,.slice none 0 0,.slice none 0 0] 25)
    rw [size_setCell] at this; exact this
  go_wp2_with fail
  clear ck
  refine (gJ s rb p (bg + 1) 1 1 rfl _ hs hp (by omega) HB2.out).mono ?_
  rw [show gu s p 1 = .ok (.string (s.extract p (p + 1)),p + 1) by unfold gu; rw [if_pos (by omega)]]
  rintro e w3 ⟨rfl,hb3,g3⟩
  obtain ⟨t1,ht1,hz1,hz0,hzb⟩ := iH s p hlt
  rw [ht1]
  rw [hk] at hzb
  clear ht1
  have HB3 := Lib.hid hb3
  have HG3 := Lib.hid (bJ HG2.out g3)
  have HA3 := Lib.hid (dF HA2.out g3 hne.symm)
  have s3:w.heap.size < w3.heap.size := by have := g3.size; simp [World.setCell] at this; omega
  have r3:rb < w3.heap.size := by omega
  clear hb3 g3 HB2 HG2 HA2 H cf
  have HVB := Lib.hid (fH w3 (.cells #[.int .i64 5,.int .i64 0,.string ⟨#[]⟩,.slice none 0 0,.slice none 0 0] 25))
  have HG4:Hid (w.grownBy (w3.alloc (.cells #[.int .i64 5,.int .i64 0,.string ⟨#[]⟩,.slice none 0 0,.slice none 0 0] 25)) (some rb)) := bK HG3.out _
  have hwl := nY (lv + 1) (by omega) (by omega)
  go_wp2_with fail
  refine (aix s W0 d rb (p + 1) (bg + 1) _ _ hs (by have := HLV.out; omega) (by omega) (by omega) ((kG hE HG3.out hrb0).alloc _) hrb0 (bI HB3.out _) HIH.out).mono ?_
  rw [HX.out]
  cases x with
  | error c =>
    have e := HR.out
    simp only [ZG] at e
    subst e
    rintro e w4 ⟨rfl,g4⟩
    exact ⟨rfl,rfl,bJ HG4.out g4⟩
  | ok nq =>
    obtain ⟨⟨ns,ds⟩,q2,bg2⟩ := nq
    have e := HR.out
    simp only [ZG] at e
    subst e
    rintro e w4 ⟨v4,rfl,a4,hl4,hb4,g4⟩
    have HAcc := Lib.hid a4
    have HB4 := Lib.hid hb4
    have HG5 := Lib.hid (bJ HG4.out g4)
    have HA4 := Lib.hid (dF (bI HA3.out (.cells #[.int .i64 5,.int .i64 0,.string ⟨#[]⟩,.slice none 0 0,.slice none 0 0] 25)) g4 hne.symm)
    have HV4 := Lib.hid (dF HVB.out g4 (by omega))
    have s4:w3.heap.size < w4.heap.size := by have := g4.size; simp at this; omega
    have ca := bF HA4.out
    have fa := bQ HA4.out
    have cv := bF HV4.out
    have fv := bQ HV4.out
    have hnv:¬ w.heap.size = w3.heap.size := by omega
    obtain ⟨ax,cx,rfl⟩ := HAcc.out.shape
    clear hb4 g4 HG4 HVB HB3 HG3 HA3 a4
    go_wp2_with fail
    refine bodyPost_ret (v := .agg #[.int .i64 5,.int .i64 0,.string ⟨#[]⟩,.slice none 0 0,.slice ax ds.length cx]) (by simp only [results,Tryz.results223]; go_simp) rfl ⟨_,rfl,HAcc.out.value (w0 := w.heap.size) ?_ (by simp; omega) ?_ (by omega),?_,?_⟩
    · repeat (first | with_reducible exact Same.refl _ _ | ((with_reducible refine Same.setCell ?_ ?_ _); rotate_left; (· first | (simp; done) | (simp; omega))))
    · simp [World.setCell]
    · exact (by repeat (first | with_reducible exact HB4.out | with_reducible refine bI ?_ _ | ((with_reducible refine fF ?_ ?_ _); rotate_left; (· first | (simp; omega) | omega))))
    · exact (by repeat (first | with_reducible exact HG5.out | with_reducible refine gV ?_ | with_reducible refine bK ?_ _ | ((with_reducible refine bP ?_ (.inr ?_) _); rotate_left; (· first | exact Nat.le_refl _ | omega | (simp; done) | (simp; omega)))))
theorem ads (s:ByteArray) (d p bg:Nat) : rdT s (d + 1) p bg = if 1024 ≤ bg then .error 2 else if s.size ≤ p then .error 5 else
    if bZ s p = 1 ∨ bZ s p = 2 ∨ bZ s p = 11 then .ok (kF (bZ s p) 0 ⟨#[]⟩,p + 1,bg + 1)
    else if bZ s p = 3 then rQ 3 bg (lG s (p + 1))
    else if bZ s p = 10 then rQ 10 bg (dY s (p + 1))
    else if bZ s p = 9 then (if s.size ≤ p + 1 then .error 5 else if 1 < bZ s (p + 1) then .error 4 else .ok (kF 9 (bZ s (p + 1)) ⟨#[]⟩,p + 1 + 1,bg + 1))
    else if bZ s p = 4 then DL bg (textS s (p + 1))
    else if bZ s p = 7 then rU 7 bg (textS s (p + 1))
    else if bZ s p = 8 then rU 8 bg (kW s (p + 1) 12)
    else if bZ s p = 6 then FQ s d bg (dY s (p + 1))
    else if bZ s p = 5 then ZG (Jd s d (bg + 1) (dY s (p + 1))) else .error 4 := by
  rw [rdT]
  have e3:(match lG s (p + 1) with | .error e=>.error e | .ok (n,q)=>.ok (kF 3 n ⟨#[]⟩,q,bg + 1)) = rQ 3 bg (lG s (p + 1)) := by cases lG s (p + 1) <;> rfl
  have e10:(match dY s (p + 1) with | .error e=>.error e | .ok (n,q)=>.ok (kF 10 n ⟨#[]⟩,q,bg + 1)) = rQ 10 bg (dY s (p + 1)) := by cases dY s (p + 1) <;> rfl
  have e4:(match textS s (p + 1) with | .error e=>.error e | .ok (t,q)=>if DC t then .ok (kF 4 0 t,q,bg + 1) else .error 4) = DL bg (textS s (p + 1)) := by cases textS s (p + 1) <;> rfl
  have e7:(match textS s (p + 1) with | .error e=>.error e | .ok (t,q)=>.ok (kF 7 0 t,q,bg + 1)) = rU 7 bg (textS s (p + 1)) := by cases textS s (p + 1) <;> rfl
  have e8:(match kW s (p + 1) 12 with | .error e=>.error e | .ok (t,q)=>.ok (kF 8 0 t,q,bg + 1)) = rU 8 bg (kW s (p + 1) 12) := by cases kW s (p + 1) 12 <;> rfl
  have e6:(match dY s (p + 1) with | .error e=>.error e | .ok (n,q)=>match rdL (rdT s d) n.toNat q (bg + 1) [] with | .error e=>.error e | .ok (l,q2,bg2)=>.ok (.mk 6 0 ⟨#[]⟩ l [] [],q2,bg2)) = FQ s d bg (dY s (p + 1)) := by cases dY s (p + 1) <;> rfl
  have e5:(match dY s (p + 1) with | .error e=>.error e | .ok (n,q)=>match rdF s (rdT s d) n.toNat q (bg + 1) [] [] with | .error e=>.error e | .ok ((ns,ds),q2,bg2)=>.ok (.mk 5 0 ⟨#[]⟩ [] ns ds,q2,bg2)) = ZG (Jd s d (bg + 1) (dY s (p + 1))) := by
    cases dY s (p + 1) with
    | error e=>rfl
    | ok nq=>obtain ⟨n,q⟩ := nq; simp only [Jd]; cases rdF s (rdT s d) n.toNat q (bg + 1) [] [] <;> rfl
  rw [← e3,← e10,← e4,← e7,← e8,← e6,← e5]
  rfl
theorem val_ok (s:ByteArray) (W0:World) (hs:s.size ≤ 1000000000000000) (hT:Tabs W0) : ∀ d,d ≤ 17 → X5 s W0 d
  | 0,_=>by
    intro rb p bg lv w hlv hp hbg hE hrb0 h
    obtain rfl:lv = 17 := by omega
    exact val_zero s rb p bg w hs h
  | d + 1,hd=>by
    intro rb p bg lv w hlv hp hbg hE hrb0 h
    have ih := val_ok s W0 hs hT d (by omega)
    have hl:lv = 16 - d := by omega
    rw [ads]
    by_cases c0 : 1024 ≤ bg
    · rw [if_pos c0]; exact adp s W0 d rb p bg lv w hs hl (by omega) hp hbg hE hrb0 hT h c0
    rw [if_neg c0]
    by_cases c1:s.size ≤ p
    · rw [if_pos c1]; exact ZF s W0 d rb p bg lv w hs hl (by omega) hp hbg hE hrb0 hT h (by omega) (by omega)
    rw [if_neg c1]
    by_cases c2:bZ s p = 1 ∨ bZ s p = 2 ∨ bZ s p = 11
    · rw [if_pos c2]
      rcases c2 with c2 | c2 | c2
      · rw [c2]; exact amb s W0 d rb p bg lv w hs hl (by omega) hp hbg hE hrb0 hT h (by omega) (by omega) c2
      · rw [c2]; exact amc s W0 d rb p bg lv w hs hl (by omega) hp hbg hE hrb0 hT h (by omega) (by omega) c2
      · rw [c2]; exact ais s W0 d rb p bg lv w hs hl (by omega) hp hbg hE hrb0 hT h (by omega) (by omega) c2
    rw [if_neg c2]
    by_cases c3:bZ s p = 3
    · rw [if_pos c3]; exact amd s W0 d rb p bg lv w hs hl (by omega) hp hbg hE hrb0 hT h (by omega) (by omega) c3
    rw [if_neg c3]
    by_cases c4:bZ s p = 10
    · rw [if_pos c4]; exact ait s W0 d rb p bg lv w hs hl (by omega) hp hbg hE hrb0 hT h (by omega) (by omega) c4
    rw [if_neg c4]
    by_cases c5:bZ s p = 9
    · rw [if_pos c5]
      by_cases b1:s.size ≤ p + 1
      · rw [if_pos b1]; exact aiu s W0 d rb p bg lv w hs hl (by omega) hp hbg hE hrb0 hT h (by omega) (by omega) c5 b1
      rw [if_neg b1]
      by_cases b2 : 1 < bZ s (p + 1)
      · rw [if_pos b2]; exact aiv s W0 d rb p bg lv w hs hl (by omega) hp hbg hE hrb0 hT h (by omega) (by omega) c5 (by omega) b2
      rw [if_neg b2]; exact aiw s W0 d rb p bg lv w hs hl (by omega) hp hbg hE hrb0 hT h (by omega) (by omega) c5 (by omega) (by omega)
    rw [if_neg c5]
    by_cases c6:bZ s p = 4
    · rw [if_pos c6]; exact amg s W0 d rb p bg lv w hs hl (by omega) hp hbg hE hrb0 hT h (by omega) (by omega) c6
    rw [if_neg c6]
    by_cases c7:bZ s p = 7
    · rw [if_pos c7]; exact ame s W0 d rb p bg lv w hs hl (by omega) hp hbg hE hrb0 hT h (by omega) (by omega) c7
    rw [if_neg c7]
    by_cases c8:bZ s p = 8
    · rw [if_pos c8]; exact amf s W0 d rb p bg lv w hs hl (by omega) hp hbg hE hrb0 hT h (by omega) (by omega) c8
    rw [if_neg c8]
    by_cases c9:bZ s p = 6
    · rw [if_pos c9]; exact ami s W0 d rb p bg lv w hs hl (by omega) hp hbg hE hrb0 hT h (by omega) (by omega) c9 ih
    rw [if_neg c9]
    by_cases c10:bZ s p = 5
    · rw [if_pos c10]; exact amj s W0 d rb p bg lv w hs hl (by omega) hp hbg hE hrb0 hT h (by omega) (by omega) c10 ih
    rw [if_neg c10]
    exact amh s W0 d rb p bg lv w hs hl (by omega) hp hbg hE hrb0 hT h (by omega) (by omega) _ rfl ⟨fun e=>c2 (.inl e),fun e=>c2 (.inr (.inl e)),c3,c6,c10,c9,c7,c8,c5,c4,fun e=>c2 (.inr (.inr e))⟩
end Go.Proofs.YtflpefkohpjjpaaGreatDoor
