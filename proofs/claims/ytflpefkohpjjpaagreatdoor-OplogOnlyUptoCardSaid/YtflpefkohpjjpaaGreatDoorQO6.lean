/- The errors of reading, plain. -/
import Derived.Test.YtflpefkohpjjpaaGreatDoorQORdVal3
set_option linter.unusedSimpArgs false
set_option linter.unusedVariables false
namespace Go.Proofs.YtflpefkohpjjpaaGreatDoor
/-- an error of the decoder -/
def Bad (c:Int) : Prop := c = 2 ∨ c = 4 ∨ c = 5
theorem rG {s:ByteArray} {p:Nat} {c:Int} (h:dY s p = .error c) : Bad c := by
  unfold dY sV at h
  cases hn:lG s p with
  | error e=>rw [hn] at h; injection h with h; subst h; have := FM hn; unfold Bad; omega
  | ok x =>
    obtain ⟨n,q⟩ := x
    rw [hn] at h; simp only at h
    split at h
    · cases h
    · injection h with h; unfold Bad; omega
theorem UN {s:ByteArray} {p:Nat} {c:Int} (h:lG s p = .error c) : Bad c := by have := FM h; unfold Bad; omega
theorem Dk {s:ByteArray} {p n:Nat} {c:Int} (h:kW s p n = .error c) : Bad c := by
  unfold kW at h
  split at h
  · cases h
  · injection h with h; unfold Bad; omega
theorem MH {s:ByteArray} {p:Nat} {c:Int} (h:textS s p = .error c) : Bad c := by
  unfold textS textF at h
  cases hn:dY s p with
  | error e=>rw [hn] at h; injection h with h; subst h; exact rG hn
  | ok x =>
    obtain ⟨n,q⟩ := x
    rw [hn] at h; simp only at h
    split at h
    · exact Dk h
    · injection h with h; unfold Bad; omega
def Errs (f:Nat → Nat → Except Int (Tr × Nat × Nat)) : Prop := ∀ p bg c,f p bg = .error c → Bad c
theorem Y8 {f:Nat → Nat → Except Int (Tr × Nat × Nat)} (hf:Errs f) : ∀ (n p bg:Nat) (acc:List Tr) (c:Int),rdL f n p bg acc = .error c → Bad c
  | 0,p,bg,acc,c,h=>by simp [rdL] at h
  | n + 1,p,bg,acc,c,h=>by
    simp only [rdL] at h
    cases he:f p bg with
    | error e=>rw [he] at h; injection h with h; subst h; exact hf _ _ _ he
    | ok x=>obtain ⟨t,q,b⟩ := x; rw [he] at h; exact Y8 hf n q b _ c h
theorem Y9 {s:ByteArray} {f:Nat → Nat → Except Int (Tr × Nat × Nat)} (hf:Errs f) : ∀ (n p bg:Nat) (ns:List ByteArray) (ds:List Tr) (c:Int),rdF s f n p bg ns ds = .error c → Bad c
  | 0,p,bg,ns,ds,c,h=>by simp [rdF] at h
  | n + 1,p,bg,ns,ds,c,h=>by
    simp only [rdF] at h
    cases hn:lG s p with
    | error e=>rw [hn] at h; injection h with h; subst h; exact UN hn
    | ok x =>
      obtain ⟨m,q⟩ := x
      rw [hn] at h; simp only at h
      split at h
      · cases ht:kW s q m.toNat with
        | error e=>rw [ht] at h; injection h with h; subst h; exact Dk ht
        | ok y =>
          obtain ⟨nm,q2⟩ := y
          rw [ht] at h; simp only at h
          split at h
          · cases he:f q2 bg with
            | error e=>rw [he] at h; injection h with h; subst h; exact hf _ _ _ he
            | ok z=>obtain ⟨t,q3,b3⟩ := z; rw [he] at h; exact Y9 hf n q3 b3 _ _ c h
          · injection h with h; unfold Bad; omega
      · injection h with h; unfold Bad; omega
theorem Za (s:ByteArray) : ∀ d,Errs (rdT s d)
  | 0=>by intro p bg c h; simp [rdT] at h; unfold Bad; omega
  | d + 1=>by
    intro p bg c h
    have ih := Za s d
    rw [ads] at h
    have lit:∀ e:Int,Bad e → (Except.error e:Except Int (Tr × Nat × Nat)) = .error c → Bad c := fun e he h=>by injection h with h; rw [← h]; exact he
    have b2:Bad 2 := .inl rfl
    have b4:Bad 4 := .inr (.inl rfl)
    have b5:Bad 5 := .inr (.inr rfl)
    by_cases c0 : 1024 ≤ bg
    · rw [if_pos c0] at h; exact lit 2 b2 h
    rw [if_neg c0] at h
    by_cases c1:s.size ≤ p
    · rw [if_pos c1] at h; exact lit 5 b5 h
    rw [if_neg c1] at h
    by_cases c2:bZ s p = 1 ∨ bZ s p = 2 ∨ bZ s p = 11
    · rw [if_pos c2] at h; cases h
    rw [if_neg c2] at h
    by_cases c3:bZ s p = 3
    · rw [if_pos c3] at h
      cases hn:lG s (p + 1) with
      | error e=>rw [hn] at h; exact lit e (UN hn) h
      | ok x=>rw [hn] at h; cases h
    rw [if_neg c3] at h
    by_cases c4:bZ s p = 10
    · rw [if_pos c4] at h
      cases hn:dY s (p + 1) with
      | error e=>rw [hn] at h; exact lit e (rG hn) h
      | ok x=>rw [hn] at h; cases h
    rw [if_neg c4] at h
    by_cases c5:bZ s p = 9
    · rw [if_pos c5] at h
      by_cases b1:s.size ≤ p + 1
      · rw [if_pos b1] at h; exact lit 5 b5 h
      rw [if_neg b1] at h
      by_cases b2 : 1 < bZ s (p + 1)
      · rw [if_pos b2] at h; exact lit 4 b4 h
      rw [if_neg b2] at h; cases h
    rw [if_neg c5] at h
    by_cases c6:bZ s p = 4
    · rw [if_pos c6] at h
      cases hn:textS s (p + 1) with
      | error e=>rw [hn] at h; exact lit e (MH hn) h
      | ok x =>
        obtain ⟨n,q⟩ := x
        rw [hn] at h; simp only [DL] at h
        split at h
        · cases h
        · exact lit 4 b4 h
    rw [if_neg c6] at h
    by_cases c7:bZ s p = 7
    · rw [if_pos c7] at h
      cases hn:textS s (p + 1) with
      | error e=>rw [hn] at h; exact lit e (MH hn) h
      | ok x=>rw [hn] at h; cases h
    rw [if_neg c7] at h
    by_cases c8:bZ s p = 8
    · rw [if_pos c8] at h
      cases hn:kW s (p + 1) 12 with
      | error e=>rw [hn] at h; exact lit e (Dk hn) h
      | ok x=>rw [hn] at h; cases h
    rw [if_neg c8] at h
    by_cases c9:bZ s p = 6
    · rw [if_pos c9] at h
      cases hn:dY s (p + 1) with
      | error e=>rw [hn] at h; exact lit e (rG hn) h
      | ok x =>
        obtain ⟨n,q⟩ := x
        rw [hn,QD] at h
        cases hl:rdL (rdT s d) n.toNat q (bg + 1) [] with
        | error e=>rw [hl] at h; exact lit e (Y8 ih _ _ _ _ _ hl) h
        | ok y=>rw [hl] at h; cases h
    rw [if_neg c9] at h
    by_cases c10:bZ s p = 5
    · rw [if_pos c10] at h
      cases hn:dY s (p + 1) with
      | error e=>rw [hn] at h; exact lit e (rG hn) h
      | ok x =>
        obtain ⟨n,q⟩ := x
        rw [hn] at h; simp only [Jd] at h
        cases hl:rdF s (rdT s d) n.toNat q (bg + 1) [] [] with
        | error e=>rw [hl] at h; exact lit e (Y9 ih _ _ _ _ _ _ hl) h
        | ok y=>rw [hl] at h; cases h
    rw [if_neg c10] at h
    exact lit 4 b4 h
end Go.Proofs.YtflpefkohpjjpaaGreatDoor
