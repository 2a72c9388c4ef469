/- Reading values: how far, plain. -/
import Derived.Test.YtflpefkohpjjpaaGreatDoorQNRdT
set_option linter.unusedSimpArgs false
set_option linter.unusedVariables false
namespace Go.Proofs.YtflpefkohpjjpaaGreatDoor
def Goes(s:ByteArray)(f:Nat→Nat→Except Int (Tr×Nat×Nat)):Prop:=∀p bg t q bg',p≤s.size→bg≤1024→f p bg=.ok (t,q,bg')→q≤s.size∧bg<bg'∧bg'≤1024
theorem JA{s:ByteArray}{f:Nat→Nat→Except Int (Tr×Nat×Nat)}(hf:Goes s f):∀(n p bg:Nat) (acc l:List Tr) (q bg':Nat),p≤s.size→bg≤1024→rdL f n p bg acc=.ok (l,q,bg')→q≤s.size∧bg≤bg'∧bg'≤1024
 |0,p,bg,acc,l,q,bg',hp,hb,h=>by
  simp only[rdL] at h;injection h with h;injection h with h1 h2;injection h2 with h2 h3;omega
 |n+1,p,bg,acc,l,q,bg',hp,hb,h=>by
  simp only[rdL] at h
  cases he:f p bg with
  |error e=>rw[he] at h;cases h
  |ok x=>
   obtain⟨t,q1,b1⟩:=x
   rw[he] at h
   have h1:=hf _ _ _ _ _ hp hb he
   have h2:=JA hf n q1 b1 _ _ _ _ h1.1 h1.2.2 h
   omega
theorem JB{s:ByteArray}{f:Nat→Nat→Except Int (Tr×Nat×Nat)}(hf:Goes s f):∀(n p bg:Nat) (ns:List ByteArray) (ds:List Tr) (l:List ByteArray×List Tr) (q bg':Nat),p≤s.size→bg≤1024→rdF s f n p bg ns ds=.ok (l,q,bg')→q≤s.size∧bg≤bg'∧bg'≤1024
 |0,p,bg,ns,ds,l,q,bg',hp,hb,h=>by
  simp only[rdF] at h;injection h with h;injection h with h1 h2;injection h2 with h2 h3;omega
 |n+1,p,bg,ns,ds,l,q,bg',hp,hb,h=>by
  simp only[rdF] at h
  cases hn:jq s p with
  |error e=>rw[hn] at h;cases h
  |ok mq=>
   obtain⟨m,q0⟩:=mq
   rw[hn] at h
   simp only at h
   have h0:=oI hp hn
   split at h
   ·cases ht:jA s q0 m.toNat with
    |error e=>rw[ht] at h;cases h
    |ok tq=>
     obtain⟨nm,q2⟩:=tq
     rw[ht] at h
     simp only at h
     have h3:=lM h0.2 ht
     split at h
     ·cases he:f q2 bg with
      |error e=>rw[he] at h;cases h
      |ok x=>
       obtain⟨t,q1,b1⟩:=x
       rw[he] at h
       have h1:=hf _ _ _ _ _ h3.2.1 hb he
       have h2:=JB hf n q1 b1 _ _ _ _ _ h1.1 h1.2.2 h
       omega
     ·cases h
   ·cases h
theorem sS(s:ByteArray):∀d,Goes s (rdT s d)
 |0=>by intro p bg t q bg' _ _ h;simp[rdT] at h
 |d+1=>by
  intro p bg t q bg' hp hb h
  have ih:=sS s d
  rw[rdT] at h
  by_cases c0:1024≤bg
  ·rw[if_pos c0] at h
   cases h
  rw[if_neg c0] at h
  by_cases c1:s.size≤p
  ·rw[if_pos c1] at h
   cases h
  rw[if_neg c1] at h
  by_cases c2:bM s p=1∨bM s p=2∨bM s p=11
  ·rw[if_pos c2] at h
   injection h with h;injection h with h1 h2;injection h2 with h2 h3;omega
  rw[if_neg c2] at h
  by_cases c3:bM s p=3
  ·rw[if_pos c3] at h
   cases hn:jq s (p+1) with
   |error e=>rw[hn] at h;cases h
   |ok x=>obtain⟨n,q0⟩:=x;rw[hn] at h;simp only at h;have:=oI (by omega) hn;injection h with h;injection h with h1 h2;injection h2 with h2 h3;omega
  rw[if_neg c3] at h
  by_cases c4:bM s p=10
  ·rw[if_pos c4] at h
   cases hn:dH s (p+1) with
   |error e=>rw[hn] at h;cases h
   |ok x=>obtain⟨n,q0⟩:=x;rw[hn] at h;simp only at h;have:=iZ (by omega) hn;injection h with h;injection h with h1 h2;injection h2 with h2 h3;omega
  rw[if_neg c4] at h
  by_cases c5:bM s p=9
  ·rw[if_pos c5] at h
   split at h
   ·cases h
   ·split at h
    ·cases h
    ·injection h with h;injection h with h1 h2;injection h2 with h2 h3;omega
  rw[if_neg c5] at h
  by_cases c6:bM s p=4
  ·rw[if_pos c6] at h
   cases hn:textS s (p+1) with
   |error e=>rw[hn] at h;cases h
   |ok x=>
    obtain⟨n,q0⟩:=x;rw[hn] at h;simp only at h;have:=oJ (by omega) hn
    split at h
    ·injection h with h;injection h with h1 h2;injection h2 with h2 h3;omega
    ·cases h
  rw[if_neg c6] at h
  by_cases c7:bM s p=7
  ·rw[if_pos c7] at h
   cases hn:textS s (p+1) with
   |error e=>rw[hn] at h;cases h
   |ok x=>obtain⟨n,q0⟩:=x;rw[hn] at h;simp only at h;have:=oJ (by omega) hn;injection h with h;injection h with h1 h2;injection h2 with h2 h3;omega
  rw[if_neg c7] at h
  by_cases c8:bM s p=8
  ·rw[if_pos c8] at h
   cases hn:jA s (p+1) 12 with
   |error e=>rw[hn] at h;cases h
   |ok x=>obtain⟨n,q0⟩:=x;rw[hn] at h;simp only at h;have:=lM (by omega) hn;injection h with h;injection h with h1 h2;injection h2 with h2 h3;omega
  rw[if_neg c8] at h
  by_cases c9:bM s p=6
  ·rw[if_pos c9] at h
   cases hn:dH s (p+1) with
   |error e=>rw[hn] at h;cases h
   |ok x=>
    obtain⟨n,q0⟩:=x;rw[hn] at h;simp only at h;have h1:=iZ (by omega) hn
    cases hl:rdL (rdT s d) n.toNat q0 (bg+1) [] with
    |error e=>rw[hl] at h;cases h
    |ok y=>
     obtain⟨l,q2,b2⟩:=y
     rw[hl] at h;simp only at h
     have h2:=JA ih _ _ _ _ _ _ _ h1.2.1 (by omega) hl
     injection h with h;injection h with h3 h4;injection h4 with h4 h5;omega
  rw[if_neg c9] at h
  by_cases c10:bM s p=5
  ·rw[if_pos c10] at h
   cases hn:dH s (p+1) with
   |error e=>rw[hn] at h;cases h
   |ok x=>
    obtain⟨n,q0⟩:=x;rw[hn] at h;simp only at h;have h1:=iZ (by omega) hn
    cases hl:rdF s (rdT s d) n.toNat q0 (bg+1) [] [] with
    |error e=>rw[hl] at h;cases h
    |ok y=>
     obtain⟨⟨ns,ds⟩,q2,b2⟩:=y
     rw[hl] at h;simp only at h
     have h2:=JB ih _ _ _ _ _ _ _ _ h1.2.1 (by omega) hl
     injection h with h;injection h with h3 h4;injection h4 with h4 h5;omega
  rw[if_neg c10] at h
  cases h
end Go.Proofs.YtflpefkohpjjpaaGreatDoor
