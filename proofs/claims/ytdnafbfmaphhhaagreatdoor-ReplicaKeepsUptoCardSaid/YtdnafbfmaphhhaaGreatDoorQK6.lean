/- Printed by dec.py. -/
import Derived.Test.YtdnafbfmaphhhaaGreatDoorQK5
set_option linter.unusedSimpArgs false
set_option linter.unusedVariables false
namespace Go.Proofs.YtdnafbfmaphhhaaGreatDoor
open Go.RowKit
set_option maxRecDepth 20000
set_option maxHeartbeats 4000000
noncomputable section
def aaf (p_e:aC) : Mo (Bool) :=
 .ite (decide ((p_e.fOp:Int) < 1)) (fun c0 =>
 .say [.dM (.q 0 (.q 1 (.q 2 (.q 3 (.q 4 (.q 5 (.q 6 (.q 7 (.q 8 (.q 9 (.q 10 (.l 11 (.q 12 (.q 13 (.q 14 (.q 17 (.alt 15 (.q 16 (.l 18 (.l 19 (.q 20 (.q 21 (.q 22 (.q 23 (.q 24 (.l 25 (.q 26 (.q 27 (.q 28 (.q 31 (.alt 29 (.q 30 (.l 32 (.q 33 (.q 34 (.q 35 (.q 36 (.l 37 (.q 38 (.q 39 (.q 40 (.q 41 (.q 42 .fin)))))))))))) (.l 32 (.q 33 (.l 29 (.q 30 (.q 34 (.q 35 (.q 36 (.l 37 (.q 38 (.q 39 (.q 40 (.q 41 (.q 42 .fin))))))))))))))))))))))))))) (.l 18 (.alt 15 (.q 16 (.l 19 (.q 20 (.q 21 (.q 22 (.q 23 (.q 24 (.l 25 (.q 26 (.q 27 (.q 28 (.q 31 (.alt 29 (.q 30 (.l 32 (.q 33 (.q 34 (.q 35 (.q 36 (.l 37 (.q 38 (.q 39 (.q 40 (.q 41 (.q 42 .fin)))))))))))) (.l 32 (.q 33 (.l 29 (.q 30 (.q 34 (.q 35 (.q 36 (.l 37 (.q 38 (.q 39 (.q 40 (.q 41 (.q 42 .fin)))))))))))))))))))))))))) (.l 19 (.l 15 (.q 16 (.q 20 (.q 21 (.q 22 (.q 23 (.q 24 (.l 25 (.q 26 (.q 27 (.q 28 (.q 31 (.alt 29 (.q 30 (.l 32 (.q 33 (.q 34 (.q 35 (.q 36 (.l 37 (.q 38 (.q 39 (.q 40 (.q 41 (.q 42 .fin)))))))))))) (.l 32 (.q 33 (.l 29 (.q 30 (.q 34 (.q 35 (.q 36 (.l 37 (.q 38 (.q 39 (.q 40 (.q 41 (.q 42 .fin)))))))))))))))))))))))))))))))))))))))))))))) (some 11) [] [.gd 4003 true,.both [.both [] []] [.both [.both [] []] [.both [] []]]] [1,46] 1 [(1,.ptr 0 0),(46,.b_ true)] [.box 44 (.dat (aC.lf1 p_e))]] (okc c0 (okc (rf_ ⟨[(1,.ptr 0 0),(46,.b_ true)],[.box 44 (.dat (aC.lf1 p_e))]⟩) (okc (rf_ ⟨[(1,.ptr 0 0),(46,.b_ true)],[.box 44 (.dat (aC.lf1 p_e))]⟩) (okc (rf_ ⟨[(1,.ptr 0 0),(46,.b_ true)],[.box 44 (.dat (aC.lf1 p_e))]⟩) (okc (rf_ ⟨[(1,.ptr 0 0),(46,.b_ true)],[.box 44 (.dat (aC.lf1 p_e))]⟩) (okc (rf_ ⟨[(1,.ptr 0 0),(46,.b_ true)],[.box 44 (.dat (aC.lf1 p_e))]⟩) (ok1 (rf_ ⟨[(1,.ptr 0 0),(46,.b_ true)],[.box 44 (.dat (aC.lf1 p_e))]⟩)))))))) <|
 .rt [1,46] 1 (true)) fun c0 =>
 .say [] (ok1 c0) <|
 .ite (decide ((37:Int) < p_e.fOp)) (fun c1 =>
 .say [.dM (.q 0 (.q 1 (.q 2 (.q 3 (.q 4 (.q 5 (.q 6 (.q 7 (.q 8 (.q 9 (.q 10 (.l 11 (.q 12 (.q 13 (.q 14 (.q 17 (.alt 15 (.q 16 (.l 18 (.l 19 (.q 20 (.q 21 (.q 22 (.q 23 (.q 24 (.l 25 (.q 26 (.q 27 (.q 28 (.q 31 (.alt 29 (.q 30 (.l 32 (.q 33 (.q 34 (.q 35 (.q 36 (.l 37 (.q 38 (.q 39 (.q 40 (.q 41 (.q 42 .fin)))))))))))) (.l 32 (.q 33 (.l 29 (.q 30 (.q 34 (.q 35 (.q 36 (.l 37 (.q 38 (.q 39 (.q 40 (.q 41 (.q 42 .fin))))))))))))))))))))))))))) (.l 18 (.alt 15 (.q 16 (.l 19 (.q 20 (.q 21 (.q 22 (.q 23 (.q 24 (.l 25 (.q 26 (.q 27 (.q 28 (.q 31 (.alt 29 (.q 30 (.l 32 (.q 33 (.q 34 (.q 35 (.q 36 (.l 37 (.q 38 (.q 39 (.q 40 (.q 41 (.q 42 .fin)))))))))))) (.l 32 (.q 33 (.l 29 (.q 30 (.q 34 (.q 35 (.q 36 (.l 37 (.q 38 (.q 39 (.q 40 (.q 41 (.q 42 .fin)))))))))))))))))))))))))) (.l 19 (.l 15 (.q 16 (.q 20 (.q 21 (.q 22 (.q 23 (.q 24 (.l 25 (.q 26 (.q 27 (.q 28 (.q 31 (.alt 29 (.q 30 (.l 32 (.q 33 (.q 34 (.q 35 (.q 36 (.l 37 (.q 38 (.q 39 (.q 40 (.q 41 (.q 42 .fin)))))))))))) (.l 32 (.q 33 (.l 29 (.q 30 (.q 34 (.q 35 (.q 36 (.l 37 (.q 38 (.q 39 (.q 40 (.q 41 (.q 42 .fin)))))))))))))))))))))))))))))))))))))))))))))) (some 11) [] [.gd 4003 false,.gd 4008 true,.both [.both [] []] [.both [.both [] []] [.both [] []]]] [1,46] 1 [(1,.ptr 0 0),(46,.b_ true)] [.box 44 (.dat (aC.lf1 p_e))]] (okc c1 (okc (rf_ ⟨[(1,.ptr 0 0),(46,.b_ true)],[.box 44 (.dat (aC.lf1 p_e))]⟩) (okc (rf_ ⟨[(1,.ptr 0 0),(46,.b_ true)],[.box 44 (.dat (aC.lf1 p_e))]⟩) (okc (rf_ ⟨[(1,.ptr 0 0),(46,.b_ true)],[.box 44 (.dat (aC.lf1 p_e))]⟩) (okc (rf_ ⟨[(1,.ptr 0 0),(46,.b_ true)],[.box 44 (.dat (aC.lf1 p_e))]⟩) (okc (rf_ ⟨[(1,.ptr 0 0),(46,.b_ true)],[.box 44 (.dat (aC.lf1 p_e))]⟩) (ok1 (rf_ ⟨[(1,.ptr 0 0),(46,.b_ true)],[.box 44 (.dat (aC.lf1 p_e))]⟩)))))))) <|
 .rt [1,46] 1 (true)) fun c1 =>
 .say [] (ok1 c1) <|
 .ask (Q52 p_e.fOp) fun r0 h0 =>
 .say [] (ok1 (nS _ _ h0)) <|
 .ite (decide ((0:Int) ≤ r0)) (fun c2 =>
 .say [] (okc c2 (ok1 (ln_ p_e.aZ aC.lf))) <|
 .ask (Q52 p_e.fOp) fun r1 h1 =>
 .say [] (ok1 (nS _ _ h1)) <|
 .ite ((p_e.aZ.length:Int) != r1) (fun c3 =>
 .say [.dM (.q 0 (.q 1 (.q 2 (.q 3 (.q 4 (.q 5 (.q 6 (.q 7 (.q 8 (.q 9 (.q 10 (.l 11 (.q 12 (.q 13 (.q 14 (.q 17 (.alt 15 (.q 16 (.l 18 (.l 19 (.q 20 (.q 21 (.q 22 (.q 23 (.q 24 (.l 25 (.q 26 (.q 27 (.q 28 (.q 31 (.alt 29 (.q 30 (.l 32 (.q 33 (.q 34 (.q 35 (.q 36 (.l 37 (.q 38 (.q 39 (.q 40 (.q 41 (.q 42 .fin)))))))))))) (.l 32 (.q 33 (.l 29 (.q 30 (.q 34 (.q 35 (.q 36 (.l 37 (.q 38 (.q 39 (.q 40 (.q 41 (.q 42 .fin))))))))))))))))))))))))))) (.l 18 (.alt 15 (.q 16 (.l 19 (.q 20 (.q 21 (.q 22 (.q 23 (.q 24 (.l 25 (.q 26 (.q 27 (.q 28 (.q 31 (.alt 29 (.q 30 (.l 32 (.q 33 (.q 34 (.q 35 (.q 36 (.l 37 (.q 38 (.q 39 (.q 40 (.q 41 (.q 42 .fin)))))))))))) (.l 32 (.q 33 (.l 29 (.q 30 (.q 34 (.q 35 (.q 36 (.l 37 (.q 38 (.q 39 (.q 40 (.q 41 (.q 42 .fin)))))))))))))))))))))))))) (.l 19 (.l 15 (.q 16 (.q 20 (.q 21 (.q 22 (.q 23 (.q 24 (.l 25 (.q 26 (.q 27 (.q 28 (.q 31 (.alt 29 (.q 30 (.l 32 (.q 33 (.q 34 (.q 35 (.q 36 (.l 37 (.q 38 (.q 39 (.q 40 (.q 41 (.q 42 .fin)))))))))))) (.l 32 (.q 33 (.l 29 (.q 30 (.q 34 (.q 35 (.q 36 (.l 37 (.q 38 (.q 39 (.q 40 (.q 41 (.q 42 .fin)))))))))))))))))))))))))))))))))))))))))))))) (some 11) [] [.gd 4003 false,.gd 4008 false,.res (.i_ r0),.gd 4013 true,.both [.num p_e.aZ.length,.res (.i_ r1),.gd 4023 true,.both [] []] [.both [.num p_e.aZ.length,.res (.i_ r1),.gd 4023 true,.both [] []] [.res (.i_ r1),.num p_e.aZ.length,.gd 4023 true,.both [] []]]] [1,46] 1 [(1,.ptr 0 0),(46,.b_ true)] [.box 44 (.dat (aC.lf1 p_e))]] (okc c3 (okc (rf_ ⟨[(1,.ptr 0 0),(46,.b_ true)],[.box 44 (.dat (aC.lf1 p_e))]⟩) (okc (rf_ ⟨[(1,.ptr 0 0),(46,.b_ true)],[.box 44 (.dat (aC.lf1 p_e))]⟩) (okc (ln_ p_e.aZ aC.lf) (okc (nS _ _ h1) (okc c3 (okc (rf_ ⟨[(1,.ptr 0 0),(46,.b_ true)],[.box 44 (.dat (aC.lf1 p_e))]⟩) (okc (rf_ ⟨[(1,.ptr 0 0),(46,.b_ true)],[.box 44 (.dat (aC.lf1 p_e))]⟩) (okc (nS _ _ h1) (okc (ln_ p_e.aZ aC.lf) (okc c3 (okc (rf_ ⟨[(1,.ptr 0 0),(46,.b_ true)],[.box 44 (.dat (aC.lf1 p_e))]⟩) (ok1 (rf_ ⟨[(1,.ptr 0 0),(46,.b_ true)],[.box 44 (.dat (aC.lf1 p_e))]⟩)))))))))))))) <|
 .rt [1,46] 1 (true)) fun c3 =>
 .say [] (ok1 c3) <|
 .ite (p_e.fOp == 34) (fun c4 =>
 .say [] (okc c4 (okc (ln_ p_e.aZ aC.lf) (ok1 (ln_ p_e.bP lfS)))) <|
 .ite ((p_e.aZ.length:Int) != (p_e.bP.length:Int)) (fun c5 =>
 .say [.dM (.q 0 (.q 1 (.q 2 (.q 3 (.q 4 (.q 5 (.q 6 (.q 7 (.q 8 (.q 9 (.q 10 (.l 11 (.q 12 (.q 13 (.q 14 (.q 17 (.alt 15 (.q 16 (.l 18 (.l 19 (.q 20 (.q 21 (.q 22 (.q 23 (.q 24 (.l 25 (.q 26 (.q 27 (.q 28 (.q 31 (.alt 29 (.q 30 (.l 32 (.q 33 (.q 34 (.q 35 (.q 36 (.l 37 (.q 38 (.q 39 (.q 40 (.q 41 (.q 42 .fin)))))))))))) (.l 32 (.q 33 (.l 29 (.q 30 (.q 34 (.q 35 (.q 36 (.l 37 (.q 38 (.q 39 (.q 40 (.q 41 (.q 42 .fin))))))))))))))))))))))))))) (.l 18 (.alt 15 (.q 16 (.l 19 (.q 20 (.q 21 (.q 22 (.q 23 (.q 24 (.l 25 (.q 26 (.q 27 (.q 28 (.q 31 (.alt 29 (.q 30 (.l 32 (.q 33 (.q 34 (.q 35 (.q 36 (.l 37 (.q 38 (.q 39 (.q 40 (.q 41 (.q 42 .fin)))))))))))) (.l 32 (.q 33 (.l 29 (.q 30 (.q 34 (.q 35 (.q 36 (.l 37 (.q 38 (.q 39 (.q 40 (.q 41 (.q 42 .fin)))))))))))))))))))))))))) (.l 19 (.l 15 (.q 16 (.q 20 (.q 21 (.q 22 (.q 23 (.q 24 (.l 25 (.q 26 (.q 27 (.q 28 (.q 31 (.alt 29 (.q 30 (.l 32 (.q 33 (.q 34 (.q 35 (.q 36 (.l 37 (.q 38 (.q 39 (.q 40 (.q 41 (.q 42 .fin)))))))))))) (.l 32 (.q 33 (.l 29 (.q 30 (.q 34 (.q 35 (.q 36 (.l 37 (.q 38 (.q 39 (.q 40 (.q 41 (.q 42 .fin)))))))))))))))))))))))))))))))))))))))))))))) (some 11) [] [.gd 4003 false,.gd 4008 false,.res (.i_ r0),.gd 4013 true,.both [.num p_e.aZ.length,.res (.i_ r1),.gd 4023 false,.gd 4027 true,.both [.num p_e.aZ.length,.num p_e.bP.length,.gd 4035 true] [.num p_e.bP.length,.num p_e.aZ.length,.gd 4035 true]] [.both [.num p_e.aZ.length,.res (.i_ r1),.gd 4023 false,.gd 4027 true,.both [.num p_e.aZ.length,.num p_e.bP.length,.gd 4035 true] [.num p_e.bP.length,.num p_e.aZ.length,.gd 4035 true]] [.res (.i_ r1),.num p_e.aZ.length,.gd 4023 false,.gd 4027 true,.both [.num p_e.aZ.length,.num p_e.bP.length,.gd 4035 true] [.num p_e.bP.length,.num p_e.aZ.length,.gd 4035 true]]]] [1,46] 1 [(1,.ptr 0 0),(46,.b_ true)] [.box 44 (.dat (aC.lf1 p_e))]] (okc c5 (okc (rf_ ⟨[(1,.ptr 0 0),(46,.b_ true)],[.box 44 (.dat (aC.lf1 p_e))]⟩) (okc (ln_ p_e.bP lfS) (okc (ln_ p_e.aZ aC.lf) (okc c5 (okc (rf_ ⟨[(1,.ptr 0 0),(46,.b_ true)],[.box 44 (.dat (aC.lf1 p_e))]⟩) (okc (ln_ p_e.aZ aC.lf) (okc (nS _ _ h1) (okc c3 (okc c4 (okc (ln_ p_e.aZ aC.lf) (okc (ln_ p_e.bP lfS) (okc c5 (okc (rf_ ⟨[(1,.ptr 0 0),(46,.b_ true)],[.box 44 (.dat (aC.lf1 p_e))]⟩) (okc (ln_ p_e.bP lfS) (okc (ln_ p_e.aZ aC.lf) (okc c5 (okc (rf_ ⟨[(1,.ptr 0 0),(46,.b_ true)],[.box 44 (.dat (aC.lf1 p_e))]⟩) (okc (nS _ _ h1) (okc (ln_ p_e.aZ aC.lf) (okc c3 (okc c4 (okc (ln_ p_e.aZ aC.lf) (okc (ln_ p_e.bP lfS) (okc c5 (okc (rf_ ⟨[(1,.ptr 0 0),(46,.b_ true)],[.box 44 (.dat (aC.lf1 p_e))]⟩) (okc (ln_ p_e.bP lfS) (okc (ln_ p_e.aZ aC.lf) (okc c5 (ok1 (rf_ ⟨[(1,.ptr 0 0),(46,.b_ true)],[.box 44 (.dat (aC.lf1 p_e))]⟩))))))))))))))))))))))))))))))) <|
 .rt [1,46] 1 (true)) fun c5 =>
 .say [.dM (.q 0 (.q 1 (.q 2 (.q 3 (.q 4 (.q 5 (.q 6 (.q 7 (.q 8 (.q 9 (.q 10 (.l 11 (.q 12 (.q 13 (.q 14 (.q 17 (.alt 15 (.q 16 (.l 18 (.l 19 (.q 20 (.q 21 (.q 22 (.q 23 (.q 24 (.l 25 (.q 26 (.q 27 (.q 28 (.q 31 (.alt 29 (.q 30 (.l 32 (.q 33 (.q 34 (.q 35 (.q 36 (.l 37 (.q 38 (.q 39 (.q 40 (.q 41 (.q 42 .fin)))))))))))) (.l 32 (.q 33 (.l 29 (.q 30 (.q 34 (.q 35 (.q 36 (.l 37 (.q 38 (.q 39 (.q 40 (.q 41 (.q 42 .fin))))))))))))))))))))))))))) (.l 18 (.alt 15 (.q 16 (.l 19 (.q 20 (.q 21 (.q 22 (.q 23 (.q 24 (.l 25 (.q 26 (.q 27 (.q 28 (.q 31 (.alt 29 (.q 30 (.l 32 (.q 33 (.q 34 (.q 35 (.q 36 (.l 37 (.q 38 (.q 39 (.q 40 (.q 41 (.q 42 .fin)))))))))))) (.l 32 (.q 33 (.l 29 (.q 30 (.q 34 (.q 35 (.q 36 (.l 37 (.q 38 (.q 39 (.q 40 (.q 41 (.q 42 .fin)))))))))))))))))))))))))) (.l 19 (.l 15 (.q 16 (.q 20 (.q 21 (.q 22 (.q 23 (.q 24 (.l 25 (.q 26 (.q 27 (.q 28 (.q 31 (.alt 29 (.q 30 (.l 32 (.q 33 (.q 34 (.q 35 (.q 36 (.l 37 (.q 38 (.q 39 (.q 40 (.q 41 (.q 42 .fin)))))))))))) (.l 32 (.q 33 (.l 29 (.q 30 (.q 34 (.q 35 (.q 36 (.l 37 (.q 38 (.q 39 (.q 40 (.q 41 (.q 42 .fin)))))))))))))))))))))))))))))))))))))))))))))) (some 11) [] [.gd 4003 false,.gd 4008 false,.res (.i_ r0),.gd 4013 true,.both [.num p_e.aZ.length,.res (.i_ r1),.gd 4023 false,.gd 4027 true,.both [.num p_e.aZ.length,.num p_e.bP.length,.gd 4035 false,.num p_e.aZ.length] [.num p_e.bP.length,.num p_e.aZ.length,.gd 4035 false,.num p_e.aZ.length]] [.both [.num p_e.aZ.length,.res (.i_ r1),.gd 4023 false,.gd 4027 true,.both [.num p_e.aZ.length,.num p_e.bP.length,.gd 4035 false,.num p_e.aZ.length] [.num p_e.bP.length,.num p_e.aZ.length,.gd 4035 false,.num p_e.aZ.length]] [.res (.i_ r1),.num p_e.aZ.length,.gd 4023 false,.gd 4027 true,.both [.num p_e.aZ.length,.num p_e.bP.length,.gd 4035 false,.num p_e.aZ.length] [.num p_e.bP.length,.num p_e.aZ.length,.gd 4035 false,.num p_e.aZ.length]]]] [1,46] 1 [(1,.ptr 0 0),(46,.lf (.bool ((p_e.aZ.length:Int) == 0)))] [.box 44 (.dat (aC.lf1 p_e))]] (okc c5 (okc (ln_ p_e.aZ aC.lf) (okc (rf_ ⟨[(1,.ptr 0 0),(46,.lf (.bool ((p_e.aZ.length:Int) == 0)))],[.box 44 (.dat (aC.lf1 p_e))]⟩) (okc (ln_ p_e.bP lfS) (okc (ln_ p_e.aZ aC.lf) (okc c5 (okc (ln_ p_e.aZ aC.lf) (okc (rf_ ⟨[(1,.ptr 0 0),(46,.lf (.bool ((p_e.aZ.length:Int) == 0)))],[.box 44 (.dat (aC.lf1 p_e))]⟩) (okc (ln_ p_e.aZ aC.lf) (okc (nS _ _ h1) (okc c3 (okc c4 (okc (ln_ p_e.aZ aC.lf) (okc (ln_ p_e.bP lfS) (okc c5 (okc (ln_ p_e.aZ aC.lf) (okc (rf_ ⟨[(1,.ptr 0 0),(46,.lf (.bool ((p_e.aZ.length:Int) == 0)))],[.box 44 (.dat (aC.lf1 p_e))]⟩) (okc (ln_ p_e.bP lfS) (okc (ln_ p_e.aZ aC.lf) (okc c5 (okc (ln_ p_e.aZ aC.lf) (okc (rf_ ⟨[(1,.ptr 0 0),(46,.lf (.bool ((p_e.aZ.length:Int) == 0)))],[.box 44 (.dat (aC.lf1 p_e))]⟩) (okc (nS _ _ h1) (okc (ln_ p_e.aZ aC.lf) (okc c3 (okc c4 (okc (ln_ p_e.aZ aC.lf) (okc (ln_ p_e.bP lfS) (okc c5 (okc (ln_ p_e.aZ aC.lf) (okc (rf_ ⟨[(1,.ptr 0 0),(46,.lf (.bool ((p_e.aZ.length:Int) == 0)))],[.box 44 (.dat (aC.lf1 p_e))]⟩) (okc (ln_ p_e.bP lfS) (okc (ln_ p_e.aZ aC.lf) (okc c5 (okc (ln_ p_e.aZ aC.lf) (ok1 (rf_ ⟨[(1,.ptr 0 0),(46,.lf (.bool ((p_e.aZ.length:Int) == 0)))],[.box 44 (.dat (aC.lf1 p_e))]⟩))))))))))))))))))))))))))))))))))))) <|
 .rt [1,46] 1 ((p_e.aZ.length:Int) == 0)) fun c4 =>
 .say [.dM (.q 0 (.q 1 (.q 2 (.q 3 (.q 4 (.q 5 (.q 6 (.q 7 (.q 8 (.q 9 (.q 10 (.l 11 (.q 12 (.q 13 (.q 14 (.q 17 (.alt 15 (.q 16 (.l 18 (.l 19 (.q 20 (.q 21 (.q 22 (.q 23 (.q 24 (.l 25 (.q 26 (.q 27 (.q 28 (.q 31 (.alt 29 (.q 30 (.l 32 (.q 33 (.q 34 (.q 35 (.q 36 (.l 37 (.q 38 (.q 39 (.q 40 (.q 41 (.q 42 .fin)))))))))))) (.l 32 (.q 33 (.l 29 (.q 30 (.q 34 (.q 35 (.q 36 (.l 37 (.q 38 (.q 39 (.q 40 (.q 41 (.q 42 .fin))))))))))))))))))))))))))) (.l 18 (.alt 15 (.q 16 (.l 19 (.q 20 (.q 21 (.q 22 (.q 23 (.q 24 (.l 25 (.q 26 (.q 27 (.q 28 (.q 31 (.alt 29 (.q 30 (.l 32 (.q 33 (.q 34 (.q 35 (.q 36 (.l 37 (.q 38 (.q 39 (.q 40 (.q 41 (.q 42 .fin)))))))))))) (.l 32 (.q 33 (.l 29 (.q 30 (.q 34 (.q 35 (.q 36 (.l 37 (.q 38 (.q 39 (.q 40 (.q 41 (.q 42 .fin)))))))))))))))))))))))))) (.l 19 (.l 15 (.q 16 (.q 20 (.q 21 (.q 22 (.q 23 (.q 24 (.l 25 (.q 26 (.q 27 (.q 28 (.q 31 (.alt 29 (.q 30 (.l 32 (.q 33 (.q 34 (.q 35 (.q 36 (.l 37 (.q 38 (.q 39 (.q 40 (.q 41 (.q 42 .fin)))))))))))) (.l 32 (.q 33 (.l 29 (.q 30 (.q 34 (.q 35 (.q 36 (.l 37 (.q 38 (.q 39 (.q 40 (.q 41 (.q 42 .fin)))))))))))))))))))))))))))))))))))))))))))))) (some 11) [] [.gd 4003 false,.gd 4008 false,.res (.i_ r0),.gd 4013 true,.both [.num p_e.aZ.length,.res (.i_ r1),.gd 4023 false,.gd 4027 false,.both [] []] [.both [.num p_e.aZ.length,.res (.i_ r1),.gd 4023 false,.gd 4027 false,.both [] []] [.res (.i_ r1),.num p_e.aZ.length,.gd 4023 false,.gd 4027 false,.both [] []]]] [1,46] 1 [(1,.ptr 0 0),(46,.b_ false)] [.box 44 (.dat (aC.lf1 p_e))]] (okc c4 (okc (rf_ ⟨[(1,.ptr 0 0),(46,.b_ false)],[.box 44 (.dat (aC.lf1 p_e))]⟩) (okc (rf_ ⟨[(1,.ptr 0 0),(46,.b_ false)],[.box 44 (.dat (aC.lf1 p_e))]⟩) (okc (ln_ p_e.aZ aC.lf) (okc (nS _ _ h1) (okc c3 (okc c4 (okc (rf_ ⟨[(1,.ptr 0 0),(46,.b_ false)],[.box 44 (.dat (aC.lf1 p_e))]⟩) (okc (rf_ ⟨[(1,.ptr 0 0),(46,.b_ false)],[.box 44 (.dat (aC.lf1 p_e))]⟩) (okc (nS _ _ h1) (okc (ln_ p_e.aZ aC.lf) (okc c3 (okc c4 (okc (rf_ ⟨[(1,.ptr 0 0),(46,.b_ false)],[.box 44 (.dat (aC.lf1 p_e))]⟩) (ok1 (rf_ ⟨[(1,.ptr 0 0),(46,.b_ false)],[.box 44 (.dat (aC.lf1 p_e))]⟩)))))))))))))))) <|
 .rt [1,46] 1 (false)) fun c2 =>
 .say [] (ok1 c2) <|
 .ite (p_e.fOp == 34) (fun c6 =>
 .say [] (okc c6 (okc (ln_ p_e.aZ aC.lf) (ok1 (ln_ p_e.bP lfS)))) <|
 .ite ((p_e.aZ.length:Int) != (p_e.bP.length:Int)) (fun c7 =>
 .say [.dM (.q 0 (.q 1 (.q 2 (.q 3 (.q 4 (.q 5 (.q 6 (.q 7 (.q 8 (.q 9 (.q 10 (.l 11 (.q 12 (.q 13 (.q 14 (.q 17 (.alt 15 (.q 16 (.l 18 (.l 19 (.q 20 (.q 21 (.q 22 (.q 23 (.q 24 (.l 25 (.q 26 (.q 27 (.q 28 (.q 31 (.alt 29 (.q 30 (.l 32 (.q 33 (.q 34 (.q 35 (.q 36 (.l 37 (.q 38 (.q 39 (.q 40 (.q 41 (.q 42 .fin)))))))))))) (.l 32 (.q 33 (.l 29 (.q 30 (.q 34 (.q 35 (.q 36 (.l 37 (.q 38 (.q 39 (.q 40 (.q 41 (.q 42 .fin))))))))))))))))))))))))))) (.l 18 (.alt 15 (.q 16 (.l 19 (.q 20 (.q 21 (.q 22 (.q 23 (.q 24 (.l 25 (.q 26 (.q 27 (.q 28 (.q 31 (.alt 29 (.q 30 (.l 32 (.q 33 (.q 34 (.q 35 (.q 36 (.l 37 (.q 38 (.q 39 (.q 40 (.q 41 (.q 42 .fin)))))))))))) (.l 32 (.q 33 (.l 29 (.q 30 (.q 34 (.q 35 (.q 36 (.l 37 (.q 38 (.q 39 (.q 40 (.q 41 (.q 42 .fin)))))))))))))))))))))))))) (.l 19 (.l 15 (.q 16 (.q 20 (.q 21 (.q 22 (.q 23 (.q 24 (.l 25 (.q 26 (.q 27 (.q 28 (.q 31 (.alt 29 (.q 30 (.l 32 (.q 33 (.q 34 (.q 35 (.q 36 (.l 37 (.q 38 (.q 39 (.q 40 (.q 41 (.q 42 .fin)))))))))))) (.l 32 (.q 33 (.l 29 (.q 30 (.q 34 (.q 35 (.q 36 (.l 37 (.q 38 (.q 39 (.q 40 (.q 41 (.q 42 .fin)))))))))))))))))))))))))))))))))))))))))))))) (some 11) [] [.gd 4003 false,.gd 4008 false,.res (.i_ r0),.gd 4013 false,.both [.gd 4027 true,.both [.num p_e.aZ.length,.num p_e.bP.length,.gd 4035 true] [.num p_e.bP.length,.num p_e.aZ.length,.gd 4035 true]] [.both [.gd 4027 true,.both [.num p_e.aZ.length,.num p_e.bP.length,.gd 4035 true] [.num p_e.bP.length,.num p_e.aZ.length,.gd 4035 true]] [.gd 4027 true,.both [.num p_e.aZ.length,.num p_e.bP.length,.gd 4035 true] [.num p_e.bP.length,.num p_e.aZ.length,.gd 4035 true]]]] [1,46] 1 [(1,.ptr 0 0),(46,.b_ true)] [.box 44 (.dat (aC.lf1 p_e))]] (okc c7 (okc (rf_ ⟨[(1,.ptr 0 0),(46,.b_ true)],[.box 44 (.dat (aC.lf1 p_e))]⟩) (okc (ln_ p_e.bP lfS) (okc (ln_ p_e.aZ aC.lf) (okc c7 (okc (rf_ ⟨[(1,.ptr 0 0),(46,.b_ true)],[.box 44 (.dat (aC.lf1 p_e))]⟩) (okc c6 (okc (ln_ p_e.aZ aC.lf) (okc (ln_ p_e.bP lfS) (okc c7 (okc (rf_ ⟨[(1,.ptr 0 0),(46,.b_ true)],[.box 44 (.dat (aC.lf1 p_e))]⟩) (okc (ln_ p_e.bP lfS) (okc (ln_ p_e.aZ aC.lf) (okc c7 (okc (rf_ ⟨[(1,.ptr 0 0),(46,.b_ true)],[.box 44 (.dat (aC.lf1 p_e))]⟩) (okc c6 (okc (ln_ p_e.aZ aC.lf) (okc (ln_ p_e.bP lfS) (okc c7 (okc (rf_ ⟨[(1,.ptr 0 0),(46,.b_ true)],[.box 44 (.dat (aC.lf1 p_e))]⟩) (okc (ln_ p_e.bP lfS) (okc (ln_ p_e.aZ aC.lf) (okc c7 (ok1 (rf_ ⟨[(1,.ptr 0 0),(46,.b_ true)],[.box 44 (.dat (aC.lf1 p_e))]⟩))))))))))))))))))))))))) <|
 .rt [1,46] 1 (true)) fun c7 =>
 .say [.dM (.q 0 (.q 1 (.q 2 (.q 3 (.q 4 (.q 5 (.q 6 (.q 7 (.q 8 (.q 9 (.q 10 (.l 11 (.q 12 (.q 13 (.q 14 (.q 17 (.alt 15 (.q 16 (.l 18 (.l 19 (.q 20 (.q 21 (.q 22 (.q 23 (.q 24 (.l 25 (.q 26 (.q 27 (.q 28 (.q 31 (.alt 29 (.q 30 (.l 32 (.q 33 (.q 34 (.q 35 (.q 36 (.l 37 (.q 38 (.q 39 (.q 40 (.q 41 (.q 42 .fin)))))))))))) (.l 32 (.q 33 (.l 29 (.q 30 (.q 34 (.q 35 (.q 36 (.l 37 (.q 38 (.q 39 (.q 40 (.q 41 (.q 42 .fin))))))))))))))))))))))))))) (.l 18 (.alt 15 (.q 16 (.l 19 (.q 20 (.q 21 (.q 22 (.q 23 (.q 24 (.l 25 (.q 26 (.q 27 (.q 28 (.q 31 (.alt 29 (.q 30 (.l 32 (.q 33 (.q 34 (.q 35 (.q 36 (.l 37 (.q 38 (.q 39 (.q 40 (.q 41 (.q 42 .fin)))))))))))) (.l 32 (.q 33 (.l 29 (.q 30 (.q 34 (.q 35 (.q 36 (.l 37 (.q 38 (.q 39 (.q 40 (.q 41 (.q 42 .fin)))))))))))))))))))))))))) (.l 19 (.l 15 (.q 16 (.q 20 (.q 21 (.q 22 (.q 23 (.q 24 (.l 25 (.q 26 (.q 27 (.q 28 (.q 31 (.alt 29 (.q 30 (.l 32 (.q 33 (.q 34 (.q 35 (.q 36 (.l 37 (.q 38 (.q 39 (.q 40 (.q 41 (.q 42 .fin)))))))))))) (.l 32 (.q 33 (.l 29 (.q 30 (.q 34 (.q 35 (.q 36 (.l 37 (.q 38 (.q 39 (.q 40 (.q 41 (.q 42 .fin)))))))))))))))))))))))))))))))))))))))))))))) (some 11) [] [.gd 4003 false,.gd 4008 false,.res (.i_ r0),.gd 4013 false,.both [.gd 4027 true,.both [.num p_e.aZ.length,.num p_e.bP.length,.gd 4035 false,.num p_e.aZ.length] [.num p_e.bP.length,.num p_e.aZ.length,.gd 4035 false,.num p_e.aZ.length]] [.both [.gd 4027 true,.both [.num p_e.aZ.length,.num p_e.bP.length,.gd 4035 false,.num p_e.aZ.length] [.num p_e.bP.length,.num p_e.aZ.length,.gd 4035 false,.num p_e.aZ.length]] [.gd 4027 true,.both [.num p_e.aZ.length,.num p_e.bP.length,.gd 4035 false,.num p_e.aZ.length] [.num p_e.bP.length,.num p_e.aZ.length,.gd 4035 false,.num p_e.aZ.length]]]] [1,46] 1 [(1,.ptr 0 0),(46,.lf (.bool ((p_e.aZ.length:Int) == 0)))] [.box 44 (.dat (aC.lf1 p_e))]] (okc c7 (okc (ln_ p_e.aZ aC.lf) (okc (rf_ ⟨[(1,.ptr 0 0),(46,.lf (.bool ((p_e.aZ.length:Int) == 0)))],[.box 44 (.dat (aC.lf1 p_e))]⟩) (okc (ln_ p_e.bP lfS) (okc (ln_ p_e.aZ aC.lf) (okc c7 (okc (ln_ p_e.aZ aC.lf) (okc (rf_ ⟨[(1,.ptr 0 0),(46,.lf (.bool ((p_e.aZ.length:Int) == 0)))],[.box 44 (.dat (aC.lf1 p_e))]⟩) (okc c6 (okc (ln_ p_e.aZ aC.lf) (okc (ln_ p_e.bP lfS) (okc c7 (okc (ln_ p_e.aZ aC.lf) (okc (rf_ ⟨[(1,.ptr 0 0),(46,.lf (.bool ((p_e.aZ.length:Int) == 0)))],[.box 44 (.dat (aC.lf1 p_e))]⟩) (okc (ln_ p_e.bP lfS) (okc (ln_ p_e.aZ aC.lf) (okc c7 (okc (ln_ p_e.aZ aC.lf) (okc (rf_ ⟨[(1,.ptr 0 0),(46,.lf (.bool ((p_e.aZ.length:Int) == 0)))],[.box 44 (.dat (aC.lf1 p_e))]⟩) (okc c6 (okc (ln_ p_e.aZ aC.lf) (okc (ln_ p_e.bP lfS) (okc c7 (okc (ln_ p_e.aZ aC.lf) (okc (rf_ ⟨[(1,.ptr 0 0),(46,.lf (.bool ((p_e.aZ.length:Int) == 0)))],[.box 44 (.dat (aC.lf1 p_e))]⟩) (okc (ln_ p_e.bP lfS) (okc (ln_ p_e.aZ aC.lf) (okc c7 (okc (ln_ p_e.aZ aC.lf) (ok1 (rf_ ⟨[(1,.ptr 0 0),(46,.lf (.bool ((p_e.aZ.length:Int) == 0)))],[.box 44 (.dat (aC.lf1 p_e))]⟩))))))))))))))))))))))))))))))) <|
 .rt [1,46] 1 ((p_e.aZ.length:Int) == 0)) fun c6 =>
 .say [.dM (.q 0 (.q 1 (.q 2 (.q 3 (.q 4 (.q 5 (.q 6 (.q 7 (.q 8 (.q 9 (.q 10 (.l 11 (.q 12 (.q 13 (.q 14 (.q 17 (.alt 15 (.q 16 (.l 18 (.l 19 (.q 20 (.q 21 (.q 22 (.q 23 (.q 24 (.l 25 (.q 26 (.q 27 (.q 28 (.q 31 (.alt 29 (.q 30 (.l 32 (.q 33 (.q 34 (.q 35 (.q 36 (.l 37 (.q 38 (.q 39 (.q 40 (.q 41 (.q 42 .fin)))))))))))) (.l 32 (.q 33 (.l 29 (.q 30 (.q 34 (.q 35 (.q 36 (.l 37 (.q 38 (.q 39 (.q 40 (.q 41 (.q 42 .fin))))))))))))))))))))))))))) (.l 18 (.alt 15 (.q 16 (.l 19 (.q 20 (.q 21 (.q 22 (.q 23 (.q 24 (.l 25 (.q 26 (.q 27 (.q 28 (.q 31 (.alt 29 (.q 30 (.l 32 (.q 33 (.q 34 (.q 35 (.q 36 (.l 37 (.q 38 (.q 39 (.q 40 (.q 41 (.q 42 .fin)))))))))))) (.l 32 (.q 33 (.l 29 (.q 30 (.q 34 (.q 35 (.q 36 (.l 37 (.q 38 (.q 39 (.q 40 (.q 41 (.q 42 .fin)))))))))))))))))))))))))) (.l 19 (.l 15 (.q 16 (.q 20 (.q 21 (.q 22 (.q 23 (.q 24 (.l 25 (.q 26 (.q 27 (.q 28 (.q 31 (.alt 29 (.q 30 (.l 32 (.q 33 (.q 34 (.q 35 (.q 36 (.l 37 (.q 38 (.q 39 (.q 40 (.q 41 (.q 42 .fin)))))))))))) (.l 32 (.q 33 (.l 29 (.q 30 (.q 34 (.q 35 (.q 36 (.l 37 (.q 38 (.q 39 (.q 40 (.q 41 (.q 42 .fin)))))))))))))))))))))))))))))))))))))))))))))) (some 11) [] [.gd 4003 false,.gd 4008 false,.res (.i_ r0),.gd 4013 false,.both [.gd 4027 false,.both [] []] [.both [.gd 4027 false,.both [] []] [.gd 4027 false,.both [] []]]] [1,46] 1 [(1,.ptr 0 0),(46,.b_ false)] [.box 44 (.dat (aC.lf1 p_e))]] (okc c6 (okc (rf_ ⟨[(1,.ptr 0 0),(46,.b_ false)],[.box 44 (.dat (aC.lf1 p_e))]⟩) (okc (rf_ ⟨[(1,.ptr 0 0),(46,.b_ false)],[.box 44 (.dat (aC.lf1 p_e))]⟩) (okc c6 (okc (rf_ ⟨[(1,.ptr 0 0),(46,.b_ false)],[.box 44 (.dat (aC.lf1 p_e))]⟩) (okc (rf_ ⟨[(1,.ptr 0 0),(46,.b_ false)],[.box 44 (.dat (aC.lf1 p_e))]⟩) (okc c6 (okc (rf_ ⟨[(1,.ptr 0 0),(46,.b_ false)],[.box 44 (.dat (aC.lf1 p_e))]⟩) (ok1 (rf_ ⟨[(1,.ptr 0 0),(46,.b_ false)],[.box 44 (.dat (aC.lf1 p_e))]⟩)))))))))) <|
 .rt [1,46] 1 (false)
def aag (p_e:aC) : Mo (Bool) :=
 .iG 8003 (p_e.fOp == 2) (.cl (BK p_e.cO) fun r0 _ =>
 .rt [1,55] 1 (!r0)) <|
 .rt [1,55] 1 (false)
def WT (p_e:aC) (r0:Bool) : Mo (Bool) :=
 .iG 8009 (r0) (.rt [1,72] 1 (true)) <|
 .ite (p_e.fOp == 3) (fun c0 =>
 .say [.gd 8013 true,.num p_e.cO.length] (okc c0 (ok1 (ln_ p_e.cO lfS))) <|
 .iG 8019 (decide ((0:Int) < (p_e.cO.length:Int))) (.cl (BK p_e.cO) fun r1 _ =>
 .rt [1,72] 1 (!r1)) <|
 .rt [1,72] 1 (false)) fun c0 =>
 .say [.gd 8013 false] (ok1 c0) <|
 .rt [1,72] 1 (false)
def WU (p_e:aC) : Mo (Bool) :=
 .iG 12003 (p_e.fOp == 3) (.rt [1,80] 1 (true)) <|
 .rt [1,80] 1 (p_e.fOp == 32)
def WV (p_e:aC) (r0:Bool) : Mo (Bool) :=
 .iG 12008 (r0) (.rt [1,85] 1 (true)) <|
 .rt [1,85] 1 (p_e.fOp == 33)
def WW (p_e:aC) (r0:Bool) : Mo (Unit) :=
 .rt [1,3] 1 ()
def WX (p_e:aC) (r0:Bool) : Mo (Bool) :=
 .iG 14001 (r0) (.cl (tH p_e.fName) fun r1 _ =>
 .rt [1,3,92] 1 (!r1)) <|
 .rt [1,3,92] 1 (false)
def WY (p_e:aC) (r0:Bool) (r1:Bool) : Mo (Bool) :=
 .iG 14007 (r1) (.rt [1,3,103] 1 (true)) <|
 .iG 14011 (p_e.fOp == 34) (.cl (ahe p_e.bP) fun r2 _ =>
 .rt [1,3,103] 1 (!r2)) <|
 .rt [1,3,103] 1 (false)
def WZ (p_e:aC) (r0:Bool) : Mo (Bool) :=
 .iG 18003 (p_e.fOp == 1) (.cl (qj p_e.fArg) fun r1 _ =>
 .rt [1,3,112] 1 (!r1)) <|
 .rt [1,3,112] 1 (false)
def W9 (p_e:aC) (r0:Bool) : Mo (Bool) :=
 .iG 22003 (p_e.fOp != 2) (.rt [1,3,120] 1 (p_e.fOp != 3)) <|
 .rt [1,3,120] 1 (false)
def Xa (p_e:aC) (r0:Bool) (r1:Bool) : Mo (Bool) :=
 .ite (r1) (fun c0 =>
 .say [.gd 22008 true,.num p_e.cO.length] (okc c0 (ok1 (ln_ p_e.cO lfS))) <|
 .rt [1,3,126] 1 (decide ((0:Int) < (p_e.cO.length:Int)))) fun c0 =>
 .say [.gd 22008 false] (ok1 c0) <|
 .rt [1,3,126] 1 (false)
def Xb (p_e:aC) (r0:Bool) (r1:Bool) : Mo (Bool) :=
 .iG 22014 (r1) (.rt [1,135] 1 (true)) <|
 .iG 22017 (!r0) (.rt [1,135] 1 (!decide ((p_e.fName:ByteArray) = (⟨#[]⟩ : ByteArray)))) <|
 .rt [1,135] 1 (false)
def Xc (p_e:aC) (r0:Bool) : Mo (Bool) :=
 .iG 22023 (r0) (.rt [1,146] 1 (true)) <|
 .ite (p_e.fOp != 34) (fun c0 =>
 .say [.gd 22027 true,.num p_e.bP.length] (okc c0 (ok1 (ln_ p_e.bP lfS))) <|
 .rt [1,146] 1 (decide ((0:Int) < (p_e.bP.length:Int)))) fun c0 =>
 .say [.gd 22027 false] (ok1 c0) <|
 .rt [1,146] 1 (false)
def Xd (p_e:aC) (r0:Bool) : Mo (Bool) :=
 .iG 22034 (r0) (.rt [1,158] 1 (true)) <|
 .iG 22038 (p_e.fOp != 1) (.cl (U8 p_e.fArg (ah.mk 0 0 ⟨#[]⟩ [] [])) fun r1 _ =>
 .rt [1,158] 1 (!r1)) <|
 .rt [1,158] 1 (false)
def Xe (p_e:aC) (r0:Bool) : Mo (Bool) :=
 .iG 22046 (r0) (.ret ⟨[.kill 0],[163],[],1⟩ (true)) <|
 .ret ⟨[.kill 0],[163],[],1⟩ (p_e.fN != 0)
def afJ (p_e:aC) : Mo (Int) :=
 .jp Tryz.f319 0 [1,0,0] 9 [1] 1 (.normal) (fun r_=>⟨[(1,.ptr 0 0),(46,.b_ r_)],[.box 44 (.dat (aC.lf1 p_e))]⟩) ⟨[(1,.ptr 0 0)],[.box 44 (.dat (aC.lf1 p_e))]⟩ (aaf p_e).den (jW (by kernel_rfl)) fun r0 _ =>
 .iB (r0) (.ret (bn 1) (11)) <|
 .sj Tryz.f319 0 [1,1,0,0] [0,1,2,3,4,5,6,7,8] 3 9 [1] 1 (fun r_=>⟨[(1,.ptr 0 0),(55,.b_ r_)],[.box 44 (.dat (aC.lf1 p_e))]⟩) ⟨[(1,.ptr 0 0)],[.box 44 (.dat (aC.lf1 p_e))]⟩ (aag p_e).den (sW (by kernel_rfl)) fun r1 _ =>
 .sj Tryz.f319 0 [1,1,0,0] [9,10,11,12,13,14,15,16,17,18,19,20,21,22,23,24,25] 3 17 [1,55] 1 (fun r_=>⟨[(1,.ptr 0 0),(72,.b_ r_)],[.box 44 (.dat (aC.lf1 p_e))]⟩) ⟨[(1,.ptr 0 0),(55,.b_ r1)],[.box 44 (.dat (aC.lf1 p_e))]⟩ (WT p_e r1).den (sW (by kernel_rfl)) fun r2 _ =>
 .iB (r2) (.ret (bn 1) (10)) <|
 .sj Tryz.f319 0 [1,1,1,0] [0,1,2,3,4,5,6,7] 5 8 [1] 1 (fun r_=>⟨[(1,.ptr 0 0),(80,.b_ r_)],[.box 44 (.dat (aC.lf1 p_e))]⟩) ⟨[(1,.ptr 0 0)],[.box 44 (.dat (aC.lf1 p_e))]⟩ (WU p_e).den (sW (by kernel_rfl)) fun r3 _ =>
 .sj Tryz.f319 0 [1,1,1,0] [8,9,10,11,12] 5 5 [1,80] 1 (fun r_=>⟨[(1,.ptr 0 0),(85,.b_ r_)],[.box 44 (.dat (aC.lf1 p_e))]⟩) ⟨[(1,.ptr 0 0),(80,.b_ r3)],[.box 44 (.dat (aC.lf1 p_e))]⟩ (WV p_e r3).den (sW (by kernel_rfl)) fun r4 _ =>
 .sj Tryz.f319 0 [1,1,1,0] [13] 5 1 [1,85] 1 (fun r_=>⟨[(1,.ptr 0 0),(3,.b_ r4)],[.box 44 (.dat (aC.lf1 p_e))]⟩) ⟨[(1,.ptr 0 0),(85,.b_ r4)],[.box 44 (.dat (aC.lf1 p_e))]⟩ (WW p_e r4).den (sW (by kernel_rfl)) fun r5 _ =>
 .sj Tryz.f319 0 [1,1,1,1,0,0] [0,1,2,3,4,5,6] 6 7 [1,3] 1 (fun r_=>⟨[(1,.ptr 0 0),(3,.b_ r4),(92,.b_ r_)],[.box 44 (.dat (aC.lf1 p_e))]⟩) ⟨[(1,.ptr 0 0),(3,.b_ r4)],[.box 44 (.dat (aC.lf1 p_e))]⟩ (WX p_e r4).den (sW (by kernel_rfl)) fun r6 _ =>
 .sj Tryz.f319 0 [1,1,1,1,0,0] [7,8,9,10,11,12,13,14,15,16,17] 6 11 [1,3,92] 1 (fun r_=>⟨[(1,.ptr 0 0),(3,.b_ r4),(103,.b_ r_)],[.box 44 (.dat (aC.lf1 p_e))]⟩) ⟨[(1,.ptr 0 0),(3,.b_ r4),(92,.b_ r6)],[.box 44 (.dat (aC.lf1 p_e))]⟩ (WY p_e r4 r6).den (sW (by kernel_rfl)) fun r7 _ =>
 .iB (r7) (.ret (bn 1) (9)) <|
 .jp Tryz.f319 0 [1,1,1,1,1,0,0] 23 [1,3] 1 (.normal) (fun r_=>⟨[(1,.ptr 0 0),(3,.b_ r4),(112,.b_ r_)],[.box 44 (.dat (aC.lf1 p_e))]⟩) ⟨[(1,.ptr 0 0),(3,.b_ r4)],[.box 44 (.dat (aC.lf1 p_e))]⟩ (WZ p_e r4).den (jW (by kernel_rfl)) fun r8 _ =>
 .iB (r8) (.ret (bn 1) (8)) <|
 .sj Tryz.f319 0 [1,1,1,1,1,1,0,0] [0,1,2,3,4,5,6,7] 10 8 [1,3] 1 (fun r_=>⟨[(1,.ptr 0 0),(3,.b_ r4),(120,.b_ r_)],[.box 44 (.dat (aC.lf1 p_e))]⟩) ⟨[(1,.ptr 0 0),(3,.b_ r4)],[.box 44 (.dat (aC.lf1 p_e))]⟩ (W9 p_e r4).den (sW (by kernel_rfl)) fun r9 _ =>
 .sj Tryz.f319 0 [1,1,1,1,1,1,0,0] [8,9,10,11,12,13] 10 6 [1,3,120] 1 (fun r_=>⟨[(1,.ptr 0 0),(3,.b_ r4),(126,.b_ r_)],[.box 44 (.dat (aC.lf1 p_e))]⟩) ⟨[(1,.ptr 0 0),(3,.b_ r4),(120,.b_ r9)],[.box 44 (.dat (aC.lf1 p_e))]⟩ (Xa p_e r4 r9).den (sW (by kernel_rfl)) fun r10 _ =>
 .sj Tryz.f319 0 [1,1,1,1,1,1,0,0] [14,15,16,17,18,19,20,21,22] 10 9 [1,3,126] 1 (fun r_=>⟨[(1,.ptr 0 0),(135,.b_ r_)],[.box 44 (.dat (aC.lf1 p_e))]⟩) ⟨[(1,.ptr 0 0),(3,.b_ r4),(126,.b_ r10)],[.box 44 (.dat (aC.lf1 p_e))]⟩ (Xb p_e r4 r10).den (sW (by kernel_rfl)) fun r11 _ =>
 .sj Tryz.f319 0 [1,1,1,1,1,1,0,0] [23,24,25,26,27,28,29,30,31,32,33] 10 11 [1,135] 1 (fun r_=>⟨[(1,.ptr 0 0),(146,.b_ r_)],[.box 44 (.dat (aC.lf1 p_e))]⟩) ⟨[(1,.ptr 0 0),(135,.b_ r11)],[.box 44 (.dat (aC.lf1 p_e))]⟩ (Xc p_e r11).den (sW (by kernel_rfl)) fun r12 _ =>
 .sj Tryz.f319 0 [1,1,1,1,1,1,0,0] [34,35,36,37,38,39,40,41,42,43,44,45] 10 12 [1,146] 1 (fun r_=>⟨[(1,.ptr 0 0),(158,.b_ r_)],[.box 44 (.dat (aC.lf1 p_e))]⟩) ⟨[(1,.ptr 0 0),(146,.b_ r12)],[.box 44 (.dat (aC.lf1 p_e))]⟩ (Xd p_e r12).den (sW (by kernel_rfl)) fun r13 _ =>
 .sj Tryz.f319 0 [1,1,1,1,1,1,0,0] [46,47,48,49,50] 10 5 [1,158] 1 (fun r_=>⟨[(163,.b_ r_)],[.dead]⟩) ⟨[(1,.ptr 0 0),(158,.b_ r13)],[.box 44 (.dat (aC.lf1 p_e))]⟩ (Xe p_e r13).den (sW (by kernel_rfl)) fun r14 _ =>
 .iB (r14) (.ret (bn 1) (4)) <|
 .ret (bn 1) (0)
def Q32 (p_e:aC) : Option (Int) := Mo.den (afJ p_e)
theorem ahh (p_e:aC) : FV (Q32 p_e) 319 [.dat (aC.lf1 p_e)] (fun r=>.i_ r) := dw Tryz.func319 (by kernel_rfl) (fun _=>rfl) (by kernel_rfl)
structure Oe where
 m1:(p_e:aC) → (p_number:Int) → (p_level:Int) → Option (Int × Int)
 ok1:∀ p_e p_number p_level,FV (m1 p_e p_number p_level) 297 [.dat (aC.lf1 p_e),.i_ p_number,.i_ p_level] (fun r=>.tup [.i_ r.1,.i_ r.2])
def Og (R_:Oe) (p_e:aC) (p_level:Int) (p_number:Int) : Mo (Bool) :=
 .iG 4002 (decide ((16:Int) < p_level)) (.rt [1,2,3,17] 1 (true)) <|
 .rt [1,2,3,17] 1 (decide ((256:Int) < p_number))
def Di (R_:Oe) (p_e:aC) (p_level:Int) : (Int × Int) → Mo ((Int × Int) ⊕ (Int × Int) ⊕ (Int)) := fun (v0,v1) =>
 .say [.num p_e.aZ.length] (ok1 (ln_ p_e.aZ aC.lf)) <|
 .iB (decide ((v1:Int) < (p_e.aZ.length:Int))) (.ask (bT p_e.aZ v1) fun x0 h0 =>
 .say [.row (aC.lf1 x0)] (ok1 (aX aC.aU h0)) <|
 .cl (R_.ok1 x0 (IntKind.wrap .i64 (v0 + 1)) (IntKind.wrap .i64 (p_level + 1))) fun r0 _ =>
 .iB (r0.2 != 0) (.ret ⟨[.kill 0],[6,7],[],1⟩ (.inr (.inl (r0.1,r0.2)))) <|
 .rt [1,2,3,9] 1 (.inl (r0.1,IntKind.wrap .i64 (v1 + 1)))) <|
 .ret ⟨[.kill 0],[1],[],1⟩ (.inr (.inr (v0)))
def aah (R_:Oe) (p_e:aC) (p_level:Int) (v0:Int) (v1:Int) : Option ((Int × Int) ⊕ (Int)) := bJ (fun v_=>(Di R_ p_e p_level v_).den) FU (v0,v1)
def Oh (R_:Oe) (p_e:aC) (p_level:Int) : (Int × Int) → St := fun (v0,v1)=>⟨[(1,.i_ v0),(2,.i_ p_level),(3,.ptr 0 0),(9,.i_ v1)],[.box 44 (.dat (aC.lf1 p_e))]⟩
def wP (r_:(Int × Int) ⊕ (Int)) : Exit := match r_ with
 | .inl o_=>.ret
 | .inr (o_)=>.exit 0
def wQ  (r_:(Int × Int) ⊕ (Int)) : St := match r_ with
 | .inl o_=>⟨[(6,.i_ o_.1),(7,.i_ o_.2)],[.dead]⟩
 | .inr (o_)=>⟨[(1,.i_ o_)],[.dead]⟩
theorem Oi {R_:Oe} {p_e:aC} {p_level:Int} {v0:Int} {v1:Int} {r_:(Int × Int) ⊕ (Int)} (h:aah R_ p_e p_level v0 v1 = some r_) : gq Tryz.f297 0 [1,1,1,0,1,0] (wP r_) (wQ r_) (Oh R_ p_e p_level (v0,v1)) :=
 dR dL (body := (Code.sub (bodyC Tryz.f297) [1,1,1,0,1,0,0])) (by kernel_rfl) (Di R_ p_e p_level) (Oh R_ p_e p_level) wP wQ (fun r_=>by rcases r_ with _ | _ <;> rfl) (fun v_=>by kernel_rfl) h
def aai (R_:Oe) (p_e:aC) (p_number:Int) (p_level:Int) : Mo (Int × Int) :=
 .jp Tryz.f297 0 [1,0,0] 9 [1,2,3] 1 (.normal) (fun r_=>⟨[(1,.i_ p_number),(2,.i_ p_level),(3,.ptr 0 0),(17,.b_ r_)],[.box 44 (.dat (aC.lf1 p_e))]⟩) ⟨[(1,.i_ p_number),(2,.i_ p_level),(3,.ptr 0 0)],[.box 44 (.dat (aC.lf1 p_e))]⟩ (Og R_ p_e p_level p_number).den (jW (by kernel_rfl)) fun r0 _ =>
 .iB (r0) (.ret (bn 2) (p_number,2)) <|
 .cl (ahh p_e) fun r1 _ =>
 .iB (r1 != 0) (.ret (bn 2) (p_number,r1)) <|
 .eY (aah R_ p_e p_level p_number 0) (fun o0 h0 =>
 .say [.pt_ 0 [1,2,3,9] 1 (wP (.inl o0)) (wQ (.inl o0))] (ok1 (Oi h0)) <|
 .ret (bn 2) (o0.1,o0.2)) fun o1 h0 =>
 .say [.pt_ 0 [1,2,3,9] 1 (wP (.inr (o1))) (wQ (.inr (o1)))] (ok1 (Oi h0)) <|
 .ret (bn 2) (o1,0)
theorem adL (R_:Oe) (p_e:aC) (p_number:Int) (p_level:Int) : FV (Mo.den (aai R_ p_e p_number p_level)) 297 [.dat (aC.lf1 p_e),.i_ p_number,.i_ p_level] (fun r=>.tup [.i_ r.1,.i_ r.2]) := dw Tryz.func297 (by kernel_rfl) (fun _=>rfl) (by kernel_rfl)
def ql:Nat → Oe
 | 0=>{ m1 := fun p_e p_number p_level=>none,ok1 := fun _ _ _ _ h=>(by cases h) }
 | n_ + 1=>{ m1 := fun p_e p_number p_level=>Mo.den (aai (ql n_) p_e p_number p_level),ok1 := adL (ql n_) }
def Q35 (p_e:aC) (p_number:Int) (p_level:Int) : Option (Int × Int) := (ql FU).m1 p_e p_number p_level
theorem ahi (p_e:aC) (p_number:Int) (p_level:Int) : FV (Q35 p_e p_number p_level) 297 [.dat (aC.lf1 p_e),.i_ p_number,.i_ p_level] (fun r=>.tup [.i_ r.1,.i_ r.2]) := (ql FU).ok1 p_e p_number p_level
def aaj (p_e:aC) : Mo (Int) :=
 .cl (ahi p_e 1 1) fun r0 _ =>
 .ret (bn 1) (r0.2)
def ai2 (p_e:aC) : Option (Int) := Mo.den (aaj p_e)
theorem adM (p_e:aC) : FV (ai2 p_e) 250 [.dat (aC.lf1 p_e)] (fun r=>.i_ r) := dw Tryz.func250 (by kernel_rfl) (fun _=>rfl) (by kernel_rfl)
structure mV where
 m1:(p_p:aH) → (p_elem:Bool) → Option (Int)
 ok1:∀ p_p p_elem,FV (m1 p_p p_elem) 206 [.dat (aH.lf1 p_p),.b_ p_elem] (fun r=>.i_ r)
def U9 (R_:mV) (p_elem:Bool) (p_p:aH) : Mo (Bool) :=
 .iG 4003 (decide ((p_p.fOp:Int) < 1)) (.rt [1,2,16] 1 (true)) <|
 .rt [1,2,16] 1 (decide ((24:Int) < p_p.fOp))
def Va (R_:mV) (p_elem:Bool) (p_p:aH) (r0:Bool) : Mo (Bool) :=
 .iG 4008 (r0) (.rt [1,2,21] 1 (true)) <|
 .cl (adJ p_p) fun r1 _ =>
 .rt [1,2,21] 1 (!r1)
def Oj (R_:mV) (p_elem:Bool) (p_p:aH) (r0:Bool) : Mo (Bool) :=
 .iG 4013 (r0) (.rt [1,2,32] 1 (true)) <|
 .cl (Jg p_p.fOp) fun r1 _ =>
 .ite (r1) (fun c0 =>
 .say [.gd 4017 true,.num p_p.fArgs.length] (okc c0 (ok1 (ln_ p_p.fArgs ah.lf))) <|
 .rt [1,2,32] 1 ((p_p.fArgs.length:Int) == 0)) fun c0 =>
 .say [.gd 4017 false] (ok1 c0) <|
 .rt [1,2,32] 1 (false)
def Ol (R_:mV) (p_elem:Bool) (p_p:aH) (r0:Bool) : Mo (Bool) :=
 .iG 4024 (r0) (.rt [1,2,37] 1 (true)) <|
 .cl (ag9 p_p) fun r1 _ =>
 .rt [1,2,37] 1 (!r1)
def Om (R_:mV) (p_elem:Bool) (p_p:aH) : Mo (Bool) :=
 .cl (U4 p_p.fOp) fun r0 _ =>
 .iG 8003 (r0) (.cl (BK p_p.cO) fun r1 _ =>
 .rt [1,2,46] 1 (!r1)) <|
 .rt [1,2,46] 1 (false)
def Oo (R_:mV) (p_elem:Bool) (p_p:aH) (r0:Bool) : Mo (Bool) :=
 .iG 8009 (r0) (.ite (p_elem) (fun c0 =>
 .say [.gd 8011 true,.num p_p.cO.length] (okc c0 (ok1 (ln_ p_p.cO lfS))) <|
 .rt [1,2,56] 1 (!((p_p.cO.length:Int) == 0))) fun c0 =>
 .say [.gd 8011 false] (ok1 c0) <|
 .rt [1,2,56] 1 (true)) <|
 .rt [1,2,56] 1 (false)
def Oq (R_:mV) (p_elem:Bool) (p_p:aH) : Mo (Bool) :=
 .cl (U5 p_p.fOp) fun r0 _ =>
 .iG 12003 (r0) (.cl (qj p_p.fArg) fun r1 _ =>
 .iG 12008 (!r1) (.rt [1,2,76] 1 (true)) <|
 .cl (Jh p_p.fOp) fun r2 _ =>
 .iG 12012 (r2) (.rt [1,2,76] 1 (p_p.fArg.aT != 4)) <|
 .rt [1,2,76] 1 (false)) <|
 .rt [1,2,76] 1 (false)
def Ot (R_:mV) (p_elem:Bool) (p_p:aH) (v0:Int) : Mo (Bool) :=
 .say [.num p_p.fArgs.length] (ok1 (ln_ p_p.fArgs ah.lf)) <|
 .iG 18005 (decide ((v0:Int) < (p_p.fArgs.length:Int))) (.cl (Jg p_p.fOp) fun r0 _ =>
 .rt [1,2,5,86] 1 (r0)) <|
 .rt [1,2,5,86] 1 (false)
def Dj (R_:mV) (p_elem:Bool) (p_p:aH) : (Int) → Mo ((Int) ⊕ (Unit ⊕ Unit)) := fun (v0) =>
 .jp Tryz.f206 0 [1,1,1,1,0,1,0,0,0,0] 23 [1,2,5] 1 (.normal) (fun r_=>⟨[(1,.b_ p_elem),(2,.ptr 0 0),(5,.i_ v0),(86,.b_ r_)],[.box 47 (.dat (aH.lf1 p_p))]⟩) ⟨[(1,.b_ p_elem),(2,.ptr 0 0),(5,.i_ v0)],[.box 47 (.dat (aH.lf1 p_p))]⟩ (Ot R_ p_elem p_p v0).den (jW (by kernel_rfl)) fun r0 _ =>
 .iB (r0) (.ask (bT p_p.fArgs v0) fun x0 h0 =>
 .say [.row (ah.lf1 x0)] (ok1 (aX ah.aU h0)) <|
 .cl (qj x0) fun r1 _ =>
 .iB (!r1) (.ret ⟨[.kill 0],[4],[],1⟩ (.inr (.inl ()))) <|
 .rt [1,2,5] 1 (.inl (IntKind.wrap .i64 (v0 + 1)))) <|
 .rt [1,2] 1 (.inr (.inr (())))
def aak (R_:mV) (p_elem:Bool) (p_p:aH) (v0:Int) : Option (Unit ⊕ Unit) := bJ (fun v_=>(Dj R_ p_elem p_p v_).den) FU (v0)
def Ou (R_:mV) (p_elem:Bool) (p_p:aH) : (Int) → St := fun (v0)=>⟨[(1,.b_ p_elem),(2,.ptr 0 0),(5,.i_ v0)],[.box 47 (.dat (aH.lf1 p_p))]⟩
def wR (r_:Unit ⊕ Unit) : Exit := match r_ with
 | .inl o_=>.ret
 | .inr (o_)=>.exit 0
def wS (p_elem:Bool) (p_p:aH) (r_:Unit ⊕ Unit) : St := match r_ with
 | .inl o_=>⟨[(4,.i_ 8)],[.dead]⟩
 | .inr (o_)=>⟨[(1,.b_ p_elem),(2,.ptr 0 0)],[.box 47 (.dat (aH.lf1 p_p))]⟩
theorem Ov {R_:mV} {p_elem:Bool} {p_p:aH} {v0:Int} {r_:Unit ⊕ Unit} (h:aak R_ p_elem p_p v0 = some r_) : gq Tryz.f206 0 [1,1,1,1,0,1,0] (wR r_) (wS p_elem p_p r_) (Ou R_ p_elem p_p (v0)) :=
 dR dL (body := (Code.sub (bodyC Tryz.f206) [1,1,1,1,0,1,0,0])) (by kernel_rfl) (Dj R_ p_elem p_p) (Ou R_ p_elem p_p) wR (wS p_elem p_p) (fun r_=>by rcases r_ with _ | _ <;> rfl) (fun v_=>by kernel_rfl) h
def Dk (R_:mV) (p_elem:Bool) (p_p:aH) : Mo ((Int) ⊕ Unit) :=
 .iB (p_p.fOp == 18) (.cl (aha p_p.eF) fun r0 _ =>
 .iB (r0 != 0) (.ret ⟨[.kill 0],[4],[],1⟩ (.inl (r0))) <|
 .rt [1,2] 1 (.inr (()))) <|
 .rt [1,2] 1 (.inr (()))
def aal (R_:mV) (p_elem:Bool) (p_p:aH) : Option ((Int) ⊕ Unit) := Mo.den (Dk R_ p_elem p_p)
def wU (r_:(Int) ⊕ Unit) : Exit := match r_ with
 | .inl o_=>.ret
 | .inr (o_)=>.normal
def wV (p_elem:Bool) (p_p:aH) (r_:(Int) ⊕ Unit) : St := match r_ with
 | .inl o_=>⟨[(4,.i_ o_)],[.dead]⟩
 | .inr (o_)=>⟨[(1,.b_ p_elem),(2,.ptr 0 0)],[.box 47 (.dat (aH.lf1 p_p))]⟩
theorem Ox {R_:mV} {p_elem:Bool} {p_p:aH} {r_:(Int) ⊕ Unit} (h:aal R_ p_elem p_p = some r_) : gq Tryz.f206 0 [1,1,1,1,1,0,1] (wU r_) (wV p_elem p_p r_) ⟨[(1,.b_ p_elem),(2,.ptr 0 0),(98,.lf (.bool (p_p.fOp == 18)))],[.box 47 (.dat (aH.lf1 p_p))]⟩ :=
 jq dL (Dk R_ p_elem p_p) wU (wV p_elem p_p) (by kernel_rfl) h
def Oy (R_:mV) (p_elem:Bool) (p_p:aH) (v0:Int) : Mo (Int) :=
 .ask (bT p_p.aZ v0) fun x0 h0 =>
 .say [] (ok1 (aX aH.aU h0)) <|
 .ite (p_elem) (fun c0 =>
 .say [] (ok1 c0) <|
 .ask (R_.m1 x0 true) fun r0 h1 =>
 .say [.dM (.q 0 (.q 1 (.q 2 (.q 3 (.q 4 (.q 5 (.q 6 (.q 7 (.q 8 (.q 9 (.q 10 (.l 11 (.q 12 .fin))))))))))))) (some 11) [] [.row (aH.lf1 x0),.gd 48006 true,.res (.i_ r0)] [1,2,7,8] 1 [(1,.b_ p_elem),(2,.ptr 0 0),(7,.i_ v0),(8,.i_ r0)] [.box 47 (.dat (aH.lf1 p_p))]] (okc (R_.ok1 _ _ _ h1) (ok1 (rf_ ⟨[(1,.b_ p_elem),(2,.ptr 0 0),(7,.i_ v0),(8,.i_ r0)],[.box 47 (.dat (aH.lf1 p_p))]⟩))) <|
 .rt [1,2,7,8] 1 (r0)) fun c0 =>
 .say [] (ok1 c0) <|
 .ask (R_.m1 x0 (p_p.fOp == 15)) fun r1 h2 =>
 .say [.dM (.q 0 (.q 1 (.q 2 (.q 3 (.q 4 (.q 5 (.q 6 (.q 7 (.q 8 (.q 9 (.q 10 (.l 11 (.q 12 .fin))))))))))))) (some 11) [] [.row (aH.lf1 x0),.gd 48006 false,.res (.i_ r1)] [1,2,7,8] 1 [(1,.b_ p_elem),(2,.ptr 0 0),(7,.i_ v0),(8,.i_ r1)] [.box 47 (.dat (aH.lf1 p_p))]] (okc (R_.ok1 _ _ _ h2) (ok1 (rf_ ⟨[(1,.b_ p_elem),(2,.ptr 0 0),(7,.i_ v0),(8,.i_ r1)],[.box 47 (.dat (aH.lf1 p_p))]⟩))) <|
 .rt [1,2,7,8] 1 (r1)
def Dl (R_:mV) (p_elem:Bool) (p_p:aH) : (Int) → Mo ((Int) ⊕ (Int) ⊕ Unit) := fun (v0) =>
 .say [.num p_p.aZ.length] (ok1 (ln_ p_p.aZ aH.lf)) <|
 .iB (decide ((v0:Int) < (p_p.aZ.length:Int))) (.jp Tryz.f206 0 [1,1,1,1,1,1,1,1,0,1,0,0,1,0,0,0] 53 [1,2,7] 1 (.normal) (fun r_=>⟨[(1,.b_ p_elem),(2,.ptr 0 0),(7,.i_ v0),(8,.i_ r_)],[.box 47 (.dat (aH.lf1 p_p))]⟩) ⟨[(1,.b_ p_elem),(2,.ptr 0 0),(7,.i_ v0)],[.box 47 (.dat (aH.lf1 p_p))]⟩ (Oy R_ p_elem p_p v0).den (jW (by kernel_rfl)) fun r0 _ =>
 .iB (r0 != 0) (.ret ⟨[.kill 0],[4],[],1⟩ (.inr (.inl (r0)))) <|
 .rt [1,2,7] 1 (.inl (IntKind.wrap .i64 (v0 + 1)))) <|
 .ret ⟨[.kill 0],[],[],1⟩ (.inr (.inr (())))
def aam (R_:mV) (p_elem:Bool) (p_p:aH) (v0:Int) : Option ((Int) ⊕ Unit) := bJ (fun v_=>(Dl R_ p_elem p_p v_).den) FU (v0)
def Oz (R_:mV) (p_elem:Bool) (p_p:aH) : (Int) → St := fun (v0)=>⟨[(1,.b_ p_elem),(2,.ptr 0 0),(7,.i_ v0)],[.box 47 (.dat (aH.lf1 p_p))]⟩
def wW (r_:(Int) ⊕ Unit) : Exit := match r_ with
 | .inl o_=>.ret
 | .inr (o_)=>.exit 2
def wX  (r_:(Int) ⊕ Unit) : St := match r_ with
 | .inl o_=>⟨[(4,.i_ o_)],[.dead]⟩
 | .inr (o_)=>⟨[],[.dead]⟩
theorem OA {R_:mV} {p_elem:Bool} {p_p:aH} {v0:Int} {r_:(Int) ⊕ Unit} (h:aam R_ p_elem p_p v0 = some r_) : gq Tryz.f206 0 [1,1,1,1,1,1,1,1,0,1,0] (wW r_) (wX r_) (Oz R_ p_elem p_p (v0)) :=
 dR dL (body := (Code.sub (bodyC Tryz.f206) [1,1,1,1,1,1,1,1,0,1,0,0])) (by kernel_rfl) (Dl R_ p_elem p_p) (Oz R_ p_elem p_p) wW wX (fun r_=>by rcases r_ with _ | _ <;> rfl) (fun v_=>by kernel_rfl) h
def ahj (R_:mV) (p_p:aH) (p_elem:Bool) : Mo (Int) :=
 .sj Tryz.f206 0 [1,0,0] [0,1,2,3,4,5,6,7] 1 8 [1,2] 1 (fun r_=>⟨[(1,.b_ p_elem),(2,.ptr 0 0),(16,.b_ r_)],[.box 47 (.dat (aH.lf1 p_p))]⟩) ⟨[(1,.b_ p_elem),(2,.ptr 0 0)],[.box 47 (.dat (aH.lf1 p_p))]⟩ (U9 R_ p_elem p_p).den (sW (by kernel_rfl)) fun r0 _ =>
 .sj Tryz.f206 0 [1,0,0] [8,9,10,11,12] 1 5 [1,2,16] 1 (fun r_=>⟨[(1,.b_ p_elem),(2,.ptr 0 0),(21,.b_ r_)],[.box 47 (.dat (aH.lf1 p_p))]⟩) ⟨[(1,.b_ p_elem),(2,.ptr 0 0),(16,.b_ r0)],[.box 47 (.dat (aH.lf1 p_p))]⟩ (Va R_ p_elem p_p r0).den (sW (by kernel_rfl)) fun r1 _ =>
 .sj Tryz.f206 0 [1,0,0] [13,14,15,16,17,18,19,20,21,22,23] 1 11 [1,2,21] 1 (fun r_=>⟨[(1,.b_ p_elem),(2,.ptr 0 0),(32,.b_ r_)],[.box 47 (.dat (aH.lf1 p_p))]⟩) ⟨[(1,.b_ p_elem),(2,.ptr 0 0),(21,.b_ r1)],[.box 47 (.dat (aH.lf1 p_p))]⟩ (Oj R_ p_elem p_p r1).den (sW (by kernel_rfl)) fun r2 _ =>
 .sj Tryz.f206 0 [1,0,0] [24,25,26,27,28] 1 5 [1,2,32] 1 (fun r_=>⟨[(1,.b_ p_elem),(2,.ptr 0 0),(37,.b_ r_)],[.box 47 (.dat (aH.lf1 p_p))]⟩) ⟨[(1,.b_ p_elem),(2,.ptr 0 0),(32,.b_ r2)],[.box 47 (.dat (aH.lf1 p_p))]⟩ (Ol R_ p_elem p_p r2).den (sW (by kernel_rfl)) fun r3 _ =>
 .iB (r3) (.ret (bn 1) (11)) <|
 .sj Tryz.f206 0 [1,1,0,0] [0,1,2,3,4,5,6,7,8] 3 9 [1,2] 1 (fun r_=>⟨[(1,.b_ p_elem),(2,.ptr 0 0),(46,.b_ r_)],[.box 47 (.dat (aH.lf1 p_p))]⟩) ⟨[(1,.b_ p_elem),(2,.ptr 0 0)],[.box 47 (.dat (aH.lf1 p_p))]⟩ (Om R_ p_elem p_p).den (sW (by kernel_rfl)) fun r4 _ =>
 .sj Tryz.f206 0 [1,1,0,0] [9,10,11,12,13,14,15,16,17,18] 3 10 [1,2,46] 1 (fun r_=>⟨[(1,.b_ p_elem),(2,.ptr 0 0),(56,.b_ r_)],[.box 47 (.dat (aH.lf1 p_p))]⟩) ⟨[(1,.b_ p_elem),(2,.ptr 0 0),(46,.b_ r4)],[.box 47 (.dat (aH.lf1 p_p))]⟩ (Oo R_ p_elem p_p r4).den (sW (by kernel_rfl)) fun r5 _ =>
 .iB (r5) (.ret (bn 1) (10)) <|
 .jp Tryz.f206 0 [1,1,1,0,0] 17 [1,2] 1 (.normal) (fun r_=>⟨[(1,.b_ p_elem),(2,.ptr 0 0),(76,.b_ r_)],[.box 47 (.dat (aH.lf1 p_p))]⟩) ⟨[(1,.b_ p_elem),(2,.ptr 0 0)],[.box 47 (.dat (aH.lf1 p_p))]⟩ (Oq R_ p_elem p_p).den (jW (by kernel_rfl)) fun r6 _ =>
 .iB (r6) (.ret (bn 1) (8)) <|
 .eY (aak R_ p_elem p_p 0) (fun o0 h0 =>
 .say [.pt_ 0 [1,2,5] 1 (wR (.inl o0)) (wS p_elem p_p (.inl o0))] (ok1 (Ov h0)) <|
 .ret (bn 1) (8)) fun o1 h0 =>
 .say [.pt_ 0 [1,2,5] 1 (wR (.inr (o1))) (wS p_elem p_p (.inr (o1)))] (ok1 (Ov h0)) <|
 .eY (aal R_ p_elem p_p) (fun o2 h1 =>
 .say [.pt_ 1 [1,2,98] 1 (wU (.inl o2)) (wV p_elem p_p (.inl o2))] (ok1 (Ox h1)) <|
 .ret (bn 1) (o2)) fun o3 h1 =>
 .say [.pt_ 1 [1,2,98] 1 (wU (.inr (o3))) (wV p_elem p_p (.inr (o3)))] (ok1 (Ox h1)) <|
 .cl (ahd p_p) fun r7 _ =>
 .iB (!r7) (.ret (bn 1) (4)) <|
 .iB (p_p.fOp == 24) (.cl (adM p_p.fExpr) fun r8 _ =>
 .ret (bn 1) (r8)) <|
 .eY (aam R_ p_elem p_p 0) (fun o4 h2 =>
 .say [.pt_ 0 [1,2,7] 1 (wW (.inl o4)) (wX (.inl o4))] (ok1 (OA h2)) <|
 .ret (bn 1) (o4)) fun o5 h2 =>
 .say [.pt_ 0 [1,2,7] 1 (wW (.inr (o5))) (wX (.inr (o5)))] (ok1 (OA h2)) <|
 .ret (bn 1) (0)
theorem ahk (R_:mV) (p_p:aH) (p_elem:Bool) : FV (Mo.den (ahj R_ p_p p_elem)) 206 [.dat (aH.lf1 p_p),.b_ p_elem] (fun r=>.i_ r) := dw Tryz.func206 (by kernel_rfl) (fun _=>rfl) (by kernel_rfl)
def jg:Nat → mV
 | 0=>{ m1 := fun p_p p_elem=>none,ok1 := fun _ _ _ h=>(by cases h) }
 | n_ + 1=>{ m1 := fun p_p p_elem=>Mo.den (ahj (jg n_) p_p p_elem),ok1 := ahk (jg n_) }
def Q0 (p_p:aH) (p_elem:Bool) : Option (Int) := (jg FU).m1 p_p p_elem
theorem ai3 (p_p:aH) (p_elem:Bool) : FV (Q0 p_p p_elem) 206 [.dat (aH.lf1 p_p),.b_ p_elem] (fun r=>.i_ r) := (jg FU).ok1 p_p p_elem
def aan (p_p:aH) : Mo (Int) :=
 .cl (ag8 p_p 16 256) fun r0 _ =>
 .iB (decide ((r0:Int) < 0)) (.ret (bn 1) (2)) <|
 .cl (ai3 p_p false) fun r1 _ =>
 .ret (bn 1) (r1)
def ai4 (p_p:aH) : Option (Int) := Mo.den (aan p_p)
theorem adN (p_p:aH) : FV (ai4 p_p) 160 [.dat (aH.lf1 p_p)] (fun r=>.i_ r) := dw Tryz.func160 (by kernel_rfl) (fun _=>rfl) (by kernel_rfl)
def Dn (p_a:List ByteArray) (p_b:List ByteArray) : (Int) → Mo ((Int) ⊕ (Unit ⊕ Unit)) := fun (v0) =>
 .say [.num p_a.length] (ok1 (ln_ p_a lfS)) <|
 .ite (decide ((v0:Int) < (p_a.length:Int))) (fun c0 =>
 .say [.br true,.order [(true,0),(true,1),(true,2),(true,3),(true,4),(true,5),(true,6),(true,7),(true,8)] none []] (ok1 c0) <|
 .ask (bT p_a v0) fun x0 h0 =>
 .say [.row (lfS x0)] (ok1 (aX lS_ h0)) <|
 .ask (bT p_b v0) fun x1 h1 =>
 .say [.row (lfS x1)] (ok1 (aX lS_ h1)) <|
 .iB (!decide ((x0:ByteArray) = (x1:ByteArray))) (.rt [4] 0 (.inr (.inl ()))) <|
 .rt [0,1,5] 0 (.inl (IntKind.wrap .i64 (v0 + 1)))) fun c0 =>
 .say [.br false] (ok1 c0) <|
 .rt [] 0 (.inr (.inr (())))
def aao (p_a:List ByteArray) (p_b:List ByteArray) (v0:Int) : Option (Unit ⊕ Unit) := bJ (fun v_=>(Dn p_a p_b v_).den) FU (v0)
def OB (p_a:List ByteArray) (p_b:List ByteArray) : (Int) → St := fun (v0)=>⟨[(0,.lf (.rows 1 (p_a.map lfS))),(1,.lf (.rows 1 (p_b.map lfS))),(5,.i_ v0)],[]⟩
def wY (r_:Unit ⊕ Unit) : Exit := match r_ with
 | .inl o_=>.ret
 | .inr (o_)=>.exit 0
def wZ  (r_:Unit ⊕ Unit) : St := match r_ with
 | .inl o_=>⟨[(4,.b_ false)],[]⟩
 | .inr (o_)=>⟨[],[]⟩
theorem OC {p_a:List ByteArray} {p_b:List ByteArray} {v0:Int} {r_:Unit ⊕ Unit} (h:aao p_a p_b v0 = some r_) : gq Tryz.f298 0 [1,1,0,1,0] (wY r_) (wZ r_) (OB p_a p_b (v0)) :=
 dR dL (body := (Code.sub (bodyC Tryz.f298) [1,1,0,1,0,0])) (by kernel_rfl) (Dn p_a p_b) (OB p_a p_b) wY wZ (fun r_=>by rcases r_ with _ | _ <;> rfl) (fun v_=>by kernel_rfl) h
def afK (p_a:List ByteArray) (p_b:List ByteArray) : Mo (Bool) :=
 .say [.num p_a.length,.num p_b.length] (okc (ln_ p_a lfS) (ok1 (ln_ p_b lfS))) <|
 .iB (decide (((p_b.length:Int) : Int) < (p_a.length:Int))) (.ret (bn 1) (false)) <|
 .eY (aao p_a p_b 0) (fun o0 h0 =>
 .say [.pt_ 0 [0,1,5] 0 (wY (.inl o0)) (wZ (.inl o0))] (ok1 (OC h0)) <|
 .ret (bn 1) (false)) fun o1 h0 =>
 .say [.pt_ 0 [0,1,5] 0 (wY (.inr (o1))) (wZ (.inr (o1)))] (ok1 (OC h0)) <|
 .ret (bn 1) (true)
def Q43 (p_a:List ByteArray) (p_b:List ByteArray) : Option (Bool) := Mo.den (afK p_a p_b)
theorem ahl (p_a:List ByteArray) (p_b:List ByteArray) : FV (Q43 p_a p_b) 298 [.lf (.rows 1 (p_a.map lfS)),.lf (.rows 1 (p_b.map lfS))] (fun r=>.b_ r) := dw Tryz.func298 (by kernel_rfl) (fun _=>rfl) (by kernel_rfl)
def aap (p_a:List ByteArray) (p_b:List ByteArray) : Mo (Bool) :=
 .say [.num p_a.length,.num p_b.length] (okc (ln_ p_a lfS) (ok1 (ln_ p_b lfS))) <|
 .iG 4005 ((p_a.length:Int) == (p_b.length:Int)) (.cl (ahl p_a p_b) fun r0 _ =>
 .ret (bn 1) (r0)) <|
 .ret (bn 1) (false)
def ai5 (p_a:List ByteArray) (p_b:List ByteArray) : Option (Bool) := Mo.den (aap p_a p_b)
theorem Vb (p_a:List ByteArray) (p_b:List ByteArray) : FV (ai5 p_a p_b) 251 [.lf (.rows 1 (p_a.map lfS)),.lf (.rows 1 (p_b.map lfS))] (fun r=>.b_ r) := dw Tryz.func251 (by kernel_rfl) (fun _=>rfl) (by kernel_rfl)
structure zi where
 m1:(p_a:aC) → (p_b:aC) → Option (Bool)
 ok1:∀ p_a p_b,FV (m1 p_a p_b) 208 [.dat (aC.lf1 p_a),.dat (aC.lf1 p_b)] (fun r=>.b_ r)
def OD (R_:zi) (p_a:aC) (p_b:aC) : Mo (Bool) :=
 .iG 4005 (p_a.fOp != p_b.fOp) (.rt [2,3,18] 2 (true)) <|
 .cl (Vb p_a.cO p_b.cO) fun r0 _ =>
 .rt [2,3,18] 2 (!r0)
def OE (R_:zi) (p_a:aC) (p_b:aC) (r0:Bool) : Mo (Bool) :=
 .iG 4013 (r0) (.rt [2,3,25] 2 (true)) <|
 .rt [2,3,25] 2 (!decide ((p_a.fName:ByteArray) = (p_b.fName:ByteArray)))
def GH (R_:zi) (p_a:aC) (p_b:aC) (r0:Bool) : Mo (Bool) :=
 .iG 4020 (r0) (.rt [2,3,33] 2 (true)) <|
 .cl (Vb p_a.bP p_b.bP) fun r1 _ =>
 .rt [2,3,33] 2 (!r1)
def GK (R_:zi) (p_a:aC) (p_b:aC) (r0:Bool) : Mo (Bool) :=
 .iG 4028 (r0) (.rt [2,3,41] 2 (true)) <|
 .cl (U8 p_a.fArg p_b.fArg) fun r1 _ =>
 .rt [2,3,41] 2 (!r1)
def GL (R_:zi) (p_a:aC) (p_b:aC) (r0:Bool) : Mo (Bool) :=
 .iG 4036 (r0) (.rt [2,3,48] 2 (true)) <|
 .rt [2,3,48] 2 (p_a.fN != p_b.fN)
def GN (R_:zi) (p_a:aC) (p_b:aC) (r0:Bool) : Mo (Bool) :=
 .ite (r0) (fun c0 =>
 .say [.gd 4043 true] (ok1 c0) <|
 .rt [2,3,57] 2 (true)) fun c0 =>
 .say [.gd 4043 false,.num p_a.aZ.length,.num p_b.aZ.length] (okc c0 (okc (ln_ p_a.aZ aC.lf) (ok1 (ln_ p_b.aZ aC.lf)))) <|
 .rt [2,3,57] 2 ((p_a.aZ.length:Int) != (p_b.aZ.length:Int))
def zk (R_:zi) (p_a:aC) (p_b:aC) : (Int) → Mo ((Int) ⊕ (Unit ⊕ Unit)) := fun (v0) =>
 .say [.num p_a.aZ.length] (ok1 (ln_ p_a.aZ aC.lf)) <|
 .iB (decide ((v0:Int) < (p_a.aZ.length:Int))) (.ask (bT p_a.aZ v0) fun x0 h0 =>
 .say [] (ok1 (aX aC.aU h0)) <|
 .ask (bT p_b.aZ v0) fun x1 h1 =>
 .say [] (ok1 (aX aC.aU h1)) <|
 .ask (R_.m1 x0 x1) fun r0 h2 =>
 .say [.dM (.q 0 (.q 1 (.q 2 (.q 3 (.q 4 (.q 5 (.q 6 (.q 7 (.q 8 (.q 9 (.l 10 (.q 11 .fin)))))))))))) (some 10) [] [.row (aC.lf1 x0),.row (aC.lf1 x1),.res (.b_ r0)] [2,3,5,76] 2 [(2,.ptr 0 0),(3,.ptr 1 0),(5,.i_ v0),(76,.lf (.bool (!r0)))] [.box 44 (.dat (aC.lf1 p_a)),.box 44 (.dat (aC.lf1 p_b))]] (okc (R_.ok1 _ _ _ h2) (ok1 (rf_ ⟨[(2,.ptr 0 0),(3,.ptr 1 0),(5,.i_ v0),(76,.lf (.bool (!r0)))],[.box 44 (.dat (aC.lf1 p_a)),.box 44 (.dat (aC.lf1 p_b))]⟩))) <|
 .iB (!r0) (.ret ⟨[.kill 0,.kill 1],[4],[],2⟩ (.inr (.inl ()))) <|
 .rt [2,3,5] 2 (.inl (IntKind.wrap .i64 (v0 + 1)))) <|
 .ret ⟨[.kill 0,.kill 1],[],[],2⟩ (.inr (.inr (())))
def Vd (R_:zi) (p_a:aC) (p_b:aC) (v0:Int) : Option (Unit ⊕ Unit) := bJ (fun v_=>(zk R_ p_a p_b v_).den) FU (v0)
def GU (R_:zi) (p_a:aC) (p_b:aC) : (Int) → St := fun (v0)=>⟨[(2,.ptr 0 0),(3,.ptr 1 0),(5,.i_ v0)],[.box 44 (.dat (aC.lf1 p_a)),.box 44 (.dat (aC.lf1 p_b))]⟩
def qZ (r_:Unit ⊕ Unit) : Exit := match r_ with
 | .inl o_=>.ret
 | .inr (o_)=>.exit 0
def ru  (r_:Unit ⊕ Unit) : St := match r_ with
 | .inl o_=>⟨[(4,.b_ false)],[.dead,.dead]⟩
 | .inr (o_)=>⟨[],[.dead,.dead]⟩
theorem GV {R_:zi} {p_a:aC} {p_b:aC} {v0:Int} {r_:Unit ⊕ Unit} (h:Vd R_ p_a p_b v0 = some r_) : gq Tryz.f208 0 [1,1,0,1,0] (qZ r_) (ru r_) (GU R_ p_a p_b (v0)) :=
 dR dL (body := (Code.sub (bodyC Tryz.f208) [1,1,0,1,0,0])) (by kernel_rfl) (zk R_ p_a p_b) (GU R_ p_a p_b) qZ ru (fun r_=>by rcases r_ with _ | _ <;> rfl) (fun v_=>by kernel_rfl) h
def aaq (R_:zi) (p_a:aC) (p_b:aC) : Mo (Bool) :=
 .sj Tryz.f208 0 [1,0,0] [0,1,2,3,4,5,6,7,8,9,10,11,12] 1 13 [2,3] 2 (fun r_=>⟨[(2,.ptr 0 0),(3,.ptr 1 0),(18,.b_ r_)],[.box 44 (.dat (aC.lf1 p_a)),.box 44 (.dat (aC.lf1 p_b))]⟩) ⟨[(2,.ptr 0 0),(3,.ptr 1 0)],[.box 44 (.dat (aC.lf1 p_a)),.box 44 (.dat (aC.lf1 p_b))]⟩ (OD R_ p_a p_b).den (sW (by kernel_rfl)) fun r0 _ =>
 .sj Tryz.f208 0 [1,0,0] [13,14,15,16,17,18,19] 1 7 [2,3,18] 2 (fun r_=>⟨[(2,.ptr 0 0),(3,.ptr 1 0),(25,.b_ r_)],[.box 44 (.dat (aC.lf1 p_a)),.box 44 (.dat (aC.lf1 p_b))]⟩) ⟨[(2,.ptr 0 0),(3,.ptr 1 0),(18,.b_ r0)],[.box 44 (.dat (aC.lf1 p_a)),.box 44 (.dat (aC.lf1 p_b))]⟩ (OE R_ p_a p_b r0).den (sW (by kernel_rfl)) fun r1 _ =>
 .sj Tryz.f208 0 [1,0,0] [20,21,22,23,24,25,26,27] 1 8 [2,3,25] 2 (fun r_=>⟨[(2,.ptr 0 0),(3,.ptr 1 0),(33,.b_ r_)],[.box 44 (.dat (aC.lf1 p_a)),.box 44 (.dat (aC.lf1 p_b))]⟩) ⟨[(2,.ptr 0 0),(3,.ptr 1 0),(25,.b_ r1)],[.box 44 (.dat (aC.lf1 p_a)),.box 44 (.dat (aC.lf1 p_b))]⟩ (GH R_ p_a p_b r1).den (sW (by kernel_rfl)) fun r2 _ =>
 .sj Tryz.f208 0 [1,0,0] [28,29,30,31,32,33,34,35] 1 8 [2,3,33] 2 (fun r_=>⟨[(2,.ptr 0 0),(3,.ptr 1 0),(41,.b_ r_)],[.box 44 (.dat (aC.lf1 p_a)),.box 44 (.dat (aC.lf1 p_b))]⟩) ⟨[(2,.ptr 0 0),(3,.ptr 1 0),(33,.b_ r2)],[.box 44 (.dat (aC.lf1 p_a)),.box 44 (.dat (aC.lf1 p_b))]⟩ (GK R_ p_a p_b r2).den (sW (by kernel_rfl)) fun r3 _ =>
 .sj Tryz.f208 0 [1,0,0] [36,37,38,39,40,41,42] 1 7 [2,3,41] 2 (fun r_=>⟨[(2,.ptr 0 0),(3,.ptr 1 0),(48,.b_ r_)],[.box 44 (.dat (aC.lf1 p_a)),.box 44 (.dat (aC.lf1 p_b))]⟩) ⟨[(2,.ptr 0 0),(3,.ptr 1 0),(41,.b_ r3)],[.box 44 (.dat (aC.lf1 p_a)),.box 44 (.dat (aC.lf1 p_b))]⟩ (GL R_ p_a p_b r3).den (sW (by kernel_rfl)) fun r4 _ =>
 .sj Tryz.f208 0 [1,0,0] [43,44,45,46,47,48,49,50,51] 1 9 [2,3,48] 2 (fun r_=>⟨[(2,.ptr 0 0),(3,.ptr 1 0),(57,.b_ r_)],[.box 44 (.dat (aC.lf1 p_a)),.box 44 (.dat (aC.lf1 p_b))]⟩) ⟨[(2,.ptr 0 0),(3,.ptr 1 0),(48,.b_ r4)],[.box 44 (.dat (aC.lf1 p_a)),.box 44 (.dat (aC.lf1 p_b))]⟩ (GN R_ p_a p_b r4).den (sW (by kernel_rfl)) fun r5 _ =>
 .iB (r5) (.ret (bn 1) (false)) <|
 .eY (Vd R_ p_a p_b 0) (fun o0 h0 =>
 .say [.pt_ 0 [2,3,5] 2 (qZ (.inl o0)) (ru (.inl o0))] (ok1 (GV h0)) <|
 .ret (bn 1) (false)) fun o1 h0 =>
 .say [.pt_ 0 [2,3,5] 2 (qZ (.inr (o1))) (ru (.inr (o1)))] (ok1 (GV h0)) <|
 .ret (bn 1) (true)
theorem adO (R_:zi) (p_a:aC) (p_b:aC) : FV (Mo.den (aaq R_ p_a p_b)) 208 [.dat (aC.lf1 p_a),.dat (aC.lf1 p_b)] (fun r=>.b_ r) := dw Tryz.func208 (by kernel_rfl) (fun _=>rfl) (by kernel_rfl)
def kM:Nat → zi
 | 0=>{ m1 := fun p_a p_b=>none,ok1 := fun _ _ _ h=>(by cases h) }
 | n_ + 1=>{ m1 := fun p_a p_b=>Mo.den (aaq (kM n_) p_a p_b),ok1 := adO (kM n_) }
def Q16 (p_a:aC) (p_b:aC) : Option (Bool) := (kM FU).m1 p_a p_b
theorem ahm (p_a:aC) (p_b:aC) : FV (Q16 p_a p_b) 208 [.dat (aC.lf1 p_a),.dat (aC.lf1 p_b)] (fun r=>.b_ r) := (kM FU).ok1 p_a p_b
def aar (p_p:aH) : Mo (Bool) :=
 .ite (p_p.fOp == 0) (fun c0 =>
 .say [.gd 4003 true,.num p_p.cO.length] (okc c0 (ok1 (ln_ p_p.cO lfS))) <|
 .rt [1,2,11] 1 ((p_p.cO.length:Int) == 0)) fun c0 =>
 .say [.gd 4003 false] (ok1 c0) <|
 .rt [1,2,11] 1 (false)
def aas (p_p:aH) (r0:Bool) : Mo (Bool) :=
 .iG 4009 (r0) (.cl (U8 p_p.fArg (ah.mk 0 0 ⟨#[]⟩ [] [])) fun r1 _ =>
 .rt [1,2,17] 1 (r1)) <|
 .rt [1,2,17] 1 (false)
def Xf (p_p:aH) (r0:Bool) : Mo (Bool) :=
 .ite (r0) (fun c0 =>
 .say [.gd 4015 true,.num p_p.fArgs.length] (okc c0 (ok1 (ln_ p_p.fArgs ah.lf))) <|
 .rt [1,2,23] 1 ((p_p.fArgs.length:Int) == 0)) fun c0 =>
 .say [.gd 4015 false] (ok1 c0) <|
 .rt [1,2,23] 1 (false)
def Xg (p_p:aH) (r0:Bool) : Mo (Bool) :=
 .iG 4021 (r0) (.rt [1,2,28] 1 (p_p.fN == 0)) <|
 .rt [1,2,28] 1 (false)
def Xh (p_p:aH) (r0:Bool) : Mo (Bool) :=
 .iG 4026 (r0) (.rt [1,2,33] 1 (p_p.fM == 0)) <|
 .rt [1,2,33] 1 (false)
def Xi (p_p:aH) (r0:Bool) : Mo (Bool) :=
 .iG 4031 (r0) (.rt [1,2,39] 1 (p_p.eF.aT == 0)) <|
 .rt [1,2,39] 1 (false)
def Xj (p_p:aH) (r0:Bool) : Mo (Bool) :=
 .ite (r0) (fun c0 =>
 .say [.gd 4037 true,.num p_p.eF.bW.length] (okc c0 (ok1 (ln_ p_p.eF.bW dF.lf))) <|
 .rt [1,2,46] 1 ((p_p.eF.bW.length:Int) == 0)) fun c0 =>
 .say [.gd 4037 false] (ok1 c0) <|
 .rt [1,2,46] 1 (false)
def Xk (p_p:aH) (r0:Bool) : Mo (Bool) :=
 .iG 4044 (r0) (.rt [1,2,52] 1 (p_p.eF.fR == 0)) <|
 .rt [1,2,52] 1 (false)
def Xl (p_p:aH) (r0:Bool) : Mo (Bool) :=
 .iG 4050 (r0) (.cl (ahm p_p.fExpr aC.z) fun r1 _ =>
 .rt [1,2,58] 1 (r1)) <|
 .rt [1,2,58] 1 (false)
def Xm (p_p:aH) (r0:Bool) : Mo (Bool) :=
 .ite (r0) (fun c0 =>
 .say [.gd 4056 true,.num p_p.aZ.length] (okc c0 (ok1 (ln_ p_p.aZ aH.lf))) <|
 .ret ⟨[.kill 0],[2,64],[],1⟩ ((p_p.aZ.length:Int) == 0)) fun c0 =>
 .say [.gd 4056 false] (ok1 c0) <|
 .ret ⟨[.kill 0],[2,64],[],1⟩ (false)
def Xn (r0:Bool) : Mo (Unit) :=
 .rt [2] 1 ()
def afL (p_p:aH) : Mo (Bool) :=
 .sj Tryz.f161 0 [1,0] [0,1,2,3,4,5,6,7,8] 1 9 [1,2] 1 (fun r_=>⟨[(1,.ptr 0 0),(2,.b_ false),(11,.b_ r_)],[.box 47 (.dat (aH.lf1 p_p))]⟩) ⟨[(1,.ptr 0 0),(2,.b_ false)],[.box 47 (.dat (aH.lf1 p_p))]⟩ (aar p_p).den (sW (by kernel_rfl)) fun r0 _ =>
 .sj Tryz.f161 0 [1,0] [9,10,11,12,13,14] 1 6 [1,2,11] 1 (fun r_=>⟨[(1,.ptr 0 0),(2,.b_ false),(17,.b_ r_)],[.box 47 (.dat (aH.lf1 p_p))]⟩) ⟨[(1,.ptr 0 0),(2,.b_ false),(11,.b_ r0)],[.box 47 (.dat (aH.lf1 p_p))]⟩ (aas p_p r0).den (sW (by kernel_rfl)) fun r1 _ =>
 .sj Tryz.f161 0 [1,0] [15,16,17,18,19,20] 1 6 [1,2,17] 1 (fun r_=>⟨[(1,.ptr 0 0),(2,.b_ false),(23,.b_ r_)],[.box 47 (.dat (aH.lf1 p_p))]⟩) ⟨[(1,.ptr 0 0),(2,.b_ false),(17,.b_ r1)],[.box 47 (.dat (aH.lf1 p_p))]⟩ (Xf p_p r1).den (sW (by kernel_rfl)) fun r2 _ =>
 .sj Tryz.f161 0 [1,0] [21,22,23,24,25] 1 5 [1,2,23] 1 (fun r_=>⟨[(1,.ptr 0 0),(2,.b_ false),(28,.b_ r_)],[.box 47 (.dat (aH.lf1 p_p))]⟩) ⟨[(1,.ptr 0 0),(2,.b_ false),(23,.b_ r2)],[.box 47 (.dat (aH.lf1 p_p))]⟩ (Xg p_p r2).den (sW (by kernel_rfl)) fun r3 _ =>
 .sj Tryz.f161 0 [1,0] [26,27,28,29,30] 1 5 [1,2,28] 1 (fun r_=>⟨[(1,.ptr 0 0),(2,.b_ false),(33,.b_ r_)],[.box 47 (.dat (aH.lf1 p_p))]⟩) ⟨[(1,.ptr 0 0),(2,.b_ false),(28,.b_ r3)],[.box 47 (.dat (aH.lf1 p_p))]⟩ (Xh p_p r3).den (sW (by kernel_rfl)) fun r4 _ =>
 .sj Tryz.f161 0 [1,0] [31,32,33,34,35,36] 1 6 [1,2,33] 1 (fun r_=>⟨[(1,.ptr 0 0),(2,.b_ false),(39,.b_ r_)],[.box 47 (.dat (aH.lf1 p_p))]⟩) ⟨[(1,.ptr 0 0),(2,.b_ false),(33,.b_ r4)],[.box 47 (.dat (aH.lf1 p_p))]⟩ (Xi p_p r4).den (sW (by kernel_rfl)) fun r5 _ =>
 .sj Tryz.f161 0 [1,0] [37,38,39,40,41,42,43] 1 7 [1,2,39] 1 (fun r_=>⟨[(1,.ptr 0 0),(2,.b_ false),(46,.b_ r_)],[.box 47 (.dat (aH.lf1 p_p))]⟩) ⟨[(1,.ptr 0 0),(2,.b_ false),(39,.b_ r5)],[.box 47 (.dat (aH.lf1 p_p))]⟩ (Xj p_p r5).den (sW (by kernel_rfl)) fun r6 _ =>
 .sj Tryz.f161 0 [1,0] [44,45,46,47,48,49] 1 6 [1,2,46] 1 (fun r_=>⟨[(1,.ptr 0 0),(2,.b_ false),(52,.b_ r_)],[.box 47 (.dat (aH.lf1 p_p))]⟩) ⟨[(1,.ptr 0 0),(2,.b_ false),(46,.b_ r6)],[.box 47 (.dat (aH.lf1 p_p))]⟩ (Xk p_p r6).den (sW (by kernel_rfl)) fun r7 _ =>
 .sj Tryz.f161 0 [1,0] [50,51,52,53,54,55] 1 6 [1,2,52] 1 (fun r_=>⟨[(1,.ptr 0 0),(2,.b_ false),(58,.b_ r_)],[.box 47 (.dat (aH.lf1 p_p))]⟩) ⟨[(1,.ptr 0 0),(2,.b_ false),(52,.b_ r7)],[.box 47 (.dat (aH.lf1 p_p))]⟩ (Xl p_p r7).den (sW (by kernel_rfl)) fun r8 _ =>
 .sj Tryz.f161 0 [1,0] [56,57,58,59,60,61] 1 6 [1,2,58] 1 (fun r_=>⟨[(2,.b_ false),(64,.b_ r_)],[.dead]⟩) ⟨[(1,.ptr 0 0),(2,.b_ false),(58,.b_ r8)],[.box 47 (.dat (aH.lf1 p_p))]⟩ (Xm p_p r8).den (sW (by kernel_rfl)) fun r9 _ =>
 .sj Tryz.f161 0 [1,0] [62] 1 1 [2,64] 1 (fun r_=>⟨[(2,.b_ r9)],[.dead]⟩) ⟨[(2,.b_ false),(64,.b_ r9)],[.dead]⟩ (Xn r9).den (sW (by kernel_rfl)) fun r10 _ =>
 .ret (bn 1) (r9)
def Q48 (p_p:aH) : Option (Bool) := Mo.den (afL p_p)
theorem ahn (p_p:aH) : FV (Q48 p_p) 161 [.dat (aH.lf1 p_p)] (fun r=>.b_ r) := dw Tryz.func161 (by kernel_rfl) (fun _=>rfl) (by kernel_rfl)
def OG (p_x:aS) : Mo (Bool) :=
 .iG 8003 (decide ((p_x.aT:Int) < 1)) (.rt [1,15] 1 (true)) <|
 .rt [1,15] 1 (decide ((3:Int) < p_x.aT))
def OH (p_x:aS) : Mo (Bool) :=
 .say [.num p_x.gy.length] (ok1 (ln_ p_x.gy aY.lf)) <|
 .iG 18004 ((p_x.gy.length:Int) == 0) (.rt [1,47] 1 (true)) <|
 .ite (p_x.aT != 1) (fun c0 =>
 .say [.gd 18008 true,.num p_x.gy.length] (okc c0 (ok1 (ln_ p_x.gy aY.lf))) <|
 .iG 18013 (decide ((1:Int) < (p_x.gy.length:Int))) (.rt [1,47] 1 (true)) <|
 .ask (bT p_x.gy 0) fun x0 h0 =>
 .say [.row (aY.lf1 x0)] (ok1 (aX aY.aU h0)) <|
 .iG 18020 (x0.Fj) (.rt [1,47] 1 (true)) <|
 .rt [1,47] 1 (p_x.iQ)) fun c0 =>
 .say [.gd 18008 false] (ok1 c0) <|
 .rt [1,47] 1 (false)
def afM (p_x:aS) : Mo (Int) :=
 .cl (tH p_x.fName) fun r0 _ =>
 .iB (!r0) (.ret (bn 1) (9)) <|
 .jp Tryz.f117 0 [1,1,0,0] 13 [1] 1 (.normal) (fun r_=>⟨[(1,.ptr 0 0),(15,.b_ r_)],[.box 49 (.dat (aS.lf1 p_x))]⟩) ⟨[(1,.ptr 0 0)],[.box 49 (.dat (aS.lf1 p_x))]⟩ (OG p_x).den (jW (by kernel_rfl)) fun r1 _ =>
 .iB (r1) (.ret (bn 1) (8)) <|
 .cl (ag7 p_x.gy) fun r2 _ =>
 .iB (r2 != 0) (.ret (bn 1) (r2)) <|
 .jp Tryz.f117 0 [1,1,1,1,0,0] 23 [1] 1 (.normal) (fun r_=>⟨[(1,.ptr 0 0),(47,.b_ r_)],[.box 49 (.dat (aS.lf1 p_x))]⟩) ⟨[(1,.ptr 0 0)],[.box 49 (.dat (aS.lf1 p_x))]⟩ (OH p_x).den (jW (by kernel_rfl)) fun r3 _ =>
 .iB (r3) (.ret (bn 1) (11)) <|
 .iB (p_x.jS) (.cl (adN p_x.iU) fun r4 _ =>
 .ret (bn 1) (r4)) <|
 .cl (ahn p_x.iU) fun r5 _ =>
 .iB (!r5) (.ret (bn 1) (4)) <|
 .ret (bn 1) (0)
def Q98 (p_x:aS) : Option (Int) := Mo.den (afM p_x)
theorem aat (p_x:aS) : FV (Q98 p_x) 117 [.dat (aS.lf1 p_x)] (fun r=>.i_ r) := dw Tryz.func117 (by kernel_rfl) (fun _=>rfl) (by kernel_rfl)
def Dp (p_l:List aS) (p_name:ByteArray) : (Int) → Mo ((Int) ⊕ (Int) ⊕ Unit) := fun (v0) =>
 .say [.num p_l.length] (ok1 (ln_ p_l aS.lf)) <|
 .iB (decide ((v0:Int) < (p_l.length:Int))) (.ask (bT p_l v0) fun x0 h0 =>
 .say [.row (aS.lf1 x0)] (ok1 (aX aS.aU h0)) <|
 .iB (decide ((x0.fName:ByteArray) = (p_name:ByteArray))) (.rt [4] 0 (.inr (.inl (v0)))) <|
 .rt [0,1,5] 0 (.inl (IntKind.wrap .i64 (v0 + 1)))) <|
 .rt [] 0 (.inr (.inr (())))
def aau (p_l:List aS) (p_name:ByteArray) (v0:Int) : Option ((Int) ⊕ Unit) := bJ (fun v_=>(Dp p_l p_name v_).den) FU (v0)
def OI (p_l:List aS) (p_name:ByteArray) : (Int) → St := fun (v0)=>⟨[(0,.lf (.rows 31 (p_l.map aS.lf))),(1,.lf (.str p_name)),(5,.i_ v0)],[]⟩
def xg (r_:(Int) ⊕ Unit) : Exit := match r_ with
 | .inl o_=>.ret
 | .inr (o_)=>.exit 0
def xk  (r_:(Int) ⊕ Unit) : St := match r_ with
 | .inl o_=>⟨[(4,.i_ o_)],[]⟩
 | .inr (o_)=>⟨[],[]⟩
theorem OJ {p_l:List aS} {p_name:ByteArray} {v0:Int} {r_:(Int) ⊕ Unit} (h:aau p_l p_name v0 = some r_) : gq Tryz.f157 0 [1,0,1,0] (xg r_) (xk r_) (OI p_l p_name (v0)) :=
 dR dL (body := (Code.sub (bodyC Tryz.f157) [1,0,1,0,0])) (by kernel_rfl) (Dp p_l p_name) (OI p_l p_name) xg xk (fun r_=>by rcases r_ with _ | _ <;> rfl) (fun v_=>by kernel_rfl) h
def afN (p_l:List aS) (p_name:ByteArray) : Mo (Int) :=
 .eY (aau p_l p_name 0) (fun o0 h0 =>
 .say [.pt_ 0 [0,1,5] 0 (xg (.inl o0)) (xk (.inl o0))] (ok1 (OJ h0)) <|
 .ret (bn 1) (o0)) fun o1 h0 =>
 .say [.pt_ 0 [0,1,5] 0 (xg (.inr (o1))) (xk (.inr (o1)))] (ok1 (OJ h0)) <|
 .ret (bn 1) ((-1))
def Q50 (p_l:List aS) (p_name:ByteArray) : Option (Int) := Mo.den (afN p_l p_name)
theorem aho (p_l:List aS) (p_name:ByteArray) : FV (Q50 p_l p_name) 157 [.lf (.rows 31 (p_l.map aS.lf)),.lf (.str p_name)] (fun r=>.i_ r) := dw Tryz.func157 (by kernel_rfl) (fun _=>rfl) (by kernel_rfl)
def Dq (p_l:List ByteArray) (v0:Int) : (Int) → Mo ((Int) ⊕ (Unit ⊕ Unit)) := fun (v1) =>
 .ite (decide ((v1:Int) < v0)) (fun c0 =>
 .say [.br true,.order [(true,0),(true,1),(true,2),(true,3),(true,4),(true,5),(true,6),(true,7),(true,8)] none []] (ok1 c0) <|
 .ask (bT p_l v1) fun x0 h0 =>
 .say [.row (lfS x0)] (ok1 (aX lS_ h0)) <|
 .ask (bT p_l v0) fun x1 h1 =>
 .say [.row (lfS x1)] (ok1 (aX lS_ h1)) <|
 .iB (decide ((x0:ByteArray) = (x1:ByteArray))) (.rt [2] 0 (.inr (.inl ()))) <|
 .rt [0,3,4] 0 (.inl (IntKind.wrap .i64 (v1 + 1)))) fun c0 =>
 .say [.br false] (ok1 c0) <|
 .rt [0,3] 0 (.inr (.inr (())))
def aav (p_l:List ByteArray) (v0:Int) (v1:Int) : Option (Unit ⊕ Unit) := bJ (fun v_=>(Dq p_l v0 v_).den) FU (v1)
def OL (p_l:List ByteArray) (v0:Int) : (Int) → St := fun (v1)=>⟨[(0,.lf (.rows 1 (p_l.map lfS))),(3,.i_ v0),(4,.i_ v1)],[]⟩
def xq (r_:Unit ⊕ Unit) : Exit := match r_ with
 | .inl o_=>.ret
 | .inr (o_)=>.exit 2
def xu (p_l:List ByteArray) (v0:Int) (r_:Unit ⊕ Unit) : St := match r_ with
 | .inl o_=>⟨[(2,.b_ false)],[]⟩
 | .inr (o_)=>⟨[(0,.lf (.rows 1 (p_l.map lfS))),(3,.i_ v0)],[]⟩
theorem OM {p_l:List ByteArray} {v0:Int} {v1:Int} {r_:Unit ⊕ Unit} (h:aav p_l v0 v1 = some r_) : gq Tryz.f291 0 [1,0,1,0,0,1,0,0,1,1,0] (xq r_) (xu p_l v0 r_) (OL p_l v0 (v1)) :=
 dR dL (body := (Code.sub (bodyC Tryz.f291) [1,0,1,0,0,1,0,0,1,1,0,0])) (by kernel_rfl) (Dq p_l v0) (OL p_l v0) xq (xu p_l v0) (fun r_=>by rcases r_ with _ | _ <;> rfl) (fun v_=>by kernel_rfl) h
def Dt (p_l:List ByteArray) : (Int) → Mo ((Int) ⊕ (Unit ⊕ Unit)) := fun (v0) =>
 .say [.num p_l.length] (ok1 (ln_ p_l lfS)) <|
 .iB (decide ((v0:Int) < (p_l.length:Int))) (.ask (bT p_l v0) fun x0 h0 =>
 .say [.row (lfS x0)] (ok1 (aX lS_ h0)) <|
 .cl (tH x0) fun r0 _ =>
 .iB (!r0) (.rt [2] 0 (.inr (.inl ()))) <|
 .eY (aav p_l v0 0) (fun o0 h1 =>
 .say [.pt_ 0 [0,3,4] 0 (xq (.inl o0)) (xu p_l v0 (.inl o0))] (ok1 (OM h1)) <|
 .rt [2] 0 (.inr (.inl ()))) fun o1 h1 =>
 .say [.pt_ 0 [0,3,4] 0 (xq (.inr (o1))) (xu p_l v0 (.inr (o1)))] (ok1 (OM h1)) <|
 .rt [0,3] 0 (.inl (IntKind.wrap .i64 (v0 + 1)))) <|
 .rt [] 0 (.inr (.inr (())))
def aaw (p_l:List ByteArray) (v0:Int) : Option (Unit ⊕ Unit) := bJ (fun v_=>(Dt p_l v_).den) FU (v0)
def OO (p_l:List ByteArray) : (Int) → St := fun (v0)=>⟨[(0,.lf (.rows 1 (p_l.map lfS))),(3,.i_ v0)],[]⟩
def xw (r_:Unit ⊕ Unit) : Exit := match r_ with
 | .inl o_=>.ret
 | .inr (o_)=>.exit 0
def xA  (r_:Unit ⊕ Unit) : St := match r_ with
 | .inl o_=>⟨[(2,.b_ false)],[]⟩
 | .inr (o_)=>⟨[],[]⟩
theorem OQ {p_l:List ByteArray} {v0:Int} {r_:Unit ⊕ Unit} (h:aaw p_l v0 = some r_) : gq Tryz.f291 0 [1,0,1,0] (xw r_) (xA r_) (OO p_l (v0)) :=
 dR dL (body := (Code.sub (bodyC Tryz.f291) [1,0,1,0,0])) (by kernel_rfl) (Dt p_l) (OO p_l) xw xA (fun r_=>by rcases r_ with _ | _ <;> rfl) (fun v_=>by kernel_rfl) h
def afO (p_l:List ByteArray) : Mo (Bool) :=
 .eY (aaw p_l 0) (fun o0 h0 =>
 .say [.pt_ 0 [0,3] 0 (xw (.inl o0)) (xA (.inl o0))] (ok1 (OQ h0)) <|
 .ret (bn 1) (false)) fun o1 h0 =>
 .say [.pt_ 0 [0,3] 0 (xw (.inr (o1))) (xA (.inr (o1)))] (ok1 (OQ h0)) <|
 .ret (bn 1) (true)
def Q13 (p_l:List ByteArray) : Option (Bool) := Mo.den (afO p_l)
theorem aax (p_l:List ByteArray) : FV (Q13 p_l) 291 [.lf (.rows 1 (p_l.map lfS))] (fun r=>.b_ r) := dw Tryz.func291 (by kernel_rfl) (fun _=>rfl) (by kernel_rfl)
def aay (p_has:Bool) (p_v:ah) : Mo (Bool) :=
 .iG 4001 (p_has) (.cl (qj p_v) fun r0 _ =>
 .rt [0,3,4,10] 1 (!r0)) <|
 .rt [0,3,4,10] 1 (false)
def aaz (p_has:Bool) (p_v:ah) (r0:Bool) : Mo (Bool) :=
 .iG 4006 (r0) (.ret ⟨[.kill 0],[4,20],[],1⟩ (true)) <|
 .iG 4009 (!p_has) (.cl (U8 p_v (ah.mk 0 0 ⟨#[]⟩ [] [])) fun r1 _ =>
 .ret ⟨[.kill 0],[4,20],[],1⟩ (!r1)) <|
 .ret ⟨[.kill 0],[4,20],[],1⟩ (false)
def Xo (r0:Bool) : Mo (Unit) :=
 .rt [4] 1 ()
def afP (p_has:Bool) (p_v:ah) : Mo (Bool) :=
 .sj Tryz.f292 0 [1,0] [0,1,2,3,4,5] 1 6 [0,3,4] 1 (fun r_=>⟨[(0,.b_ p_has),(3,.ptr 0 0),(4,.b_ false),(10,.b_ r_)],[.box 29 (.dat (ah.lf1 p_v))]⟩) ⟨[(0,.b_ p_has),(3,.ptr 0 0),(4,.b_ false)],[.box 29 (.dat (ah.lf1 p_v))]⟩ (aay p_has p_v).den (sW (by kernel_rfl)) fun r0 _ =>
 .sj Tryz.f292 0 [1,0] [6,7,8,9,10,11,12,13,14,15] 1 10 [0,3,4,10] 1 (fun r_=>⟨[(4,.b_ false),(20,.b_ r_)],[.dead]⟩) ⟨[(0,.b_ p_has),(3,.ptr 0 0),(4,.b_ false),(10,.b_ r0)],[.box 29 (.dat (ah.lf1 p_v))]⟩ (aaz p_has p_v r0).den (sW (by kernel_rfl)) fun r1 _ =>
 .sj Tryz.f292 0 [1,0] [16] 1 1 [4,20] 1 (fun r_=>⟨[(4,.b_ r1)],[.dead]⟩) ⟨[(4,.b_ false),(20,.b_ r1)],[.dead]⟩ (Xo r1).den (sW (by kernel_rfl)) fun r2 _ =>
 .ret (bn 1) (r1)
def Q83 (p_has:Bool) (p_v:ah) : Option (Bool) := Mo.den (afP p_has p_v)
theorem aaA (p_has:Bool) (p_v:ah) : FV (Q83 p_has p_v) 292 [.b_ p_has,.dat (ah.lf1 p_v)] (fun r=>.b_ r) := dw Tryz.func292 (by kernel_rfl) (fun _=>rfl) (by kernel_rfl)
def Aw (p_s:aB) : (Int × (List ByteArray)) → Mo ((Int × (List ByteArray)) ⊕ ((List ByteArray))) := fun (v0,l0) =>
 .say [.num p_s.dN.length] (ok1 (ln_ p_s.dN bF.lf)) <|
 .iB (decide ((v0:Int) < (p_s.dN.length:Int))) (.ask (bT p_s.dN v0) fun x0 h0 =>
 .say [.row (bF.lf1 x0),.rows ((l0 ++ [x0.fName]).map lfS)] (okc (aX bF.aU h0) (ok1 (by simp [lfS] : (l0 ++ [x0.fName]).map lfS = (l0.map lfS) ++ [(lfS x0.fName)]))) <|
 .grd ((l0.length + [x0.fName].length) * 16 ≤ 140737488355328) fun h1 =>
 .say [] (ok1 (cp_ lfS h1)) <|
 .ret ⟨[],[1,3,4],[(3,1)],2⟩ (.inl (IntKind.wrap .i64 (v0 + 1),l0 ++ [x0.fName]))) <|
 .rt [1,3] 2 (.inr (l0))
def Ve (p_s:aB) (v0:Int) (l0:List ByteArray) : Option (((List ByteArray))) := bJ (fun v_=>(Aw p_s v_).den) FU (v0,l0)
def Vf (p_s:aB) : (Int × (List ByteArray)) → St := fun (v0,l0)=>⟨[(1,.ptr 0 0),(3,.own 1),(4,.i_ v0)],[.box 35 (.dat (aB.lf1 p_s)),.row 9 1 (l0.map lfS)]⟩
def Az (p_s:aB) (r_:((List ByteArray))) : St := ⟨[(1,.ptr 0 0),(3,.own 1)],[.box 35 (.dat (aB.lf1 p_s)),.row 9 1 (r_.map lfS)]⟩
theorem adP {p_s:aB} {v0:Int} {l0:List ByteArray} {r_:((List ByteArray))} (h:Ve p_s v0 l0 = some r_) : gq Tryz.f241 0 [1,1,0,1,0] (.exit 0) (Az p_s r_) (Vf p_s (v0,l0)) :=
 dR dL (body := (Code.sub (bodyC Tryz.f241) [1,1,0,1,0,0])) (by kernel_rfl) (Aw p_s) (Vf p_s) (fun _=>.exit 0) (Az p_s) (fun r_=>rfl) (fun v_=>by kernel_rfl) h
def Vg (p_s:aB) (r0:((List ByteArray))) : Mo (Bool) :=
 .cl (aax p_s.gB) fun r1 _ =>
 .ite (!r1) (fun c0 =>
 .say [.gd 14004 true] (ok1 c0) <|
 .ret ⟨[.kill 1],[1,30],[],2⟩ (true)) fun c0 =>
 .say [.gd 14004 false,.at_ 14 6,.frz 1] (ok1 c0) <|
 .cl (aax r0) fun r2 _ =>
 .rt [1,30] 2 (!r2)
def OT (p_s:aB) : Mo (Bool) :=
 .ite (decide ((p_s.jT:Int) < 0)) (fun c0 =>
 .say [.gd 18003 true] (ok1 c0) <|
 .rt [1,39] 2 (true)) fun c0 =>
 .say [.gd 18003 false] (okc c0 (ok1 (by decide:(2:Int) ≠ 0))) <|
 .rt [1,39] 2 ((Int.tmod p_s.jT 2) == 1)
def OU (p_s:aB) (r0:Bool) : Mo (Bool) :=
 .iG 18009 (r0) (.rt [1,44] 2 (true)) <|
 .rt [1,44] 2 (decide ((4096:Int) ≤ p_s.jT))
def OV (p_s:aB) (r0:Bool) : Mo (Bool) :=
 .iG 18014 (r0) (.rt [1,49] 2 (true)) <|
 .rt [1,49] 2 (decide ((p_s.kT:Int) < 0))
def OW (p_s:aB) (r0:Bool) : Mo (Bool) :=
 .iG 18019 (r0) (.rt [1,54] 2 (true)) <|
 .rt [1,54] 2 (decide ((p_s.kU:Int) < (-1)))
def OX (p_s:aB) (r0:Bool) : Mo (Bool) :=
 .ite (r0) (fun c0 =>
 .say [.gd 18024 true] (ok1 c0) <|
 .rt [1,60] 2 (true)) fun c0 =>
 .say [.gd 18024 false,.num p_s.fG.length] (okc c0 (ok1 (ln_ p_s.fG aB.lf))) <|
 .rt [1,60] 2 (decide ((1:Int) < (p_s.fG.length:Int)))
def OY (p_s:aB) : Mo (Bool) :=
 .cl (aaA p_s.kR p_s.rU) fun r0 _ =>
 .iG 22005 (r0) (.rt [1,72] 2 (true)) <|
 .cl (aaA p_s.kS p_s.rV) fun r1 _ =>
 .rt [1,72] 2 (r1)
def Du (p_s:aB) : (Int) → Mo ((Int) ⊕ (Unit ⊕ Unit)) := fun (v0) =>
 .say [.num p_s.jU.length] (ok1 (ln_ p_s.jU ah.lf)) <|
 .iB (decide ((v0:Int) < (p_s.jU.length:Int))) (.ask (bT p_s.jU v0) fun x0 h0 =>
 .say [.row (ah.lf1 x0)] (ok1 (aX ah.aU h0)) <|
 .cl (qj x0) fun r0 _ =>
 .iB (!r0) (.ret ⟨[.kill 0],[2],[],2⟩ (.inr (.inl ()))) <|
 .rt [1,5] 2 (.inl (IntKind.wrap .i64 (v0 + 1)))) <|
 .ret ⟨[.kill 0],[],[],2⟩ (.inr (.inr (())))
def aaB (p_s:aB) (v0:Int) : Option (Unit ⊕ Unit) := bJ (fun v_=>(Du p_s v_).den) FU (v0)
def OZ (p_s:aB) : (Int) → St := fun (v0)=>⟨[(1,.ptr 0 0),(5,.i_ v0)],[.box 35 (.dat (aB.lf1 p_s)),.dead]⟩
def xB (r_:Unit ⊕ Unit) : Exit := match r_ with
 | .inl o_=>.ret
 | .inr (o_)=>.exit 2
def xC  (r_:Unit ⊕ Unit) : St := match r_ with
 | .inl o_=>⟨[(2,.i_ 8)],[.dead,.dead]⟩
 | .inr (o_)=>⟨[],[.dead,.dead]⟩
theorem O1 {p_s:aB} {v0:Int} {r_:Unit ⊕ Unit} (h:aaB p_s v0 = some r_) : gq Tryz.f241 0 [1,1,1,1,1,1,0,1,0] (xB r_) (xC r_) (OZ p_s (v0)) :=
 dR dL (body := (Code.sub (bodyC Tryz.f241) [1,1,1,1,1,1,0,1,0,0])) (by kernel_rfl) (Du p_s) (OZ p_s) xB xC (fun r_=>by rcases r_ with _ | _ <;> rfl) (fun v_=>by kernel_rfl) h
def ai6 (p_s:aB) : Mo (Int) :=
 .say [] (ok1 (by simp [lfS] : (([] : List ByteArray).map lfS) = [])) <|
 .ask (Ve p_s 0 ([] : List ByteArray)) fun r0 h0 =>
 .say [.part [.Ep 3 9 1,.kF 1 (([] : List ByteArray).map lfS)] 0 [1,3,4] 2 (.exit 0) (Az p_s r0).T (Az p_s r0).H] (ok1 (adP h0)) <|
 .jp Tryz.f241 0 [1,1,1,0,0] 19 [1,3] 2 (.normal) (fun r_=>⟨[(1,.ptr 0 0),(30,.b_ r_)],[.box 35 (.dat (aB.lf1 p_s)),.dead]⟩) ⟨[(1,.ptr 0 0),(3,.own 1)],[.box 35 (.dat (aB.lf1 p_s)),.row 9 1 (r0.map lfS)]⟩ (Vg p_s r0).den (jW (by kernel_rfl)) fun r1 _ =>
 .iB (r1) (.ret (bn 1) (9)) <|
 .sj Tryz.f241 0 [1,1,1,1,0,0] [0,1,2,3,4,5,6,7,8] 8 9 [1] 2 (fun r_=>⟨[(1,.ptr 0 0),(39,.b_ r_)],[.box 35 (.dat (aB.lf1 p_s)),.dead]⟩) ⟨[(1,.ptr 0 0)],[.box 35 (.dat (aB.lf1 p_s)),.dead]⟩ (OT p_s).den (sW (by kernel_rfl)) fun r2 _ =>
 .sj Tryz.f241 0 [1,1,1,1,0,0] [9,10,11,12,13] 8 5 [1,39] 2 (fun r_=>⟨[(1,.ptr 0 0),(44,.b_ r_)],[.box 35 (.dat (aB.lf1 p_s)),.dead]⟩) ⟨[(1,.ptr 0 0),(39,.b_ r2)],[.box 35 (.dat (aB.lf1 p_s)),.dead]⟩ (OU p_s r2).den (sW (by kernel_rfl)) fun r3 _ =>
 .sj Tryz.f241 0 [1,1,1,1,0,0] [14,15,16,17,18] 8 5 [1,44] 2 (fun r_=>⟨[(1,.ptr 0 0),(49,.b_ r_)],[.box 35 (.dat (aB.lf1 p_s)),.dead]⟩) ⟨[(1,.ptr 0 0),(44,.b_ r3)],[.box 35 (.dat (aB.lf1 p_s)),.dead]⟩ (OV p_s r3).den (sW (by kernel_rfl)) fun r4 _ =>
 .sj Tryz.f241 0 [1,1,1,1,0,0] [19,20,21,22,23] 8 5 [1,49] 2 (fun r_=>⟨[(1,.ptr 0 0),(54,.b_ r_)],[.box 35 (.dat (aB.lf1 p_s)),.dead]⟩) ⟨[(1,.ptr 0 0),(49,.b_ r4)],[.box 35 (.dat (aB.lf1 p_s)),.dead]⟩ (OW p_s r4).den (sW (by kernel_rfl)) fun r5 _ =>
 .sj Tryz.f241 0 [1,1,1,1,0,0] [24,25,26,27,28,29] 8 6 [1,54] 2 (fun r_=>⟨[(1,.ptr 0 0),(60,.b_ r_)],[.box 35 (.dat (aB.lf1 p_s)),.dead]⟩) ⟨[(1,.ptr 0 0),(54,.b_ r5)],[.box 35 (.dat (aB.lf1 p_s)),.dead]⟩ (OX p_s r5).den (sW (by kernel_rfl)) fun r6 _ =>
 .iB (r6) (.ret (bn 1) (1)) <|
 .jp Tryz.f241 0 [1,1,1,1,1,0,0] 27 [1] 2 (.normal) (fun r_=>⟨[(1,.ptr 0 0),(72,.b_ r_)],[.box 35 (.dat (aB.lf1 p_s)),.dead]⟩) ⟨[(1,.ptr 0 0)],[.box 35 (.dat (aB.lf1 p_s)),.dead]⟩ (OY p_s).den (jW (by kernel_rfl)) fun r7 _ =>
 .iB (r7) (.ret (bn 1) (8)) <|
 .eY (aaB p_s 0) (fun o0 h1 =>
 .say [.pt_ 0 [1,5] 2 (xB (.inl o0)) (xC (.inl o0))] (ok1 (O1 h1)) <|
 .ret (bn 1) (8)) fun o1 h1 =>
 .say [.pt_ 0 [1,5] 2 (xB (.inr (o1))) (xC (.inr (o1)))] (ok1 (O1 h1)) <|
 .ret (bn 1) (0)
def Q6 (p_s:aB) : Option (Int) := Mo.den (ai6 p_s)
theorem ai7 (p_s:aB) : FV (Q6 p_s) 241 [.dat (aB.lf1 p_s)] (fun r=>.i_ r) := dw Tryz.func241 (by kernel_rfl) (fun _=>rfl) (by kernel_rfl)
structure Jj where
 m1:(p_s:aB) → (p_number:Int) → (p_level:Int) → Option (Int × Int)
 ok1:∀ p_s p_number p_level,FV (m1 p_s p_number p_level) 203 [.dat (aB.lf1 p_s),.i_ p_number,.i_ p_level] (fun r=>.tup [.i_ r.1,.i_ r.2])
def O4 (R_:Jj) (p_level:Int) (p_number:Int) (p_s:aB) : Mo (Bool) :=
 .iG 4002 (decide ((16:Int) < p_level)) (.rt [1,2,3,18] 1 (true)) <|
 .rt [1,2,3,18] 1 (decide ((64:Int) < p_number))
def O5 (R_:Jj) (p_level:Int) (p_s:aB) (v0:Int) (v1:Int) : Mo (aB) :=
 .ite (decide ((v1:Int) < (p_s.dN.length:Int))) (fun c0 =>
 .say [.br true] (ok1 c0) <|
 .ask (bT p_s.dN v1) fun x0 h0 =>
 .say [.row (bF.lf1 x0)] (ok1 (aX bF.aU h0)) <|
 .ret ⟨[.norm 1],[1,2,3,9,10],[],2⟩ (x0.fF)) fun c0 =>
 .say [.br false,.num p_s.dN.length] (okc c0 (ok1 (ln_ p_s.dN bF.lf))) <|
 .ask (bT p_s.fG (IntKind.wrap .i64 (v1 - (p_s.dN.length:Int)))) fun x1 h1 =>
 .say [.row (aB.lf1 x1)] (ok1 (aX aB.aU h1)) <|
 .ret ⟨[.norm 1],[1,2,3,9,10],[],2⟩ (x1)
def zn (R_:Jj) (p_level:Int) (p_s:aB) : (Int × Int) → Mo ((Int × Int) ⊕ (Int × Int) ⊕ (Int)) := fun (v0,v1) =>
 .say [.num p_s.dN.length,.num p_s.fG.length] (okc (ln_ p_s.dN bF.lf) (ok1 (ln_ p_s.fG aB.lf))) <|
 .ite (decide ((v1:Int) < (IntKind.wrap .i64 ((p_s.dN.length:Int) + (p_s.fG.length:Int))))) (fun c0 =>
 .say [.br true,.num p_s.dN.length] (okc c0 (ok1 (ln_ p_s.dN bF.lf))) <|
 .jp Tryz.f203 0 [1,1,1,0,1,0,0,1,0,0,1,0,1] 1 [1,2,3,9,10,41] 2 (.normal) (fun r_=>⟨[(1,.i_ v0),(2,.i_ p_level),(3,.ptr 0 0),(9,.i_ v1),(10,.ptr 1 0)],[.box 35 (.dat (aB.lf1 p_s)),.box 35 (.dat (aB.lf1 r_))]⟩) ⟨[(1,.i_ v0),(2,.i_ p_level),(3,.ptr 0 0),(9,.i_ v1),(10,.ptr 1 0),(41,.lf (.bool (decide ((v1:Int) < (p_s.dN.length:Int)))))],[.box 35 (.dat (aB.lf1 p_s)),.box 35 (Z35)]⟩ (O5 R_ p_level p_s v0 v1).den (jW (by kernel_rfl)) fun r0 _ =>
 .cl (R_.ok1 r0 (IntKind.wrap .i64 (v0 + 1)) (IntKind.wrap .i64 (p_level + 1))) fun r1 _ =>
 .iB (r1.2 != 0) (.ret ⟨[.kill 0],[6,7],[],1⟩ (.inr (.inl (r1.1,r1.2)))) <|
 .rt [1,2,3,9] 1 (.inl (r1.1,IntKind.wrap .i64 (v1 + 1)))) fun c0 =>
 .say [.br false] (ok1 c0) <|
 .ret ⟨[.kill 0],[1],[],1⟩ (.inr (.inr (v0)))
def Vh (R_:Jj) (p_level:Int) (p_s:aB) (v0:Int) (v1:Int) : Option ((Int × Int) ⊕ (Int)) := bJ (fun v_=>(zn R_ p_level p_s v_).den) FU (v0,v1)
def GX (R_:Jj) (p_level:Int) (p_s:aB) : (Int × Int) → St := fun (v0,v1)=>⟨[(1,.i_ v0),(2,.i_ p_level),(3,.ptr 0 0),(9,.i_ v1)],[.box 35 (.dat (aB.lf1 p_s))]⟩
def rC (r_:(Int × Int) ⊕ (Int)) : Exit := match r_ with
 | .inl o_=>.ret
 | .inr (o_)=>.exit 0
def rD  (r_:(Int × Int) ⊕ (Int)) : St := match r_ with
 | .inl o_=>⟨[(6,.i_ o_.1),(7,.i_ o_.2)],[.dead]⟩
 | .inr (o_)=>⟨[(1,.i_ o_)],[.dead]⟩
theorem GY {R_:Jj} {p_level:Int} {p_s:aB} {v0:Int} {v1:Int} {r_:(Int × Int) ⊕ (Int)} (h:Vh R_ p_level p_s v0 v1 = some r_) : gq Tryz.f203 0 [1,1,1,0,1,0] (rC r_) (rD r_) (GX R_ p_level p_s (v0,v1)) :=
 dR dL (body := (Code.sub (bodyC Tryz.f203) [1,1,1,0,1,0,0])) (by kernel_rfl) (zn R_ p_level p_s) (GX R_ p_level p_s) rC rD (fun r_=>by rcases r_ with _ | _ <;> rfl) (fun v_=>by kernel_rfl) h
def aaC (R_:Jj) (p_s:aB) (p_number:Int) (p_level:Int) : Mo (Int × Int) :=
 .jp Tryz.f203 0 [1,0,0] 9 [1,2,3] 1 (.normal) (fun r_=>⟨[(1,.i_ p_number),(2,.i_ p_level),(3,.ptr 0 0),(18,.b_ r_)],[.box 35 (.dat (aB.lf1 p_s))]⟩) ⟨[(1,.i_ p_number),(2,.i_ p_level),(3,.ptr 0 0)],[.box 35 (.dat (aB.lf1 p_s))]⟩ (O4 R_ p_level p_number p_s).den (jW (by kernel_rfl)) fun r0 _ =>
 .iB (r0) (.ret (bn 2) (p_number,2)) <|
 .cl (ai7 p_s) fun r1 _ =>
 .iB (r1 != 0) (.ret (bn 2) (p_number,r1)) <|
 .eY (Vh R_ p_level p_s p_number 0) (fun o0 h0 =>
 .say [.pt_ 0 [1,2,3,9] 1 (rC (.inl o0)) (rD (.inl o0))] (ok1 (GY h0)) <|
 .ret (bn 2) (o0.1,o0.2)) fun o1 h0 =>
 .say [.pt_ 0 [1,2,3,9] 1 (rC (.inr (o1))) (rD (.inr (o1)))] (ok1 (GY h0)) <|
 .ret (bn 2) (o1,0)
theorem adQ (R_:Jj) (p_s:aB) (p_number:Int) (p_level:Int) : FV (Mo.den (aaC R_ p_s p_number p_level)) 203 [.dat (aB.lf1 p_s),.i_ p_number,.i_ p_level] (fun r=>.tup [.i_ r.1,.i_ r.2]) := dw Tryz.func203 (by kernel_rfl) (fun _=>rfl) (by kernel_rfl)
def oL:Nat → Jj
 | 0=>{ m1 := fun p_s p_number p_level=>none,ok1 := fun _ _ _ _ h=>(by cases h) }
 | n_ + 1=>{ m1 := fun p_s p_number p_level=>Mo.den (aaC (oL n_) p_s p_number p_level),ok1 := adQ (oL n_) }
def Q26 (p_s:aB) (p_number:Int) (p_level:Int) : Option (Int × Int) := (oL FU).m1 p_s p_number p_level
theorem ahp (p_s:aB) (p_number:Int) (p_level:Int) : FV (Q26 p_s p_number p_level) 203 [.dat (aB.lf1 p_s),.i_ p_number,.i_ p_level] (fun r=>.tup [.i_ r.1,.i_ r.2]) := (oL FU).ok1 p_s p_number p_level
def aaD (p_s:aB) : Mo (Int) :=
 .cl (ahp p_s 1 1) fun r0 _ =>
 .ret (bn 1) (r0.2)
def ai8 (p_s:aB) : Option (Int) := Mo.den (aaD p_s)
theorem adR (p_s:aB) : FV (ai8 p_s) 158 [.dat (aB.lf1 p_s)] (fun r=>.i_ r) := dw Tryz.func158 (by kernel_rfl) (fun _=>rfl) (by kernel_rfl)
def Dv (p_d:bK) : (Int) → Mo ((Int) ⊕ (Int) ⊕ Unit) := fun (v0) =>
 .say [.num p_d.dH.length] (ok1 (ln_ p_d.dH aS.lf)) <|
 .iB (decide ((v0:Int) < (p_d.dH.length:Int))) (.ask (bT p_d.dH v0) fun x0 h0 =>
 .say [.row (aS.lf1 x0)] (ok1 (aX aS.aU h0)) <|
 .cl (aat x0) fun r0 _ =>
 .ite (r0 != 0) (fun c0 =>
 .say [.br true] (ok1 c0) <|
 .ret ⟨[.kill 0],[2],[],1⟩ (.inr (.inl (r0)))) fun c0 =>
 .say [.br false,.order [(true,0),(true,1),(true,2),(true,3),(true,4),(true,5),(true,6),(true,7),(true,9),(false,8),(true,10)] none []] (ok1 c0) <|
 .ask (bT p_d.dH v0) fun x1 h1 =>
 .say [.row (aS.lf1 x1)] (ok1 (aX aS.aU h1)) <|
 .cl (aho p_d.dH x1.fName) fun r1 _ =>
 .iB (r1 != v0) (.ret ⟨[.kill 0],[2],[],1⟩ (.inr (.inl (16)))) <|
 .rt [1,3] 1 (.inl (IntKind.wrap .i64 (v0 + 1)))) <|
 .rt [1] 1 (.inr (.inr (())))
def aaE (p_d:bK) (v0:Int) : Option ((Int) ⊕ Unit) := bJ (fun v_=>(Dv p_d v_).den) FU (v0)
def O6 (p_d:bK) : (Int) → St := fun (v0)=>⟨[(1,.ptr 0 0),(3,.i_ v0)],[.box 37 (.dat (bK.lf1 p_d))]⟩
def xE (r_:(Int) ⊕ Unit) : Exit := match r_ with
 | .inl o_=>.ret
 | .inr (o_)=>.exit 0
def xG (p_d:bK) (r_:(Int) ⊕ Unit) : St := match r_ with
 | .inl o_=>⟨[(2,.i_ o_)],[.dead]⟩
 | .inr (o_)=>⟨[(1,.ptr 0 0)],[.box 37 (.dat (bK.lf1 p_d))]⟩
theorem O7 {p_d:bK} {v0:Int} {r_:(Int) ⊕ Unit} (h:aaE p_d v0 = some r_) : gq Tryz.f116 0 [1,1,1,0,1,0] (xE r_) (xG p_d r_) (O6 p_d (v0)) :=
 dR dL (body := (Code.sub (bodyC Tryz.f116) [1,1,1,0,1,0,0])) (by kernel_rfl) (Dv p_d) (O6 p_d) xE (xG p_d) (fun r_=>by rcases r_ with _ | _ <;> rfl) (fun v_=>by kernel_rfl) h
def O8 (p_d:bK) : Mo (Bool) :=
 .iG 28003 (decide ((p_d.oH:Int) < 0)) (.rt [1,47] 1 (true)) <|
 .rt [1,47] 1 (decide ((2:Int) < p_d.oH))
def GZ (p_d:bK) (r0:Bool) : Mo (Bool) :=
 .iG 28008 (r0) (.rt [1,57] 1 (true)) <|
 .iG 28012 (p_d.lX != 0) (.rt [1,57] 1 (p_d.lX != 1)) <|
 .rt [1,57] 1 (false)
def afQ (p_d:bK) : Mo (Int) :=
 .cl (tH p_d.fName) fun r0 _ =>
 .ite (!r0) (fun c0 =>
 .say [.br true] (ok1 c0) <|
 .ret (bn 1) (9)) fun c0 =>
 .say [.br false,.num p_d.dH.length] (okc c0 (ok1 (ln_ p_d.dH aS.lf))) <|
 .iB (decide ((16:Int) < (p_d.dH.length:Int))) (.ret (bn 1) (2)) <|
 .eY (aaE p_d 0) (fun o0 h0 =>
 .say [.pt_ 0 [1,3] 1 (xE (.inl o0)) (xG p_d (.inl o0))] (ok1 (O7 h0)) <|
 .ret (bn 1) (o0)) fun o1 h0 =>
 .say [.pt_ 0 [1,3] 1 (xE (.inr (o1))) (xG p_d (.inr (o1)))] (ok1 (O7 h0)) <|
 .sj Tryz.f116 0 [1,1,1,1,0,0] [0,1,2,3,4,5,6,7] 13 8 [1] 1 (fun r_=>⟨[(1,.ptr 0 0),(47,.b_ r_)],[.box 37 (.dat (bK.lf1 p_d))]⟩) ⟨[(1,.ptr 0 0)],[.box 37 (.dat (bK.lf1 p_d))]⟩ (O8 p_d).den (sW (by kernel_rfl)) fun r1 _ =>
 .sj Tryz.f116 0 [1,1,1,1,0,0] [8,9,10,11,12,13,14,15,16,17] 13 10 [1,47] 1 (fun r_=>⟨[(1,.ptr 0 0),(57,.b_ r_)],[.box 37 (.dat (bK.lf1 p_d))]⟩) ⟨[(1,.ptr 0 0),(47,.b_ r1)],[.box 37 (.dat (bK.lf1 p_d))]⟩ (GZ p_d r1).den (sW (by kernel_rfl)) fun r2 _ =>
 .iB (r2) (.ret (bn 1) (1)) <|
 .cl (adR p_d.fF) fun r3 _ =>
 .ret (bn 1) (r3)
def Q34 (p_d:bK) : Option (Int) := Mo.den (afQ p_d)
theorem ahq (p_d:bK) : FV (Q34 p_d) 116 [.dat (bK.lf1 p_d)] (fun r=>.i_ r) := dw Tryz.func116 (by kernel_rfl) (fun _=>rfl) (by kernel_rfl)
def Vj (p_hi:Int) (p_lo:Int) (p_w:aG) : Mo (Bool) :=
 .iG 6003 (decide ((p_w.aT:Int) < p_lo)) (.rt [3,7,20] 1 (true)) <|
 .rt [3,7,20] 1 (decide ((p_hi:Int) < p_w.aT))
def Vk (p_w:aG) (r0:Bool) : Mo (Bool) :=
 .iG 6008 (r0) (.rt [3,7,25] 1 (true)) <|
 .cl (agY p_w) fun r1 _ =>
 .rt [3,7,25] 1 (!r1)
def O9 (p_w:aG) (r0:Bool) : Mo (Bool) :=
 .iG 6013 (r0) (.rt [3,7,35] 1 (true)) <|
 .cl (UZ p_w.aT) fun r1 _ =>
 .ite (r1) (fun c0 =>
 .say [.gd 6016 true,.num p_w.dK.length] (okc c0 (ok1 (ln_ p_w.dK aG.lf))) <|
 .rt [3,7,35] 1 ((p_w.dK.length:Int) == 0)) fun c0 =>
 .say [.gd 6016 false] (ok1 c0) <|
 .rt [3,7,35] 1 (false)
def Pe (p_w:aG) (r0:Bool) : Mo (Unit) :=
 .rt [3,7,12] 1 ()
def Pg (p_w:aG) : Mo (Bool) :=
 .cl (UM p_w.aT) fun r0 _ =>
 .iG 14002 (r0) (.cl (Au p_w.kJ) fun r1 _ =>
 .rt [3,7,49] 1 (!r1)) <|
 .rt [3,7,49] 1 (false)
def Ph (p_w:aG) (r0:Bool) : Mo (Bool) :=
 .iG 14008 (r0) (.rt [3,7,59] 1 (true)) <|
 .cl (UY p_w.aT) fun r1 _ =>
 .iG 14011 (r1) (.cl (Au p_w.yL) fun r2 _ =>
 .rt [3,7,59] 1 (!r2)) <|
 .rt [3,7,59] 1 (false)
def Pj (p_w:aG) (r0:Bool) : Mo (Bool) :=
 .iG 14018 (r0) (.rt [3,7,70] 1 (true)) <|
 .iG 14021 (p_w.aT == 7) (.cl (Au p_w.bG.fName) fun r1 _ =>
 .rt [3,7,70] 1 (!r1)) <|
 .rt [3,7,70] 1 (false)
def Pm (p_w:aG) (r0:Bool) : Mo (Unit) :=
 .rt [3,7,41] 1 ()
def Pn (p_w:aG) : Mo (Bool) :=
 .iG 18002 (p_w.aT == 10) (.rt [3,7,78] 1 (decide ((p_w.fO:Int) < 1))) <|
 .rt [3,7,78] 1 (false)
def Po (p_w:aG) (r0:Bool) : Mo (Bool) :=
 .iG 18007 (r0) (.rt [3,7,83] 1 (true)) <|
 .rt [3,7,83] 1 (decide ((p_w.fO:Int) < 0))
def Pq (p_w:aG) (r0:Bool) : Mo (Bool) :=
 .iG 18012 (r0) (.rt [3,7,88] 1 (true)) <|
 .rt [3,7,88] 1 (decide ((1099511627776:Int) < p_w.fO))
def Pv (p_w:aG) (r0:Bool) : Mo (Bool) :=
 .iG 18017 (r0) (.rt [3,7,98] 1 (true)) <|
 .iG 18020 (p_w.aT == 12) (.cl (agZ p_w.eu) fun r1 _ =>
 .rt [3,7,98] 1 (!r1)) <|
 .rt [3,7,98] 1 (false)
def Px (p_w:aG) (r0:Bool) : Mo (Unit) :=
 .rt [3,7,71] 1 ()
def Py (p_w:aG) : Mo (Bool) :=
 .cl (IX p_w.aT) fun r0 _ =>
 .iG 22002 (r0) (.cl (ag0 p_w.lY) fun r1 _ =>
 .rt [3,7,99] 1 (!r1)) <|
 .rt [3,7,99] 1 (false)
def Dw (p_w:aG) : Mo ((Int) ⊕ Unit) :=
 .iB (p_w.aT == 2) (.cl (U3 p_w.bU p_w.lY) fun r0 _ =>
 .iB (r0 != 0) (.ret ⟨[.kill 0],[6],[],1⟩ (.inl (r0))) <|
 .rt [3,7] 1 (.inr (()))) <|
 .rt [3,7] 1 (.inr (()))
def aaF (p_w:aG) : Option ((Int) ⊕ Unit) := Mo.den (Dw p_w)
def xH (r_:(Int) ⊕ Unit) : Exit := match r_ with
 | .inl o_=>.ret
 | .inr (o_)=>.normal
def xI (p_w:aG) (r_:(Int) ⊕ Unit) : St := match r_ with
 | .inl o_=>⟨[(6,.i_ o_)],[.dead]⟩
 | .inr (o_)=>⟨[(3,.ptr 0 0),(7,.i_ p_w.aT)],[.box 52 (.dat (aG.lf1 p_w))]⟩
theorem Pz {p_w:aG} {r_:(Int) ⊕ Unit} (h:aaF p_w = some r_) : gq Tryz.f78 0 [1,1,1,0,1] (xH r_) (xI p_w r_) ⟨[(3,.ptr 0 0),(7,.i_ p_w.aT),(109,.lf (.bool (p_w.aT == 2)))],[.box 52 (.dat (aG.lf1 p_w))]⟩ :=
 jq dL (Dw p_w) xH (xI p_w) (by kernel_rfl) h
def PD (p_w:aG) : Mo (Bool) :=
 .cl (IX p_w.aT) fun r0 _ =>
 .iG 34002 (r0) (.cl (tJ p_w.gW) fun r1 _ =>
 .rt [3,7,125] 1 (!r1)) <|
 .rt [3,7,125] 1 (false)
def Dx (p_w:aG) (r0:Bool) : Mo ((Int) ⊕ Unit) :=
 .iB (r0) (.cl (U3 p_w.gW p_w.lY) fun r1 _ =>
 .iB (r1 != 0) (.ret ⟨[.kill 0],[6],[],1⟩ (.inl (r1))) <|
 .rt [3,7] 1 (.inr (()))) <|
 .rt [3,7] 1 (.inr (()))
def aaG (p_w:aG) (r0:Bool) : Option ((Int) ⊕ Unit) := Mo.den (Dx p_w r0)
def xJ (r_:(Int) ⊕ Unit) : Exit := match r_ with
 | .inl o_=>.ret
 | .inr (o_)=>.normal
def xK (p_w:aG) (r_:(Int) ⊕ Unit) : St := match r_ with
 | .inl o_=>⟨[(6,.i_ o_)],[.dead]⟩
 | .inr (o_)=>⟨[(3,.ptr 0 0),(7,.i_ p_w.aT)],[.box 52 (.dat (aG.lf1 p_w))]⟩
theorem PE {p_w:aG} {r0:Bool} {r_:(Int) ⊕ Unit} (h:aaG p_w r0 = some r_) : gq Tryz.f78 0 [1,1,1,1,0,1] (xJ r_) (xK p_w r_) ⟨[(3,.ptr 0 0),(7,.i_ p_w.aT),(125,.b_ r0)],[.box 52 (.dat (aG.lf1 p_w))]⟩ :=
 jq dL (Dx p_w r0) xJ (xK p_w) (by kernel_rfl) h
def ai9 (p_w:aG) (p_lo:Int) (p_hi:Int) : Mo (Int) :=
 .sj Tryz.f78 0 [1,1,0,0,0] [0,1,2,3,4,5,6,7] 2 8 [1,2,3,7] 1 (fun r_=>⟨[(3,.ptr 0 0),(7,.i_ p_w.aT),(20,.b_ r_)],[.box 52 (.dat (aG.lf1 p_w))]⟩) ⟨[(1,.i_ p_lo),(2,.i_ p_hi),(3,.ptr 0 0),(7,.i_ p_w.aT)],[.box 52 (.dat (aG.lf1 p_w))]⟩ (Vj p_hi p_lo p_w).den (sW (by kernel_rfl)) fun r0 _ =>
 .sj Tryz.f78 0 [1,1,0,0,0] [8,9,10,11,12] 2 5 [3,7,20] 1 (fun r_=>⟨[(3,.ptr 0 0),(7,.i_ p_w.aT),(25,.b_ r_)],[.box 52 (.dat (aG.lf1 p_w))]⟩) ⟨[(3,.ptr 0 0),(7,.i_ p_w.aT),(20,.b_ r0)],[.box 52 (.dat (aG.lf1 p_w))]⟩ (Vk p_w r0).den (sW (by kernel_rfl)) fun r1 _ =>
 .sj Tryz.f78 0 [1,1,0,0,0] [13,14,15,16,17,18,19,20,21,22] 2 10 [3,7,25] 1 (fun r_=>⟨[(3,.ptr 0 0),(7,.i_ p_w.aT),(35,.b_ r_)],[.box 52 (.dat (aG.lf1 p_w))]⟩) ⟨[(3,.ptr 0 0),(7,.i_ p_w.aT),(25,.b_ r1)],[.box 52 (.dat (aG.lf1 p_w))]⟩ (O9 p_w r1).den (sW (by kernel_rfl)) fun r2 _ =>
 .sj Tryz.f78 0 [1,1,0,0,0] [23] 2 1 [3,7,35] 1 (fun r_=>⟨[(3,.ptr 0 0),(7,.i_ p_w.aT),(12,.b_ r2)],[.box 52 (.dat (aG.lf1 p_w))]⟩) ⟨[(3,.ptr 0 0),(7,.i_ p_w.aT),(35,.b_ r2)],[.box 52 (.dat (aG.lf1 p_w))]⟩ (Pe p_w r2).den (sW (by kernel_rfl)) fun r3 _ =>
 .ite (r2) (fun c0 =>
 .say [.br true] (ok1 c0) <|
 .ret (bn 1) (11)) fun c0 =>
 .say [.br false,.num p_w.dK.length] (okc c0 (ok1 (ln_ p_w.dK aG.lf))) <|
 .iB (decide ((256:Int) < (p_w.dK.length:Int))) (.ret (bn 1) (2)) <|
 .sj Tryz.f78 0 [1,1,0,0,1,1,1,1,0] [0,1,2,3,4,5,6,7] 6 8 [3,7] 1 (fun r_=>⟨[(3,.ptr 0 0),(7,.i_ p_w.aT),(49,.b_ r_)],[.box 52 (.dat (aG.lf1 p_w))]⟩) ⟨[(3,.ptr 0 0),(7,.i_ p_w.aT)],[.box 52 (.dat (aG.lf1 p_w))]⟩ (Pg p_w).den (sW (by kernel_rfl)) fun r4 _ =>
 .sj Tryz.f78 0 [1,1,0,0,1,1,1,1,0] [8,9,10,11,12,13,14,15,16,17] 6 10 [3,7,49] 1 (fun r_=>⟨[(3,.ptr 0 0),(7,.i_ p_w.aT),(59,.b_ r_)],[.box 52 (.dat (aG.lf1 p_w))]⟩) ⟨[(3,.ptr 0 0),(7,.i_ p_w.aT),(49,.b_ r4)],[.box 52 (.dat (aG.lf1 p_w))]⟩ (Ph p_w r4).den (sW (by kernel_rfl)) fun r5 _ =>
 .sj Tryz.f78 0 [1,1,0,0,1,1,1,1,0] [18,19,20,21,22,23,24,25,26,27,28] 6 11 [3,7,59] 1 (fun r_=>⟨[(3,.ptr 0 0),(7,.i_ p_w.aT),(70,.b_ r_)],[.box 52 (.dat (aG.lf1 p_w))]⟩) ⟨[(3,.ptr 0 0),(7,.i_ p_w.aT),(59,.b_ r5)],[.box 52 (.dat (aG.lf1 p_w))]⟩ (Pj p_w r5).den (sW (by kernel_rfl)) fun r6 _ =>
 .sj Tryz.f78 0 [1,1,0,0,1,1,1,1,0] [29] 6 1 [3,7,70] 1 (fun r_=>⟨[(3,.ptr 0 0),(7,.i_ p_w.aT),(41,.b_ r6)],[.box 52 (.dat (aG.lf1 p_w))]⟩) ⟨[(3,.ptr 0 0),(7,.i_ p_w.aT),(70,.b_ r6)],[.box 52 (.dat (aG.lf1 p_w))]⟩ (Pm p_w r6).den (sW (by kernel_rfl)) fun r7 _ =>
 .iB (r6) (.ret (bn 1) (9)) <|
 .sj Tryz.f78 0 [1,1,0,0,1,1,1,1,1,1,0] [0,1,2,3,4,5,6] 8 7 [3,7] 1 (fun r_=>⟨[(3,.ptr 0 0),(7,.i_ p_w.aT),(78,.b_ r_)],[.box 52 (.dat (aG.lf1 p_w))]⟩) ⟨[(3,.ptr 0 0),(7,.i_ p_w.aT)],[.box 52 (.dat (aG.lf1 p_w))]⟩ (Pn p_w).den (sW (by kernel_rfl)) fun r8 _ =>
 .sj Tryz.f78 0 [1,1,0,0,1,1,1,1,1,1,0] [7,8,9,10,11] 8 5 [3,7,78] 1 (fun r_=>⟨[(3,.ptr 0 0),(7,.i_ p_w.aT),(83,.b_ r_)],[.box 52 (.dat (aG.lf1 p_w))]⟩) ⟨[(3,.ptr 0 0),(7,.i_ p_w.aT),(78,.b_ r8)],[.box 52 (.dat (aG.lf1 p_w))]⟩ (Po p_w r8).den (sW (by kernel_rfl)) fun r9 _ =>
 .sj Tryz.f78 0 [1,1,0,0,1,1,1,1,1,1,0] [12,13,14,15,16] 8 5 [3,7,83] 1 (fun r_=>⟨[(3,.ptr 0 0),(7,.i_ p_w.aT),(88,.b_ r_)],[.box 52 (.dat (aG.lf1 p_w))]⟩) ⟨[(3,.ptr 0 0),(7,.i_ p_w.aT),(83,.b_ r9)],[.box 52 (.dat (aG.lf1 p_w))]⟩ (Pq p_w r9).den (sW (by kernel_rfl)) fun r10 _ =>
 .sj Tryz.f78 0 [1,1,0,0,1,1,1,1,1,1,0] [17,18,19,20,21,22,23,24,25,26] 8 10 [3,7,88] 1 (fun r_=>⟨[(3,.ptr 0 0),(7,.i_ p_w.aT),(98,.b_ r_)],[.box 52 (.dat (aG.lf1 p_w))]⟩) ⟨[(3,.ptr 0 0),(7,.i_ p_w.aT),(88,.b_ r10)],[.box 52 (.dat (aG.lf1 p_w))]⟩ (Pv p_w r10).den (sW (by kernel_rfl)) fun r11 _ =>
 .sj Tryz.f78 0 [1,1,0,0,1,1,1,1,1,1,0] [27] 8 1 [3,7,98] 1 (fun r_=>⟨[(3,.ptr 0 0),(7,.i_ p_w.aT),(71,.b_ r11)],[.box 52 (.dat (aG.lf1 p_w))]⟩) ⟨[(3,.ptr 0 0),(7,.i_ p_w.aT),(98,.b_ r11)],[.box 52 (.dat (aG.lf1 p_w))]⟩ (Px p_w r11).den (sW (by kernel_rfl)) fun r12 _ =>
 .iB (r11) (.ret (bn 1) (1)) <|
 .jp Tryz.f78 0 [1,1,0,0,1,1,1,1,1,1,1,1,0] 27 [3,7] 1 (.normal) (fun r_=>⟨[(3,.ptr 0 0),(7,.i_ p_w.aT),(99,.b_ r_)],[.box 52 (.dat (aG.lf1 p_w))]⟩) ⟨[(3,.ptr 0 0),(7,.i_ p_w.aT)],[.box 52 (.dat (aG.lf1 p_w))]⟩ (Py p_w).den (jW (by kernel_rfl)) fun r13 _ =>
 .iB (r13) (.ret (bn 1) (8)) <|
 .eY (aaF p_w) (fun o0 h0 =>
 .say [.pt_ 1 [3,7,109] 1 (xH (.inl o0)) (xI p_w (.inl o0))] (ok1 (Pz h0)) <|
 .ret (bn 1) (o0)) fun o1 h0 =>
 .say [.pt_ 1 [3,7,109] 1 (xH (.inr (o1))) (xI p_w (.inr (o1)))] (ok1 (Pz h0)) <|
 .jp Tryz.f78 0 [1,1,1,1,0,0] 39 [3,7] 1 (.normal) (fun r_=>⟨[(3,.ptr 0 0),(7,.i_ p_w.aT),(125,.b_ r_)],[.box 52 (.dat (aG.lf1 p_w))]⟩) ⟨[(3,.ptr 0 0),(7,.i_ p_w.aT)],[.box 52 (.dat (aG.lf1 p_w))]⟩ (PD p_w).den (jW (by kernel_rfl)) fun r14 _ =>
 .eY (aaG p_w r14) (fun o2 h1 =>
 .say [.pt_ 1 [3,7,125] 1 (xJ (.inl o2)) (xK p_w (.inl o2))] (ok1 (PE h1)) <|
 .ret (bn 1) (o2)) fun o3 h1 =>
 .say [.pt_ 1 [3,7,125] 1 (xJ (.inr (o3))) (xK p_w (.inr (o3)))] (ok1 (PE h1)) <|
 .iB (p_w.aT == 4) (.cl (ahq p_w.nY) fun r15 _ =>
 .ret (bn 1) (r15)) <|
 .iB (p_w.aT == 6) (.cl (aat p_w.bG) fun r16 _ =>
 .ret (bn 1) (r16)) <|
 .ret (bn 1) (0)
def Q2 (p_w:aG) (p_lo:Int) (p_hi:Int) : Option (Int) := Mo.den (ai9 p_w p_lo p_hi)
theorem afR (p_w:aG) (p_lo:Int) (p_hi:Int) : FV (Q2 p_w p_lo p_hi) 78 [.dat (aG.lf1 p_w),.i_ p_lo,.i_ p_hi] (fun r=>.i_ r) := dw Tryz.func78 (by kernel_rfl) (fun _=>rfl) (by kernel_rfl)
def PG (p_e:au) : Mo (Bool) :=
 .iG 8003 (decide ((p_e.fO:Int) < 1)) (.rt [1,19] 1 (true)) <|
 .rt [1,19] 1 (decide ((1099511627776:Int) < p_e.fO))
def PI (p_e:au) (r0:Bool) : Mo (Bool) :=
 .iG 8008 (r0) (.rt [1,24] 1 (true)) <|
 .rt [1,24] 1 (decide ((p_e.oI:Int) < 0))
def G5 (p_e:au) (r0:Bool) : Mo (Unit) :=
 .rt [1,11] 1 ()
def G6 (p_e:au) : Mo (Bool) :=
 .iG 12003 (!decide ((p_e.jV:ByteArray) = (⟨#[]⟩ : ByteArray))) (.cl (Au p_e.jV) fun r0 _ =>
 .rt [1,25] 1 (!r0)) <|
 .rt [1,25] 1 (false)
def G7 (p_e:au) : Mo (Int) :=
 .iB (p_e.iE.aT == 9) (.rt [1,4] 1 (3)) <|
 .rt [1,4] 1 (7)
def zo (p_e:au) (r0:Int) : (Int) → Mo ((Int) ⊕ (Int) ⊕ Unit) := fun (v0) =>
 .say [.num p_e.iE.dK.length] (ok1 (ln_ p_e.iE.dK aG.lf)) <|
 .iB (decide ((v0:Int) < (p_e.iE.dK.length:Int))) (.ask (bT p_e.iE.dK v0) fun x0 h0 =>
 .say [.row (aG.lf1 x0)] (ok1 (aX aG.aU h0)) <|
 .cl (afR x0 2 r0) fun r1 _ =>
 .iB (r1 != 0) (.ret ⟨[.kill 0],[2],[],1⟩ (.inr (.inl (r1)))) <|
 .rt [1,4,5] 1 (.inl (IntKind.wrap .i64 (v0 + 1)))) <|
 .ret ⟨[.kill 0],[],[],1⟩ (.inr (.inr (())))
def Vl (p_e:au) (r0:Int) (v0:Int) : Option ((Int) ⊕ Unit) := bJ (fun v_=>(zo p_e r0 v_).den) FU (v0)
def G8 (p_e:au) (r0:Int) : (Int) → St := fun (v0)=>⟨[(1,.ptr 0 0),(4,.i_ r0),(5,.i_ v0)],[.box 54 (.dat (au.lf1 p_e))]⟩
def rE (r_:(Int) ⊕ Unit) : Exit := match r_ with
 | .inl o_=>.ret
 | .inr (o_)=>.exit 1
def rF  (r_:(Int) ⊕ Unit) : St := match r_ with
 | .inl o_=>⟨[(2,.i_ o_)],[.dead]⟩
 | .inr (o_)=>⟨[],[.dead]⟩
theorem G9 {p_e:au} {r0:Int} {v0:Int} {r_:(Int) ⊕ Unit} (h:Vl p_e r0 v0 = some r_) : gq Tryz.f39 0 [1,1,1,1,1,0,1,0] (rE r_) (rF r_) (G8 p_e r0 (v0)) :=
 dR dL (body := (Code.sub (bodyC Tryz.f39) [1,1,1,1,1,0,1,0,0])) (by kernel_rfl) (zo p_e r0) (G8 p_e r0) rE rF (fun r_=>by rcases r_ with _ | _ <;> rfl) (fun v_=>by kernel_rfl) h
def afS (p_e:au) : Mo (Int) :=
 .iB (decide ((p_e.bC:Int) < 0)) (.ret (bn 1) (24)) <|
 .sj Tryz.f39 0 [1,0,0,1,1,0] [0,1,2,3,4,5,6,7] 3 8 [1] 1 (fun r_=>⟨[(1,.ptr 0 0),(19,.b_ r_)],[.box 54 (.dat (au.lf1 p_e))]⟩) ⟨[(1,.ptr 0 0)],[.box 54 (.dat (au.lf1 p_e))]⟩ (PG p_e).den (sW (by kernel_rfl)) fun r0 _ =>
 .sj Tryz.f39 0 [1,0,0,1,1,0] [8,9,10,11,12] 3 5 [1,19] 1 (fun r_=>⟨[(1,.ptr 0 0),(24,.b_ r_)],[.box 54 (.dat (au.lf1 p_e))]⟩) ⟨[(1,.ptr 0 0),(19,.b_ r0)],[.box 54 (.dat (au.lf1 p_e))]⟩ (PI p_e r0).den (sW (by kernel_rfl)) fun r1 _ =>
 .sj Tryz.f39 0 [1,0,0,1,1,0] [13] 3 1 [1,24] 1 (fun r_=>⟨[(1,.ptr 0 0),(11,.b_ r1)],[.box 54 (.dat (au.lf1 p_e))]⟩) ⟨[(1,.ptr 0 0),(24,.b_ r1)],[.box 54 (.dat (au.lf1 p_e))]⟩ (G5 p_e r1).den (sW (by kernel_rfl)) fun r2 _ =>
 .iB (r1) (.ret (bn 1) (1)) <|
 .jp Tryz.f39 0 [1,0,0,1,1,1,1,0] 17 [1] 1 (.normal) (fun r_=>⟨[(1,.ptr 0 0),(25,.b_ r_)],[.box 54 (.dat (au.lf1 p_e))]⟩) ⟨[(1,.ptr 0 0)],[.box 54 (.dat (au.lf1 p_e))]⟩ (G6 p_e).den (jW (by kernel_rfl)) fun r3 _ =>
 .iB (r3) (.ret (bn 1) (9)) <|
 .cl (afR p_e.iE 1 12) fun r4 _ =>
 .iB (r4 != 0) (.ret (bn 1) (r4)) <|
 .jp Tryz.f39 0 [1,1,1,1,0,1] 1 [1,4,44] 1 (.normal) (fun r_=>⟨[(1,.ptr 0 0),(4,.i_ r_)],[.box 54 (.dat (au.lf1 p_e))]⟩) ⟨[(1,.ptr 0 0),(4,.i_ 7),(44,.lf (.bool (p_e.iE.aT == 9)))],[.box 54 (.dat (au.lf1 p_e))]⟩ (G7 p_e).den (jW (by kernel_rfl)) fun r5 _ =>
 .eY (Vl p_e r5 0) (fun o0 h0 =>
 .say [.pt_ 0 [1,4,5] 1 (rE (.inl o0)) (rF (.inl o0))] (ok1 (G9 h0)) <|
 .ret (bn 1) (o0)) fun o1 h0 =>
 .say [.pt_ 0 [1,4,5] 1 (rE (.inr (o1))) (rF (.inr (o1)))] (ok1 (G9 h0)) <|
 .ret (bn 1) (0)
def Q19 (p_e:au) : Option (Int) := Mo.den (afS p_e)
theorem ahr (p_e:au) : FV (Q19 p_e) 39 [.dat (au.lf1 p_e)] (fun r=>.i_ r) := dw Tryz.func39 (by kernel_rfl) (fun _=>rfl) (by kernel_rfl)
end
end Go.Proofs.YtdnafbfmaphhhaaGreatDoor
set_option linter.unusedSimpArgs false
set_option linter.unusedVariables false
namespace Go.Proofs.YtdnafbfmaphhhaaGreatDoor
open Go.RowKit
set_option maxRecDepth 20000
set_option maxHeartbeats 4000000
noncomputable section
def PK (p_m:ak) (p_x:aj) : Mo (Bool) :=
 .iG 4005 (p_x.fTo != p_m.fID) (.rt [2,3,17] 2 (true)) <|
 .rt [2,3,17] 2 (p_x.dB == p_m.fID)
def PL (p_m:ak) (p_x:aj) (r0:Bool) : Mo (Bool) :=
 .iG 4012 (r0) (.rt [2,3,22] 2 (true)) <|
 .rt [2,3,22] 2 (decide ((p_x.dB:Int) < 0))
def He (p_m:ak) (p_x:aj) (r0:Bool) : Mo (Bool) :=
 .iG 4017 (r0) (.ret ⟨[.kill 0],[3,29],[],2⟩ (true)) <|
 .ret ⟨[.kill 0],[3,29],[],2⟩ (decide ((p_m.dJ:Int) ≤ p_x.dB))
def Hf (p_x:aj) (r0:Bool) : Mo (Bool) :=
 .iG 4024 (r0) (.rt [3,34] 2 (true)) <|
 .rt [3,34] 2 (decide ((p_x.bC:Int) < 0))
def Hg (p_x:aj) (r0:Bool) : Mo (Bool) :=
 .iG 4029 (r0) (.rt [3,39] 2 (true)) <|
 .rt [3,39] 2 (decide ((p_x.bG:Int) < 0))
def Ho (p_x:aj) (r0:Bool) : Mo (Bool) :=
 .iG 4034 (r0) (.rt [3,44] 2 (true)) <|
 .rt [3,44] 2 (decide ((16384:Int) < p_x.bG))
def Hq (p_x:aj) (r0:Bool) : Mo (Bool) :=
 .iG 4039 (r0) (.rt [3,49] 2 (true)) <|
 .rt [3,49] 2 (decide ((p_x.aA:Int) < 0))
def Hr (p_x:aj) (r0:Bool) : Mo (Bool) :=
 .iG 4044 (r0) (.rt [3,54] 2 (true)) <|
 .rt [3,54] 2 (decide ((16384:Int) < p_x.aA))
def Ht (p_x:aj) (r0:Bool) : Mo (Bool) :=
 .iG 4049 (r0) (.rt [3,59] 2 (true)) <|
 .rt [3,59] 2 (decide ((p_x.mM:Int) < 0))
def Hu (p_x:aj) (r0:Bool) : Mo (Bool) :=
 .ite (r0) (fun c0 =>
 .say [.gd 4054 true] (ok1 c0) <|
 .rt [3,65] 2 (true)) fun c0 =>
 .say [.gd 4054 false,.num p_x.aW.length] (okc c0 (ok1 (ln_ p_x.aW au.lf))) <|
 .rt [3,65] 2 (decide ((16:Int) < (p_x.aW.length:Int)))
def Hw (p_x:aj) (v0:Int) : Mo (Bool) :=
 .ask (bT p_x.aW v0) fun x0 h0 =>
 .say [] (ok1 (aX au.aU h0)) <|
 .ite (decide ((p_x.bC:Int) < x0.bC)) (fun c0 =>
 .say [.dM (.q 0 (.q 1 (.q 2 (.q 3 (.q 4 (.q 5 (.q 6 (.q 7 (.q 8 (.q 9 (.q 10 (.q 11 (.q 12 (.q 13 (.q 14 (.l 15 (.q 16 (.q 17 .fin)))))))))))))))))) (some 15) [] [.row (au.lf1 x0),.gd 14009 true] [3,5,90] 2 [(3,.ptr 1 0),(5,.i_ v0),(90,.b_ true)] [.dead,.box 63 (.dat (aj.lf1 p_x))]] (okc c0 (ok1 (rf_ ⟨[(3,.ptr 1 0),(5,.i_ v0),(90,.b_ true)],[.dead,.box 63 (.dat (aj.lf1 p_x))]⟩))) <|
 .rt [3,5,90] 2 (true)) fun c0 =>
 .say [] (ok1 c0) <|
 .ask (bT p_x.aW v0) fun x1 h1 =>
 .say [] (ok1 (aX au.aU h1)) <|
 .ask (Q19 x1) fun r0 h2 =>
 .say [.dM (.q 0 (.q 1 (.q 2 (.q 3 (.q 4 (.q 5 (.q 6 (.q 7 (.q 8 (.q 9 (.q 10 (.q 11 (.q 12 (.q 13 (.q 14 (.l 15 (.q 16 (.q 17 .fin)))))))))))))))))) (some 15) [] [.row (au.lf1 x0),.gd 14009 false,.row (au.lf1 x1),.res (.i_ r0)] [3,5,90] 2 [(3,.ptr 1 0),(5,.i_ v0),(90,.lf (.bool (r0 != 0)))] [.dead,.box 63 (.dat (aj.lf1 p_x))]] (okc (ahr _ _ h2) (ok1 (rf_ ⟨[(3,.ptr 1 0),(5,.i_ v0),(90,.lf (.bool (r0 != 0)))],[.dead,.box 63 (.dat (aj.lf1 p_x))]⟩))) <|
 .rt [3,5,90] 2 (r0 != 0)
def zq (p_x:aj) : (Int) → Mo ((Int) ⊕ (Unit ⊕ Unit)) := fun (v0) =>
 .say [.num p_x.aW.length] (ok1 (ln_ p_x.aW au.lf)) <|
 .iB (decide ((v0:Int) < (p_x.aW.length:Int))) (.jp Tryz.f15 0 [1,1,0,1,0,0,1,0,0,0] 19 [3,5] 2 (.normal) (fun r_=>⟨[(3,.ptr 1 0),(5,.i_ v0),(90,.b_ r_)],[.dead,.box 63 (.dat (aj.lf1 p_x))]⟩) ⟨[(3,.ptr 1 0),(5,.i_ v0)],[.dead,.box 63 (.dat (aj.lf1 p_x))]⟩ (Hw p_x v0).den (jW (by kernel_rfl)) fun r0 _ =>
 .iB (r0) (.ret ⟨[.kill 1],[4],[],2⟩ (.inr (.inl ()))) <|
 .rt [3,5] 2 (.inl (IntKind.wrap .i64 (v0 + 1)))) <|
 .ret ⟨[.kill 1],[],[],2⟩ (.inr (.inr (())))
def Jk (p_x:aj) (v0:Int) : Option (Unit ⊕ Unit) := bJ (fun v_=>(zq p_x v_).den) FU (v0)
def Hy (p_x:aj) : (Int) → St := fun (v0)=>⟨[(3,.ptr 1 0),(5,.i_ v0)],[.dead,.box 63 (.dat (aj.lf1 p_x))]⟩
def rG (r_:Unit ⊕ Unit) : Exit := match r_ with
 | .inl o_=>.ret
 | .inr (o_)=>.exit 0
def rH  (r_:Unit ⊕ Unit) : St := match r_ with
 | .inl o_=>⟨[(4,.b_ false)],[.dead,.dead]⟩
 | .inr (o_)=>⟨[],[.dead,.dead]⟩
theorem Hz {p_x:aj} {v0:Int} {r_:Unit ⊕ Unit} (h:Jk p_x v0 = some r_) : gq Tryz.f15 0 [1,1,0,1,0] (rG r_) (rH r_) (Hy p_x (v0)) :=
 dR dL (body := (Code.sub (bodyC Tryz.f15) [1,1,0,1,0,0])) (by kernel_rfl) (zq p_x) (Hy p_x) rG rH (fun r_=>by rcases r_ with _ | _ <;> rfl) (fun v_=>by kernel_rfl) h
def afT (p_m:ak) (p_x:aj) : Mo (Bool) :=
 .sj Tryz.f15 0 [1,0,0] [0,1,2,3,4,5,6,7,8,9,10,11] 1 12 [2,3] 2 (fun r_=>⟨[(2,.ptr 0 0),(3,.ptr 1 0),(17,.b_ r_)],[.box 25 (.dat (ak.lf1 p_m)),.box 63 (.dat (aj.lf1 p_x))]⟩) ⟨[(2,.ptr 0 0),(3,.ptr 1 0)],[.box 25 (.dat (ak.lf1 p_m)),.box 63 (.dat (aj.lf1 p_x))]⟩ (PK p_m p_x).den (sW (by kernel_rfl)) fun r0 _ =>
 .sj Tryz.f15 0 [1,0,0] [12,13,14,15,16] 1 5 [2,3,17] 2 (fun r_=>⟨[(2,.ptr 0 0),(3,.ptr 1 0),(22,.b_ r_)],[.box 25 (.dat (ak.lf1 p_m)),.box 63 (.dat (aj.lf1 p_x))]⟩) ⟨[(2,.ptr 0 0),(3,.ptr 1 0),(17,.b_ r0)],[.box 25 (.dat (ak.lf1 p_m)),.box 63 (.dat (aj.lf1 p_x))]⟩ (PL p_m p_x r0).den (sW (by kernel_rfl)) fun r1 _ =>
 .sj Tryz.f15 0 [1,0,0] [17,18,19,20,21,22,23] 1 7 [2,3,22] 2 (fun r_=>⟨[(3,.ptr 1 0),(29,.b_ r_)],[.dead,.box 63 (.dat (aj.lf1 p_x))]⟩) ⟨[(2,.ptr 0 0),(3,.ptr 1 0),(22,.b_ r1)],[.box 25 (.dat (ak.lf1 p_m)),.box 63 (.dat (aj.lf1 p_x))]⟩ (He p_m p_x r1).den (sW (by kernel_rfl)) fun r2 _ =>
 .sj Tryz.f15 0 [1,0,0] [24,25,26,27,28] 1 5 [3,29] 2 (fun r_=>⟨[(3,.ptr 1 0),(34,.b_ r_)],[.dead,.box 63 (.dat (aj.lf1 p_x))]⟩) ⟨[(3,.ptr 1 0),(29,.b_ r2)],[.dead,.box 63 (.dat (aj.lf1 p_x))]⟩ (Hf p_x r2).den (sW (by kernel_rfl)) fun r3 _ =>
 .sj Tryz.f15 0 [1,0,0] [29,30,31,32,33] 1 5 [3,34] 2 (fun r_=>⟨[(3,.ptr 1 0),(39,.b_ r_)],[.dead,.box 63 (.dat (aj.lf1 p_x))]⟩) ⟨[(3,.ptr 1 0),(34,.b_ r3)],[.dead,.box 63 (.dat (aj.lf1 p_x))]⟩ (Hg p_x r3).den (sW (by kernel_rfl)) fun r4 _ =>
 .sj Tryz.f15 0 [1,0,0] [34,35,36,37,38] 1 5 [3,39] 2 (fun r_=>⟨[(3,.ptr 1 0),(44,.b_ r_)],[.dead,.box 63 (.dat (aj.lf1 p_x))]⟩) ⟨[(3,.ptr 1 0),(39,.b_ r4)],[.dead,.box 63 (.dat (aj.lf1 p_x))]⟩ (Ho p_x r4).den (sW (by kernel_rfl)) fun r5 _ =>
 .sj Tryz.f15 0 [1,0,0] [39,40,41,42,43] 1 5 [3,44] 2 (fun r_=>⟨[(3,.ptr 1 0),(49,.b_ r_)],[.dead,.box 63 (.dat (aj.lf1 p_x))]⟩) ⟨[(3,.ptr 1 0),(44,.b_ r5)],[.dead,.box 63 (.dat (aj.lf1 p_x))]⟩ (Hq p_x r5).den (sW (by kernel_rfl)) fun r6 _ =>
 .sj Tryz.f15 0 [1,0,0] [44,45,46,47,48] 1 5 [3,49] 2 (fun r_=>⟨[(3,.ptr 1 0),(54,.b_ r_)],[.dead,.box 63 (.dat (aj.lf1 p_x))]⟩) ⟨[(3,.ptr 1 0),(49,.b_ r6)],[.dead,.box 63 (.dat (aj.lf1 p_x))]⟩ (Hr p_x r6).den (sW (by kernel_rfl)) fun r7 _ =>
 .sj Tryz.f15 0 [1,0,0] [49,50,51,52,53] 1 5 [3,54] 2 (fun r_=>⟨[(3,.ptr 1 0),(59,.b_ r_)],[.dead,.box 63 (.dat (aj.lf1 p_x))]⟩) ⟨[(3,.ptr 1 0),(54,.b_ r7)],[.dead,.box 63 (.dat (aj.lf1 p_x))]⟩ (Ht p_x r7).den (sW (by kernel_rfl)) fun r8 _ =>
 .sj Tryz.f15 0 [1,0,0] [54,55,56,57,58,59] 1 6 [3,59] 2 (fun r_=>⟨[(3,.ptr 1 0),(65,.b_ r_)],[.dead,.box 63 (.dat (aj.lf1 p_x))]⟩) ⟨[(3,.ptr 1 0),(59,.b_ r8)],[.dead,.box 63 (.dat (aj.lf1 p_x))]⟩ (Hu p_x r8).den (sW (by kernel_rfl)) fun r9 _ =>
 .iB (r9) (.ret (bn 1) (false)) <|
 .eY (Jk p_x 0) (fun o0 h0 =>
 .say [.pt_ 0 [3,5] 2 (rG (.inl o0)) (rH (.inl o0))] (ok1 (Hz h0)) <|
 .ret (bn 1) (false)) fun o1 h0 =>
 .say [.pt_ 0 [3,5] 2 (rG (.inr (o1))) (rH (.inr (o1)))] (ok1 (Hz h0)) <|
 .ret (bn 1) (true)
def Q10 (p_m:ak) (p_x:aj) : Option (Bool) := Mo.den (afT p_m p_x)
theorem ahs (p_m:ak) (p_x:aj) : FV (Q10 p_m p_x) 15 [.dat (ak.lf1 p_m),.dat (aj.lf1 p_x)] (fun r=>.b_ r) := dw Tryz.func15 (by kernel_rfl) (fun _=>rfl) (by kernel_rfl)
def aht (p_id:Int) : Mo (Int) :=
 .ret (bn 1) (IntKind.wrap .i64 (10 + (IntKind.wrap .i64 (3 * p_id))))
def ajU (p_id:Int) : Option (Int) := Mo.den (aht p_id)
theorem adS (p_id:Int) : FV (ajU p_id) 69 [.i_ p_id] (fun r=>.i_ r) := dw Tryz.func69 (by kernel_rfl) (fun _=>rfl) (by kernel_rfl)
def Xp (p_id:Int) (p_size:Int) : Mo (Bool) :=
 .iG 4002 (decide ((p_size:Int) < 1)) (.rt [0,1,4,11] 1 (true)) <|
 .rt [0,1,4,11] 1 (decide ((7:Int) < p_size))
def Xq (p_id:Int) (p_size:Int) (r0:Bool) : Mo (Bool) :=
 .iG 4006 (r0) (.rt [0,1,4,15] 1 (true)) <|
 .rt [0,1,4,15] 1 (decide ((p_id:Int) < 0))
def Sv (p_id:Int) (p_size:Int) (r0:Bool) : Mo (Bool) :=
 .iG 4010 (r0) (.rt [0,1,4,20] 1 (true)) <|
 .rt [0,1,4,20] 1 (decide ((p_size:Int) ≤ p_id))
def ahu (p_id:Int) (p_size:Int) : Mo (ak × Int) :=
 .sj Tryz.f33 0 [1,0,0] [0,1,2,3,4,5] 1 6 [0,1,4] 1 (fun r_=>⟨[(0,.i_ p_id),(1,.i_ p_size),(4,.ptr 0 0),(11,.b_ r_)],[.box 25 (Z25)]⟩) ⟨[(0,.i_ p_id),(1,.i_ p_size),(4,.ptr 0 0)],[.box 25 (Z25)]⟩ (Xp p_id p_size).den (sW (by kernel_rfl)) fun r0 _ =>
 .sj Tryz.f33 0 [1,0,0] [6,7,8,9] 1 4 [0,1,4,11] 1 (fun r_=>⟨[(0,.i_ p_id),(1,.i_ p_size),(4,.ptr 0 0),(15,.b_ r_)],[.box 25 (Z25)]⟩) ⟨[(0,.i_ p_id),(1,.i_ p_size),(4,.ptr 0 0),(11,.b_ r0)],[.box 25 (Z25)]⟩ (Xq p_id p_size r0).den (sW (by kernel_rfl)) fun r1 _ =>
 .sj Tryz.f33 0 [1,0,0] [10,11,12,13,14] 1 5 [0,1,4,15] 1 (fun r_=>⟨[(0,.i_ p_id),(1,.i_ p_size),(4,.ptr 0 0),(20,.b_ r_)],[.box 25 (Z25)]⟩) ⟨[(0,.i_ p_id),(1,.i_ p_size),(4,.ptr 0 0),(15,.b_ r1)],[.box 25 (Z25)]⟩ (Sv p_id p_size r1).den (sW (by kernel_rfl)) fun r2 _ =>
 .iB (r2) (.ret (bn 2) (ak.z,1)) <|
 .cl (adS p_id) fun r3 _ =>
 .ret (bn 2) (ak.Bl (ak.IQ (ak.afd (ak.aiC (ak.sID ak.z p_id) p_size) (-1)) (-1)) r3,0)
def ajV (p_id:Int) (p_size:Int) : Option (ak × Int) := Mo.den (ahu p_id p_size)
theorem adT (p_id:Int) (p_size:Int) : FV (ajV p_id p_size) 33 [.i_ p_id,.i_ p_size] (fun r=>.tup [.dat (ak.lf1 r.1),.i_ r.2]) := dw Tryz.func33 (by kernel_rfl) (fun _=>rfl) (by kernel_rfl)
def ahv (p_term:Int) (p_stamp:Int) : Mo (au) :=
 .ret (bn 1) (au.mk p_term p_stamp ⟨#[]⟩ 0 (aG.kZ aG.z 1))
def ahw (p_term:Int) (p_stamp:Int) : Option (au) := Mo.den (ahv p_term p_stamp)
theorem Jl (p_term:Int) (p_stamp:Int) : FV (ahw p_term p_stamp) 34 [.i_ p_term,.i_ p_stamp] (fun r=>.dat (au.lf1 r)) := dw Tryz.func34 (by kernel_rfl) (fun _=>rfl) (by kernel_rfl)
structure zu where
 m1:(p_v:ah) → Option (ah)
 ok1:∀ p_v,FV (m1 p_v) 209 [.dat (ah.lf1 p_v)] (fun r=>.dat (ah.lf1 r))
 m2:(p_l:List ah) → Option (List ah)
 ok2:∀ p_l,FH (m2 p_l) 252 [.lf (.rows 5 (p_l.map ah.lf)),.raw (.func (.func 209) #[] #[])] [] (fun r=>.lf (.rows 5 (r.map ah.lf))) (fun _=>[])
 m3:(p_l:List aO) → Option (List aO)
 ok3:∀ p_l,FH (m3 p_l) 253 [.lf (.rows 6 (p_l.map aO.lf)),.raw (.func (.func 254) #[] #[])] [] (fun r=>.lf (.rows 6 (r.map aO.lf))) (fun _=>[])
 m4:(p_f:aO) → Option (aO)
 ok4:∀ p_f,FV (m4 p_f) 254 [.dat (aO.lf1 p_f)] (fun r=>.dat (aO.lf1 r))
def aaH (R_:zu) (p_v:ah) : Mo (ah) :=
 .cH [] (R_.ok2 p_v.bV) fun r0 _ =>
 .cH [] (R_.ok3 p_v.bU) fun r1 _ =>
 .ret (bn 1) (ah.mk p_v.aT p_v.jK p_v.fText r0 r1)
theorem adU (R_:zu) (p_v:ah) : FV (Mo.den (aaH R_ p_v)) 209 [.dat (ah.lf1 p_v)] (fun r=>.dat (ah.lf1 r)) := dw Tryz.func209 (by kernel_rfl) (fun _=>rfl) (by kernel_rfl)
def PN (R_:zu) (p_l:List ah) : (Int × (List ah)) → Mo ((Int × (List ah)) ⊕ ((List ah))) := fun (v0,l0) =>
 .iB (decide ((v0:Int) < (p_l.length:Int))) (.ask (bT p_l v0) fun x0 h0 =>
 .say [.row (ah.lf1 x0)] (ok1 (aX ah.aU h0)) <|
 .cl (R_.ok1 x0) fun r0 _ =>
 .ask (bT l0 v0) fun x1 h1 =>
 .say [.row (ah.lf1 x1),.rows ((l0.set v0.toNat r0).map ah.lf)] (okc (bZ ah.aU h1) (okc (st_ ah.aU l0 v0.toNat r0) (ok1 ((aX ah.aU h1).2)))) <|
 .rt [1,5,14,15,16] 1 (.inl (IntKind.wrap .i64 (v0 + 1),l0.set v0.toNat r0))) <|
 .rt [5] 1 (.inr (l0))
def aaI (R_:zu) (p_l:List ah) (v0:Int) (l0:List ah) : Option (((List ah))) := bJ (fun v_=>(PN R_ p_l v_).den) FU (v0,l0)
def aaJ (R_:zu) (p_l:List ah) : Mo (List ah) :=
 .say [.num p_l.length] (ok1 (ln_ p_l ah.lf)) <|
 .ite ((p_l.length:Int) == 0) (fun c0 =>
 .say [.br true] (ok1 c0) <|
 .ret ⟨[.nil 0 5,.tod 0],[0],[],0⟩ ([])) fun c0 =>
 .say [.br false,.num p_l.length,.rows ((List.replicate (p_l.length:Int).toNat (ah.mk 0 0 ⟨#[]⟩ [] [])).map ah.lf),.num p_l.length] (okc c0 (okc (ln_ p_l ah.lf) (ok1 (rp_ ah.aU (p_l.length:Int).toNat (ah.mk 0 0 ⟨#[]⟩ [] []))))) <|
 .grd ((0:Int) ≤ (p_l.length:Int) ∧ 80 * (p_l.length:Int).toNat ≤ 281474976710656 ∧ (p_l.length:Int).toNat ≤ maxLen) fun h0 =>
 .say [] (okc (mk_ (p_l.length:Int) h0) (ok1 (ln_ p_l ah.lf))) <|
 .lp Tryz.f252 0 [1,1,1,0,1,0] 0 [1,5,14,15,16] 1 (.exit 0) (fun r_=>⟨[(5,.own 0)],[.row 29 5 (r_.map ah.lf)]⟩) (aaI R_ p_l 0 (List.replicate (p_l.length:Int).toNat (ah.mk 0 0 ⟨#[]⟩ [] []))) (lW (fun (v0,l0)=>⟨[(1,.raw (.func (.func 209) #[] #[])),(5,.own 0),(14,.lf (.rows 5 (p_l.map ah.lf))),(15,.i_ (p_l.length:Int)),(16,.i_ v0)],[.row 29 5 (l0.map ah.lf)]⟩) (by kernel_rfl) rfl fun v_=>by kernel_rfl) fun r0 _ =>
 .ret ⟨[.frz 0],[0],[],0⟩ (r0)
theorem adV (R_:zu) (p_l:List ah) : FH (Mo.den (aaJ R_ p_l)) 252 [.lf (.rows 5 (p_l.map ah.lf)),.raw (.func (.func 209) #[] #[])] [] (fun r=>.lf (.rows 5 (r.map ah.lf))) (fun _=>[]) := gV Tryz.func252 (by kernel_rfl) (fun _=>rfl) (by kernel_rfl)
def PO (R_:zu) (p_l:List aO) : (Int × (List aO)) → Mo ((Int × (List aO)) ⊕ ((List aO))) := fun (v0,l0) =>
 .iB (decide ((v0:Int) < (p_l.length:Int))) (.ask (bT p_l v0) fun x0 h0 =>
 .say [.row (aO.lf1 x0)] (ok1 (aX aO.aU h0)) <|
 .cl (R_.ok4 x0) fun r0 _ =>
 .ask (bT l0 v0) fun x1 h1 =>
 .say [.row (aO.lf1 x1),.rows ((l0.set v0.toNat r0).map aO.lf)] (okc (bZ aO.aU h1) (okc (st_ aO.aU l0 v0.toNat r0) (ok1 ((aX aO.aU h1).2)))) <|
 .rt [1,5,14,15,16] 1 (.inl (IntKind.wrap .i64 (v0 + 1),l0.set v0.toNat r0))) <|
 .rt [5] 1 (.inr (l0))
def aaK (R_:zu) (p_l:List aO) (v0:Int) (l0:List aO) : Option (((List aO))) := bJ (fun v_=>(PO R_ p_l v_).den) FU (v0,l0)
def aaL (R_:zu) (p_l:List aO) : Mo (List aO) :=
 .say [.num p_l.length] (ok1 (ln_ p_l aO.lf)) <|
 .ite ((p_l.length:Int) == 0) (fun c0 =>
 .say [.br true] (ok1 c0) <|
 .ret ⟨[.nil 0 6,.tod 0],[0],[],0⟩ ([])) fun c0 =>
 .say [.br false,.num p_l.length,.rows ((List.replicate (p_l.length:Int).toNat (aO.mk ⟨#[]⟩ (ah.mk 0 0 ⟨#[]⟩ [] []))).map aO.lf),.num p_l.length] (okc c0 (okc (ln_ p_l aO.lf) (ok1 (rp_ aO.aU (p_l.length:Int).toNat (aO.mk ⟨#[]⟩ (ah.mk 0 0 ⟨#[]⟩ [] [])))))) <|
 .grd ((0:Int) ≤ (p_l.length:Int) ∧ 96 * (p_l.length:Int).toNat ≤ 281474976710656 ∧ (p_l.length:Int).toNat ≤ maxLen) fun h0 =>
 .say [] (okc (mk_ (p_l.length:Int) h0) (ok1 (ln_ p_l aO.lf))) <|
 .lp Tryz.f253 0 [1,1,1,0,1,0] 0 [1,5,14,15,16] 1 (.exit 0) (fun r_=>⟨[(5,.own 0)],[.row 174 6 (r_.map aO.lf)]⟩) (aaK R_ p_l 0 (List.replicate (p_l.length:Int).toNat (aO.mk ⟨#[]⟩ (ah.mk 0 0 ⟨#[]⟩ [] [])))) (lW (fun (v0,l0)=>⟨[(1,.raw (.func (.func 254) #[] #[])),(5,.own 0),(14,.lf (.rows 6 (p_l.map aO.lf))),(15,.i_ (p_l.length:Int)),(16,.i_ v0)],[.row 174 6 (l0.map aO.lf)]⟩) (by kernel_rfl) rfl fun v_=>by kernel_rfl) fun r0 _ =>
 .ret ⟨[.frz 0],[0],[],0⟩ (r0)
theorem adW (R_:zu) (p_l:List aO) : FH (Mo.den (aaL R_ p_l)) 253 [.lf (.rows 6 (p_l.map aO.lf)),.raw (.func (.func 254) #[] #[])] [] (fun r=>.lf (.rows 6 (r.map aO.lf))) (fun _=>[]) := gV Tryz.func253 (by kernel_rfl) (fun _=>rfl) (by kernel_rfl)
def Sz (R_:zu) (p_f:aO) : Mo (aO) :=
 .say [.order [(true,0),(true,1),(true,2),(true,3),(false,4),(true,5),(false,6)] (some 6) []] ok0 <|
 .cl (R_.ok1 p_f.fValue) fun r0 _ =>
 .ret (bn 1) (aO.mk p_f.fName r0)
theorem aaM (R_:zu) (p_f:aO) : FV (Mo.den (Sz R_ p_f)) 254 [.dat (aO.lf1 p_f)] (fun r=>.dat (aO.lf1 r)) := dw Tryz.func254 (by kernel_rfl) (fun _=>rfl) (by kernel_rfl)
def iC:Nat → zu
 | 0=>{ m1 := fun p_v=>none,ok1 := fun _ _ h=>(by cases h),m2 := fun p_l=>none,ok2 := fun _ _ h=>(by cases h),m3 := fun p_l=>none,ok3 := fun _ _ h=>(by cases h),m4 := fun p_f=>none,ok4 := fun _ _ h=>(by cases h) }
 | n_ + 1=>{ m1 := fun p_v=>Mo.den (aaH (iC n_) p_v),ok1 := fun p_v r h=>adU (iC n_) p_v r h,m2 := fun p_l=>Mo.den (aaJ (iC n_) p_l),ok2 := fun p_l r h=>adV (iC n_) p_l r h,m3 := fun p_l=>Mo.den (aaL (iC n_) p_l),ok3 := fun p_l r h=>adW (iC n_) p_l r h,m4 := fun p_f=>Mo.den (Sz (iC n_) p_f),ok4 := aaM (iC n_) }
def Q81 (p_v:ah) : Option (ah) := (iC FU).m1 p_v
theorem tN (p_v:ah) : FV (Q81 p_v) 209 [.dat (ah.lf1 p_v)] (fun r=>.dat (ah.lf1 r)) := (iC FU).ok1 p_v
def Q57 (p_l:List ah) : Option (List ah) := (iC FU).m2 p_l
theorem aaN (p_l:List ah) : FH (Q57 p_l) 252 [.lf (.rows 5 (p_l.map ah.lf)),.raw (.func (.func 209) #[] #[])] [] (fun r=>.lf (.rows 5 (r.map ah.lf))) (fun _=>[]) := (iC FU).ok2 p_l
def aaO (p_l:List ByteArray) : Mo (List ByteArray) :=
 .say [.rows (p_l.map lfS),.at_ 0 0,.frz 0] (ok1 (by simp [lfS] : p_l.map lfS = [] ++ (p_l.map lfS))) <|
 .grd ((([] : List ByteArray).length + p_l.length) * 16 ≤ 140737488355328) fun h0 =>
 .say [] (ok1 (cq_ lfS h0)) <|
 .ret (bn 1) (p_l)
def ahx (p_l:List ByteArray) : Option (List ByteArray) := Mo.den (aaO p_l)
theorem xM (p_l:List ByteArray) : FV (ahx p_l) 299 [.lf (.rows 1 (p_l.map lfS))] (fun r=>.lf (.rows 1 (r.map lfS))) := dw Tryz.func299 (by kernel_rfl) (fun _=>rfl) (by kernel_rfl)
def aaP (p_o:aY) : Mo (aY) :=
 .cl (xM p_o.cO) fun r0 _ =>
 .ret (bn 1) (aY.mk r0 p_o.Fj)
def adX (p_o:aY) : Option (aY) := Mo.den (aaP p_o)
theorem adY (p_o:aY) : FV (adX p_o) 258 [.dat (aY.lf1 p_o)] (fun r=>.dat (aY.lf1 r)) := dw Tryz.func258 (by kernel_rfl) (fun _=>rfl) (by kernel_rfl)
def PS (p_l:List aY) : (Int × (List aY)) → Mo ((Int × (List aY)) ⊕ ((List aY))) := fun (v0,l0) =>
 .iB (decide ((v0:Int) < (p_l.length:Int))) (.ask (bT p_l v0) fun x0 h0 =>
 .say [.row (aY.lf1 x0)] (ok1 (aX aY.aU h0)) <|
 .cl (adY x0) fun r0 _ =>
 .ask (bT l0 v0) fun x1 h1 =>
 .say [.row (aY.lf1 x1),.rows ((l0.set v0.toNat r0).map aY.lf)] (okc (bZ aY.aU h1) (okc (st_ aY.aU l0 v0.toNat r0) (ok1 ((aX aY.aU h1).2)))) <|
 .rt [1,5,14,15,16] 1 (.inl (IntKind.wrap .i64 (v0 + 1),l0.set v0.toNat r0))) <|
 .rt [5] 1 (.inr (l0))
def aaQ (p_l:List aY) (v0:Int) (l0:List aY) : Option (((List aY))) := bJ (fun v_=>(PS p_l v_).den) FU (v0,l0)
def afU (p_l:List aY) : Mo (List aY) :=
 .say [.num p_l.length] (ok1 (ln_ p_l aY.lf)) <|
 .ite ((p_l.length:Int) == 0) (fun c0 =>
 .say [.br true] (okc c0 (ok1 (by simp [aY.aU] : (([] : List aY).map aY.lf) = []))) <|
 .ret ⟨[.Ep 0 152 2,.kF 0 (([] : List aY).map aY.lf),.mvn 0],[0],[(1,0)],1⟩ (([] : List aY))) fun c0 =>
 .say [.br false,.num p_l.length,.rows ((List.replicate (p_l.length:Int).toNat (aY.mk [] false)).map aY.lf),.num p_l.length] (okc c0 (okc (ln_ p_l aY.lf) (ok1 (rp_ aY.aU (p_l.length:Int).toNat (aY.mk [] false))))) <|
 .grd ((0:Int) ≤ (p_l.length:Int) ∧ 32 * (p_l.length:Int).toNat ≤ 281474976710656 ∧ (p_l.length:Int).toNat ≤ maxLen) fun h0 =>
 .say [] (okc (mk_ (p_l.length:Int) h0) (ok1 (ln_ p_l aY.lf))) <|
 .lp Tryz.f257 0 [1,1,1,0,1,0] 0 [1,5,14,15,16] 1 (.exit 0) (fun r_=>⟨[(5,.own 0)],[.row 152 2 (r_.map aY.lf)]⟩) (aaQ p_l 0 (List.replicate (p_l.length:Int).toNat (aY.mk [] false))) (lW (fun (v0,l0)=>⟨[(1,.raw (.func (.func 258) #[] #[])),(5,.own 0),(14,.lf (.rows 2 (p_l.map aY.lf))),(15,.i_ (p_l.length:Int)),(16,.i_ v0)],[.row 152 2 (l0.map aY.lf)]⟩) (by kernel_rfl) rfl fun v_=>by kernel_rfl) fun r0 _ =>
 .ret ⟨[.mvn 0],[0],[(1,0)],1⟩ (r0)
def Q72 (p_l:List aY) : Option (List aY) := Mo.den (afU p_l)
theorem ahy (p_l:List aY) : FH (Q72 p_l) 257 [.lf (.rows 2 (p_l.map aY.lf)),.raw (.func (.func 258) #[] #[])] [] (fun _=>.own 0) (fun r=>[.row 152 2 (r.map aY.lf)]) := gV Tryz.func257 (by kernel_rfl) (fun _=>rfl) (by kernel_rfl)
structure SA where
 m1:(p_e:aC) → Option (aC)
 ok1:∀ p_e,FV (m1 p_e) 303 [.dat (aC.lf1 p_e)] (fun r=>.dat (aC.lf1 r))
 m2:(p_l:List aC) → Option (List aC)
 ok2:∀ p_l,FH (m2 p_l) 320 [.lf (.rows 11 (p_l.map aC.lf)),.raw (.func (.func 303) #[] #[])] [] (fun r=>.lf (.rows 11 (r.map aC.lf))) (fun _=>[])
def SB (R_:SA) (p_e:aC) : Mo (aC) :=
 .cl (xM p_e.cO) fun r0 _ =>
 .cl (xM p_e.bP) fun r1 _ =>
 .cl (tN p_e.fArg) fun r2 _ =>
 .cH [] (R_.ok2 p_e.aZ) fun r3 _ =>
 .ret (bn 1) (aC.mk p_e.fOp r0 p_e.fName r1 r2 p_e.fN r3)
theorem aaR (R_:SA) (p_e:aC) : FV (Mo.den (SB R_ p_e)) 303 [.dat (aC.lf1 p_e)] (fun r=>.dat (aC.lf1 r)) := dw Tryz.func303 (by kernel_rfl) (fun _=>rfl) (by kernel_rfl)
def PU (R_:SA) (p_l:List aC) : (Int × (List aC)) → Mo ((Int × (List aC)) ⊕ ((List aC))) := fun (v0,l0) =>
 .iB (decide ((v0:Int) < (p_l.length:Int))) (.ask (bT p_l v0) fun x0 h0 =>
 .say [.row (aC.lf1 x0)] (ok1 (aX aC.aU h0)) <|
 .cl (R_.ok1 x0) fun r0 _ =>
 .ask (bT l0 v0) fun x1 h1 =>
 .say [.row (aC.lf1 x1),.rows ((l0.set v0.toNat r0).map aC.lf)] (okc (bZ aC.aU h1) (okc (st_ aC.aU l0 v0.toNat r0) (ok1 ((aX aC.aU h1).2)))) <|
 .rt [1,5,14,15,16] 1 (.inl (IntKind.wrap .i64 (v0 + 1),l0.set v0.toNat r0))) <|
 .rt [5] 1 (.inr (l0))
def aaS (R_:SA) (p_l:List aC) (v0:Int) (l0:List aC) : Option (((List aC))) := bJ (fun v_=>(PU R_ p_l v_).den) FU (v0,l0)
def aaT (R_:SA) (p_l:List aC) : Mo (List aC) :=
 .say [.num p_l.length] (ok1 (ln_ p_l aC.lf)) <|
 .ite ((p_l.length:Int) == 0) (fun c0 =>
 .say [.br true] (ok1 c0) <|
 .ret ⟨[.nil 0 11,.tod 0],[0],[],0⟩ ([])) fun c0 =>
 .say [.br false,.num p_l.length,.rows ((List.replicate (p_l.length:Int).toNat aC.z).map aC.lf),.num p_l.length] (okc c0 (okc (ln_ p_l aC.lf) (ok1 (rp_ aC.aU (p_l.length:Int).toNat aC.z)))) <|
 .grd ((0:Int) ≤ (p_l.length:Int) ∧ 184 * (p_l.length:Int).toNat ≤ 281474976710656 ∧ (p_l.length:Int).toNat ≤ maxLen) fun h0 =>
 .say [] (okc (mk_ (p_l.length:Int) h0) (ok1 (ln_ p_l aC.lf))) <|
 .lp Tryz.f320 0 [1,1,1,0,1,0] 0 [1,5,14,15,16] 1 (.exit 0) (fun r_=>⟨[(5,.own 0)],[.row 44 11 (r_.map aC.lf)]⟩) (aaS R_ p_l 0 (List.replicate (p_l.length:Int).toNat aC.z)) (lW (fun (v0,l0)=>⟨[(1,.raw (.func (.func 303) #[] #[])),(5,.own 0),(14,.lf (.rows 11 (p_l.map aC.lf))),(15,.i_ (p_l.length:Int)),(16,.i_ v0)],[.row 44 11 (l0.map aC.lf)]⟩) (by kernel_rfl) rfl fun v_=>by kernel_rfl) fun r0 _ =>
 .ret ⟨[.frz 0],[0],[],0⟩ (r0)
theorem adZ (R_:SA) (p_l:List aC) : FH (Mo.den (aaT R_ p_l)) 320 [.lf (.rows 11 (p_l.map aC.lf)),.raw (.func (.func 303) #[] #[])] [] (fun r=>.lf (.rows 11 (r.map aC.lf))) (fun _=>[]) := gV Tryz.func320 (by kernel_rfl) (fun _=>rfl) (by kernel_rfl)
def lI:Nat → SA
 | 0=>{ m1 := fun p_e=>none,ok1 := fun _ _ h=>(by cases h),m2 := fun p_l=>none,ok2 := fun _ _ h=>(by cases h) }
 | n_ + 1=>{ m1 := fun p_e=>Mo.den (SB (lI n_) p_e),ok1 := fun p_e r h=>aaR (lI n_) p_e r h,m2 := fun p_l=>Mo.den (aaT (lI n_) p_l),ok2 := adZ (lI n_) }
def aja (p_e:aC) : Option (aC) := (lI FU).m1 p_e
theorem ad1 (p_e:aC) : FV (aja p_e) 303 [.dat (aC.lf1 p_e)] (fun r=>.dat (aC.lf1 r)) := (lI FU).ok1 p_e
structure SC where
 m1:(p_p:aH) → Option (aH)
 ok1:∀ p_p,FV (m1 p_p) 259 [.dat (aH.lf1 p_p)] (fun r=>.dat (aH.lf1 r))
 m2:(p_l:List aH) → Option (List aH)
 ok2:∀ p_l,FH (m2 p_l) 304 [.lf (.rows 25 (p_l.map aH.lf)),.raw (.func (.func 259) #[] #[])] [] (fun r=>.lf (.rows 25 (r.map aH.lf))) (fun _=>[])
def SE (R_:SC) (p_p:aH) : Mo (aH) :=
 .cl (xM p_p.cO) fun r0 _ =>
 .cl (tN p_p.fArg) fun r1 _ =>
 .ask (Q57 p_p.fArgs) fun r2 h0 =>
 .say [.jd [] (.lf (.rows 5 (r2.map ah.lf))) [],.rows (p_p.eF.bW.map dF.lf)] (okc (aaN _ _ h0) (ok1 (by simp [dF.aU] : p_p.eF.bW.map dF.lf = [] ++ (p_p.eF.bW.map dF.lf)))) <|
 .grd ((([] : List dF).length + p_p.eF.bW.length) * 16 ≤ 140737488355328) fun h1 =>
 .say [] (ok1 (cq_ dF.lf h1)) <|
 .cl (ad1 p_p.fExpr) fun r3 _ =>
 .ask (R_.m2 p_p.aZ) fun r4 h2 =>
 .say [.jd [] (.lf (.rows 25 (r4.map aH.lf))) [],.at_ 0 0,.frz 2] (ok1 (R_.ok2 _ _ h2)) <|
 .ret (bn 1) (aH.mk p_p.fOp r0 r1 r2 p_p.fN p_p.fM p_p.eF r3 r4)
theorem aaU (R_:SC) (p_p:aH) : FV (Mo.den (SE R_ p_p)) 259 [.dat (aH.lf1 p_p)] (fun r=>.dat (aH.lf1 r)) := dw Tryz.func259 (by kernel_rfl) (fun _=>rfl) (by kernel_rfl)
def PV (R_:SC) (p_l:List aH) : (Int × (List aH)) → Mo ((Int × (List aH)) ⊕ ((List aH))) := fun (v0,l0) =>
 .iB (decide ((v0:Int) < (p_l.length:Int))) (.ask (bT p_l v0) fun x0 h0 =>
 .say [.row (aH.lf1 x0)] (ok1 (aX aH.aU h0)) <|
 .cl (R_.ok1 x0) fun r0 _ =>
 .ask (bT l0 v0) fun x1 h1 =>
 .say [.row (aH.lf1 x1),.rows ((l0.set v0.toNat r0).map aH.lf)] (okc (bZ aH.aU h1) (okc (st_ aH.aU l0 v0.toNat r0) (ok1 ((aX aH.aU h1).2)))) <|
 .rt [1,5,14,15,16] 1 (.inl (IntKind.wrap .i64 (v0 + 1),l0.set v0.toNat r0))) <|
 .rt [5] 1 (.inr (l0))
def aaV (R_:SC) (p_l:List aH) (v0:Int) (l0:List aH) : Option (((List aH))) := bJ (fun v_=>(PV R_ p_l v_).den) FU (v0,l0)
def aaW (R_:SC) (p_l:List aH) : Mo (List aH) :=
 .say [.num p_l.length] (ok1 (ln_ p_l aH.lf)) <|
 .ite ((p_l.length:Int) == 0) (fun c0 =>
 .say [.br true] (ok1 c0) <|
 .ret ⟨[.nil 0 25,.tod 0],[0],[],0⟩ ([])) fun c0 =>
 .say [.br false,.num p_l.length,.rows ((List.replicate (p_l.length:Int).toNat aH.z).map aH.lf),.num p_l.length] (okc c0 (okc (ln_ p_l aH.lf) (ok1 (rp_ aH.aU (p_l.length:Int).toNat aH.z)))) <|
 .grd ((0:Int) ≤ (p_l.length:Int) ∧ 400 * (p_l.length:Int).toNat ≤ 281474976710656 ∧ (p_l.length:Int).toNat ≤ maxLen) fun h0 =>
 .say [] (okc (mk_ (p_l.length:Int) h0) (ok1 (ln_ p_l aH.lf))) <|
 .lp Tryz.f304 0 [1,1,1,0,1,0] 0 [1,5,14,15,16] 1 (.exit 0) (fun r_=>⟨[(5,.own 0)],[.row 47 25 (r_.map aH.lf)]⟩) (aaV R_ p_l 0 (List.replicate (p_l.length:Int).toNat aH.z)) (lW (fun (v0,l0)=>⟨[(1,.raw (.func (.func 259) #[] #[])),(5,.own 0),(14,.lf (.rows 25 (p_l.map aH.lf))),(15,.i_ (p_l.length:Int)),(16,.i_ v0)],[.row 47 25 (l0.map aH.lf)]⟩) (by kernel_rfl) rfl fun v_=>by kernel_rfl) fun r0 _ =>
 .ret ⟨[.frz 0],[0],[],0⟩ (r0)
theorem ad2 (R_:SC) (p_l:List aH) : FH (Mo.den (aaW R_ p_l)) 304 [.lf (.rows 25 (p_l.map aH.lf)),.raw (.func (.func 259) #[] #[])] [] (fun r=>.lf (.rows 25 (r.map aH.lf))) (fun _=>[]) := gV Tryz.func304 (by kernel_rfl) (fun _=>rfl) (by kernel_rfl)
def lJ:Nat → SC
 | 0=>{ m1 := fun p_p=>none,ok1 := fun _ _ h=>(by cases h),m2 := fun p_l=>none,ok2 := fun _ _ h=>(by cases h) }
 | n_ + 1=>{ m1 := fun p_p=>Mo.den (SE (lJ n_) p_p),ok1 := fun p_p r h=>aaU (lJ n_) p_p r h,m2 := fun p_l=>Mo.den (aaW (lJ n_) p_l),ok2 := ad2 (lJ n_) }
def ahz (p_p:aH) : Option (aH) := (lJ FU).m1 p_p
theorem ad3 (p_p:aH) : FV (ahz p_p) 259 [.dat (aH.lf1 p_p)] (fun r=>.dat (aH.lf1 r)) := (lJ FU).ok1 p_p
def aaX (p_x:aS) : Mo (aS) :=
 .cH [] (ahy p_x.gy) fun r0 _ =>
 .ask (ahz p_x.iU) fun r1 h0 =>
 .say [.res (.dat (aH.lf1 r1)),.at_ 0 0,.frz 2] (ok1 (ad3 _ _ h0)) <|
 .ret (bn 1) (aS.YI (aS.afc p_x r0) r1)
def ad4 (p_x:aS) : Option (aS) := Mo.den (aaX p_x)
theorem Vm (p_x:aS) : FV (ad4 p_x) 211 [.dat (aS.lf1 p_x)] (fun r=>.dat (aS.lf1 r)) := dw Tryz.func211 (by kernel_rfl) (fun _=>rfl) (by kernel_rfl)
def PW (p_l:List aS) : (Int × (List aS)) → Mo ((Int × (List aS)) ⊕ ((List aS))) := fun (v0,l0) =>
 .iB (decide ((v0:Int) < (p_l.length:Int))) (.ask (bT p_l v0) fun x0 h0 =>
 .say [.row (aS.lf1 x0)] (ok1 (aX aS.aU h0)) <|
 .cl (Vm x0) fun r0 _ =>
 .ask (bT l0 v0) fun x1 h1 =>
 .say [.row (aS.lf1 x1),.rows ((l0.set v0.toNat r0).map aS.lf)] (okc (bZ aS.aU h1) (okc (st_ aS.aU l0 v0.toNat r0) (ok1 ((aX aS.aU h1).2)))) <|
 .rt [1,5,14,15,16] 1 (.inl (IntKind.wrap .i64 (v0 + 1),l0.set v0.toNat r0))) <|
 .rt [5] 1 (.inr (l0))
def aaY (p_l:List aS) (v0:Int) (l0:List aS) : Option (((List aS))) := bJ (fun v_=>(PW p_l v_).den) FU (v0,l0)
def afV (p_l:List aS) : Mo (List aS) :=
 .say [.num p_l.length] (ok1 (ln_ p_l aS.lf)) <|
 .ite ((p_l.length:Int) == 0) (fun c0 =>
 .say [.br true] (okc c0 (ok1 (by simp [aS.aU] : (([] : List aS).map aS.lf) = []))) <|
 .ret ⟨[.Ep 0 49 31,.kF 0 (([] : List aS).map aS.lf),.mvn 0],[0],[(1,0)],1⟩ (([] : List aS))) fun c0 =>
 .say [.br false,.num p_l.length,.rows ((List.replicate (p_l.length:Int).toNat aS.z).map aS.lf),.num p_l.length] (okc c0 (okc (ln_ p_l aS.lf) (ok1 (rp_ aS.aU (p_l.length:Int).toNat aS.z)))) <|
 .grd ((0:Int) ≤ (p_l.length:Int) ∧ 456 * (p_l.length:Int).toNat ≤ 281474976710656 ∧ (p_l.length:Int).toNat ≤ maxLen) fun h0 =>
 .say [] (okc (mk_ (p_l.length:Int) h0) (ok1 (ln_ p_l aS.lf))) <|
 .lp Tryz.f255 0 [1,1,1,0,1,0] 0 [1,5,14,15,16] 1 (.exit 0) (fun r_=>⟨[(5,.own 0)],[.row 49 31 (r_.map aS.lf)]⟩) (aaY p_l 0 (List.replicate (p_l.length:Int).toNat aS.z)) (lW (fun (v0,l0)=>⟨[(1,.raw (.func (.func 211) #[] #[])),(5,.own 0),(14,.lf (.rows 31 (p_l.map aS.lf))),(15,.i_ (p_l.length:Int)),(16,.i_ v0)],[.row 49 31 (l0.map aS.lf)]⟩) (by kernel_rfl) rfl fun v_=>by kernel_rfl) fun r0 _ =>
 .ret ⟨[.mvn 0],[0],[(1,0)],1⟩ (r0)
def Q73 (p_l:List aS) : Option (List aS) := Mo.den (afV p_l)
theorem ahA (p_l:List aS) : FH (Q73 p_l) 255 [.lf (.rows 31 (p_l.map aS.lf)),.raw (.func (.func 211) #[] #[])] [] (fun _=>.own 0) (fun r=>[.row 49 31 (r.map aS.lf)]) := gV Tryz.func255 (by kernel_rfl) (fun _=>rfl) (by kernel_rfl)
structure zx where
 m1:(p_s:aB) → Option (aB)
 ok1:∀ p_s,FV (m1 p_s) 256 [.dat (aB.lf1 p_s)] (fun r=>.dat (aB.lf1 r))
 m2:(p_l:List bF) → Option (List bF)
 ok2:∀ p_l,FH (m2 p_l) 300 [.lf (.rows 22 (p_l.map bF.lf)),.raw (.func (.func 301) #[] #[])] [] (fun r=>.lf (.rows 22 (r.map bF.lf))) (fun _=>[])
 m3:(p_l:List aB) → Option (List aB)
 ok3:∀ p_l,FH (m3 p_l) 302 [.lf (.rows 21 (p_l.map aB.lf)),.raw (.func (.func 256) #[] #[])] [] (fun r=>.lf (.rows 21 (r.map aB.lf))) (fun _=>[])
 m4:(p_p:bF) → Option (bF)
 ok4:∀ p_p,FV (m4 p_p) 301 [.dat (bF.lf1 p_p)] (fun r=>.dat (bF.lf1 r))
def SG (R_:zx) (p_s:aB) : Mo (aB) :=
 .cl (tN p_s.rU) fun r0 _ =>
 .cl (tN p_s.rV) fun r1 _ =>
 .cH [] (aaN p_s.jU) fun r2 _ =>
 .cl (xM p_s.gB) fun r3 _ =>
 .cH [] (R_.ok2 p_s.dN) fun r4 _ =>
 .cH [] (R_.ok3 p_s.fG) fun r5 _ =>
 .ret (bn 1) (aB.mk p_s.jT p_s.kR r0 p_s.kS r1 r2 p_s.kT p_s.kU r3 r4 p_s.nG r5 p_s.iQ)
theorem aaZ (R_:zx) (p_s:aB) : FV (Mo.den (SG R_ p_s)) 256 [.dat (aB.lf1 p_s)] (fun r=>.dat (aB.lf1 r)) := dw Tryz.func256 (by kernel_rfl) (fun _=>rfl) (by kernel_rfl)
def PX (R_:zx) (p_l:List bF) : (Int × (List bF)) → Mo ((Int × (List bF)) ⊕ ((List bF))) := fun (v0,l0) =>
 .iB (decide ((v0:Int) < (p_l.length:Int))) (.ask (bT p_l v0) fun x0 h0 =>
 .say [.row (bF.lf1 x0)] (ok1 (aX bF.aU h0)) <|
 .cl (R_.ok4 x0) fun r0 _ =>
 .ask (bT l0 v0) fun x1 h1 =>
 .say [.row (bF.lf1 x1),.rows ((l0.set v0.toNat r0).map bF.lf)] (okc (bZ bF.aU h1) (okc (st_ bF.aU l0 v0.toNat r0) (ok1 ((aX bF.aU h1).2)))) <|
 .rt [1,5,14,15,16] 1 (.inl (IntKind.wrap .i64 (v0 + 1),l0.set v0.toNat r0))) <|
 .rt [5] 1 (.inr (l0))
def aa0 (R_:zx) (p_l:List bF) (v0:Int) (l0:List bF) : Option (((List bF))) := bJ (fun v_=>(PX R_ p_l v_).den) FU (v0,l0)
def aa1 (R_:zx) (p_l:List bF) : Mo (List bF) :=
 .say [.num p_l.length] (ok1 (ln_ p_l bF.lf)) <|
 .ite ((p_l.length:Int) == 0) (fun c0 =>
 .say [.br true] (ok1 c0) <|
 .ret ⟨[.nil 0 22,.tod 0],[0],[],0⟩ ([])) fun c0 =>
 .say [.br false,.num p_l.length,.rows ((List.replicate (p_l.length:Int).toNat (bF.mk ⟨#[]⟩ aB.z)).map bF.lf),.num p_l.length] (okc c0 (okc (ln_ p_l bF.lf) (ok1 (rp_ bF.aU (p_l.length:Int).toNat (bF.mk ⟨#[]⟩ aB.z))))) <|
 .grd ((0:Int) ≤ (p_l.length:Int) ∧ 328 * (p_l.length:Int).toNat ≤ 281474976710656 ∧ (p_l.length:Int).toNat ≤ maxLen) fun h0 =>
 .say [] (okc (mk_ (p_l.length:Int) h0) (ok1 (ln_ p_l bF.lf))) <|
 .lp Tryz.f300 0 [1,1,1,0,1,0] 0 [1,5,14,15,16] 1 (.exit 0) (fun r_=>⟨[(5,.own 0)],[.row 217 22 (r_.map bF.lf)]⟩) (aa0 R_ p_l 0 (List.replicate (p_l.length:Int).toNat (bF.mk ⟨#[]⟩ aB.z))) (lW (fun (v0,l0)=>⟨[(1,.raw (.func (.func 301) #[] #[])),(5,.own 0),(14,.lf (.rows 22 (p_l.map bF.lf))),(15,.i_ (p_l.length:Int)),(16,.i_ v0)],[.row 217 22 (l0.map bF.lf)]⟩) (by kernel_rfl) rfl fun v_=>by kernel_rfl) fun r0 _ =>
 .ret ⟨[.frz 0],[0],[],0⟩ (r0)
theorem ad5 (R_:zx) (p_l:List bF) : FH (Mo.den (aa1 R_ p_l)) 300 [.lf (.rows 22 (p_l.map bF.lf)),.raw (.func (.func 301) #[] #[])] [] (fun r=>.lf (.rows 22 (r.map bF.lf))) (fun _=>[]) := gV Tryz.func300 (by kernel_rfl) (fun _=>rfl) (by kernel_rfl)
def PY (R_:zx) (p_l:List aB) : (Int × (List aB)) → Mo ((Int × (List aB)) ⊕ ((List aB))) := fun (v0,l0) =>
 .iB (decide ((v0:Int) < (p_l.length:Int))) (.ask (bT p_l v0) fun x0 h0 =>
 .say [.row (aB.lf1 x0)] (ok1 (aX aB.aU h0)) <|
 .cl (R_.ok1 x0) fun r0 _ =>
 .ask (bT l0 v0) fun x1 h1 =>
 .say [.row (aB.lf1 x1),.rows ((l0.set v0.toNat r0).map aB.lf)] (okc (bZ aB.aU h1) (okc (st_ aB.aU l0 v0.toNat r0) (ok1 ((aX aB.aU h1).2)))) <|
 .rt [1,5,14,15,16] 1 (.inl (IntKind.wrap .i64 (v0 + 1),l0.set v0.toNat r0))) <|
 .rt [5] 1 (.inr (l0))
def aa2 (R_:zx) (p_l:List aB) (v0:Int) (l0:List aB) : Option (((List aB))) := bJ (fun v_=>(PY R_ p_l v_).den) FU (v0,l0)
def aa3 (R_:zx) (p_l:List aB) : Mo (List aB) :=
 .say [.num p_l.length] (ok1 (ln_ p_l aB.lf)) <|
 .ite ((p_l.length:Int) == 0) (fun c0 =>
 .say [.br true] (ok1 c0) <|
 .ret ⟨[.nil 0 21,.tod 0],[0],[],0⟩ ([])) fun c0 =>
 .say [.br false,.num p_l.length,.rows ((List.replicate (p_l.length:Int).toNat aB.z).map aB.lf),.num p_l.length] (okc c0 (okc (ln_ p_l aB.lf) (ok1 (rp_ aB.aU (p_l.length:Int).toNat aB.z)))) <|
 .grd ((0:Int) ≤ (p_l.length:Int) ∧ 312 * (p_l.length:Int).toNat ≤ 281474976710656 ∧ (p_l.length:Int).toNat ≤ maxLen) fun h0 =>
 .say [] (okc (mk_ (p_l.length:Int) h0) (ok1 (ln_ p_l aB.lf))) <|
 .lp Tryz.f302 0 [1,1,1,0,1,0] 0 [1,5,14,15,16] 1 (.exit 0) (fun r_=>⟨[(5,.own 0)],[.row 35 21 (r_.map aB.lf)]⟩) (aa2 R_ p_l 0 (List.replicate (p_l.length:Int).toNat aB.z)) (lW (fun (v0,l0)=>⟨[(1,.raw (.func (.func 256) #[] #[])),(5,.own 0),(14,.lf (.rows 21 (p_l.map aB.lf))),(15,.i_ (p_l.length:Int)),(16,.i_ v0)],[.row 35 21 (l0.map aB.lf)]⟩) (by kernel_rfl) rfl fun v_=>by kernel_rfl) fun r0 _ =>
 .ret ⟨[.frz 0],[0],[],0⟩ (r0)
theorem ad6 (R_:zx) (p_l:List aB) : FH (Mo.den (aa3 R_ p_l)) 302 [.lf (.rows 21 (p_l.map aB.lf)),.raw (.func (.func 256) #[] #[])] [] (fun r=>.lf (.rows 21 (r.map aB.lf))) (fun _=>[]) := gV Tryz.func302 (by kernel_rfl) (fun _=>rfl) (by kernel_rfl)
def SH (R_:zx) (p_p:bF) : Mo (bF) :=
 .say [.order [(true,0),(true,1),(true,2),(true,3),(false,4),(true,5),(false,6)] (some 6) []] ok0 <|
 .cl (R_.ok1 p_p.fF) fun r0 _ =>
 .ret (bn 1) (bF.mk p_p.fName r0)
theorem aa4 (R_:zx) (p_p:bF) : FV (Mo.den (SH R_ p_p)) 301 [.dat (bF.lf1 p_p)] (fun r=>.dat (bF.lf1 r)) := dw Tryz.func301 (by kernel_rfl) (fun _=>rfl) (by kernel_rfl)
def iI:Nat → zx
 | 0=>{ m1 := fun p_s=>none,ok1 := fun _ _ h=>(by cases h),m2 := fun p_l=>none,ok2 := fun _ _ h=>(by cases h),m3 := fun p_l=>none,ok3 := fun _ _ h=>(by cases h),m4 := fun p_p=>none,ok4 := fun _ _ h=>(by cases h) }
 | n_ + 1=>{ m1 := fun p_s=>Mo.den (SG (iI n_) p_s),ok1 := fun p_s r h=>aaZ (iI n_) p_s r h,m2 := fun p_l=>Mo.den (aa1 (iI n_) p_l),ok2 := fun p_l r h=>ad5 (iI n_) p_l r h,m3 := fun p_l=>Mo.den (aa3 (iI n_) p_l),ok3 := fun p_l r h=>ad6 (iI n_) p_l r h,m4 := fun p_p=>Mo.den (SH (iI n_) p_p),ok4 := aa4 (iI n_) }
def ahB (p_s:aB) : Option (aB) := (iI FU).m1 p_s
theorem ad7 (p_s:aB) : FV (ahB p_s) 256 [.dat (aB.lf1 p_s)] (fun r=>.dat (aB.lf1 r)) := (iI FU).ok1 p_s
def aa5 (p_d:bK) : Mo (bK) :=
 .cH [] (ahA p_d.dH) fun r0 _ =>
 .ask (ahB p_d.fF) fun r1 h0 =>
 .say [.res (.dat (aB.lf1 r1)),.at_ 0 0,.frz 2] (ok1 (ad7 _ _ h0)) <|
 .ret (bn 1) (bK.mk p_d.fName r0 r1 p_d.oH p_d.lX)
def ahC (p_d:bK) : Option (bK) := Mo.den (aa5 p_d)
theorem ad8 (p_d:bK) : FV (ahC p_d) 210 [.dat (bK.lf1 p_d)] (fun r=>.dat (bK.lf1 r)) := dw Tryz.func210 (by kernel_rfl) (fun _=>rfl) (by kernel_rfl)
def aa6 (p_l:List Int) : Mo (List Int) :=
 .say [.rows (p_l.map lfI)] (ok1 (by simp [lfI,lfK] : p_l.map lfI = [] ++ (p_l.map lfI))) <|
 .grd ((([] : List Int).length + p_l.length) * 8 ≤ 140737488355328) fun h0 =>
 .say [] (ok1 (cq_ lfI h0)) <|
 .ret ⟨[.mvn 0],[0],[(1,0)],1⟩ (p_l)
def ad9 (p_l:List Int) : Option (List Int) := Mo.den (aa6 p_l)
theorem Jm (p_l:List Int) : FH (ad9 p_l) 122 [.lf (.rows 1 (p_l.map lfI))] [] (fun _=>.own 0) (fun r=>[.row 3 1 (r.map lfI)]) := gV Tryz.func122 (by kernel_rfl) (fun _=>rfl) (by kernel_rfl)
structure SK where
 m1:(p_w:aG) → Option (aG)
 ok1:∀ p_w,FV (m1 p_w) 165 [.dat (aG.lf1 p_w)] (fun r=>.dat (aG.lf1 r))
 m2:(p_l:List aG) → Option (List aG)
 ok2:∀ p_l,FH (m2 p_l) 212 [.lf (.rows 78 (p_l.map aG.lf)),.raw (.func (.func 165) #[] #[])] [] (fun r=>.lf (.rows 78 (r.map aG.lf))) (fun _=>[])
def SL (R_:SK) (p_w:aG) : Mo (aG) :=
 .cl (tN p_w.lY) fun r0 _ =>
 .cl (tN p_w.bU) fun r1 _ =>
 .cl (tN p_w.gW) fun r2 _ =>
 .cl (ad8 p_w.nY) fun r3 _ =>
 .cl (Vm p_w.bG) fun r4 _ =>
 .cH [] (R_.ok2 p_w.dK) fun r5 _ =>
 .ask (ad9 p_w.eu) fun r6 h0 =>
 .say [.jd [] (.own 0) [.row 3 1 (r6.map lfI)],.at_ 0 0,.frz 2] (ok1 (Jm _ _ h0)) <|
 .ret (bn 1) (aG.mk p_w.aT p_w.kJ r0 r1 r2 r3 r4 p_w.yL p_w.fO r5 r6 p_w.kV)
theorem aa7 (R_:SK) (p_w:aG) : FV (Mo.den (SL R_ p_w)) 165 [.dat (aG.lf1 p_w)] (fun r=>.dat (aG.lf1 r)) := dw Tryz.func165 (by kernel_rfl) (fun _=>rfl) (by kernel_rfl)
def PZ (R_:SK) (p_l:List aG) : (Int × (List aG)) → Mo ((Int × (List aG)) ⊕ ((List aG))) := fun (v0,l0) =>
 .iB (decide ((v0:Int) < (p_l.length:Int))) (.ask (bT p_l v0) fun x0 h0 =>
 .say [.row (aG.lf1 x0)] (ok1 (aX aG.aU h0)) <|
 .cl (R_.ok1 x0) fun r0 _ =>
 .ask (bT l0 v0) fun x1 h1 =>
 .say [.row (aG.lf1 x1),.rows ((l0.set v0.toNat r0).map aG.lf)] (okc (bZ aG.aU h1) (okc (st_ aG.aU l0 v0.toNat r0) (ok1 ((aX aG.aU h1).2)))) <|
 .rt [1,5,14,15,16] 1 (.inl (IntKind.wrap .i64 (v0 + 1),l0.set v0.toNat r0))) <|
 .rt [5] 1 (.inr (l0))
def aa8 (R_:SK) (p_l:List aG) (v0:Int) (l0:List aG) : Option (((List aG))) := bJ (fun v_=>(PZ R_ p_l v_).den) FU (v0,l0)
def aa9 (R_:SK) (p_l:List aG) : Mo (List aG) :=
 .say [.num p_l.length] (ok1 (ln_ p_l aG.lf)) <|
 .ite ((p_l.length:Int) == 0) (fun c0 =>
 .say [.br true] (ok1 c0) <|
 .ret ⟨[.nil 0 78,.tod 0],[0],[],0⟩ ([])) fun c0 =>
 .say [.br false,.num p_l.length,.rows ((List.replicate (p_l.length:Int).toNat aG.z).map aG.lf),.num p_l.length] (okc c0 (okc (ln_ p_l aG.lf) (ok1 (rp_ aG.aU (p_l.length:Int).toNat aG.z)))) <|
 .grd ((0:Int) ≤ (p_l.length:Int) ∧ 1168 * (p_l.length:Int).toNat ≤ 281474976710656 ∧ (p_l.length:Int).toNat ≤ maxLen) fun h0 =>
 .say [] (okc (mk_ (p_l.length:Int) h0) (ok1 (ln_ p_l aG.lf))) <|
 .lp Tryz.f212 0 [1,1,1,0,1,0] 0 [1,5,14,15,16] 1 (.exit 0) (fun r_=>⟨[(5,.own 0)],[.row 52 78 (r_.map aG.lf)]⟩) (aa8 R_ p_l 0 (List.replicate (p_l.length:Int).toNat aG.z)) (lW (fun (v0,l0)=>⟨[(1,.raw (.func (.func 165) #[] #[])),(5,.own 0),(14,.lf (.rows 78 (p_l.map aG.lf))),(15,.i_ (p_l.length:Int)),(16,.i_ v0)],[.row 52 78 (l0.map aG.lf)]⟩) (by kernel_rfl) rfl fun v_=>by kernel_rfl) fun r0 _ =>
 .ret ⟨[.frz 0],[0],[],0⟩ (r0)
theorem aea (R_:SK) (p_l:List aG) : FH (Mo.den (aa9 R_ p_l)) 212 [.lf (.rows 78 (p_l.map aG.lf)),.raw (.func (.func 165) #[] #[])] [] (fun r=>.lf (.rows 78 (r.map aG.lf))) (fun _=>[]) := gV Tryz.func212 (by kernel_rfl) (fun _=>rfl) (by kernel_rfl)
def lK:Nat → SK
 | 0=>{ m1 := fun p_w=>none,ok1 := fun _ _ h=>(by cases h),m2 := fun p_l=>none,ok2 := fun _ _ h=>(by cases h) }
 | n_ + 1=>{ m1 := fun p_w=>Mo.den (SL (lK n_) p_w),ok1 := fun p_w r h=>aa7 (lK n_) p_w r h,m2 := fun p_l=>Mo.den (aa9 (lK n_) p_l),ok2 := aea (lK n_) }
def ajb (p_w:aG) : Option (aG) := (lK FU).m1 p_w
theorem aeb (p_w:aG) : FV (ajb p_w) 165 [.dat (aG.lf1 p_w)] (fun r=>.dat (aG.lf1 r)) := (lK FU).ok1 p_w
def abb (p_e:au) : Mo (au) :=
 .cl (aeb p_e.iE) fun r0 _ =>
 .ret (bn 1) (au.mk p_e.bC p_e.fO p_e.jV p_e.oI r0)
def aec (p_e:au) : Option (au) := Mo.den (abb p_e)
theorem aed (p_e:au) : FV (aec p_e) 121 [.dat (au.lf1 p_e)] (fun r=>.dat (au.lf1 r)) := dw Tryz.func121 (by kernel_rfl) (fun _=>rfl) (by kernel_rfl)
def P5 (p_l:List au) : (Int × (List au)) → Mo ((Int × (List au)) ⊕ ((List au))) := fun (v0,l0) =>
 .iB (decide ((v0:Int) < (p_l.length:Int))) (.ask (bT p_l v0) fun x0 h0 =>
 .say [.row (au.lf1 x0)] (ok1 (aX au.aU h0)) <|
 .cl (aed x0) fun r0 _ =>
 .ask (bT l0 v0) fun x1 h1 =>
 .say [.row (au.lf1 x1),.rows ((l0.set v0.toNat r0).map au.lf)] (okc (bZ au.aU h1) (okc (st_ au.aU l0 v0.toNat r0) (ok1 ((aX au.aU h1).2)))) <|
 .rt [1,5,14,15,16] 1 (.inl (IntKind.wrap .i64 (v0 + 1),l0.set v0.toNat r0))) <|
 .rt [5] 1 (.inr (l0))
def abd (p_l:List au) (v0:Int) (l0:List au) : Option (((List au))) := bJ (fun v_=>(P5 p_l v_).den) FU (v0,l0)
def afW (p_l:List au) : Mo (List au) :=
 .say [.num p_l.length] (ok1 (ln_ p_l au.lf)) <|
 .ite ((p_l.length:Int) == 0) (fun c0 =>
 .say [.br true] (okc c0 (ok1 (by simp [au.aU] : (([] : List au).map au.lf) = []))) <|
 .ret ⟨[.Ep 0 54 82,.kF 0 (([] : List au).map au.lf),.mvn 0],[0],[(1,0)],1⟩ (([] : List au))) fun c0 =>
 .say [.br false,.num p_l.length,.rows ((List.replicate (p_l.length:Int).toNat (au.mk 0 0 ⟨#[]⟩ 0 aG.z)).map au.lf),.num p_l.length] (okc c0 (okc (ln_ p_l au.lf) (ok1 (rp_ au.aU (p_l.length:Int).toNat (au.mk 0 0 ⟨#[]⟩ 0 aG.z))))) <|
 .grd ((0:Int) ≤ (p_l.length:Int) ∧ 1208 * (p_l.length:Int).toNat ≤ 281474976710656 ∧ (p_l.length:Int).toNat ≤ maxLen) fun h0 =>
 .say [] (okc (mk_ (p_l.length:Int) h0) (ok1 (ln_ p_l au.lf))) <|
 .lp Tryz.f120 0 [1,1,1,0,1,0] 0 [1,5,14,15,16] 1 (.exit 0) (fun r_=>⟨[(5,.own 0)],[.row 54 82 (r_.map au.lf)]⟩) (abd p_l 0 (List.replicate (p_l.length:Int).toNat (au.mk 0 0 ⟨#[]⟩ 0 aG.z))) (lW (fun (v0,l0)=>⟨[(1,.raw (.func (.func 121) #[] #[])),(5,.own 0),(14,.lf (.rows 82 (p_l.map au.lf))),(15,.i_ (p_l.length:Int)),(16,.i_ v0)],[.row 54 82 (l0.map au.lf)]⟩) (by kernel_rfl) rfl fun v_=>by kernel_rfl) fun r0 _ =>
 .ret ⟨[.mvn 0],[0],[(1,0)],1⟩ (r0)
def Q74 (p_l:List au) : Option (List au) := Mo.den (afW p_l)
theorem ahD (p_l:List au) : FH (Q74 p_l) 120 [.lf (.rows 82 (p_l.map au.lf)),.raw (.func (.func 121) #[] #[])] [] (fun _=>.own 0) (fun r=>[.row 54 82 (r.map au.lf)]) := gV Tryz.func120 (by kernel_rfl) (fun _=>rfl) (by kernel_rfl)
def abe (p_m:ak) : Mo (ak) :=
 .cH [] (ahD p_m.aP) fun r0 _ =>
 .cH [] (Jm p_m.fNext) fun r1 _ =>
 .cH [] (Jm p_m.bg) fun r2 _ =>
 .ret ⟨[.kill 0,.kill 1,.mvn 2,.mvn 3,.mvn 4],[0],[(5,0),(6,1),(7,2)],3⟩ (ak.IU (ak.Uy (ak.mP p_m r0) r1) r2)
def ahE (p_m:ak) : Option (ak) := Mo.den (abe p_m)
theorem Jo (p_m:ak) : FH (ahE p_m) 88 [.dat (ak.lf1 p_m)] [] (fun r=>yM (.agg ((ak.lf1 r).map AV.lf)) [(8,.own 0),(10,.own 1),(11,.own 2)]) (fun r=>[.row 54 82 (r.aP.map au.lf),.row 3 1 (r.fNext.map lfI),.row 3 1 (r.bg.map lfI)]) := gV Tryz.func88 (by kernel_rfl) (fun _=>rfl) (by kernel_rfl)
def abf (p_id:Int) : Mo (Int) :=
 .ret (bn 1) (IntKind.wrap .i64 (10 + (IntKind.wrap .i64 (3 * p_id))))
def ajc (p_id:Int) : Option (Int) := Mo.den (abf p_id)
theorem Vo (p_id:Int) : FV (ajc p_id) 62 [.i_ p_id] (fun r=>.i_ r) := dw Tryz.func62 (by kernel_rfl) (fun _=>rfl) (by kernel_rfl)
def xO (p_m:ak) (p_term:Int) : Mo (Int) :=
 .iB (p_m.dV == 2) (.cl (Vo p_m.fID) fun r0 _ =>
 .rt [1,2,4] 5 (r0)) <|
 .rt [1,2,4] 5 (p_m.gX)
def Jp (p_m:ak) (p_term:Int) : Option (Int) := Mo.den (xO p_m p_term)
def Dy (p_m:ak) (p_term:Int) (r_:Int) : St := ⟨[(1,.i_ p_term),(2,.ptr 3 0),(4,.ptr 4 0)],[.row 54 82 (p_m.aP.map au.lf),.row 3 1 (p_m.fNext.map lfI),.row 3 1 (p_m.bg.map lfI),.box 25 (ag_ (ak.lf1 p_m) [(6,.i_ r_),(8,.own 0),(10,.own 1),(11,.own 2)]),.box 25 (Z25)]⟩
theorem abg {p_m:ak} {p_term:Int} {r_:Int} (h:Jp p_m p_term = some r_) : gq Tryz.f100 3 [1,1,0,1] (.normal) (Dy p_m p_term r_) ⟨[(1,.i_ p_term),(2,.ptr 3 0),(4,.ptr 4 0),(12,.lf (.bool (p_m.dV == 2)))],[.row 54 82 (p_m.aP.map au.lf),.row 3 1 (p_m.fNext.map lfI),.row 3 1 (p_m.bg.map lfI),.box 25 (ag_ (ak.lf1 p_m) [(8,.own 0),(10,.own 1),(11,.own 2)]),.box 25 (Z25)]⟩ :=
 jq dL (xO p_m p_term) (fun _=>.normal) (Dy p_m p_term) (by kernel_rfl) h
def abh (p_m:ak) (p_term:Int) : Mo (ak) :=
 .iB (decide ((p_term:Int) ≤ p_m.bC)) (.ret ⟨[.kill 3,.kill 4,.mvn 0,.mvn 1,.mvn 2],[0],[(5,3),(6,4),(7,5)],6⟩ (p_m)) <|
 .ask (Jp p_m p_term) fun r0 h0 =>
 .say [.pt_ 1 [1,2,4,12] 5 (.normal) (Dy p_m p_term r0)] (okc (abg h0) (okc (by simp [lfI,lfK] : (([] : List Int).map lfI) = []) (ok1 (by simp [lfI,lfK] : (([] : List Int).map lfI) = [])))) <|
 .ret ⟨[.acR 0 10 3,.acR 0 11 3,.kill 1,.kill 2,.kill 3,.kill 4,.kF 5 (([] : List Int).map lfI),.kF 6 (([] : List Int).map lfI),.mvn 0,.mvn 5,.mvn 6],[0],[(7,3),(8,4),(9,5)],6⟩ (ak.mk p_m.fID p_m.dJ p_term (-1) 0 (-1) r0 0 p_m.aP p_m.aA ([] : List Int) ([] : List Int))
def Q55 (p_m:ak) (p_term:Int) : Option (ak) := Mo.den (abh p_m p_term)
theorem SN (p_m:ak) (p_term:Int) : FH (Q55 p_m p_term) 100 [yM (.agg ((ak.lf1 p_m).map AV.lf)) [(8,.own 0),(10,.own 1),(11,.own 2)],.i_ p_term] [.row 54 82 (p_m.aP.map au.lf),.row 3 1 (p_m.fNext.map lfI),.row 3 1 (p_m.bg.map lfI)] (fun r=>yM (.agg ((ak.lf1 r).map AV.lf)) [(8,.own 3),(10,.own 4),(11,.own 5)]) (fun r=>[.dead,.dead,.dead,.row 54 82 (r.aP.map au.lf),.row 3 1 (r.fNext.map lfI),.row 3 1 (r.bg.map lfI)]) := gV Tryz.func100 (by kernel_rfl) (fun _=>rfl) (by kernel_rfl)
def SQ (p_m:ak) (p_term:Int) : Mo (ak) :=
 .cH [] (Jo p_m) fun r0 _ =>
 .cH [2,3,4] (SN r0 p_term) fun r1 _ =>
 .ret ⟨[.kill 0,.kill 1,.mvn 5,.mvn 6,.mvn 7],[0],[(8,0),(9,1),(10,2)],3⟩ (r1)
def aee (p_m:ak) (p_term:Int) : Option (ak) := Mo.den (SQ p_m p_term)
theorem Jq (p_m:ak) (p_term:Int) : FH (aee p_m p_term) 72 [.dat (ak.lf1 p_m),.i_ p_term] [] (fun r=>yM (.agg ((ak.lf1 r).map AV.lf)) [(8,.own 0),(10,.own 1),(11,.own 2)]) (fun r=>[.row 54 82 (r.aP.map au.lf),.row 3 1 (r.fNext.map lfI),.row 3 1 (r.bg.map lfI)]) := gV Tryz.func72 (by kernel_rfl) (fun _=>rfl) (by kernel_rfl)
def afX (p_m:ak) : Mo (ak) :=
 .cH [] (Jq p_m p_m.bC) fun r0 _ =>
 .ret ⟨[.kill 0,.kill 1,.mvn 2,.mvn 3,.mvn 4],[0],[(5,0),(6,1),(7,2)],3⟩ (r0)
def Q88 (p_m:ak) : Option (ak) := Mo.den (afX p_m)
theorem qm (p_m:ak) : FH (Q88 p_m) 36 [.dat (ak.lf1 p_m)] [] (fun r=>yM (.agg ((ak.lf1 r).map AV.lf)) [(8,.own 0),(10,.own 1),(11,.own 2)]) (fun r=>[.row 54 82 (r.aP.map au.lf),.row 3 1 (r.fNext.map lfI),.row 3 1 (r.bg.map lfI)]) := gV Tryz.func36 (by kernel_rfl) (fun _=>rfl) (by kernel_rfl)
def ajd  : Mo (bM) :=
 .ret (bn 1) (bM.mk (-1) 0 0 [])
def Q78  : Option (bM) := Mo.den (ajd )
theorem tV:FV (Q78 ) 42 [] (fun r=>.dat (bM.lf1 r)) := dw Tryz.func42 (by kernel_rfl) (fun _=>rfl) (by kernel_rfl)
def ahF (p_l:List au) : Mo (Int) :=
 .say [.num p_l.length] (ok1 (ln_ p_l au.lf)) <|
 .ite ((p_l.length:Int) == 0) (fun c0 =>
 .say [.br true] (ok1 c0) <|
 .ret (bn 1) (0)) fun c0 =>
 .say [.br false,.num p_l.length] (okc c0 (ok1 (ln_ p_l au.lf))) <|
 .ask (bT p_l (IntKind.wrap .i64 ((p_l.length:Int) - 1))) fun x0 h0 =>
 .say [.row (au.lf1 x0)] (ok1 (aX au.aU h0)) <|
 .ret (bn 1) (x0.bC)
def ajW (p_l:List au) : Option (Int) := Mo.den (ahF p_l)
theorem aef (p_l:List au) : FV (ajW p_l) 91 [.lf (.rows 82 (p_l.map au.lf))] (fun r=>.i_ r) := dw Tryz.func91 (by kernel_rfl) (fun _=>rfl) (by kernel_rfl)
def abj (p_x:aj) (r0:ak) (r1:Int) : Mo (Bool) :=
 .iG 14004 (decide ((r1:Int) < p_x.mM)) (.rt [2,3,4,40] 9 (true)) <|
 .ite (p_x.mM == r1) (fun c0 =>
 .say [.gd 14009 true,.num r0.aP.length] (okc c0 (ok1 (ln_ r0.aP au.lf))) <|
 .rt [2,3,4,40] 9 (decide (((r0.aP.length:Int) : Int) ≤ p_x.bG))) fun c0 =>
 .say [.gd 14009 false] (ok1 c0) <|
 .rt [2,3,4,40] 9 (false)
def abk (p_x:aj) (r0:ak) (r1:Bool) : Mo (Unit) :=
 .rt [2,3,4,7] 9 ()
def Xr (p_x:aj) (r0:ak) (r1:Bool) : Mo (Bool) :=
 .iG 16005 (p_x.bC == r0.bC) (.iG 16009 (r0.jm == (-1)) (.rt [2,3,4,7,57] 9 (true)) <|
 .rt [2,3,4,7,57] 9 (r0.jm == p_x.dB)) <|
 .rt [2,3,4,7,57] 9 (false)
def Xt (p_x:aj) (r0:ak) (r1:Bool) (r2:Bool) : Mo (Bool) :=
 .iG 16017 (r2) (.rt [2,3,4,60] 9 (r1)) <|
 .rt [2,3,4,60] 9 (false)
def Xu (p_x:aj) (r0:ak) (r1:Bool) : Mo (Unit) :=
 .rt [2,3,4,8] 9 ()
def HY (p_x:aj) (r0:ak) (r1:Bool) : Mo ((Int × Int)) :=
 .iB (r1) (.cl (Vo r0.fID) fun r2 _ =>
 .rt [2,3,4,8] 9 (p_x.dB,r2)) <|
 .rt [2,3,4,8] 9 (r0.jm,r0.gX)
def Vp (p_x:aj) (r0:ak) (r1:Bool) : Option ((Int × Int)) := Mo.den (HY p_x r0 r1)
def zy (p_x:aj) (r0:ak) (r1:Bool) (r_:(Int × Int)) : St := ⟨[(2,.ptr 0 0),(3,.ptr 1 0),(4,.ptr 2 0),(8,.b_ r1)],[.box 25 (ag_ (ak.lf1 r0) [(3,.i_ r_.1),(6,.i_ r_.2),(10,.own 7),(11,.own 8)]),.box 63 (.dat (aj.lf1 p_x)),.box 25 (Z25),.dead,.dead,.dead,.dead,.row 3 1 (r0.fNext.map lfI),.row 3 1 (r0.bg.map lfI)]⟩
theorem Xv {p_x:aj} {r0:ak} {r1:Bool} {r_:(Int × Int)} (h:Vp p_x r0 r1 = some r_) : gq Tryz.f79 0 [1,1,1,1,1,1,1,0,1] (.normal) (zy p_x r0 r1 r_) ⟨[(2,.ptr 0 0),(3,.ptr 1 0),(4,.ptr 2 0),(8,.b_ r1),(61,.b_ r1)],[.box 25 (ag_ (ak.lf1 r0) [(10,.own 7),(11,.own 8)]),.box 63 (.dat (aj.lf1 p_x)),.box 25 (Z25),.dead,.dead,.dead,.dead,.row 3 1 (r0.fNext.map lfI),.row 3 1 (r0.bg.map lfI)]⟩ :=
 jq dL (HY p_x r0 r1) (fun _=>.normal) (zy p_x r0 r1) (by kernel_rfl) h
def aje (p_m:ak) (p_x:aj) : Mo (ak × List aj) :=
 .cH [] (Jo p_m) fun r0 _ =>
 .ite (p_x.aT != 1) (fun c0 =>
 .say [.br true,.at_ 0 0,.frz 3,.frz 4,.frz 5] (ok1 c0) <|
 .ret ⟨[.nil 1 9,.tod 1],[0,1],[],0⟩ (r0,[])) fun c0 =>
 .say [.br false] (ok1 c0) <|
 .ask (Q55 r0 p_x.bC) fun r1 h0 =>
 .say [.jd [3,4,5] (ag_ (ak.lf1 r1) [(8,.own 3),(10,.own 4),(11,.own 5)]) [.dead,.dead,.dead,.row 54 82 (r1.aP.map au.lf),.row 3 1 (r1.fNext.map lfI),.row 3 1 (r1.bg.map lfI)],.at_ 12 2,.frz 6] (ok1 (SN _ _ _ h0)) <|
 .cl (aef r1.aP) fun r2 _ =>
 .sj Tryz.f79 0 [1,1,1,1,1,0] [0,1,2,3,4,5,6,7,8,9,10,11,12,13,14,15,16,17] 6 18 [2,3,4,6] 9 (fun r_=>⟨[(2,.ptr 0 0),(3,.ptr 1 0),(4,.ptr 2 0),(40,.b_ r_)],[.box 25 (ag_ (ak.lf1 r1) [(10,.own 7),(11,.own 8)]),.box 63 (.dat (aj.lf1 p_x)),.box 25 (Z25),.dead,.dead,.dead,.dead,.row 3 1 (r1.fNext.map lfI),.row 3 1 (r1.bg.map lfI)]⟩) ⟨[(2,.ptr 0 0),(3,.ptr 1 0),(4,.ptr 2 0),(6,.i_ r2)],[.box 25 (ag_ (ak.lf1 r1) [(10,.own 7),(11,.own 8)]),.box 63 (.dat (aj.lf1 p_x)),.box 25 (Z25),.dead,.dead,.dead,.dead,.row 3 1 (r1.fNext.map lfI),.row 3 1 (r1.bg.map lfI)]⟩ (abj p_x r1 r2).den (sW (by kernel_rfl)) fun r3 _ =>
 .sj Tryz.f79 0 [1,1,1,1,1,0] [18] 6 1 [2,3,4,40] 9 (fun r_=>⟨[(2,.ptr 0 0),(3,.ptr 1 0),(4,.ptr 2 0),(7,.b_ r3)],[.box 25 (ag_ (ak.lf1 r1) [(10,.own 7),(11,.own 8)]),.box 63 (.dat (aj.lf1 p_x)),.box 25 (Z25),.dead,.dead,.dead,.dead,.row 3 1 (r1.fNext.map lfI),.row 3 1 (r1.bg.map lfI)]⟩) ⟨[(2,.ptr 0 0),(3,.ptr 1 0),(4,.ptr 2 0),(40,.b_ r3)],[.box 25 (ag_ (ak.lf1 r1) [(10,.own 7),(11,.own 8)]),.box 63 (.dat (aj.lf1 p_x)),.box 25 (Z25),.dead,.dead,.dead,.dead,.row 3 1 (r1.fNext.map lfI),.row 3 1 (r1.bg.map lfI)]⟩ (abk p_x r1 r3).den (sW (by kernel_rfl)) fun r4 _ =>
 .sj Tryz.f79 0 [1,1,1,1,1,1,0] [0,1,2,3,4,5,6,7,8,9,10,11,12,13,14,15,16] 7 17 [2,3,4,7] 9 (fun r_=>⟨[(2,.ptr 0 0),(3,.ptr 1 0),(4,.ptr 2 0),(7,.b_ r3),(57,.b_ r_)],[.box 25 (ag_ (ak.lf1 r1) [(10,.own 7),(11,.own 8)]),.box 63 (.dat (aj.lf1 p_x)),.box 25 (Z25),.dead,.dead,.dead,.dead,.row 3 1 (r1.fNext.map lfI),.row 3 1 (r1.bg.map lfI)]⟩) ⟨[(2,.ptr 0 0),(3,.ptr 1 0),(4,.ptr 2 0),(7,.b_ r3)],[.box 25 (ag_ (ak.lf1 r1) [(10,.own 7),(11,.own 8)]),.box 63 (.dat (aj.lf1 p_x)),.box 25 (Z25),.dead,.dead,.dead,.dead,.row 3 1 (r1.fNext.map lfI),.row 3 1 (r1.bg.map lfI)]⟩ (Xr p_x r1 r3).den (sW (by kernel_rfl)) fun r5 _ =>
 .sj Tryz.f79 0 [1,1,1,1,1,1,0] [17,18,19] 7 3 [2,3,4,7,57] 9 (fun r_=>⟨[(2,.ptr 0 0),(3,.ptr 1 0),(4,.ptr 2 0),(60,.b_ r_)],[.box 25 (ag_ (ak.lf1 r1) [(10,.own 7),(11,.own 8)]),.box 63 (.dat (aj.lf1 p_x)),.box 25 (Z25),.dead,.dead,.dead,.dead,.row 3 1 (r1.fNext.map lfI),.row 3 1 (r1.bg.map lfI)]⟩) ⟨[(2,.ptr 0 0),(3,.ptr 1 0),(4,.ptr 2 0),(7,.b_ r3),(57,.b_ r5)],[.box 25 (ag_ (ak.lf1 r1) [(10,.own 7),(11,.own 8)]),.box 63 (.dat (aj.lf1 p_x)),.box 25 (Z25),.dead,.dead,.dead,.dead,.row 3 1 (r1.fNext.map lfI),.row 3 1 (r1.bg.map lfI)]⟩ (Xt p_x r1 r3 r5).den (sW (by kernel_rfl)) fun r6 _ =>
 .sj Tryz.f79 0 [1,1,1,1,1,1,0] [20] 7 1 [2,3,4,60] 9 (fun r_=>⟨[(2,.ptr 0 0),(3,.ptr 1 0),(4,.ptr 2 0),(8,.b_ r6)],[.box 25 (ag_ (ak.lf1 r1) [(10,.own 7),(11,.own 8)]),.box 63 (.dat (aj.lf1 p_x)),.box 25 (Z25),.dead,.dead,.dead,.dead,.row 3 1 (r1.fNext.map lfI),.row 3 1 (r1.bg.map lfI)]⟩) ⟨[(2,.ptr 0 0),(3,.ptr 1 0),(4,.ptr 2 0),(60,.b_ r6)],[.box 25 (ag_ (ak.lf1 r1) [(10,.own 7),(11,.own 8)]),.box 63 (.dat (aj.lf1 p_x)),.box 25 (Z25),.dead,.dead,.dead,.dead,.row 3 1 (r1.fNext.map lfI),.row 3 1 (r1.bg.map lfI)]⟩ (Xu p_x r1 r6).den (sW (by kernel_rfl)) fun r7 _ =>
 .ask (Vp p_x r1 r6) fun r8 h1 =>
 .say [.pt_ 1 [2,3,4,8,61] 9 (.normal) (zy p_x r1 r6 r8),.dM (.q 0 (.q 1 (.alt 2 (.l 3 (.q 4 .fin)) (.l 3 (.l 2 (.q 4 .fin)))))) none [2,10] [.both [.at_ 26 2,.resv 1,.slot 10] [.at_ 26 3,.resv 1,.slot 10]] [4,5] 11 [(4,.ptr 2 0),(5,.own 10)] [.box 25 (ag_ (ak.lf1 r1) [(3,.i_ r8.1),(6,.i_ r8.2),(10,.own 7),(11,.own 8)]),.box 63 (.dat (aj.lf1 p_x)),.box 25 (ag_ (ak.lf1 r1) [(3,.i_ r8.1),(6,.i_ r8.2),(10,.own 7),(11,.own 8)]),.dead,.dead,.dead,.dead,.row 3 1 (r1.fNext.map lfI),.row 3 1 (r1.bg.map lfI),.box 63 (.agg [.i_ r1.fID,.i_ p_x.dB,.i_ 2,.i_ r1.bC,.i_ 0,.i_ 0,.i_ 0,.bH 82,.b_ r6]),.row 63 9 [(aj.lf1 (aj.sOK (aj.mO (aj.kZ (aj.sTo (aj.nZ aj.z r1.fID) p_x.dB) 2) r1.bC) r6))]],.at_ 0 0,.frz 7,.frz 8,.Yk 10 ([aj.sOK (aj.mO (aj.kZ (aj.sTo (aj.nZ aj.z r1.fID) p_x.dB) 2) r1.bC) r6].map aj.lf)] (okc (Xv h1) (okc (rf_ ⟨[(4,.ptr 2 0),(5,.own 10)],[.box 25 (ag_ (ak.lf1 r1) [(3,.i_ r8.1),(6,.i_ r8.2),(10,.own 7),(11,.own 8)]),.box 63 (.dat (aj.lf1 p_x)),.box 25 (ag_ (ak.lf1 r1) [(3,.i_ r8.1),(6,.i_ r8.2),(10,.own 7),(11,.own 8)]),.dead,.dead,.dead,.dead,.row 3 1 (r1.fNext.map lfI),.row 3 1 (r1.bg.map lfI),.box 63 (.agg [.i_ r1.fID,.i_ p_x.dB,.i_ 2,.i_ r1.bC,.i_ 0,.i_ 0,.i_ 0,.bH 82,.b_ r6]),.row 63 9 [(aj.lf1 (aj.sOK (aj.mO (aj.kZ (aj.sTo (aj.nZ aj.z r1.fID) p_x.dB) 2) r1.bC) r6))]]⟩) (okc (rf_ ⟨[(4,.ptr 2 0),(5,.own 10)],[.box 25 (ag_ (ak.lf1 r1) [(3,.i_ r8.1),(6,.i_ r8.2),(10,.own 7),(11,.own 8)]),.box 63 (.dat (aj.lf1 p_x)),.box 25 (ag_ (ak.lf1 r1) [(3,.i_ r8.1),(6,.i_ r8.2),(10,.own 7),(11,.own 8)]),.dead,.dead,.dead,.dead,.row 3 1 (r1.fNext.map lfI),.row 3 1 (r1.bg.map lfI),.box 63 (.agg [.i_ r1.fID,.i_ p_x.dB,.i_ 2,.i_ r1.bC,.i_ 0,.i_ 0,.i_ 0,.bH 82,.b_ r6]),.row 63 9 [(aj.lf1 (aj.sOK (aj.mO (aj.kZ (aj.sTo (aj.nZ aj.z r1.fID) p_x.dB) 2) r1.bC) r6))]]⟩) (ok1 (by simp [aj.aU] : [aj.sOK (aj.mO (aj.kZ (aj.sTo (aj.nZ aj.z r1.fID) p_x.dB) 2) r1.bC) r6].map aj.lf = [(aj.lf1 (aj.sOK (aj.mO (aj.kZ (aj.sTo (aj.nZ aj.z r1.fID) p_x.dB) 2) r1.bC) r6))]))))) <|
 .ret (bn 2) (ak.Bl (ak.afd r1 r8.1) r8.2,[aj.sOK (aj.mO (aj.kZ (aj.sTo (aj.nZ aj.z r1.fID) p_x.dB) 2) r1.bC) r6])
def Q61 (p_m:ak) (p_x:aj) : Option (ak × List aj) := Mo.den (aje p_m p_x)
theorem ahG (p_m:ak) (p_x:aj) : FV (Q61 p_m p_x) 79 [.dat (ak.lf1 p_m),.dat (aj.lf1 p_x)] (fun r=>.tup [.dat (ak.lf1 r.1),.lf (.rows 9 (r.2.map aj.lf))]) := dw Tryz.func79 (by kernel_rfl) (fun _=>rfl) (by kernel_rfl)
def ahH (p_x:aj) (p_b0:aF) : Mo (aF) :=
 .say [.order [(true,0),(true,1),(true,2),(true,3),(true,4),(true,6),(false,5),(false,7),(true,8),(true,9),(true,10),(true,11),(true,12),(false,13),(true,14),(true,15),(false,16)] (some 16) [0,1,2,3],.at_ 4 7,.frz 1,.frz 2,.frz 3] ok0 <|
 .cl (ahG p_b0.aI p_x) fun r0 _ =>
 .ret ⟨[.norm 0,.kill 4,.kill 5],[],[],5⟩ (aF.mk r0.1 r0.2 p_b0.eG)
def ajf (p_x:aj) (p_b0:aF) : Option (aF) := Mo.den (ahH p_x p_b0)
theorem aeg (p_x:aj) (p_b0:aF) : FH (ajf p_x p_b0) 43 [.ptr 0 0,.dat (aj.lf1 p_x)] [.box 97 (ag_ (aF.lf1 p_b0) [(8,.own 1),(10,.own 2),(11,.own 3),(12,.own 4)]),.row 54 82 (p_b0.aI.aP.map au.lf),.row 3 1 (p_b0.aI.fNext.map lfI),.row 3 1 (p_b0.aI.bg.map lfI),.row 63 9 (p_b0.cZ.map aj.lf)] (fun _=>.tup []) (fun r=>[.box 97 (.dat (aF.lf1 r)),.dead,.dead,.dead,.dead]) := gV Tryz.func43 (by kernel_rfl) (fun _=>rfl) (by kernel_rfl)
def Xw (p_m:ak) : Mo (Bool) :=
 .iG 4003 (decide ((1:Int) ≤ p_m.dJ)) (.rt [1,2,10] 1 (decide ((p_m.dJ:Int) ≤ 7))) <|
 .rt [1,2,10] 1 (false)
def Xx (p_m:ak) (r0:Bool) : Mo (Bool) :=
 .iG 4008 (r0) (.rt [1,2,15] 1 (decide ((0:Int) ≤ p_m.fID))) <|
 .rt [1,2,15] 1 (false)
def SS (p_m:ak) (r0:Bool) : Mo (Bool) :=
 .iG 4013 (r0) (.ret ⟨[.kill 0],[2,22],[],1⟩ (decide ((p_m.fID:Int) < p_m.dJ))) <|
 .ret ⟨[.kill 0],[2,22],[],1⟩ (false)
def SV (r0:Bool) : Mo (Unit) :=
 .rt [2] 1 ()
def ahI (p_m:ak) : Mo (Bool) :=
 .sj Tryz.f89 0 [1,0] [0,1,2,3,4,5,6,7] 1 8 [1,2] 1 (fun r_=>⟨[(1,.ptr 0 0),(2,.b_ false),(10,.b_ r_)],[.box 25 (.dat (ak.lf1 p_m))]⟩) ⟨[(1,.ptr 0 0),(2,.b_ false)],[.box 25 (.dat (ak.lf1 p_m))]⟩ (Xw p_m).den (sW (by kernel_rfl)) fun r0 _ =>
 .sj Tryz.f89 0 [1,0] [8,9,10,11,12] 1 5 [1,2,10] 1 (fun r_=>⟨[(1,.ptr 0 0),(2,.b_ false),(15,.b_ r_)],[.box 25 (.dat (ak.lf1 p_m))]⟩) ⟨[(1,.ptr 0 0),(2,.b_ false),(10,.b_ r0)],[.box 25 (.dat (ak.lf1 p_m))]⟩ (Xx p_m r0).den (sW (by kernel_rfl)) fun r1 _ =>
 .sj Tryz.f89 0 [1,0] [13,14,15,16,17,18,19] 1 7 [1,2,15] 1 (fun r_=>⟨[(2,.b_ false),(22,.b_ r_)],[.dead]⟩) ⟨[(1,.ptr 0 0),(2,.b_ false),(15,.b_ r1)],[.box 25 (.dat (ak.lf1 p_m))]⟩ (SS p_m r1).den (sW (by kernel_rfl)) fun r2 _ =>
 .sj Tryz.f89 0 [1,0] [20] 1 1 [2,22] 1 (fun r_=>⟨[(2,.b_ r2)],[.dead]⟩) ⟨[(2,.b_ false),(22,.b_ r2)],[.dead]⟩ (SV r2).den (sW (by kernel_rfl)) fun r3 _ =>
 .ret (bn 1) (r2)
def ajX (p_m:ak) : Option (Bool) := Mo.den (ahI p_m)
theorem aeh (p_m:ak) : FV (ajX p_m) 89 [.dat (ak.lf1 p_m)] (fun r=>.b_ r) := dw Tryz.func89 (by kernel_rfl) (fun _=>rfl) (by kernel_rfl)
def ahJ (p_x:Int) : Mo (Int) :=
 .say [] (okc (by decide:(0:Int) ≤ 1) (okc (by decide:(0:Int) ≤ 2) (okc (by decide:(0:Int) ≤ 4) (okc (by decide:(0:Int) ≤ 8) (okc (by decide:(0:Int) ≤ 16) (ok1 (by decide:(0:Int) ≤ 32))))))) <|
 .ret (bn 1) (bI .and .i64 (IntKind.wrap .i64 (IntKind.wrap .u64 ((IntKind.wrap .u64 ((IntKind.wrap .u64 ((bI .and .u64 (IntKind.wrap .u64 ((fK .u64 (IntKind.wrap .u64 ((bI .and .u64 (fK .u64 (IntKind.wrap .u64 ((bI .and .u64 (fK .u64 p_x 1) 6148914691236517205) + (bI .and .u64 p_x 6148914691236517205))) 2) 3689348814741910323) + (bI .and .u64 (IntKind.wrap .u64 ((bI .and .u64 (fK .u64 p_x 1) 6148914691236517205) + (bI .and .u64 p_x 6148914691236517205))) 3689348814741910323))) 4) + (IntKind.wrap .u64 ((bI .and .u64 (fK .u64 (IntKind.wrap .u64 ((bI .and .u64 (fK .u64 p_x 1) 6148914691236517205) + (bI .and .u64 p_x 6148914691236517205))) 2) 3689348814741910323) + (bI .and .u64 (IntKind.wrap .u64 ((bI .and .u64 (fK .u64 p_x 1) 6148914691236517205) + (bI .and .u64 p_x 6148914691236517205))) 3689348814741910323))))) 1085102592571150095) + (fK .u64 (bI .and .u64 (IntKind.wrap .u64 ((fK .u64 (IntKind.wrap .u64 ((bI .and .u64 (fK .u64 (IntKind.wrap .u64 ((bI .and .u64 (fK .u64 p_x 1) 6148914691236517205) + (bI .and .u64 p_x 6148914691236517205))) 2) 3689348814741910323) + (bI .and .u64 (IntKind.wrap .u64 ((bI .and .u64 (fK .u64 p_x 1) 6148914691236517205) + (bI .and .u64 p_x 6148914691236517205))) 3689348814741910323))) 4) + (IntKind.wrap .u64 ((bI .and .u64 (fK .u64 (IntKind.wrap .u64 ((bI .and .u64 (fK .u64 p_x 1) 6148914691236517205) + (bI .and .u64 p_x 6148914691236517205))) 2) 3689348814741910323) + (bI .and .u64 (IntKind.wrap .u64 ((bI .and .u64 (fK .u64 p_x 1) 6148914691236517205) + (bI .and .u64 p_x 6148914691236517205))) 3689348814741910323))))) 1085102592571150095) 8))) + (fK .u64 (IntKind.wrap .u64 ((bI .and .u64 (IntKind.wrap .u64 ((fK .u64 (IntKind.wrap .u64 ((bI .and .u64 (fK .u64 (IntKind.wrap .u64 ((bI .and .u64 (fK .u64 p_x 1) 6148914691236517205) + (bI .and .u64 p_x 6148914691236517205))) 2) 3689348814741910323) + (bI .and .u64 (IntKind.wrap .u64 ((bI .and .u64 (fK .u64 p_x 1) 6148914691236517205) + (bI .and .u64 p_x 6148914691236517205))) 3689348814741910323))) 4) + (IntKind.wrap .u64 ((bI .and .u64 (fK .u64 (IntKind.wrap .u64 ((bI .and .u64 (fK .u64 p_x 1) 6148914691236517205) + (bI .and .u64 p_x 6148914691236517205))) 2) 3689348814741910323) + (bI .and .u64 (IntKind.wrap .u64 ((bI .and .u64 (fK .u64 p_x 1) 6148914691236517205) + (bI .and .u64 p_x 6148914691236517205))) 3689348814741910323))))) 1085102592571150095) + (fK .u64 (bI .and .u64 (IntKind.wrap .u64 ((fK .u64 (IntKind.wrap .u64 ((bI .and .u64 (fK .u64 (IntKind.wrap .u64 ((bI .and .u64 (fK .u64 p_x 1) 6148914691236517205) + (bI .and .u64 p_x 6148914691236517205))) 2) 3689348814741910323) + (bI .and .u64 (IntKind.wrap .u64 ((bI .and .u64 (fK .u64 p_x 1) 6148914691236517205) + (bI .and .u64 p_x 6148914691236517205))) 3689348814741910323))) 4) + (IntKind.wrap .u64 ((bI .and .u64 (fK .u64 (IntKind.wrap .u64 ((bI .and .u64 (fK .u64 p_x 1) 6148914691236517205) + (bI .and .u64 p_x 6148914691236517205))) 2) 3689348814741910323) + (bI .and .u64 (IntKind.wrap .u64 ((bI .and .u64 (fK .u64 p_x 1) 6148914691236517205) + (bI .and .u64 p_x 6148914691236517205))) 3689348814741910323))))) 1085102592571150095) 8))) 16))) + (fK .u64 (IntKind.wrap .u64 ((IntKind.wrap .u64 ((bI .and .u64 (IntKind.wrap .u64 ((fK .u64 (IntKind.wrap .u64 ((bI .and .u64 (fK .u64 (IntKind.wrap .u64 ((bI .and .u64 (fK .u64 p_x 1) 6148914691236517205) + (bI .and .u64 p_x 6148914691236517205))) 2) 3689348814741910323) + (bI .and .u64 (IntKind.wrap .u64 ((bI .and .u64 (fK .u64 p_x 1) 6148914691236517205) + (bI .and .u64 p_x 6148914691236517205))) 3689348814741910323))) 4) + (IntKind.wrap .u64 ((bI .and .u64 (fK .u64 (IntKind.wrap .u64 ((bI .and .u64 (fK .u64 p_x 1) 6148914691236517205) + (bI .and .u64 p_x 6148914691236517205))) 2) 3689348814741910323) + (bI .and .u64 (IntKind.wrap .u64 ((bI .and .u64 (fK .u64 p_x 1) 6148914691236517205) + (bI .and .u64 p_x 6148914691236517205))) 3689348814741910323))))) 1085102592571150095) + (fK .u64 (bI .and .u64 (IntKind.wrap .u64 ((fK .u64 (IntKind.wrap .u64 ((bI .and .u64 (fK .u64 (IntKind.wrap .u64 ((bI .and .u64 (fK .u64 p_x 1) 6148914691236517205) + (bI .and .u64 p_x 6148914691236517205))) 2) 3689348814741910323) + (bI .and .u64 (IntKind.wrap .u64 ((bI .and .u64 (fK .u64 p_x 1) 6148914691236517205) + (bI .and .u64 p_x 6148914691236517205))) 3689348814741910323))) 4) + (IntKind.wrap .u64 ((bI .and .u64 (fK .u64 (IntKind.wrap .u64 ((bI .and .u64 (fK .u64 p_x 1) 6148914691236517205) + (bI .and .u64 p_x 6148914691236517205))) 2) 3689348814741910323) + (bI .and .u64 (IntKind.wrap .u64 ((bI .and .u64 (fK .u64 p_x 1) 6148914691236517205) + (bI .and .u64 p_x 6148914691236517205))) 3689348814741910323))))) 1085102592571150095) 8))) + (fK .u64 (IntKind.wrap .u64 ((bI .and .u64 (IntKind.wrap .u64 ((fK .u64 (IntKind.wrap .u64 ((bI .and .u64 (fK .u64 (IntKind.wrap .u64 ((bI .and .u64 (fK .u64 p_x 1) 6148914691236517205) + (bI .and .u64 p_x 6148914691236517205))) 2) 3689348814741910323) + (bI .and .u64 (IntKind.wrap .u64 ((bI .and .u64 (fK .u64 p_x 1) 6148914691236517205) + (bI .and .u64 p_x 6148914691236517205))) 3689348814741910323))) 4) + (IntKind.wrap .u64 ((bI .and .u64 (fK .u64 (IntKind.wrap .u64 ((bI .and .u64 (fK .u64 p_x 1) 6148914691236517205) + (bI .and .u64 p_x 6148914691236517205))) 2) 3689348814741910323) + (bI .and .u64 (IntKind.wrap .u64 ((bI .and .u64 (fK .u64 p_x 1) 6148914691236517205) + (bI .and .u64 p_x 6148914691236517205))) 3689348814741910323))))) 1085102592571150095) + (fK .u64 (bI .and .u64 (IntKind.wrap .u64 ((fK .u64 (IntKind.wrap .u64 ((bI .and .u64 (fK .u64 (IntKind.wrap .u64 ((bI .and .u64 (fK .u64 p_x 1) 6148914691236517205) + (bI .and .u64 p_x 6148914691236517205))) 2) 3689348814741910323) + (bI .and .u64 (IntKind.wrap .u64 ((bI .and .u64 (fK .u64 p_x 1) 6148914691236517205) + (bI .and .u64 p_x 6148914691236517205))) 3689348814741910323))) 4) + (IntKind.wrap .u64 ((bI .and .u64 (fK .u64 (IntKind.wrap .u64 ((bI .and .u64 (fK .u64 p_x 1) 6148914691236517205) + (bI .and .u64 p_x 6148914691236517205))) 2) 3689348814741910323) + (bI .and .u64 (IntKind.wrap .u64 ((bI .and .u64 (fK .u64 p_x 1) 6148914691236517205) + (bI .and .u64 p_x 6148914691236517205))) 3689348814741910323))))) 1085102592571150095) 8))) 16))) 32)))) 127)
def ajY (p_x:Int) : Option (Int) := Mo.den (ahJ p_x)
theorem aei (p_x:Int) : FV (ajY p_x) 163 [.lf (.int .u64 p_x)] (fun r=>.i_ r) := dw Tryz.func163 (by kernel_rfl) (fun _=>rfl) (by kernel_rfl)
def ahK (p_x:Int) : Mo (Int) :=
 .say [.br false] (ok1 (rfl:false = false)) <|
 .cl (aei p_x) fun r0 _ =>
 .ret (bn 1) (r0)
def ajg (p_x:Int) : Option (Int) := Mo.den (ahK p_x)
theorem aej (p_x:Int) : FV (ajg p_x) 118 [.lf (.int .u64 p_x)] (fun r=>.i_ r) := dw Tryz.func118 (by kernel_rfl) (fun _=>rfl) (by kernel_rfl)
def Xy (p_size:Int) : Mo (Bool) :=
 .iG 4002 (decide ((p_size:Int) < 1)) (.rt [0,8] 0 (true)) <|
 .rt [0,8] 0 (decide ((7:Int) < p_size))
def ahL (p_size:Int) : Mo (Int) :=
 .jp Tryz.f74 0 [1,0,0] 9 [0] 0 (.normal) (fun r_=>⟨[(0,.i_ p_size),(8,.b_ r_)],[]⟩) ⟨[(0,.i_ p_size)],[]⟩ (Xy p_size).den (jW (by kernel_rfl)) fun r0 _ =>
 .ite (r0) (fun c0 =>
 .say [.br true] (ok1 c0) <|
 .ret (bn 1) (0)) fun c0 =>
 .say [.br false] (okc c0 (ok1 (by decide:(2:Int) ≠ 0))) <|
 .ret (bn 1) (IntKind.wrap .i64 ((IntKind.wrap .i64 (Int.tdiv p_size 2)) + 1))
def ajh (p_size:Int) : Option (Int) := Mo.den (ahL p_size)
theorem Vq (p_size:Int) : FV (ajh p_size) 74 [.i_ p_size] (fun r=>.i_ r) := dw Tryz.func74 (by kernel_rfl) (fun _=>rfl) (by kernel_rfl)
def P6 (p_m:ak) : (Int × (List Int)) → Mo ((Int × (List Int)) ⊕ ((List Int))) := fun (v0,l0) =>
 .ite (decide ((v0:Int) < ((List.replicate p_m.dJ.toNat 0).length:Int))) (fun c0 =>
 .say [.br true,.num p_m.aP.length] (okc c0 (ok1 (ln_ p_m.aP au.lf))) <|
 .ask (bT l0 v0) fun x0 h0 =>
 .say [.row (lfI x0),.rows ((l0.set v0.toNat (p_m.aP.length:Int)).map lfI)] (okc (bZ lI_ h0) (okc (st_ lI_ l0 v0.toNat (p_m.aP.length:Int)) (ok1 ((aX lI_ h0).2)))) <|
 .rt [1,2,19,20] 4 (.inl (IntKind.wrap .i64 (v0 + 1),l0.set v0.toNat (p_m.aP.length:Int)))) fun c0 =>
 .say [.br false] (ok1 c0) <|
 .rt [1,2] 4 (.inr (l0))
def abl (p_m:ak) (v0:Int) (l0:List Int) : Option (((List Int))) := bJ (fun v_=>(P6 p_m v_).den) FU (v0,l0)
def P7 (p_m:ak) : (Int × (List Int)) → St := fun (v0,l0)=>⟨[(1,.ptr 0 0),(2,.ptr 1 0),(19,.i_ ((List.replicate p_m.dJ.toNat 0).length:Int)),(20,.i_ v0)],[.box 25 (ag_ (ak.lf1 p_m) [(4,.i_ 2),(5,.i_ p_m.fID),(6,.i_ 1),(10,.own 2),(11,.own 3)]),.box 25 (Z25),.row 3 1 (l0.map lfI),.row 3 1 ((List.replicate p_m.dJ.toNat 0).map lfI)]⟩
def Dz (p_m:ak) (r_:((List Int))) : St := ⟨[(1,.ptr 0 0),(2,.ptr 1 0)],[.box 25 (ag_ (ak.lf1 p_m) [(4,.i_ 2),(5,.i_ p_m.fID),(6,.i_ 1),(10,.own 2),(11,.own 3)]),.box 25 (Z25),.row 3 1 (r_.map lfI),.row 3 1 ((List.replicate p_m.dJ.toNat 0).map lfI)]⟩
theorem abm {p_m:ak} {v0:Int} {l0:List Int} {r_:((List Int))} (h:abl p_m v0 l0 = some r_) : gq Tryz.f90 0 [1,1,1,1,0,1,0] (.exit 0) (Dz p_m r_) (P7 p_m (v0,l0)) :=
 dR dL (body := (Code.sub (bodyC Tryz.f90) [1,1,1,1,0,1,0,0])) (by kernel_rfl) (P6 p_m) (P7 p_m) (fun _=>.exit 0) (Dz p_m) (fun r_=>rfl) (fun v_=>by kernel_rfl) h
def aji (p_m:ak) : Mo (ak) :=
 .say [.rows ((List.replicate p_m.dJ.toNat 0).map lfI),.rows ((List.replicate p_m.dJ.toNat 0).map lfI),.num (List.replicate p_m.dJ.toNat 0).length] (ok1 (rp_ lI_ p_m.dJ.toNat 0)) <|
 .grd ((0:Int) ≤ p_m.dJ ∧ 8 * p_m.dJ.toNat ≤ 281474976710656 ∧ p_m.dJ.toNat ≤ maxLen) fun h0 =>
 .say [] (okc (mk_ p_m.dJ h0) (ok1 (rp_ lI_ p_m.dJ.toNat 0))) <|
 .grd ((0:Int) ≤ p_m.dJ ∧ 8 * p_m.dJ.toNat ≤ 281474976710656 ∧ p_m.dJ.toNat ≤ maxLen) fun h1 =>
 .say [] (okc (mk_ p_m.dJ h1) (ok1 (by simp:(List.replicate p_m.dJ.toNat 0).length = ((List.replicate p_m.dJ.toNat 0).map lfI).length))) <|
 .ask (abl p_m 0 (List.replicate p_m.dJ.toNat 0)) fun r0 h2 =>
 .say [.pt_ 0 [1,2,19,20] 4 (.exit 0) (Dz p_m r0),.num p_m.aP.length] (okc (abm h2) (ok1 (ln_ p_m.aP au.lf))) <|
 .ask (bT (List.replicate p_m.dJ.toNat 0) p_m.fID) fun x0 h3 =>
 .say [.row (lfI x0),.rows (((List.replicate p_m.dJ.toNat 0).set p_m.fID.toNat (p_m.aP.length:Int)).map lfI),.at_ 0 0,.frz 2,.frz 3] (okc (bZ lI_ h3) (okc (st_ lI_ (List.replicate p_m.dJ.toNat 0) p_m.fID.toNat (p_m.aP.length:Int)) (ok1 ((aX lI_ h3).2)))) <|
 .ret (bn 1) (ak.IU (ak.Uy (ak.Bl (ak.IQ (ak.afe p_m 2) p_m.fID) 1) r0) ((List.replicate p_m.dJ.toNat 0).set p_m.fID.toNat (p_m.aP.length:Int)))
def Q89 (p_m:ak) : Option (ak) := Mo.den (aji p_m)
theorem ahM (p_m:ak) : FV (Q89 p_m) 90 [.dat (ak.lf1 p_m)] (fun r=>.dat (ak.lf1 r)) := dw Tryz.func90 (by kernel_rfl) (fun _=>rfl) (by kernel_rfl)
def Xz (p_x:aj) (r0:ak) : Mo (Bool) :=
 .iG 14003 (r0.dV != 1) (.rt [2,3,4,29] 6 (true)) <|
 .rt [2,3,4,29] 6 (p_x.bC != r0.bC)
def XA (p_x:aj) (r0:ak) (r1:Bool) : Mo (Bool) :=
 .iG 14010 (r1) (.rt [2,3,4,34] 6 (true)) <|
 .rt [2,3,4,34] 6 (!p_x.fOK)
def SX (p_x:aj) (r0:ak) (r1:Bool) : Mo (Bool) :=
 .ite (r1) (fun c0 =>
 .say [.gd 14015 true] (ok1 c0) <|
 .ret ⟨[.frz 3,.frz 4,.frz 5],[2,3,4,39],[],6⟩ (true)) fun c0 =>
 .say [.gd 14015 false,.at_ 14 17,.frz 3,.frz 4,.frz 5] (ok1 c0) <|
 .cl (aeh r0) fun r2 _ =>
 .rt [2,3,4,39] 6 (!r2)
def SY (p_x:aj) (r0:ak) (r1:Bool) : Mo (Bool) :=
 .iG 14020 (r1) (.rt [2,3,4,44] 6 (true)) <|
 .rt [2,3,4,44] 6 (decide ((p_x.dB:Int) < 0))
def S9 (p_x:aj) (r0:ak) (r1:Bool) : Mo (Bool) :=
 .iG 14025 (r1) (.rt [2,3,4,51] 6 (true)) <|
 .rt [2,3,4,51] 6 (decide ((r0.dJ:Int) ≤ p_x.dB))
def ahN (p_m:ak) (p_x:aj) : Mo (ak) :=
 .cH [] (Jo p_m) fun r0 _ =>
 .ite (p_x.aT != 2) (fun c0 =>
 .say [.br true,.at_ 0 0,.frz 3,.frz 4,.frz 5] (ok1 c0) <|
 .ret (bn 1) (r0)) fun c0 =>
 .say [.br false] (ok1 c0) <|
 .iB (decide ((r0.bC:Int) < p_x.bC)) (.ask (Q55 r0 p_x.bC) fun r1 h0 =>
 .say [.jd [3,4,5] (ag_ (ak.lf1 r1) [(8,.own 3),(10,.own 4),(11,.own 5)]) [.dead,.dead,.dead,.row 54 82 (r1.aP.map au.lf),.row 3 1 (r1.fNext.map lfI),.row 3 1 (r1.bg.map lfI)],.at_ 0 0,.frz 6,.frz 7,.frz 8] (ok1 (SN _ _ _ h0)) <|
 .ret (bn 1) (r1)) <|
 .sj Tryz.f80 0 [1,1,1,1,0,0] [0,1,2,3,4,5,6,7,8,9] 6 10 [2,3,4] 6 (fun r_=>⟨[(2,.ptr 0 0),(3,.ptr 1 0),(4,.ptr 2 0),(29,.b_ r_)],[.box 25 (ag_ (ak.lf1 r0) [(8,.own 3),(10,.own 4),(11,.own 5)]),.box 63 (.dat (aj.lf1 p_x)),.box 25 (Z25),.row 54 82 (r0.aP.map au.lf),.row 3 1 (r0.fNext.map lfI),.row 3 1 (r0.bg.map lfI)]⟩) ⟨[(2,.ptr 0 0),(3,.ptr 1 0),(4,.ptr 2 0)],[.box 25 (ag_ (ak.lf1 r0) [(8,.own 3),(10,.own 4),(11,.own 5)]),.box 63 (.dat (aj.lf1 p_x)),.box 25 (Z25),.row 54 82 (r0.aP.map au.lf),.row 3 1 (r0.fNext.map lfI),.row 3 1 (r0.bg.map lfI)]⟩ (Xz p_x r0).den (sW (by kernel_rfl)) fun r2 _ =>
 .sj Tryz.f80 0 [1,1,1,1,0,0] [10,11,12,13,14] 6 5 [2,3,4,29] 6 (fun r_=>⟨[(2,.ptr 0 0),(3,.ptr 1 0),(4,.ptr 2 0),(34,.b_ r_)],[.box 25 (ag_ (ak.lf1 r0) [(8,.own 3),(10,.own 4),(11,.own 5)]),.box 63 (.dat (aj.lf1 p_x)),.box 25 (Z25),.row 54 82 (r0.aP.map au.lf),.row 3 1 (r0.fNext.map lfI),.row 3 1 (r0.bg.map lfI)]⟩) ⟨[(2,.ptr 0 0),(3,.ptr 1 0),(4,.ptr 2 0),(29,.b_ r2)],[.box 25 (ag_ (ak.lf1 r0) [(8,.own 3),(10,.own 4),(11,.own 5)]),.box 63 (.dat (aj.lf1 p_x)),.box 25 (Z25),.row 54 82 (r0.aP.map au.lf),.row 3 1 (r0.fNext.map lfI),.row 3 1 (r0.bg.map lfI)]⟩ (XA p_x r0 r2).den (sW (by kernel_rfl)) fun r3 _ =>
 .sj Tryz.f80 0 [1,1,1,1,0,0] [15,16,17,18,19] 6 5 [2,3,4,34] 6 (fun r_=>⟨[(2,.ptr 0 0),(3,.ptr 1 0),(4,.ptr 2 0),(39,.b_ r_)],[.box 25 (.agg ((ak.lf1 r0).map AV.lf)),.box 63 (.dat (aj.lf1 p_x)),.box 25 (Z25),.dead,.dead,.dead]⟩) ⟨[(2,.ptr 0 0),(3,.ptr 1 0),(4,.ptr 2 0),(34,.b_ r3)],[.box 25 (ag_ (ak.lf1 r0) [(8,.own 3),(10,.own 4),(11,.own 5)]),.box 63 (.dat (aj.lf1 p_x)),.box 25 (Z25),.row 54 82 (r0.aP.map au.lf),.row 3 1 (r0.fNext.map lfI),.row 3 1 (r0.bg.map lfI)]⟩ (SX p_x r0 r3).den (sW (by kernel_rfl)) fun r4 _ =>
 .sj Tryz.f80 0 [1,1,1,1,0,0] [20,21,22,23,24] 6 5 [2,3,4,39] 6 (fun r_=>⟨[(2,.ptr 0 0),(3,.ptr 1 0),(4,.ptr 2 0),(44,.b_ r_)],[.box 25 (.agg ((ak.lf1 r0).map AV.lf)),.box 63 (.dat (aj.lf1 p_x)),.box 25 (Z25),.dead,.dead,.dead]⟩) ⟨[(2,.ptr 0 0),(3,.ptr 1 0),(4,.ptr 2 0),(39,.b_ r4)],[.box 25 (.agg ((ak.lf1 r0).map AV.lf)),.box 63 (.dat (aj.lf1 p_x)),.box 25 (Z25),.dead,.dead,.dead]⟩ (SY p_x r0 r4).den (sW (by kernel_rfl)) fun r5 _ =>
 .sj Tryz.f80 0 [1,1,1,1,0,0] [25,26,27,28,29,30,31] 6 7 [2,3,4,44] 6 (fun r_=>⟨[(2,.ptr 0 0),(3,.ptr 1 0),(4,.ptr 2 0),(51,.b_ r_)],[.box 25 (.agg ((ak.lf1 r0).map AV.lf)),.box 63 (.dat (aj.lf1 p_x)),.box 25 (Z25),.dead,.dead,.dead]⟩) ⟨[(2,.ptr 0 0),(3,.ptr 1 0),(4,.ptr 2 0),(44,.b_ r5)],[.box 25 (.agg ((ak.lf1 r0).map AV.lf)),.box 63 (.dat (aj.lf1 p_x)),.box 25 (Z25),.dead,.dead,.dead]⟩ (S9 p_x r0 r5).den (sW (by kernel_rfl)) fun r6 _ =>
 .ite (r6) (fun c1 =>
 .say [.br true] (ok1 c1) <|
 .ret (bn 1) (r0)) fun c1 =>
 .say [.br false,.order [(true,0),(true,1),(true,2),(true,3),(true,4),(true,5),(true,6),(false,7)] (some 7) []] (ok1 c1) <|
 .grd ((0:Int) ≤ p_x.dB) fun h1 =>
 .say [] (ok1 h1) <|
 .ask (ajg (IntKind.wrap .u64 (bI .or .i64 r0.fQ (yD .i64 1 p_x.dB)))) fun r7 h2 =>
 .say [] (ok1 (aej _ _ h2)) <|
 .ask (ajh r0.dJ) fun r8 h3 =>
 .say [.dM (.q 0 (.q 1 (.q 2 (.q 4 (.q 5 (.l 3 (.l 6 (.q 7 .fin)))))))) (some 6) [] [.res (.i_ r7),.res (.i_ r8)] [2,4,67] 6 [(2,.ptr 0 0),(4,.ptr 2 0),(67,.lf (.bool (decide ((r8:Int) ≤ r7))))] [.box 25 (ag_ (ak.lf1 r0) [(7,.i_ (bI .or .i64 r0.fQ (yD .i64 1 p_x.dB)))]),.box 63 (.dat (aj.lf1 p_x)),.box 25 (Z25),.dead,.dead,.dead]] (okc (Vq _ _ h3) (ok1 (rf_ ⟨[(2,.ptr 0 0),(4,.ptr 2 0),(67,.lf (.bool (decide ((r8:Int) ≤ r7))))],[.box 25 (ag_ (ak.lf1 r0) [(7,.i_ (bI .or .i64 r0.fQ (yD .i64 1 p_x.dB)))]),.box 63 (.dat (aj.lf1 p_x)),.box 25 (Z25),.dead,.dead,.dead]⟩))) <|
 .iB (decide ((r8:Int) ≤ r7)) (.cl (ahM (ak.Ri r0 (bI .or .i64 r0.fQ (yD .i64 1 p_x.dB)))) fun r9 _ =>
 .ret (bn 1) (r9)) <|
 .ret (bn 1) (ak.Ri r0 (bI .or .i64 r0.fQ (yD .i64 1 p_x.dB)))
def ajZ (p_m:ak) (p_x:aj) : Option (ak) := Mo.den (ahN p_m p_x)
theorem aek (p_m:ak) (p_x:aj) : FV (ajZ p_m p_x) 80 [.dat (ak.lf1 p_m),.dat (aj.lf1 p_x)] (fun r=>.dat (ak.lf1 r)) := dw Tryz.func80 (by kernel_rfl) (fun _=>rfl) (by kernel_rfl)
def ahO (p_x:aj) (p_b0:aF) : Mo (aF) :=
 .say [.order [(true,0),(true,1),(true,2),(true,3),(true,5),(false,4),(false,6),(true,7),(true,8),(false,9)] (some 9) [0,1,2,3],.at_ 4 6,.frz 1,.frz 2,.frz 3] ok0 <|
 .cl (aek p_b0.aI p_x) fun r0 _ =>
 .ret ⟨[.kill 5,.mvn 4],[],[(6,5)],6⟩ (aF.mk r0 p_b0.cZ p_b0.eG)
def ajj (p_x:aj) (p_b0:aF) : Option (aF) := Mo.den (ahO p_x p_b0)
theorem ael (p_x:aj) (p_b0:aF) : FH (ajj p_x p_b0) 44 [.ptr 0 0,.dat (aj.lf1 p_x)] [.box 97 (ag_ (aF.lf1 p_b0) [(8,.own 1),(10,.own 2),(11,.own 3),(12,.own 4)]),.row 54 82 (p_b0.aI.aP.map au.lf),.row 3 1 (p_b0.aI.fNext.map lfI),.row 3 1 (p_b0.aI.bg.map lfI),.row 63 9 (p_b0.cZ.map aj.lf)] (fun _=>.tup []) (fun r=>[.box 97 (ag_ (aF.lf1 r) [(12,.own 5)]),.dead,.dead,.dead,.dead,.row 63 9 (r.cZ.map aj.lf)]) := gV Tryz.func44 (by kernel_rfl) (fun _=>rfl) (by kernel_rfl)
def abn (p_x:aj) (p_ok:Bool) (p_index:Int) (p_b0:aF) : Mo (aF) :=
 .say [.order [(true,0),(true,1),(true,2),(true,3),(true,4),(true,5),(true,6),(true,7),(true,8),(true,9),(true,10),(true,11),(true,12),(true,13),(true,14),(true,15),(true,16),(true,17),(true,18),(true,19),(false,20),(false,21),(true,22),(true,23),(false,24)] (some 24) [4,6,7],.rows ((p_b0.cZ ++ [aj.sOK (aj.tu (aj.mO (aj.kZ (aj.sTo (aj.nZ aj.z p_b0.aI.fID) p_x.dB) 4) p_b0.aI.bC) p_index) p_ok]).map aj.lf)] (ok1 (by simp [aj.aU] : (p_b0.cZ ++ [aj.sOK (aj.tu (aj.mO (aj.kZ (aj.sTo (aj.nZ aj.z p_b0.aI.fID) p_x.dB) 4) p_b0.aI.bC) p_index) p_ok]).map aj.lf = (p_b0.cZ.map aj.lf) ++ [(aj.lf1 (aj.sOK (aj.tu (aj.mO (aj.kZ (aj.sTo (aj.nZ aj.z p_b0.aI.fID) p_x.dB) 4) p_b0.aI.bC) p_index) p_ok))])) <|
 .grd ((p_b0.cZ.length + [aj.sOK (aj.tu (aj.mO (aj.kZ (aj.sTo (aj.nZ aj.z p_b0.aI.fID) p_x.dB) 4) p_b0.aI.bC) p_index) p_ok].length) * 88 ≤ 140737488355328) fun h0 =>
 .say [] (ok1 (cp_ aj.lf h0)) <|
 .ret ⟨[.kill 5,.kill 6,.mvn 1,.mvn 2,.mvn 3,.mvn 7],[],[(8,5),(9,6),(10,7),(11,8)],9⟩ (aF.mk p_b0.aI (p_b0.cZ ++ [aj.sOK (aj.tu (aj.mO (aj.kZ (aj.sTo (aj.nZ aj.z p_b0.aI.fID) p_x.dB) 4) p_b0.aI.bC) p_index) p_ok]) p_b0.eG)
def ahP (p_x:aj) (p_ok:Bool) (p_index:Int) (p_b0:aF) : Option (aF) := Mo.den (abn p_x p_ok p_index p_b0)
theorem Jr (p_x:aj) (p_ok:Bool) (p_index:Int) (p_b0:aF) : FH (ahP p_x p_ok p_index p_b0) 81 [.ptr 0 0,.dat (aj.lf1 p_x),.b_ p_ok,.i_ p_index] [.box 97 (ag_ (aF.lf1 p_b0) [(8,.own 1),(10,.own 2),(11,.own 3),(12,.own 4)]),.row 54 82 (p_b0.aI.aP.map au.lf),.row 3 1 (p_b0.aI.fNext.map lfI),.row 3 1 (p_b0.aI.bg.map lfI),.row 63 9 (p_b0.cZ.map aj.lf)] (fun _=>.tup []) (fun r=>[.box 97 (ag_ (aF.lf1 r) [(8,.own 5),(10,.own 6),(11,.own 7),(12,.own 8)]),.dead,.dead,.dead,.dead,.row 54 82 (r.aI.aP.map au.lf),.row 3 1 (r.aI.fNext.map lfI),.row 3 1 (r.aI.bg.map lfI),.row 63 9 (r.cZ.map aj.lf)]) := gV Tryz.func81 (by kernel_rfl) (fun _=>rfl) (by kernel_rfl)
def H6 (p_n:Int) (p_s0:List au) : Mo (Bool) :=
 .ite (decide ((p_n:Int) < 1)) (fun c0 =>
 .say [.gd 4002 true] (ok1 c0) <|
 .rt [0,1,12] 1 (true)) fun c0 =>
 .say [.gd 4002 false,.num p_s0.length] (okc c0 (ok1 (ln_ p_s0 au.lf))) <|
 .rt [0,1,12] 1 (decide (((p_s0.length:Int) : Int) < p_n))
def abo (p_n:Int) (p_s0:List au) : Mo (Int) :=
 .jp Tryz.f53 1 [1,0,0] 9 [0,1] 1 (.normal) (fun r_=>⟨[(0,.own 0),(1,.i_ p_n),(12,.b_ r_)],[.row 54 82 (p_s0.map au.lf)]⟩) ⟨[(0,.own 0),(1,.i_ p_n)],[.row 54 82 (p_s0.map au.lf)]⟩ (H6 p_n p_s0).den (jW (by kernel_rfl)) fun r0 _ =>
 .iB (r0) (.rt [0] 1 (0)) <|
 .ask (bT p_s0 (IntKind.wrap .i64 (p_n - 1))) fun x0 h0 =>
 .say [.row (au.lf1 x0)] (okc (bZ au.aU h0) (ok1 ((aX au.aU h0).2))) <|
 .rt [0] 1 (x0.bC)
def ahQ (p_n:Int) (p_s0:List au) : Option (Int) := Mo.den (abo p_n p_s0)
theorem aem (p_n:Int) (p_s0:List au) : FH (ahQ p_n p_s0) 53 [.own 0,.i_ p_n] [.row 54 82 (p_s0.map au.lf)] (fun r=>.i_ r) (fun _=>[.row 54 82 (p_s0.map au.lf)]) := gV Tryz.func53 (by kernel_rfl) (fun _=>rfl) (by kernel_rfl)
def abp (p_a:au) (p_b:au) : Mo (Bool) :=
 .iG 4005 (p_a.bC == p_b.bC) (.ret (bn 1) (p_a.fO == p_b.fO)) <|
 .ret (bn 1) (false)
def aen (p_a:au) (p_b:au) : Option (Bool) := Mo.den (abp p_a p_b)
theorem aeo (p_a:au) (p_b:au) : FV (aen p_a p_b) 164 [.dat (au.lf1 p_a),.dat (au.lf1 p_b)] (fun r=>.b_ r) := dw Tryz.func164 (by kernel_rfl) (fun _=>rfl) (by kernel_rfl)
def xP (p_b0:aF) (p_x:aj) : (Int) → Mo ((Int) ⊕ (Unit ⊕ (Int))) := fun (v0) =>
 .iB (decide ((v0:Int) < (p_x.aW.length:Int))) (.ask (bT p_x.aW v0) fun x0 h0 =>
 .say [.row (au.lf1 x0),.num p_b0.aI.aP.length] (okc (aX au.aU h0) (ok1 (ln_ p_b0.aI.aP au.lf))) <|
 .iB (decide (((p_b0.aI.aP.length:Int) : Int) ≤ (IntKind.wrap .i64 (p_x.bG + v0)))) (.ret ⟨[.kill 5],[0],[],6⟩ (.inr (.inl ()))) <|
 .ask (bT p_b0.aI.aP (IntKind.wrap .i64 (p_x.bG + v0))) fun x1 h1 =>
 .say [] (okc (bZ au.aU h1) (ok1 ((aX au.aU h1).2))) <|
 .ask (aen x0 x1) fun r0 h2 =>
 .say [.dM (.q 0 (.q 1 (.q 2 (.q 3 (.q 4 (.q 6 (.l 5 (.q 7 (.q 8 (.l 9 (.q 10 .fin))))))))))) (some 9) [] [.row (au.lf1 x1),.res (.b_ r0)] [0,3,7,9,10,11,38] 7 [(0,.ptr 0 0),(3,.ptr 5 0),(7,.i_ (IntKind.wrap .i64 (p_x.bG + v0))),(9,.lf (.rows 82 (p_x.aW.map au.lf))),(10,.i_ (p_x.aW.length:Int)),(11,.i_ v0),(38,.lf (.bool (!r0)))] [.box 97 (ag_ (aF.lf1 p_b0) [(8,.own 1),(10,.own 2),(11,.own 3),(12,.own 4)]),.row 54 82 (p_b0.aI.aP.map au.lf),.row 3 1 (p_b0.aI.fNext.map lfI),.row 3 1 (p_b0.aI.bg.map lfI),.row 63 9 (p_b0.cZ.map aj.lf),.box 63 (.dat (aj.lf1 p_x)),.box 54 (.agg ((au.lf1 x0).map AV.lf))]] (okc (aeo _ _ _ h2) (ok1 (rf_ ⟨[(0,.ptr 0 0),(3,.ptr 5 0),(7,.i_ (IntKind.wrap .i64 (p_x.bG + v0))),(9,.lf (.rows 82 (p_x.aW.map au.lf))),(10,.i_ (p_x.aW.length:Int)),(11,.i_ v0),(38,.lf (.bool (!r0)))],[.box 97 (ag_ (aF.lf1 p_b0) [(8,.own 1),(10,.own 2),(11,.own 3),(12,.own 4)]),.row 54 82 (p_b0.aI.aP.map au.lf),.row 3 1 (p_b0.aI.fNext.map lfI),.row 3 1 (p_b0.aI.bg.map lfI),.row 63 9 (p_b0.cZ.map aj.lf),.box 63 (.dat (aj.lf1 p_x)),.box 54 (.agg ((au.lf1 x0).map AV.lf))]⟩))) <|
 .iB (!r0) (.ret ⟨[.kill 5],[4],[],6⟩ (.inr (.inr ((IntKind.wrap .i64 (p_x.bG + v0)))))) <|
 .rt [0,3,9,10,11] 6 (.inl (IntKind.wrap .i64 (v0 + 1)))) <|
 .ret ⟨[.kill 5],[0],[],6⟩ (.inr (.inl ()))
def Tc (p_b0:aF) (p_x:aj) (v0:Int) : Option (Unit ⊕ (Int)) := bJ (fun v_=>(xP p_b0 p_x v_).den) FU (v0)
def P8 (p_b0:aF) (p_x:aj) : (Int) → St := fun (v0)=>⟨[(0,.ptr 0 0),(3,.ptr 5 0),(9,.lf (.rows 82 (p_x.aW.map au.lf))),(10,.i_ (p_x.aW.length:Int)),(11,.i_ v0)],[.box 97 (ag_ (aF.lf1 p_b0) [(8,.own 1),(10,.own 2),(11,.own 3),(12,.own 4)]),.row 54 82 (p_b0.aI.aP.map au.lf),.row 3 1 (p_b0.aI.fNext.map lfI),.row 3 1 (p_b0.aI.bg.map lfI),.row 63 9 (p_b0.cZ.map aj.lf),.box 63 (.dat (aj.lf1 p_x))]⟩
def xQ (r_:Unit ⊕ (Int)) : Exit := match r_ with
 | .inl o_=>.exit 0
 | .inr (o_)=>.ret
def xR (p_b0:aF) (r_:Unit ⊕ (Int)) : St := match r_ with
 | .inl o_=>⟨[(0,.ptr 0 0)],[.box 97 (ag_ (aF.lf1 p_b0) [(8,.own 1),(10,.own 2),(11,.own 3),(12,.own 4)]),.row 54 82 (p_b0.aI.aP.map au.lf),.row 3 1 (p_b0.aI.fNext.map lfI),.row 3 1 (p_b0.aI.bg.map lfI),.row 63 9 (p_b0.cZ.map aj.lf),.dead]⟩
 | .inr (o_)=>⟨[(4,.i_ o_)],[.box 97 (ag_ (aF.lf1 p_b0) [(8,.own 1),(10,.own 2),(11,.own 3),(12,.own 4)]),.row 54 82 (p_b0.aI.aP.map au.lf),.row 3 1 (p_b0.aI.fNext.map lfI),.row 3 1 (p_b0.aI.bg.map lfI),.row 63 9 (p_b0.cZ.map aj.lf),.dead]⟩
theorem P9 {p_b0:aF} {p_x:aj} {v0:Int} {r_:Unit ⊕ (Int)} (h:Tc p_b0 p_x v0 = some r_) : gq Tryz.f119 5 [1,0,1,0] (xQ r_) (xR p_b0 r_) (P8 p_b0 p_x (v0)) :=
 dR dL (body := (Code.sub (bodyC Tryz.f119) [1,0,1,0,0])) (by kernel_rfl) (xP p_b0 p_x) (P8 p_b0 p_x) xQ (xR p_b0) (fun r_=>by rcases r_ with _ | _ <;> rfl) (fun v_=>by kernel_rfl) h
def afY (p_x:aj) (p_b0:aF) : Mo (Int) :=
 .say [.num p_x.aW.length] (ok1 (ln_ p_x.aW au.lf)) <|
 .eY (Tc p_b0 p_x 0) (fun o0 h0 =>
 .say [.pt_ 0 [0,3,9,10,11] 6 (xQ (.inl o0)) (xR p_b0 (.inl o0)),.num p_b0.aI.aP.length] (okc (P9 h0) (ok1 (ln_ p_b0.aI.aP au.lf))) <|
 .ret ⟨[.mvn 1,.mvn 2,.mvn 3,.mvn 4],[0],[(6,5),(7,6),(8,7),(9,8)],9⟩ ((p_b0.aI.aP.length:Int))) fun o1 h0 =>
 .say [.pt_ 0 [0,3,9,10,11] 6 (xQ (.inr (o1))) (xR p_b0 (.inr (o1)))] (ok1 (P9 h0)) <|
 .ret ⟨[.mvn 1,.mvn 2,.mvn 3,.mvn 4],[0],[(6,5),(7,6),(8,7),(9,8)],9⟩ (o1)
def Q27 (p_x:aj) (p_b0:aF) : Option (Int) := Mo.den (afY p_x p_b0)
theorem Js (p_x:aj) (p_b0:aF) : FH (Q27 p_x p_b0) 119 [.ptr 0 0,.dat (aj.lf1 p_x)] [.box 97 (ag_ (aF.lf1 p_b0) [(8,.own 1),(10,.own 2),(11,.own 3),(12,.own 4)]),.row 54 82 (p_b0.aI.aP.map au.lf),.row 3 1 (p_b0.aI.fNext.map lfI),.row 3 1 (p_b0.aI.bg.map lfI),.row 63 9 (p_b0.cZ.map aj.lf)] (fun r=>.i_ r) (fun _=>[.box 97 (ag_ (aF.lf1 p_b0) [(8,.own 5),(10,.own 6),(11,.own 7),(12,.own 8)]),.dead,.dead,.dead,.dead,.row 54 82 (p_b0.aI.aP.map au.lf),.row 3 1 (p_b0.aI.fNext.map lfI),.row 3 1 (p_b0.aI.bg.map lfI),.row 63 9 (p_b0.cZ.map aj.lf)]) := gV Tryz.func119 (by kernel_rfl) (fun _=>rfl) (by kernel_rfl)
def H7 (p_b0:aF) (p_x:aj) : Mo (Bool) :=
 .ite (decide ((p_x.bG:Int) < 0)) (fun c0 =>
 .say [.order [(true,0),(true,1),(true,2),(true,3),(true,4),(true,5),(true,6),(true,7),(true,8),(true,9),(false,10),(true,11),(true,12),(true,13),(true,14),(true,15),(true,16),(true,17),(true,18),(true,19),(true,21),(true,22),(false,20),(true,23),(true,24)] none [],.gd 6003 true] (ok1 c0) <|
 .rt [0,3,5,33] 6 (true)) fun c0 =>
 .say [] (okc c0 (ok1 (ln_ p_b0.aI.aP au.lf))) <|
 .ite (decide (((p_b0.aI.aP.length:Int) : Int) < p_x.bG)) (fun c1 =>
 .say [.order [(true,0),(true,1),(true,2),(true,3),(true,4),(true,5),(true,6),(true,7),(true,8),(true,9),(false,10),(true,11),(true,12),(true,13),(true,14),(true,15),(true,16),(true,17),(true,18),(true,19),(true,21),(true,22),(false,20),(true,23),(true,24)] none [],.gd 6003 false,.num p_b0.aI.aP.length,.gd 6013 true] (ok1 c1) <|
 .rt [0,3,5,33] 6 (true)) fun c1 =>
 .say [.order [(true,0),(true,1),(true,2),(true,3),(true,4),(true,5),(true,6),(true,7),(true,8),(true,9),(false,10),(true,11),(true,12),(true,13),(true,14),(true,15),(true,16),(true,17),(true,18),(true,19),(true,21),(true,22),(false,20),(true,23),(true,24)] none [1],.gd 6003 false,.num p_b0.aI.aP.length,.gd 6013 false] (ok1 c1) <|
 .cH [1] (aem p_x.bG p_b0.aI.aP) fun r0 _ =>
 .rt [0,3,5,33] 6 (r0 != p_x.mM)
def abq (p_x:aj) (p_b0:aF) : Mo (Bool) :=
 .jp Tryz.f82 5 [1,1,0,0] 11 [0,3,5] 6 (.normal) (fun r_=>⟨[(0,.ptr 0 0),(3,.ptr 5 0),(5,.ptr 0 0),(33,.b_ r_)],[.box 97 (ag_ (aF.lf1 p_b0) [(8,.own 1),(10,.own 2),(11,.own 3),(12,.own 4)]),.row 54 82 (p_b0.aI.aP.map au.lf),.row 3 1 (p_b0.aI.fNext.map lfI),.row 3 1 (p_b0.aI.bg.map lfI),.row 63 9 (p_b0.cZ.map aj.lf),.box 63 (.dat (aj.lf1 p_x))]⟩) ⟨[(0,.ptr 0 0),(3,.ptr 5 0),(5,.ptr 0 0)],[.box 97 (ag_ (aF.lf1 p_b0) [(8,.own 1),(10,.own 2),(11,.own 3),(12,.own 4)]),.row 54 82 (p_b0.aI.aP.map au.lf),.row 3 1 (p_b0.aI.fNext.map lfI),.row 3 1 (p_b0.aI.bg.map lfI),.row 63 9 (p_b0.cZ.map aj.lf),.box 63 (.dat (aj.lf1 p_x))]⟩ (H7 p_b0 p_x).den (jW (by kernel_rfl)) fun r0 _ =>
 .iB (r0) (.ret ⟨[.kill 5,.mvn 1,.mvn 2,.mvn 3,.mvn 4],[0],[(6,5),(7,6),(8,7),(9,8)],9⟩ (true)) <|
 .ask (Q27 p_x p_b0) fun r1 h0 =>
 .say [] (ok1 (Js _ _ _ h0)) <|
 .ite (decide ((r1:Int) < p_b0.aI.aA)) (fun c0 =>
 .say [.dM (.q 0 (.q 1 (.q 3 (.q 4 (.q 5 (.alt 2 (.l 6 (.q 7 (.q 8 (.q 9 (.q 11 (.alt 10 (.l 12 (.q 13 (.q 14 (.q 15 (.q 16 (.q 17 .fin)))))) (.l 12 (.q 13 (.l 10 (.q 14 (.q 15 (.q 16 (.q 17 .fin))))))))))))) (.l 6 (.l 2 (.q 7 (.q 8 (.q 9 (.q 11 (.alt 10 (.l 12 (.q 13 (.q 14 (.q 15 (.q 16 (.q 17 .fin)))))) (.l 12 (.q 13 (.l 10 (.q 14 (.q 15 (.q 16 (.q 17 .fin)))))))))))))))))))) none [0,1,2,3,4] [.both [.jd [0,1,2,3,4] (.i_ r1) [.box 97 (ag_ (aF.lf1 p_b0) [(8,.own 5),(10,.own 6),(11,.own 7),(12,.own 8)]),.dead,.dead,.dead,.dead,.row 54 82 (p_b0.aI.aP.map au.lf),.row 3 1 (p_b0.aI.fNext.map lfI),.row 3 1 (p_b0.aI.bg.map lfI),.row 63 9 (p_b0.cZ.map aj.lf)],.gd 10008 true,.both [] []] [.jd [0,1,2,3,4] (.i_ r1) [.box 97 (ag_ (aF.lf1 p_b0) [(8,.own 5),(10,.own 6),(11,.own 7),(12,.own 8)]),.dead,.dead,.dead,.dead,.row 54 82 (p_b0.aI.aP.map au.lf),.row 3 1 (p_b0.aI.fNext.map lfI),.row 3 1 (p_b0.aI.bg.map lfI),.row 63 9 (p_b0.cZ.map aj.lf)],.gd 10008 true,.both [] []]] [4] 10 [(4,.b_ true)] [.box 97 (ag_ (aF.lf1 p_b0) [(8,.own 6),(10,.own 7),(11,.own 8),(12,.own 9)]),.dead,.dead,.dead,.dead,.box 63 (.dat (aj.lf1 p_x)),.row 54 82 (p_b0.aI.aP.map au.lf),.row 3 1 (p_b0.aI.fNext.map lfI),.row 3 1 (p_b0.aI.bg.map lfI),.row 63 9 (p_b0.cZ.map aj.lf)]] (okc c0 (okc (rf_ ⟨[(4,.b_ true)],[.box 97 (ag_ (aF.lf1 p_b0) [(8,.own 6),(10,.own 7),(11,.own 8),(12,.own 9)]),.dead,.dead,.dead,.dead,.box 63 (.dat (aj.lf1 p_x)),.row 54 82 (p_b0.aI.aP.map au.lf),.row 3 1 (p_b0.aI.fNext.map lfI),.row 3 1 (p_b0.aI.bg.map lfI),.row 63 9 (p_b0.cZ.map aj.lf)]⟩) (okc (rf_ ⟨[(4,.b_ true)],[.box 97 (ag_ (aF.lf1 p_b0) [(8,.own 6),(10,.own 7),(11,.own 8),(12,.own 9)]),.dead,.dead,.dead,.dead,.box 63 (.dat (aj.lf1 p_x)),.row 54 82 (p_b0.aI.aP.map au.lf),.row 3 1 (p_b0.aI.fNext.map lfI),.row 3 1 (p_b0.aI.bg.map lfI),.row 63 9 (p_b0.cZ.map aj.lf)]⟩) (okc (Js _ _ _ h0) (okc c0 (okc (rf_ ⟨[(4,.b_ true)],[.box 97 (ag_ (aF.lf1 p_b0) [(8,.own 6),(10,.own 7),(11,.own 8),(12,.own 9)]),.dead,.dead,.dead,.dead,.box 63 (.dat (aj.lf1 p_x)),.row 54 82 (p_b0.aI.aP.map au.lf),.row 3 1 (p_b0.aI.fNext.map lfI),.row 3 1 (p_b0.aI.bg.map lfI),.row 63 9 (p_b0.cZ.map aj.lf)]⟩) (ok1 (rf_ ⟨[(4,.b_ true)],[.box 97 (ag_ (aF.lf1 p_b0) [(8,.own 6),(10,.own 7),(11,.own 8),(12,.own 9)]),.dead,.dead,.dead,.dead,.box 63 (.dat (aj.lf1 p_x)),.row 54 82 (p_b0.aI.aP.map au.lf),.row 3 1 (p_b0.aI.fNext.map lfI),.row 3 1 (p_b0.aI.bg.map lfI),.row 63 9 (p_b0.cZ.map aj.lf)]⟩)))))))) <|
 .ret ⟨[.kill 5,.mvn 6,.mvn 7,.mvn 8,.mvn 9],[0],[(10,5),(11,6),(12,7),(13,8)],9⟩ (true)) fun c0 =>
 .say [.dM (.q 0 (.q 1 (.q 3 (.q 4 (.q 5 (.alt 2 (.l 6 (.q 7 (.q 8 (.q 9 (.q 11 (.alt 10 (.l 12 (.q 13 (.q 14 (.q 15 (.q 16 (.q 17 .fin)))))) (.l 12 (.q 13 (.l 10 (.q 14 (.q 15 (.q 16 (.q 17 .fin))))))))))))) (.l 6 (.l 2 (.q 7 (.q 8 (.q 9 (.q 11 (.alt 10 (.l 12 (.q 13 (.q 14 (.q 15 (.q 16 (.q 17 .fin)))))) (.l 12 (.q 13 (.l 10 (.q 14 (.q 15 (.q 16 (.q 17 .fin)))))))))))))))))))) none [0,1,2,3,4] [.both [.jd [0,1,2,3,4] (.i_ r1) [.box 97 (ag_ (aF.lf1 p_b0) [(8,.own 5),(10,.own 6),(11,.own 7),(12,.own 8)]),.dead,.dead,.dead,.dead,.row 54 82 (p_b0.aI.aP.map au.lf),.row 3 1 (p_b0.aI.fNext.map lfI),.row 3 1 (p_b0.aI.bg.map lfI),.row 63 9 (p_b0.cZ.map aj.lf)],.gd 10008 false,.both [.num p_x.aW.length] [.num p_x.aW.length]] [.jd [0,1,2,3,4] (.i_ r1) [.box 97 (ag_ (aF.lf1 p_b0) [(8,.own 5),(10,.own 6),(11,.own 7),(12,.own 8)]),.dead,.dead,.dead,.dead,.row 54 82 (p_b0.aI.aP.map au.lf),.row 3 1 (p_b0.aI.fNext.map lfI),.row 3 1 (p_b0.aI.bg.map lfI),.row 63 9 (p_b0.cZ.map aj.lf)],.gd 10008 false,.both [.num p_x.aW.length] [.num p_x.aW.length]]] [4] 10 [(4,.lf (.bool (decide ((16384:Int) < (IntKind.wrap .i64 (p_x.bG + (p_x.aW.length:Int)))))))] [.box 97 (ag_ (aF.lf1 p_b0) [(8,.own 6),(10,.own 7),(11,.own 8),(12,.own 9)]),.dead,.dead,.dead,.dead,.box 63 (.dat (aj.lf1 p_x)),.row 54 82 (p_b0.aI.aP.map au.lf),.row 3 1 (p_b0.aI.fNext.map lfI),.row 3 1 (p_b0.aI.bg.map lfI),.row 63 9 (p_b0.cZ.map aj.lf)]] (okc c0 (okc (ln_ p_x.aW au.lf) (okc (rf_ ⟨[(4,.lf (.bool (decide ((16384:Int) < (IntKind.wrap .i64 (p_x.bG + (p_x.aW.length:Int)))))))],[.box 97 (ag_ (aF.lf1 p_b0) [(8,.own 6),(10,.own 7),(11,.own 8),(12,.own 9)]),.dead,.dead,.dead,.dead,.box 63 (.dat (aj.lf1 p_x)),.row 54 82 (p_b0.aI.aP.map au.lf),.row 3 1 (p_b0.aI.fNext.map lfI),.row 3 1 (p_b0.aI.bg.map lfI),.row 63 9 (p_b0.cZ.map aj.lf)]⟩) (okc (ln_ p_x.aW au.lf) (okc (rf_ ⟨[(4,.lf (.bool (decide ((16384:Int) < (IntKind.wrap .i64 (p_x.bG + (p_x.aW.length:Int)))))))],[.box 97 (ag_ (aF.lf1 p_b0) [(8,.own 6),(10,.own 7),(11,.own 8),(12,.own 9)]),.dead,.dead,.dead,.dead,.box 63 (.dat (aj.lf1 p_x)),.row 54 82 (p_b0.aI.aP.map au.lf),.row 3 1 (p_b0.aI.fNext.map lfI),.row 3 1 (p_b0.aI.bg.map lfI),.row 63 9 (p_b0.cZ.map aj.lf)]⟩) (okc (Js _ _ _ h0) (okc c0 (okc (ln_ p_x.aW au.lf) (okc (rf_ ⟨[(4,.lf (.bool (decide ((16384:Int) < (IntKind.wrap .i64 (p_x.bG + (p_x.aW.length:Int)))))))],[.box 97 (ag_ (aF.lf1 p_b0) [(8,.own 6),(10,.own 7),(11,.own 8),(12,.own 9)]),.dead,.dead,.dead,.dead,.box 63 (.dat (aj.lf1 p_x)),.row 54 82 (p_b0.aI.aP.map au.lf),.row 3 1 (p_b0.aI.fNext.map lfI),.row 3 1 (p_b0.aI.bg.map lfI),.row 63 9 (p_b0.cZ.map aj.lf)]⟩) (okc (ln_ p_x.aW au.lf) (ok1 (rf_ ⟨[(4,.lf (.bool (decide ((16384:Int) < (IntKind.wrap .i64 (p_x.bG + (p_x.aW.length:Int)))))))],[.box 97 (ag_ (aF.lf1 p_b0) [(8,.own 6),(10,.own 7),(11,.own 8),(12,.own 9)]),.dead,.dead,.dead,.dead,.box 63 (.dat (aj.lf1 p_x)),.row 54 82 (p_b0.aI.aP.map au.lf),.row 3 1 (p_b0.aI.fNext.map lfI),.row 3 1 (p_b0.aI.bg.map lfI),.row 63 9 (p_b0.cZ.map aj.lf)]⟩)))))))))))) <|
 .ret ⟨[.kill 5,.mvn 6,.mvn 7,.mvn 8,.mvn 9],[0],[(10,5),(11,6),(12,7),(13,8)],9⟩ (decide ((16384:Int) < (IntKind.wrap .i64 (p_x.bG + (p_x.aW.length:Int)))))
def ahR (p_x:aj) (p_b0:aF) : Option (Bool) := Mo.den (abq p_x p_b0)
theorem aep (p_x:aj) (p_b0:aF) : FH (ahR p_x p_b0) 82 [.ptr 0 0,.dat (aj.lf1 p_x)] [.box 97 (ag_ (aF.lf1 p_b0) [(8,.own 1),(10,.own 2),(11,.own 3),(12,.own 4)]),.row 54 82 (p_b0.aI.aP.map au.lf),.row 3 1 (p_b0.aI.fNext.map lfI),.row 3 1 (p_b0.aI.bg.map lfI),.row 63 9 (p_b0.cZ.map aj.lf)] (fun r=>.b_ r) (fun _=>[.box 97 (ag_ (aF.lf1 p_b0) [(8,.own 5),(10,.own 6),(11,.own 7),(12,.own 8)]),.dead,.dead,.dead,.dead,.row 54 82 (p_b0.aI.aP.map au.lf),.row 3 1 (p_b0.aI.fNext.map lfI),.row 3 1 (p_b0.aI.bg.map lfI),.row 63 9 (p_b0.cZ.map aj.lf)]) := gV Tryz.func82 (by kernel_rfl) (fun _=>rfl) (by kernel_rfl)
structure zA where
 m1:(p_v:ah) → Option (ah)
 ok1:∀ p_v,FV (m1 p_v) 186 [.dat (ah.lf1 p_v)] (fun r=>.dat (ah.lf1 r))
 m2:(p_l:List ah) → Option (List ah)
 ok2:∀ p_l,FH (m2 p_l) 228 [.lf (.rows 5 (p_l.map ah.lf)),.raw (.func (.func 186) #[] #[])] [] (fun r=>.lf (.rows 5 (r.map ah.lf))) (fun _=>[])
 m3:(p_l:List aO) → Option (List aO)
 ok3:∀ p_l,FH (m3 p_l) 229 [.lf (.rows 6 (p_l.map aO.lf)),.raw (.func (.func 230) #[] #[])] [] (fun r=>.lf (.rows 6 (r.map aO.lf))) (fun _=>[])
 m4:(p_f:aO) → Option (aO)
 ok4:∀ p_f,FV (m4 p_f) 230 [.dat (aO.lf1 p_f)] (fun r=>.dat (aO.lf1 r))
def abr (R_:zA) (p_v:ah) : Mo (ah) :=
 .cH [] (R_.ok2 p_v.bV) fun r0 _ =>
 .cH [] (R_.ok3 p_v.bU) fun r1 _ =>
 .ret (bn 1) (ah.mk p_v.aT p_v.jK p_v.fText r0 r1)
theorem aer (R_:zA) (p_v:ah) : FV (Mo.den (abr R_ p_v)) 186 [.dat (ah.lf1 p_v)] (fun r=>.dat (ah.lf1 r)) := dw Tryz.func186 (by kernel_rfl) (fun _=>rfl) (by kernel_rfl)
def Qa (R_:zA) (p_l:List ah) : (Int × (List ah)) → Mo ((Int × (List ah)) ⊕ ((List ah))) := fun (v0,l0) =>
 .iB (decide ((v0:Int) < (p_l.length:Int))) (.ask (bT p_l v0) fun x0 h0 =>
 .say [.row (ah.lf1 x0)] (ok1 (aX ah.aU h0)) <|
 .cl (R_.ok1 x0) fun r0 _ =>
 .ask (bT l0 v0) fun x1 h1 =>
 .say [.row (ah.lf1 x1),.rows ((l0.set v0.toNat r0).map ah.lf)] (okc (bZ ah.aU h1) (okc (st_ ah.aU l0 v0.toNat r0) (ok1 ((aX ah.aU h1).2)))) <|
 .rt [1,5,14,15,16] 1 (.inl (IntKind.wrap .i64 (v0 + 1),l0.set v0.toNat r0))) <|
 .rt [5] 1 (.inr (l0))
def abt (R_:zA) (p_l:List ah) (v0:Int) (l0:List ah) : Option (((List ah))) := bJ (fun v_=>(Qa R_ p_l v_).den) FU (v0,l0)
def abu (R_:zA) (p_l:List ah) : Mo (List ah) :=
 .say [.num p_l.length] (ok1 (ln_ p_l ah.lf)) <|
 .ite ((p_l.length:Int) == 0) (fun c0 =>
 .say [.br true] (ok1 c0) <|
 .ret ⟨[.nil 0 5,.tod 0],[0],[],0⟩ ([])) fun c0 =>
 .say [.br false,.num p_l.length,.rows ((List.replicate (p_l.length:Int).toNat (ah.mk 0 0 ⟨#[]⟩ [] [])).map ah.lf),.num p_l.length] (okc c0 (okc (ln_ p_l ah.lf) (ok1 (rp_ ah.aU (p_l.length:Int).toNat (ah.mk 0 0 ⟨#[]⟩ [] []))))) <|
 .grd ((0:Int) ≤ (p_l.length:Int) ∧ 80 * (p_l.length:Int).toNat ≤ 281474976710656 ∧ (p_l.length:Int).toNat ≤ maxLen) fun h0 =>
 .say [] (okc (mk_ (p_l.length:Int) h0) (ok1 (ln_ p_l ah.lf))) <|
 .lp Tryz.f228 0 [1,1,1,0,1,0] 0 [1,5,14,15,16] 1 (.exit 0) (fun r_=>⟨[(5,.own 0)],[.row 29 5 (r_.map ah.lf)]⟩) (abt R_ p_l 0 (List.replicate (p_l.length:Int).toNat (ah.mk 0 0 ⟨#[]⟩ [] []))) (lW (fun (v0,l0)=>⟨[(1,.raw (.func (.func 186) #[] #[])),(5,.own 0),(14,.lf (.rows 5 (p_l.map ah.lf))),(15,.i_ (p_l.length:Int)),(16,.i_ v0)],[.row 29 5 (l0.map ah.lf)]⟩) (by kernel_rfl) rfl fun v_=>by kernel_rfl) fun r0 _ =>
 .ret ⟨[.frz 0],[0],[],0⟩ (r0)
theorem aes (R_:zA) (p_l:List ah) : FH (Mo.den (abu R_ p_l)) 228 [.lf (.rows 5 (p_l.map ah.lf)),.raw (.func (.func 186) #[] #[])] [] (fun r=>.lf (.rows 5 (r.map ah.lf))) (fun _=>[]) := gV Tryz.func228 (by kernel_rfl) (fun _=>rfl) (by kernel_rfl)
def Qb (R_:zA) (p_l:List aO) : (Int × (List aO)) → Mo ((Int × (List aO)) ⊕ ((List aO))) := fun (v0,l0) =>
 .iB (decide ((v0:Int) < (p_l.length:Int))) (.ask (bT p_l v0) fun x0 h0 =>
 .say [.row (aO.lf1 x0)] (ok1 (aX aO.aU h0)) <|
 .cl (R_.ok4 x0) fun r0 _ =>
 .ask (bT l0 v0) fun x1 h1 =>
 .say [.row (aO.lf1 x1),.rows ((l0.set v0.toNat r0).map aO.lf)] (okc (bZ aO.aU h1) (okc (st_ aO.aU l0 v0.toNat r0) (ok1 ((aX aO.aU h1).2)))) <|
 .rt [1,5,14,15,16] 1 (.inl (IntKind.wrap .i64 (v0 + 1),l0.set v0.toNat r0))) <|
 .rt [5] 1 (.inr (l0))
def abv (R_:zA) (p_l:List aO) (v0:Int) (l0:List aO) : Option (((List aO))) := bJ (fun v_=>(Qb R_ p_l v_).den) FU (v0,l0)
def abw (R_:zA) (p_l:List aO) : Mo (List aO) :=
 .say [.num p_l.length] (ok1 (ln_ p_l aO.lf)) <|
 .ite ((p_l.length:Int) == 0) (fun c0 =>
 .say [.br true] (ok1 c0) <|
 .ret ⟨[.nil 0 6,.tod 0],[0],[],0⟩ ([])) fun c0 =>
 .say [.br false,.num p_l.length,.rows ((List.replicate (p_l.length:Int).toNat (aO.mk ⟨#[]⟩ (ah.mk 0 0 ⟨#[]⟩ [] []))).map aO.lf),.num p_l.length] (okc c0 (okc (ln_ p_l aO.lf) (ok1 (rp_ aO.aU (p_l.length:Int).toNat (aO.mk ⟨#[]⟩ (ah.mk 0 0 ⟨#[]⟩ [] [])))))) <|
 .grd ((0:Int) ≤ (p_l.length:Int) ∧ 96 * (p_l.length:Int).toNat ≤ 281474976710656 ∧ (p_l.length:Int).toNat ≤ maxLen) fun h0 =>
 .say [] (okc (mk_ (p_l.length:Int) h0) (ok1 (ln_ p_l aO.lf))) <|
 .lp Tryz.f229 0 [1,1,1,0,1,0] 0 [1,5,14,15,16] 1 (.exit 0) (fun r_=>⟨[(5,.own 0)],[.row 174 6 (r_.map aO.lf)]⟩) (abv R_ p_l 0 (List.replicate (p_l.length:Int).toNat (aO.mk ⟨#[]⟩ (ah.mk 0 0 ⟨#[]⟩ [] [])))) (lW (fun (v0,l0)=>⟨[(1,.raw (.func (.func 230) #[] #[])),(5,.own 0),(14,.lf (.rows 6 (p_l.map aO.lf))),(15,.i_ (p_l.length:Int)),(16,.i_ v0)],[.row 174 6 (l0.map aO.lf)]⟩) (by kernel_rfl) rfl fun v_=>by kernel_rfl) fun r0 _ =>
 .ret ⟨[.frz 0],[0],[],0⟩ (r0)
theorem aeu (R_:zA) (p_l:List aO) : FH (Mo.den (abw R_ p_l)) 229 [.lf (.rows 6 (p_l.map aO.lf)),.raw (.func (.func 230) #[] #[])] [] (fun r=>.lf (.rows 6 (r.map aO.lf))) (fun _=>[]) := gV Tryz.func229 (by kernel_rfl) (fun _=>rfl) (by kernel_rfl)
def Td (R_:zA) (p_f:aO) : Mo (aO) :=
 .say [.order [(true,0),(true,1),(true,2),(true,3),(false,4),(true,5),(false,6)] (some 6) []] ok0 <|
 .cl (R_.ok1 p_f.fValue) fun r0 _ =>
 .ret (bn 1) (aO.mk p_f.fName r0)
theorem abx (R_:zA) (p_f:aO) : FV (Mo.den (Td R_ p_f)) 230 [.dat (aO.lf1 p_f)] (fun r=>.dat (aO.lf1 r)) := dw Tryz.func230 (by kernel_rfl) (fun _=>rfl) (by kernel_rfl)
def iD:Nat → zA
 | 0=>{ m1 := fun p_v=>none,ok1 := fun _ _ h=>(by cases h),m2 := fun p_l=>none,ok2 := fun _ _ h=>(by cases h),m3 := fun p_l=>none,ok3 := fun _ _ h=>(by cases h),m4 := fun p_f=>none,ok4 := fun _ _ h=>(by cases h) }
 | n_ + 1=>{ m1 := fun p_v=>Mo.den (abr (iD n_) p_v),ok1 := fun p_v r h=>aer (iD n_) p_v r h,m2 := fun p_l=>Mo.den (abu (iD n_) p_l),ok2 := fun p_l r h=>aes (iD n_) p_l r h,m3 := fun p_l=>Mo.den (abw (iD n_) p_l),ok3 := fun p_l r h=>aeu (iD n_) p_l r h,m4 := fun p_f=>Mo.den (Td (iD n_) p_f),ok4 := abx (iD n_) }
def Q82 (p_v:ah) : Option (ah) := (iD FU).m1 p_v
theorem tX (p_v:ah) : FV (Q82 p_v) 186 [.dat (ah.lf1 p_v)] (fun r=>.dat (ah.lf1 r)) := (iD FU).ok1 p_v
def Q58 (p_l:List ah) : Option (List ah) := (iD FU).m2 p_l
theorem aby (p_l:List ah) : FH (Q58 p_l) 228 [.lf (.rows 5 (p_l.map ah.lf)),.raw (.func (.func 186) #[] #[])] [] (fun r=>.lf (.rows 5 (r.map ah.lf))) (fun _=>[]) := (iD FU).ok2 p_l
def abz (p_l:List ByteArray) : Mo (List ByteArray) :=
 .say [.rows (p_l.map lfS),.at_ 0 0,.frz 0] (ok1 (by simp [lfS] : p_l.map lfS = [] ++ (p_l.map lfS))) <|
 .grd ((([] : List ByteArray).length + p_l.length) * 16 ≤ 140737488355328) fun h0 =>
 .say [] (ok1 (cq_ lfS h0)) <|
 .ret (bn 1) (p_l)
def ahS (p_l:List ByteArray) : Option (List ByteArray) := Mo.den (abz p_l)
theorem xU (p_l:List ByteArray) : FV (ahS p_l) 282 [.lf (.rows 1 (p_l.map lfS))] (fun r=>.lf (.rows 1 (r.map lfS))) := dw Tryz.func282 (by kernel_rfl) (fun _=>rfl) (by kernel_rfl)
def abA (p_o:aY) : Mo (aY) :=
 .cl (xU p_o.cO) fun r0 _ =>
 .ret (bn 1) (aY.mk r0 p_o.Fj)
def aev (p_o:aY) : Option (aY) := Mo.den (abA p_o)
theorem aew (p_o:aY) : FV (aev p_o) 234 [.dat (aY.lf1 p_o)] (fun r=>.dat (aY.lf1 r)) := dw Tryz.func234 (by kernel_rfl) (fun _=>rfl) (by kernel_rfl)
def Qc (p_l:List aY) : (Int × (List aY)) → Mo ((Int × (List aY)) ⊕ ((List aY))) := fun (v0,l0) =>
 .iB (decide ((v0:Int) < (p_l.length:Int))) (.ask (bT p_l v0) fun x0 h0 =>
 .say [.row (aY.lf1 x0)] (ok1 (aX aY.aU h0)) <|
 .cl (aew x0) fun r0 _ =>
 .ask (bT l0 v0) fun x1 h1 =>
 .say [.row (aY.lf1 x1),.rows ((l0.set v0.toNat r0).map aY.lf)] (okc (bZ aY.aU h1) (okc (st_ aY.aU l0 v0.toNat r0) (ok1 ((aX aY.aU h1).2)))) <|
 .rt [1,5,14,15,16] 1 (.inl (IntKind.wrap .i64 (v0 + 1),l0.set v0.toNat r0))) <|
 .rt [5] 1 (.inr (l0))
def abB (p_l:List aY) (v0:Int) (l0:List aY) : Option (((List aY))) := bJ (fun v_=>(Qc p_l v_).den) FU (v0,l0)
def afZ (p_l:List aY) : Mo (List aY) :=
 .say [.num p_l.length] (ok1 (ln_ p_l aY.lf)) <|
 .ite ((p_l.length:Int) == 0) (fun c0 =>
 .say [.br true] (okc c0 (ok1 (by simp [aY.aU] : (([] : List aY).map aY.lf) = []))) <|
 .ret ⟨[.Ep 0 152 2,.kF 0 (([] : List aY).map aY.lf),.mvn 0],[0],[(1,0)],1⟩ (([] : List aY))) fun c0 =>
 .say [.br false,.num p_l.length,.rows ((List.replicate (p_l.length:Int).toNat (aY.mk [] false)).map aY.lf),.num p_l.length] (okc c0 (okc (ln_ p_l aY.lf) (ok1 (rp_ aY.aU (p_l.length:Int).toNat (aY.mk [] false))))) <|
 .grd ((0:Int) ≤ (p_l.length:Int) ∧ 32 * (p_l.length:Int).toNat ≤ 281474976710656 ∧ (p_l.length:Int).toNat ≤ maxLen) fun h0 =>
 .say [] (okc (mk_ (p_l.length:Int) h0) (ok1 (ln_ p_l aY.lf))) <|
 .lp Tryz.f233 0 [1,1,1,0,1,0] 0 [1,5,14,15,16] 1 (.exit 0) (fun r_=>⟨[(5,.own 0)],[.row 152 2 (r_.map aY.lf)]⟩) (abB p_l 0 (List.replicate (p_l.length:Int).toNat (aY.mk [] false))) (lW (fun (v0,l0)=>⟨[(1,.raw (.func (.func 234) #[] #[])),(5,.own 0),(14,.lf (.rows 2 (p_l.map aY.lf))),(15,.i_ (p_l.length:Int)),(16,.i_ v0)],[.row 152 2 (l0.map aY.lf)]⟩) (by kernel_rfl) rfl fun v_=>by kernel_rfl) fun r0 _ =>
 .ret ⟨[.mvn 0],[0],[(1,0)],1⟩ (r0)
def Q75 (p_l:List aY) : Option (List aY) := Mo.den (afZ p_l)
theorem ahT (p_l:List aY) : FH (Q75 p_l) 233 [.lf (.rows 2 (p_l.map aY.lf)),.raw (.func (.func 234) #[] #[])] [] (fun _=>.own 0) (fun r=>[.row 152 2 (r.map aY.lf)]) := gV Tryz.func233 (by kernel_rfl) (fun _=>rfl) (by kernel_rfl)
structure Tf where
 m1:(p_e:aC) → Option (aC)
 ok1:∀ p_e,FV (m1 p_e) 286 [.dat (aC.lf1 p_e)] (fun r=>.dat (aC.lf1 r))
 m2:(p_l:List aC) → Option (List aC)
 ok2:∀ p_l,FH (m2 p_l) 318 [.lf (.rows 11 (p_l.map aC.lf)),.raw (.func (.func 286) #[] #[])] [] (fun r=>.lf (.rows 11 (r.map aC.lf))) (fun _=>[])
def Ti (R_:Tf) (p_e:aC) : Mo (aC) :=
 .cl (xU p_e.cO) fun r0 _ =>
 .cl (xU p_e.bP) fun r1 _ =>
 .cl (tX p_e.fArg) fun r2 _ =>
 .cH [] (R_.ok2 p_e.aZ) fun r3 _ =>
 .ret (bn 1) (aC.mk p_e.fOp r0 p_e.fName r1 r2 p_e.fN r3)
theorem abC (R_:Tf) (p_e:aC) : FV (Mo.den (Ti R_ p_e)) 286 [.dat (aC.lf1 p_e)] (fun r=>.dat (aC.lf1 r)) := dw Tryz.func286 (by kernel_rfl) (fun _=>rfl) (by kernel_rfl)
def Qd (R_:Tf) (p_l:List aC) : (Int × (List aC)) → Mo ((Int × (List aC)) ⊕ ((List aC))) := fun (v0,l0) =>
 .iB (decide ((v0:Int) < (p_l.length:Int))) (.ask (bT p_l v0) fun x0 h0 =>
 .say [.row (aC.lf1 x0)] (ok1 (aX aC.aU h0)) <|
 .cl (R_.ok1 x0) fun r0 _ =>
 .ask (bT l0 v0) fun x1 h1 =>
 .say [.row (aC.lf1 x1),.rows ((l0.set v0.toNat r0).map aC.lf)] (okc (bZ aC.aU h1) (okc (st_ aC.aU l0 v0.toNat r0) (ok1 ((aX aC.aU h1).2)))) <|
 .rt [1,5,14,15,16] 1 (.inl (IntKind.wrap .i64 (v0 + 1),l0.set v0.toNat r0))) <|
 .rt [5] 1 (.inr (l0))
def abD (R_:Tf) (p_l:List aC) (v0:Int) (l0:List aC) : Option (((List aC))) := bJ (fun v_=>(Qd R_ p_l v_).den) FU (v0,l0)
def abE (R_:Tf) (p_l:List aC) : Mo (List aC) :=
 .say [.num p_l.length] (ok1 (ln_ p_l aC.lf)) <|
 .ite ((p_l.length:Int) == 0) (fun c0 =>
 .say [.br true] (ok1 c0) <|
 .ret ⟨[.nil 0 11,.tod 0],[0],[],0⟩ ([])) fun c0 =>
 .say [.br false,.num p_l.length,.rows ((List.replicate (p_l.length:Int).toNat aC.z).map aC.lf),.num p_l.length] (okc c0 (okc (ln_ p_l aC.lf) (ok1 (rp_ aC.aU (p_l.length:Int).toNat aC.z)))) <|
 .grd ((0:Int) ≤ (p_l.length:Int) ∧ 184 * (p_l.length:Int).toNat ≤ 281474976710656 ∧ (p_l.length:Int).toNat ≤ maxLen) fun h0 =>
 .say [] (okc (mk_ (p_l.length:Int) h0) (ok1 (ln_ p_l aC.lf))) <|
 .lp Tryz.f318 0 [1,1,1,0,1,0] 0 [1,5,14,15,16] 1 (.exit 0) (fun r_=>⟨[(5,.own 0)],[.row 44 11 (r_.map aC.lf)]⟩) (abD R_ p_l 0 (List.replicate (p_l.length:Int).toNat aC.z)) (lW (fun (v0,l0)=>⟨[(1,.raw (.func (.func 286) #[] #[])),(5,.own 0),(14,.lf (.rows 11 (p_l.map aC.lf))),(15,.i_ (p_l.length:Int)),(16,.i_ v0)],[.row 44 11 (l0.map aC.lf)]⟩) (by kernel_rfl) rfl fun v_=>by kernel_rfl) fun r0 _ =>
 .ret ⟨[.frz 0],[0],[],0⟩ (r0)
theorem aex (R_:Tf) (p_l:List aC) : FH (Mo.den (abE R_ p_l)) 318 [.lf (.rows 11 (p_l.map aC.lf)),.raw (.func (.func 286) #[] #[])] [] (fun r=>.lf (.rows 11 (r.map aC.lf))) (fun _=>[]) := gV Tryz.func318 (by kernel_rfl) (fun _=>rfl) (by kernel_rfl)
def lM:Nat → Tf
 | 0=>{ m1 := fun p_e=>none,ok1 := fun _ _ h=>(by cases h),m2 := fun p_l=>none,ok2 := fun _ _ h=>(by cases h) }
 | n_ + 1=>{ m1 := fun p_e=>Mo.den (Ti (lM n_) p_e),ok1 := fun p_e r h=>abC (lM n_) p_e r h,m2 := fun p_l=>Mo.den (abE (lM n_) p_l),ok2 := aex (lM n_) }
def ajk (p_e:aC) : Option (aC) := (lM FU).m1 p_e
theorem aey (p_e:aC) : FV (ajk p_e) 286 [.dat (aC.lf1 p_e)] (fun r=>.dat (aC.lf1 r)) := (lM FU).ok1 p_e
end
end Go.Proofs.YtdnafbfmaphhhaaGreatDoor
