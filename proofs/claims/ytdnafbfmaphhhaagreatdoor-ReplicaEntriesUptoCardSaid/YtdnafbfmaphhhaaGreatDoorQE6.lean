/- Printed by dec.py. -/
import Derived.Test.YtdnafbfmaphhhaaGreatDoorQE5
set_option linter.unusedSimpArgs false
set_option linter.unusedVariables false
namespace Go.Proofs.YtdnafbfmaphhhaaGreatDoor
open Go.RowKit
set_option maxRecDepth 20000
set_option maxHeartbeats 4000000
noncomputable section
def abH (p_e:aC) : Mo (Bool) :=
 .ite (decide ((p_e.fOp:Int) < 1)) (fun c0 =>
 .say [.dP (.q 0 (.q 1 (.q 2 (.q 3 (.q 4 (.q 5 (.q 6 (.q 7 (.q 8 (.q 9 (.q 10 (.l 11 (.q 12 (.q 13 (.q 14 (.q 17 (.alt 15 (.q 16 (.l 18 (.l 19 (.q 20 (.q 21 (.q 22 (.q 23 (.q 24 (.l 25 (.q 26 (.q 27 (.q 28 (.q 31 (.alt 29 (.q 30 (.l 32 (.q 33 (.q 34 (.q 35 (.q 36 (.l 37 (.q 38 (.q 39 (.q 40 (.q 41 (.q 42 .fin)))))))))))) (.l 32 (.q 33 (.l 29 (.q 30 (.q 34 (.q 35 (.q 36 (.l 37 (.q 38 (.q 39 (.q 40 (.q 41 (.q 42 .fin))))))))))))))))))))))))))) (.l 18 (.alt 15 (.q 16 (.l 19 (.q 20 (.q 21 (.q 22 (.q 23 (.q 24 (.l 25 (.q 26 (.q 27 (.q 28 (.q 31 (.alt 29 (.q 30 (.l 32 (.q 33 (.q 34 (.q 35 (.q 36 (.l 37 (.q 38 (.q 39 (.q 40 (.q 41 (.q 42 .fin)))))))))))) (.l 32 (.q 33 (.l 29 (.q 30 (.q 34 (.q 35 (.q 36 (.l 37 (.q 38 (.q 39 (.q 40 (.q 41 (.q 42 .fin)))))))))))))))))))))))))) (.l 19 (.l 15 (.q 16 (.q 20 (.q 21 (.q 22 (.q 23 (.q 24 (.l 25 (.q 26 (.q 27 (.q 28 (.q 31 (.alt 29 (.q 30 (.l 32 (.q 33 (.q 34 (.q 35 (.q 36 (.l 37 (.q 38 (.q 39 (.q 40 (.q 41 (.q 42 .fin)))))))))))) (.l 32 (.q 33 (.l 29 (.q 30 (.q 34 (.q 35 (.q 36 (.l 37 (.q 38 (.q 39 (.q 40 (.q 41 (.q 42 .fin)))))))))))))))))))))))))))))))))))))))))))))) (some 11) [] [.gd 4003 true,.both [.both [] []] [.both [.both [] []] [.both [] []]]] [1,46] 1 [(1,.ptr 0 0),(46,.b_ true)] [.box 44 (.dat (aC.lf1 p_e))]] (okc c0 (okc (rf_ ⟨[(1,.ptr 0 0),(46,.b_ true)],[.box 44 (.dat (aC.lf1 p_e))]⟩) (okc (rf_ ⟨[(1,.ptr 0 0),(46,.b_ true)],[.box 44 (.dat (aC.lf1 p_e))]⟩) (okc (rf_ ⟨[(1,.ptr 0 0),(46,.b_ true)],[.box 44 (.dat (aC.lf1 p_e))]⟩) (okc (rf_ ⟨[(1,.ptr 0 0),(46,.b_ true)],[.box 44 (.dat (aC.lf1 p_e))]⟩) (okc (rf_ ⟨[(1,.ptr 0 0),(46,.b_ true)],[.box 44 (.dat (aC.lf1 p_e))]⟩) (ok1 (rf_ ⟨[(1,.ptr 0 0),(46,.b_ true)],[.box 44 (.dat (aC.lf1 p_e))]⟩)))))))) <|
 .rt [1,46] 1 (true)) fun c0 =>
 .say [] (ok1 c0) <|
 .ite (decide ((37:Int) < p_e.fOp)) (fun c1 =>
 .say [.dP (.q 0 (.q 1 (.q 2 (.q 3 (.q 4 (.q 5 (.q 6 (.q 7 (.q 8 (.q 9 (.q 10 (.l 11 (.q 12 (.q 13 (.q 14 (.q 17 (.alt 15 (.q 16 (.l 18 (.l 19 (.q 20 (.q 21 (.q 22 (.q 23 (.q 24 (.l 25 (.q 26 (.q 27 (.q 28 (.q 31 (.alt 29 (.q 30 (.l 32 (.q 33 (.q 34 (.q 35 (.q 36 (.l 37 (.q 38 (.q 39 (.q 40 (.q 41 (.q 42 .fin)))))))))))) (.l 32 (.q 33 (.l 29 (.q 30 (.q 34 (.q 35 (.q 36 (.l 37 (.q 38 (.q 39 (.q 40 (.q 41 (.q 42 .fin))))))))))))))))))))))))))) (.l 18 (.alt 15 (.q 16 (.l 19 (.q 20 (.q 21 (.q 22 (.q 23 (.q 24 (.l 25 (.q 26 (.q 27 (.q 28 (.q 31 (.alt 29 (.q 30 (.l 32 (.q 33 (.q 34 (.q 35 (.q 36 (.l 37 (.q 38 (.q 39 (.q 40 (.q 41 (.q 42 .fin)))))))))))) (.l 32 (.q 33 (.l 29 (.q 30 (.q 34 (.q 35 (.q 36 (.l 37 (.q 38 (.q 39 (.q 40 (.q 41 (.q 42 .fin)))))))))))))))))))))))))) (.l 19 (.l 15 (.q 16 (.q 20 (.q 21 (.q 22 (.q 23 (.q 24 (.l 25 (.q 26 (.q 27 (.q 28 (.q 31 (.alt 29 (.q 30 (.l 32 (.q 33 (.q 34 (.q 35 (.q 36 (.l 37 (.q 38 (.q 39 (.q 40 (.q 41 (.q 42 .fin)))))))))))) (.l 32 (.q 33 (.l 29 (.q 30 (.q 34 (.q 35 (.q 36 (.l 37 (.q 38 (.q 39 (.q 40 (.q 41 (.q 42 .fin)))))))))))))))))))))))))))))))))))))))))))))) (some 11) [] [.gd 4003 false,.gd 4008 true,.both [.both [] []] [.both [.both [] []] [.both [] []]]] [1,46] 1 [(1,.ptr 0 0),(46,.b_ true)] [.box 44 (.dat (aC.lf1 p_e))]] (okc c1 (okc (rf_ ⟨[(1,.ptr 0 0),(46,.b_ true)],[.box 44 (.dat (aC.lf1 p_e))]⟩) (okc (rf_ ⟨[(1,.ptr 0 0),(46,.b_ true)],[.box 44 (.dat (aC.lf1 p_e))]⟩) (okc (rf_ ⟨[(1,.ptr 0 0),(46,.b_ true)],[.box 44 (.dat (aC.lf1 p_e))]⟩) (okc (rf_ ⟨[(1,.ptr 0 0),(46,.b_ true)],[.box 44 (.dat (aC.lf1 p_e))]⟩) (okc (rf_ ⟨[(1,.ptr 0 0),(46,.b_ true)],[.box 44 (.dat (aC.lf1 p_e))]⟩) (ok1 (rf_ ⟨[(1,.ptr 0 0),(46,.b_ true)],[.box 44 (.dat (aC.lf1 p_e))]⟩)))))))) <|
 .rt [1,46] 1 (true)) fun c1 =>
 .say [] (ok1 c1) <|
 .ask (Q58 p_e.fOp) fun r0 h0 =>
 .say [] (ok1 (nZ _ _ h0)) <|
 .ite (decide ((0:Int) ≤ r0)) (fun c2 =>
 .say [] (okc c2 (ok1 (ln_ p_e.bg aC.lf))) <|
 .ask (Q58 p_e.fOp) fun r1 h1 =>
 .say [] (ok1 (nZ _ _ h1)) <|
 .ite ((p_e.bg.length:Int) != r1) (fun c3 =>
 .say [.dP (.q 0 (.q 1 (.q 2 (.q 3 (.q 4 (.q 5 (.q 6 (.q 7 (.q 8 (.q 9 (.q 10 (.l 11 (.q 12 (.q 13 (.q 14 (.q 17 (.alt 15 (.q 16 (.l 18 (.l 19 (.q 20 (.q 21 (.q 22 (.q 23 (.q 24 (.l 25 (.q 26 (.q 27 (.q 28 (.q 31 (.alt 29 (.q 30 (.l 32 (.q 33 (.q 34 (.q 35 (.q 36 (.l 37 (.q 38 (.q 39 (.q 40 (.q 41 (.q 42 .fin)))))))))))) (.l 32 (.q 33 (.l 29 (.q 30 (.q 34 (.q 35 (.q 36 (.l 37 (.q 38 (.q 39 (.q 40 (.q 41 (.q 42 .fin))))))))))))))))))))))))))) (.l 18 (.alt 15 (.q 16 (.l 19 (.q 20 (.q 21 (.q 22 (.q 23 (.q 24 (.l 25 (.q 26 (.q 27 (.q 28 (.q 31 (.alt 29 (.q 30 (.l 32 (.q 33 (.q 34 (.q 35 (.q 36 (.l 37 (.q 38 (.q 39 (.q 40 (.q 41 (.q 42 .fin)))))))))))) (.l 32 (.q 33 (.l 29 (.q 30 (.q 34 (.q 35 (.q 36 (.l 37 (.q 38 (.q 39 (.q 40 (.q 41 (.q 42 .fin)))))))))))))))))))))))))) (.l 19 (.l 15 (.q 16 (.q 20 (.q 21 (.q 22 (.q 23 (.q 24 (.l 25 (.q 26 (.q 27 (.q 28 (.q 31 (.alt 29 (.q 30 (.l 32 (.q 33 (.q 34 (.q 35 (.q 36 (.l 37 (.q 38 (.q 39 (.q 40 (.q 41 (.q 42 .fin)))))))))))) (.l 32 (.q 33 (.l 29 (.q 30 (.q 34 (.q 35 (.q 36 (.l 37 (.q 38 (.q 39 (.q 40 (.q 41 (.q 42 .fin)))))))))))))))))))))))))))))))))))))))))))))) (some 11) [] [.gd 4003 false,.gd 4008 false,.res (.i_ r0),.gd 4013 true,.both [.num p_e.bg.length,.res (.i_ r1),.gd 4023 true,.both [] []] [.both [.num p_e.bg.length,.res (.i_ r1),.gd 4023 true,.both [] []] [.res (.i_ r1),.num p_e.bg.length,.gd 4023 true,.both [] []]]] [1,46] 1 [(1,.ptr 0 0),(46,.b_ true)] [.box 44 (.dat (aC.lf1 p_e))]] (okc c3 (okc (rf_ ⟨[(1,.ptr 0 0),(46,.b_ true)],[.box 44 (.dat (aC.lf1 p_e))]⟩) (okc (rf_ ⟨[(1,.ptr 0 0),(46,.b_ true)],[.box 44 (.dat (aC.lf1 p_e))]⟩) (okc (ln_ p_e.bg aC.lf) (okc (nZ _ _ h1) (okc c3 (okc (rf_ ⟨[(1,.ptr 0 0),(46,.b_ true)],[.box 44 (.dat (aC.lf1 p_e))]⟩) (okc (rf_ ⟨[(1,.ptr 0 0),(46,.b_ true)],[.box 44 (.dat (aC.lf1 p_e))]⟩) (okc (nZ _ _ h1) (okc (ln_ p_e.bg aC.lf) (okc c3 (okc (rf_ ⟨[(1,.ptr 0 0),(46,.b_ true)],[.box 44 (.dat (aC.lf1 p_e))]⟩) (ok1 (rf_ ⟨[(1,.ptr 0 0),(46,.b_ true)],[.box 44 (.dat (aC.lf1 p_e))]⟩)))))))))))))) <|
 .rt [1,46] 1 (true)) fun c3 =>
 .say [] (ok1 c3) <|
 .ite (p_e.fOp == 34) (fun c4 =>
 .say [] (okc c4 (okc (ln_ p_e.bg aC.lf) (ok1 (ln_ p_e.bQ lfS)))) <|
 .ite ((p_e.bg.length:Int) != (p_e.bQ.length:Int)) (fun c5 =>
 .say [.dP (.q 0 (.q 1 (.q 2 (.q 3 (.q 4 (.q 5 (.q 6 (.q 7 (.q 8 (.q 9 (.q 10 (.l 11 (.q 12 (.q 13 (.q 14 (.q 17 (.alt 15 (.q 16 (.l 18 (.l 19 (.q 20 (.q 21 (.q 22 (.q 23 (.q 24 (.l 25 (.q 26 (.q 27 (.q 28 (.q 31 (.alt 29 (.q 30 (.l 32 (.q 33 (.q 34 (.q 35 (.q 36 (.l 37 (.q 38 (.q 39 (.q 40 (.q 41 (.q 42 .fin)))))))))))) (.l 32 (.q 33 (.l 29 (.q 30 (.q 34 (.q 35 (.q 36 (.l 37 (.q 38 (.q 39 (.q 40 (.q 41 (.q 42 .fin))))))))))))))))))))))))))) (.l 18 (.alt 15 (.q 16 (.l 19 (.q 20 (.q 21 (.q 22 (.q 23 (.q 24 (.l 25 (.q 26 (.q 27 (.q 28 (.q 31 (.alt 29 (.q 30 (.l 32 (.q 33 (.q 34 (.q 35 (.q 36 (.l 37 (.q 38 (.q 39 (.q 40 (.q 41 (.q 42 .fin)))))))))))) (.l 32 (.q 33 (.l 29 (.q 30 (.q 34 (.q 35 (.q 36 (.l 37 (.q 38 (.q 39 (.q 40 (.q 41 (.q 42 .fin)))))))))))))))))))))))))) (.l 19 (.l 15 (.q 16 (.q 20 (.q 21 (.q 22 (.q 23 (.q 24 (.l 25 (.q 26 (.q 27 (.q 28 (.q 31 (.alt 29 (.q 30 (.l 32 (.q 33 (.q 34 (.q 35 (.q 36 (.l 37 (.q 38 (.q 39 (.q 40 (.q 41 (.q 42 .fin)))))))))))) (.l 32 (.q 33 (.l 29 (.q 30 (.q 34 (.q 35 (.q 36 (.l 37 (.q 38 (.q 39 (.q 40 (.q 41 (.q 42 .fin)))))))))))))))))))))))))))))))))))))))))))))) (some 11) [] [.gd 4003 false,.gd 4008 false,.res (.i_ r0),.gd 4013 true,.both [.num p_e.bg.length,.res (.i_ r1),.gd 4023 false,.gd 4027 true,.both [.num p_e.bg.length,.num p_e.bQ.length,.gd 4035 true] [.num p_e.bQ.length,.num p_e.bg.length,.gd 4035 true]] [.both [.num p_e.bg.length,.res (.i_ r1),.gd 4023 false,.gd 4027 true,.both [.num p_e.bg.length,.num p_e.bQ.length,.gd 4035 true] [.num p_e.bQ.length,.num p_e.bg.length,.gd 4035 true]] [.res (.i_ r1),.num p_e.bg.length,.gd 4023 false,.gd 4027 true,.both [.num p_e.bg.length,.num p_e.bQ.length,.gd 4035 true] [.num p_e.bQ.length,.num p_e.bg.length,.gd 4035 true]]]] [1,46] 1 [(1,.ptr 0 0),(46,.b_ true)] [.box 44 (.dat (aC.lf1 p_e))]] (okc c5 (okc (rf_ ⟨[(1,.ptr 0 0),(46,.b_ true)],[.box 44 (.dat (aC.lf1 p_e))]⟩) (okc (ln_ p_e.bQ lfS) (okc (ln_ p_e.bg aC.lf) (okc c5 (okc (rf_ ⟨[(1,.ptr 0 0),(46,.b_ true)],[.box 44 (.dat (aC.lf1 p_e))]⟩) (okc (ln_ p_e.bg aC.lf) (okc (nZ _ _ h1) (okc c3 (okc c4 (okc (ln_ p_e.bg aC.lf) (okc (ln_ p_e.bQ lfS) (okc c5 (okc (rf_ ⟨[(1,.ptr 0 0),(46,.b_ true)],[.box 44 (.dat (aC.lf1 p_e))]⟩) (okc (ln_ p_e.bQ lfS) (okc (ln_ p_e.bg aC.lf) (okc c5 (okc (rf_ ⟨[(1,.ptr 0 0),(46,.b_ true)],[.box 44 (.dat (aC.lf1 p_e))]⟩) (okc (nZ _ _ h1) (okc (ln_ p_e.bg aC.lf) (okc c3 (okc c4 (okc (ln_ p_e.bg aC.lf) (okc (ln_ p_e.bQ lfS) (okc c5 (okc (rf_ ⟨[(1,.ptr 0 0),(46,.b_ true)],[.box 44 (.dat (aC.lf1 p_e))]⟩) (okc (ln_ p_e.bQ lfS) (okc (ln_ p_e.bg aC.lf) (okc c5 (ok1 (rf_ ⟨[(1,.ptr 0 0),(46,.b_ true)],[.box 44 (.dat (aC.lf1 p_e))]⟩))))))))))))))))))))))))))))))) <|
 .rt [1,46] 1 (true)) fun c5 =>
 .say [.dP (.q 0 (.q 1 (.q 2 (.q 3 (.q 4 (.q 5 (.q 6 (.q 7 (.q 8 (.q 9 (.q 10 (.l 11 (.q 12 (.q 13 (.q 14 (.q 17 (.alt 15 (.q 16 (.l 18 (.l 19 (.q 20 (.q 21 (.q 22 (.q 23 (.q 24 (.l 25 (.q 26 (.q 27 (.q 28 (.q 31 (.alt 29 (.q 30 (.l 32 (.q 33 (.q 34 (.q 35 (.q 36 (.l 37 (.q 38 (.q 39 (.q 40 (.q 41 (.q 42 .fin)))))))))))) (.l 32 (.q 33 (.l 29 (.q 30 (.q 34 (.q 35 (.q 36 (.l 37 (.q 38 (.q 39 (.q 40 (.q 41 (.q 42 .fin))))))))))))))))))))))))))) (.l 18 (.alt 15 (.q 16 (.l 19 (.q 20 (.q 21 (.q 22 (.q 23 (.q 24 (.l 25 (.q 26 (.q 27 (.q 28 (.q 31 (.alt 29 (.q 30 (.l 32 (.q 33 (.q 34 (.q 35 (.q 36 (.l 37 (.q 38 (.q 39 (.q 40 (.q 41 (.q 42 .fin)))))))))))) (.l 32 (.q 33 (.l 29 (.q 30 (.q 34 (.q 35 (.q 36 (.l 37 (.q 38 (.q 39 (.q 40 (.q 41 (.q 42 .fin)))))))))))))))))))))))))) (.l 19 (.l 15 (.q 16 (.q 20 (.q 21 (.q 22 (.q 23 (.q 24 (.l 25 (.q 26 (.q 27 (.q 28 (.q 31 (.alt 29 (.q 30 (.l 32 (.q 33 (.q 34 (.q 35 (.q 36 (.l 37 (.q 38 (.q 39 (.q 40 (.q 41 (.q 42 .fin)))))))))))) (.l 32 (.q 33 (.l 29 (.q 30 (.q 34 (.q 35 (.q 36 (.l 37 (.q 38 (.q 39 (.q 40 (.q 41 (.q 42 .fin)))))))))))))))))))))))))))))))))))))))))))))) (some 11) [] [.gd 4003 false,.gd 4008 false,.res (.i_ r0),.gd 4013 true,.both [.num p_e.bg.length,.res (.i_ r1),.gd 4023 false,.gd 4027 true,.both [.num p_e.bg.length,.num p_e.bQ.length,.gd 4035 false,.num p_e.bg.length] [.num p_e.bQ.length,.num p_e.bg.length,.gd 4035 false,.num p_e.bg.length]] [.both [.num p_e.bg.length,.res (.i_ r1),.gd 4023 false,.gd 4027 true,.both [.num p_e.bg.length,.num p_e.bQ.length,.gd 4035 false,.num p_e.bg.length] [.num p_e.bQ.length,.num p_e.bg.length,.gd 4035 false,.num p_e.bg.length]] [.res (.i_ r1),.num p_e.bg.length,.gd 4023 false,.gd 4027 true,.both [.num p_e.bg.length,.num p_e.bQ.length,.gd 4035 false,.num p_e.bg.length] [.num p_e.bQ.length,.num p_e.bg.length,.gd 4035 false,.num p_e.bg.length]]]] [1,46] 1 [(1,.ptr 0 0),(46,.lf (.bool ((p_e.bg.length:Int) == 0)))] [.box 44 (.dat (aC.lf1 p_e))]] (okc c5 (okc (ln_ p_e.bg aC.lf) (okc (rf_ ⟨[(1,.ptr 0 0),(46,.lf (.bool ((p_e.bg.length:Int) == 0)))],[.box 44 (.dat (aC.lf1 p_e))]⟩) (okc (ln_ p_e.bQ lfS) (okc (ln_ p_e.bg aC.lf) (okc c5 (okc (ln_ p_e.bg aC.lf) (okc (rf_ ⟨[(1,.ptr 0 0),(46,.lf (.bool ((p_e.bg.length:Int) == 0)))],[.box 44 (.dat (aC.lf1 p_e))]⟩) (okc (ln_ p_e.bg aC.lf) (okc (nZ _ _ h1) (okc c3 (okc c4 (okc (ln_ p_e.bg aC.lf) (okc (ln_ p_e.bQ lfS) (okc c5 (okc (ln_ p_e.bg aC.lf) (okc (rf_ ⟨[(1,.ptr 0 0),(46,.lf (.bool ((p_e.bg.length:Int) == 0)))],[.box 44 (.dat (aC.lf1 p_e))]⟩) (okc (ln_ p_e.bQ lfS) (okc (ln_ p_e.bg aC.lf) (okc c5 (okc (ln_ p_e.bg aC.lf) (okc (rf_ ⟨[(1,.ptr 0 0),(46,.lf (.bool ((p_e.bg.length:Int) == 0)))],[.box 44 (.dat (aC.lf1 p_e))]⟩) (okc (nZ _ _ h1) (okc (ln_ p_e.bg aC.lf) (okc c3 (okc c4 (okc (ln_ p_e.bg aC.lf) (okc (ln_ p_e.bQ lfS) (okc c5 (okc (ln_ p_e.bg aC.lf) (okc (rf_ ⟨[(1,.ptr 0 0),(46,.lf (.bool ((p_e.bg.length:Int) == 0)))],[.box 44 (.dat (aC.lf1 p_e))]⟩) (okc (ln_ p_e.bQ lfS) (okc (ln_ p_e.bg aC.lf) (okc c5 (okc (ln_ p_e.bg aC.lf) (ok1 (rf_ ⟨[(1,.ptr 0 0),(46,.lf (.bool ((p_e.bg.length:Int) == 0)))],[.box 44 (.dat (aC.lf1 p_e))]⟩))))))))))))))))))))))))))))))))))))) <|
 .rt [1,46] 1 ((p_e.bg.length:Int) == 0)) fun c4 =>
 .say [.dP (.q 0 (.q 1 (.q 2 (.q 3 (.q 4 (.q 5 (.q 6 (.q 7 (.q 8 (.q 9 (.q 10 (.l 11 (.q 12 (.q 13 (.q 14 (.q 17 (.alt 15 (.q 16 (.l 18 (.l 19 (.q 20 (.q 21 (.q 22 (.q 23 (.q 24 (.l 25 (.q 26 (.q 27 (.q 28 (.q 31 (.alt 29 (.q 30 (.l 32 (.q 33 (.q 34 (.q 35 (.q 36 (.l 37 (.q 38 (.q 39 (.q 40 (.q 41 (.q 42 .fin)))))))))))) (.l 32 (.q 33 (.l 29 (.q 30 (.q 34 (.q 35 (.q 36 (.l 37 (.q 38 (.q 39 (.q 40 (.q 41 (.q 42 .fin))))))))))))))))))))))))))) (.l 18 (.alt 15 (.q 16 (.l 19 (.q 20 (.q 21 (.q 22 (.q 23 (.q 24 (.l 25 (.q 26 (.q 27 (.q 28 (.q 31 (.alt 29 (.q 30 (.l 32 (.q 33 (.q 34 (.q 35 (.q 36 (.l 37 (.q 38 (.q 39 (.q 40 (.q 41 (.q 42 .fin)))))))))))) (.l 32 (.q 33 (.l 29 (.q 30 (.q 34 (.q 35 (.q 36 (.l 37 (.q 38 (.q 39 (.q 40 (.q 41 (.q 42 .fin)))))))))))))))))))))))))) (.l 19 (.l 15 (.q 16 (.q 20 (.q 21 (.q 22 (.q 23 (.q 24 (.l 25 (.q 26 (.q 27 (.q 28 (.q 31 (.alt 29 (.q 30 (.l 32 (.q 33 (.q 34 (.q 35 (.q 36 (.l 37 (.q 38 (.q 39 (.q 40 (.q 41 (.q 42 .fin)))))))))))) (.l 32 (.q 33 (.l 29 (.q 30 (.q 34 (.q 35 (.q 36 (.l 37 (.q 38 (.q 39 (.q 40 (.q 41 (.q 42 .fin)))))))))))))))))))))))))))))))))))))))))))))) (some 11) [] [.gd 4003 false,.gd 4008 false,.res (.i_ r0),.gd 4013 true,.both [.num p_e.bg.length,.res (.i_ r1),.gd 4023 false,.gd 4027 false,.both [] []] [.both [.num p_e.bg.length,.res (.i_ r1),.gd 4023 false,.gd 4027 false,.both [] []] [.res (.i_ r1),.num p_e.bg.length,.gd 4023 false,.gd 4027 false,.both [] []]]] [1,46] 1 [(1,.ptr 0 0),(46,.b_ false)] [.box 44 (.dat (aC.lf1 p_e))]] (okc c4 (okc (rf_ ⟨[(1,.ptr 0 0),(46,.b_ false)],[.box 44 (.dat (aC.lf1 p_e))]⟩) (okc (rf_ ⟨[(1,.ptr 0 0),(46,.b_ false)],[.box 44 (.dat (aC.lf1 p_e))]⟩) (okc (ln_ p_e.bg aC.lf) (okc (nZ _ _ h1) (okc c3 (okc c4 (okc (rf_ ⟨[(1,.ptr 0 0),(46,.b_ false)],[.box 44 (.dat (aC.lf1 p_e))]⟩) (okc (rf_ ⟨[(1,.ptr 0 0),(46,.b_ false)],[.box 44 (.dat (aC.lf1 p_e))]⟩) (okc (nZ _ _ h1) (okc (ln_ p_e.bg aC.lf) (okc c3 (okc c4 (okc (rf_ ⟨[(1,.ptr 0 0),(46,.b_ false)],[.box 44 (.dat (aC.lf1 p_e))]⟩) (ok1 (rf_ ⟨[(1,.ptr 0 0),(46,.b_ false)],[.box 44 (.dat (aC.lf1 p_e))]⟩)))))))))))))))) <|
 .rt [1,46] 1 (false)) fun c2 =>
 .say [] (ok1 c2) <|
 .ite (p_e.fOp == 34) (fun c6 =>
 .say [] (okc c6 (okc (ln_ p_e.bg aC.lf) (ok1 (ln_ p_e.bQ lfS)))) <|
 .ite ((p_e.bg.length:Int) != (p_e.bQ.length:Int)) (fun c7 =>
 .say [.dP (.q 0 (.q 1 (.q 2 (.q 3 (.q 4 (.q 5 (.q 6 (.q 7 (.q 8 (.q 9 (.q 10 (.l 11 (.q 12 (.q 13 (.q 14 (.q 17 (.alt 15 (.q 16 (.l 18 (.l 19 (.q 20 (.q 21 (.q 22 (.q 23 (.q 24 (.l 25 (.q 26 (.q 27 (.q 28 (.q 31 (.alt 29 (.q 30 (.l 32 (.q 33 (.q 34 (.q 35 (.q 36 (.l 37 (.q 38 (.q 39 (.q 40 (.q 41 (.q 42 .fin)))))))))))) (.l 32 (.q 33 (.l 29 (.q 30 (.q 34 (.q 35 (.q 36 (.l 37 (.q 38 (.q 39 (.q 40 (.q 41 (.q 42 .fin))))))))))))))))))))))))))) (.l 18 (.alt 15 (.q 16 (.l 19 (.q 20 (.q 21 (.q 22 (.q 23 (.q 24 (.l 25 (.q 26 (.q 27 (.q 28 (.q 31 (.alt 29 (.q 30 (.l 32 (.q 33 (.q 34 (.q 35 (.q 36 (.l 37 (.q 38 (.q 39 (.q 40 (.q 41 (.q 42 .fin)))))))))))) (.l 32 (.q 33 (.l 29 (.q 30 (.q 34 (.q 35 (.q 36 (.l 37 (.q 38 (.q 39 (.q 40 (.q 41 (.q 42 .fin)))))))))))))))))))))))))) (.l 19 (.l 15 (.q 16 (.q 20 (.q 21 (.q 22 (.q 23 (.q 24 (.l 25 (.q 26 (.q 27 (.q 28 (.q 31 (.alt 29 (.q 30 (.l 32 (.q 33 (.q 34 (.q 35 (.q 36 (.l 37 (.q 38 (.q 39 (.q 40 (.q 41 (.q 42 .fin)))))))))))) (.l 32 (.q 33 (.l 29 (.q 30 (.q 34 (.q 35 (.q 36 (.l 37 (.q 38 (.q 39 (.q 40 (.q 41 (.q 42 .fin)))))))))))))))))))))))))))))))))))))))))))))) (some 11) [] [.gd 4003 false,.gd 4008 false,.res (.i_ r0),.gd 4013 false,.both [.gd 4027 true,.both [.num p_e.bg.length,.num p_e.bQ.length,.gd 4035 true] [.num p_e.bQ.length,.num p_e.bg.length,.gd 4035 true]] [.both [.gd 4027 true,.both [.num p_e.bg.length,.num p_e.bQ.length,.gd 4035 true] [.num p_e.bQ.length,.num p_e.bg.length,.gd 4035 true]] [.gd 4027 true,.both [.num p_e.bg.length,.num p_e.bQ.length,.gd 4035 true] [.num p_e.bQ.length,.num p_e.bg.length,.gd 4035 true]]]] [1,46] 1 [(1,.ptr 0 0),(46,.b_ true)] [.box 44 (.dat (aC.lf1 p_e))]] (okc c7 (okc (rf_ ⟨[(1,.ptr 0 0),(46,.b_ true)],[.box 44 (.dat (aC.lf1 p_e))]⟩) (okc (ln_ p_e.bQ lfS) (okc (ln_ p_e.bg aC.lf) (okc c7 (okc (rf_ ⟨[(1,.ptr 0 0),(46,.b_ true)],[.box 44 (.dat (aC.lf1 p_e))]⟩) (okc c6 (okc (ln_ p_e.bg aC.lf) (okc (ln_ p_e.bQ lfS) (okc c7 (okc (rf_ ⟨[(1,.ptr 0 0),(46,.b_ true)],[.box 44 (.dat (aC.lf1 p_e))]⟩) (okc (ln_ p_e.bQ lfS) (okc (ln_ p_e.bg aC.lf) (okc c7 (okc (rf_ ⟨[(1,.ptr 0 0),(46,.b_ true)],[.box 44 (.dat (aC.lf1 p_e))]⟩) (okc c6 (okc (ln_ p_e.bg aC.lf) (okc (ln_ p_e.bQ lfS) (okc c7 (okc (rf_ ⟨[(1,.ptr 0 0),(46,.b_ true)],[.box 44 (.dat (aC.lf1 p_e))]⟩) (okc (ln_ p_e.bQ lfS) (okc (ln_ p_e.bg aC.lf) (okc c7 (ok1 (rf_ ⟨[(1,.ptr 0 0),(46,.b_ true)],[.box 44 (.dat (aC.lf1 p_e))]⟩))))))))))))))))))))))))) <|
 .rt [1,46] 1 (true)) fun c7 =>
 .say [.dP (.q 0 (.q 1 (.q 2 (.q 3 (.q 4 (.q 5 (.q 6 (.q 7 (.q 8 (.q 9 (.q 10 (.l 11 (.q 12 (.q 13 (.q 14 (.q 17 (.alt 15 (.q 16 (.l 18 (.l 19 (.q 20 (.q 21 (.q 22 (.q 23 (.q 24 (.l 25 (.q 26 (.q 27 (.q 28 (.q 31 (.alt 29 (.q 30 (.l 32 (.q 33 (.q 34 (.q 35 (.q 36 (.l 37 (.q 38 (.q 39 (.q 40 (.q 41 (.q 42 .fin)))))))))))) (.l 32 (.q 33 (.l 29 (.q 30 (.q 34 (.q 35 (.q 36 (.l 37 (.q 38 (.q 39 (.q 40 (.q 41 (.q 42 .fin))))))))))))))))))))))))))) (.l 18 (.alt 15 (.q 16 (.l 19 (.q 20 (.q 21 (.q 22 (.q 23 (.q 24 (.l 25 (.q 26 (.q 27 (.q 28 (.q 31 (.alt 29 (.q 30 (.l 32 (.q 33 (.q 34 (.q 35 (.q 36 (.l 37 (.q 38 (.q 39 (.q 40 (.q 41 (.q 42 .fin)))))))))))) (.l 32 (.q 33 (.l 29 (.q 30 (.q 34 (.q 35 (.q 36 (.l 37 (.q 38 (.q 39 (.q 40 (.q 41 (.q 42 .fin)))))))))))))))))))))))))) (.l 19 (.l 15 (.q 16 (.q 20 (.q 21 (.q 22 (.q 23 (.q 24 (.l 25 (.q 26 (.q 27 (.q 28 (.q 31 (.alt 29 (.q 30 (.l 32 (.q 33 (.q 34 (.q 35 (.q 36 (.l 37 (.q 38 (.q 39 (.q 40 (.q 41 (.q 42 .fin)))))))))))) (.l 32 (.q 33 (.l 29 (.q 30 (.q 34 (.q 35 (.q 36 (.l 37 (.q 38 (.q 39 (.q 40 (.q 41 (.q 42 .fin)))))))))))))))))))))))))))))))))))))))))))))) (some 11) [] [.gd 4003 false,.gd 4008 false,.res (.i_ r0),.gd 4013 false,.both [.gd 4027 true,.both [.num p_e.bg.length,.num p_e.bQ.length,.gd 4035 false,.num p_e.bg.length] [.num p_e.bQ.length,.num p_e.bg.length,.gd 4035 false,.num p_e.bg.length]] [.both [.gd 4027 true,.both [.num p_e.bg.length,.num p_e.bQ.length,.gd 4035 false,.num p_e.bg.length] [.num p_e.bQ.length,.num p_e.bg.length,.gd 4035 false,.num p_e.bg.length]] [.gd 4027 true,.both [.num p_e.bg.length,.num p_e.bQ.length,.gd 4035 false,.num p_e.bg.length] [.num p_e.bQ.length,.num p_e.bg.length,.gd 4035 false,.num p_e.bg.length]]]] [1,46] 1 [(1,.ptr 0 0),(46,.lf (.bool ((p_e.bg.length:Int) == 0)))] [.box 44 (.dat (aC.lf1 p_e))]] (okc c7 (okc (ln_ p_e.bg aC.lf) (okc (rf_ ⟨[(1,.ptr 0 0),(46,.lf (.bool ((p_e.bg.length:Int) == 0)))],[.box 44 (.dat (aC.lf1 p_e))]⟩) (okc (ln_ p_e.bQ lfS) (okc (ln_ p_e.bg aC.lf) (okc c7 (okc (ln_ p_e.bg aC.lf) (okc (rf_ ⟨[(1,.ptr 0 0),(46,.lf (.bool ((p_e.bg.length:Int) == 0)))],[.box 44 (.dat (aC.lf1 p_e))]⟩) (okc c6 (okc (ln_ p_e.bg aC.lf) (okc (ln_ p_e.bQ lfS) (okc c7 (okc (ln_ p_e.bg aC.lf) (okc (rf_ ⟨[(1,.ptr 0 0),(46,.lf (.bool ((p_e.bg.length:Int) == 0)))],[.box 44 (.dat (aC.lf1 p_e))]⟩) (okc (ln_ p_e.bQ lfS) (okc (ln_ p_e.bg aC.lf) (okc c7 (okc (ln_ p_e.bg aC.lf) (okc (rf_ ⟨[(1,.ptr 0 0),(46,.lf (.bool ((p_e.bg.length:Int) == 0)))],[.box 44 (.dat (aC.lf1 p_e))]⟩) (okc c6 (okc (ln_ p_e.bg aC.lf) (okc (ln_ p_e.bQ lfS) (okc c7 (okc (ln_ p_e.bg aC.lf) (okc (rf_ ⟨[(1,.ptr 0 0),(46,.lf (.bool ((p_e.bg.length:Int) == 0)))],[.box 44 (.dat (aC.lf1 p_e))]⟩) (okc (ln_ p_e.bQ lfS) (okc (ln_ p_e.bg aC.lf) (okc c7 (okc (ln_ p_e.bg aC.lf) (ok1 (rf_ ⟨[(1,.ptr 0 0),(46,.lf (.bool ((p_e.bg.length:Int) == 0)))],[.box 44 (.dat (aC.lf1 p_e))]⟩))))))))))))))))))))))))))))))) <|
 .rt [1,46] 1 ((p_e.bg.length:Int) == 0)) fun c6 =>
 .say [.dP (.q 0 (.q 1 (.q 2 (.q 3 (.q 4 (.q 5 (.q 6 (.q 7 (.q 8 (.q 9 (.q 10 (.l 11 (.q 12 (.q 13 (.q 14 (.q 17 (.alt 15 (.q 16 (.l 18 (.l 19 (.q 20 (.q 21 (.q 22 (.q 23 (.q 24 (.l 25 (.q 26 (.q 27 (.q 28 (.q 31 (.alt 29 (.q 30 (.l 32 (.q 33 (.q 34 (.q 35 (.q 36 (.l 37 (.q 38 (.q 39 (.q 40 (.q 41 (.q 42 .fin)))))))))))) (.l 32 (.q 33 (.l 29 (.q 30 (.q 34 (.q 35 (.q 36 (.l 37 (.q 38 (.q 39 (.q 40 (.q 41 (.q 42 .fin))))))))))))))))))))))))))) (.l 18 (.alt 15 (.q 16 (.l 19 (.q 20 (.q 21 (.q 22 (.q 23 (.q 24 (.l 25 (.q 26 (.q 27 (.q 28 (.q 31 (.alt 29 (.q 30 (.l 32 (.q 33 (.q 34 (.q 35 (.q 36 (.l 37 (.q 38 (.q 39 (.q 40 (.q 41 (.q 42 .fin)))))))))))) (.l 32 (.q 33 (.l 29 (.q 30 (.q 34 (.q 35 (.q 36 (.l 37 (.q 38 (.q 39 (.q 40 (.q 41 (.q 42 .fin)))))))))))))))))))))))))) (.l 19 (.l 15 (.q 16 (.q 20 (.q 21 (.q 22 (.q 23 (.q 24 (.l 25 (.q 26 (.q 27 (.q 28 (.q 31 (.alt 29 (.q 30 (.l 32 (.q 33 (.q 34 (.q 35 (.q 36 (.l 37 (.q 38 (.q 39 (.q 40 (.q 41 (.q 42 .fin)))))))))))) (.l 32 (.q 33 (.l 29 (.q 30 (.q 34 (.q 35 (.q 36 (.l 37 (.q 38 (.q 39 (.q 40 (.q 41 (.q 42 .fin)))))))))))))))))))))))))))))))))))))))))))))) (some 11) [] [.gd 4003 false,.gd 4008 false,.res (.i_ r0),.gd 4013 false,.both [.gd 4027 false,.both [] []] [.both [.gd 4027 false,.both [] []] [.gd 4027 false,.both [] []]]] [1,46] 1 [(1,.ptr 0 0),(46,.b_ false)] [.box 44 (.dat (aC.lf1 p_e))]] (okc c6 (okc (rf_ ⟨[(1,.ptr 0 0),(46,.b_ false)],[.box 44 (.dat (aC.lf1 p_e))]⟩) (okc (rf_ ⟨[(1,.ptr 0 0),(46,.b_ false)],[.box 44 (.dat (aC.lf1 p_e))]⟩) (okc c6 (okc (rf_ ⟨[(1,.ptr 0 0),(46,.b_ false)],[.box 44 (.dat (aC.lf1 p_e))]⟩) (okc (rf_ ⟨[(1,.ptr 0 0),(46,.b_ false)],[.box 44 (.dat (aC.lf1 p_e))]⟩) (okc c6 (okc (rf_ ⟨[(1,.ptr 0 0),(46,.b_ false)],[.box 44 (.dat (aC.lf1 p_e))]⟩) (ok1 (rf_ ⟨[(1,.ptr 0 0),(46,.b_ false)],[.box 44 (.dat (aC.lf1 p_e))]⟩)))))))))) <|
 .rt [1,46] 1 (false)
def abI (p_e:aC) : Mo (Bool) :=
 .iG 8003 (p_e.fOp == 2) (.cl (CS p_e.cZ) fun r0 _ =>
 .rt [1,55] 1 (!r0)) <|
 .rt [1,55] 1 (false)
def Yv (p_e:aC) (r0:Bool) : Mo (Bool) :=
 .iG 8009 (r0) (.rt [1,72] 1 (true)) <|
 .ite (p_e.fOp == 3) (fun c0 =>
 .say [.gd 8013 true,.num p_e.cZ.length] (okc c0 (ok1 (ln_ p_e.cZ lfS))) <|
 .iG 8019 (decide ((0:Int) < (p_e.cZ.length:Int))) (.cl (CS p_e.cZ) fun r1 _ =>
 .rt [1,72] 1 (!r1)) <|
 .rt [1,72] 1 (false)) fun c0 =>
 .say [.gd 8013 false] (ok1 c0) <|
 .rt [1,72] 1 (false)
def Yw (p_e:aC) : Mo (Bool) :=
 .iG 12003 (p_e.fOp == 3) (.rt [1,80] 1 (true)) <|
 .rt [1,80] 1 (p_e.fOp == 32)
def Yx (p_e:aC) (r0:Bool) : Mo (Bool) :=
 .iG 12008 (r0) (.rt [1,85] 1 (true)) <|
 .rt [1,85] 1 (p_e.fOp == 33)
def Yy (p_e:aC) (r0:Bool) : Mo (Unit) :=
 .rt [1,3] 1 ()
def Yz (p_e:aC) (r0:Bool) : Mo (Bool) :=
 .iG 14001 (r0) (.cl (ug p_e.fName) fun r1 _ =>
 .rt [1,3,92] 1 (!r1)) <|
 .rt [1,3,92] 1 (false)
def YA (p_e:aC) (r0:Bool) (r1:Bool) : Mo (Bool) :=
 .iG 14007 (r1) (.rt [1,3,103] 1 (true)) <|
 .iG 14011 (p_e.fOp == 34) (.cl (aiO p_e.bQ) fun r2 _ =>
 .rt [1,3,103] 1 (!r2)) <|
 .rt [1,3,103] 1 (false)
def YB (p_e:aC) (r0:Bool) : Mo (Bool) :=
 .iG 18003 (p_e.fOp == 1) (.cl (qy p_e.fArg) fun r1 _ =>
 .rt [1,3,112] 1 (!r1)) <|
 .rt [1,3,112] 1 (false)
def YC (p_e:aC) (r0:Bool) : Mo (Bool) :=
 .iG 22003 (p_e.fOp != 2) (.rt [1,3,120] 1 (p_e.fOp != 3)) <|
 .rt [1,3,120] 1 (false)
def YD (p_e:aC) (r0:Bool) (r1:Bool) : Mo (Bool) :=
 .ite (r1) (fun c0 =>
 .say [.gd 22008 true,.num p_e.cZ.length] (okc c0 (ok1 (ln_ p_e.cZ lfS))) <|
 .rt [1,3,126] 1 (decide ((0:Int) < (p_e.cZ.length:Int)))) fun c0 =>
 .say [.gd 22008 false] (ok1 c0) <|
 .rt [1,3,126] 1 (false)
def YE (p_e:aC) (r0:Bool) (r1:Bool) : Mo (Bool) :=
 .iG 22014 (r1) (.rt [1,135] 1 (true)) <|
 .iG 22017 (!r0) (.rt [1,135] 1 (!decide ((p_e.fName:ByteArray) = (⟨#[]⟩ : ByteArray)))) <|
 .rt [1,135] 1 (false)
def YF (p_e:aC) (r0:Bool) : Mo (Bool) :=
 .iG 22023 (r0) (.rt [1,146] 1 (true)) <|
 .ite (p_e.fOp != 34) (fun c0 =>
 .say [.gd 22027 true,.num p_e.bQ.length] (okc c0 (ok1 (ln_ p_e.bQ lfS))) <|
 .rt [1,146] 1 (decide ((0:Int) < (p_e.bQ.length:Int)))) fun c0 =>
 .say [.gd 22027 false] (ok1 c0) <|
 .rt [1,146] 1 (false)
def YG (p_e:aC) (r0:Bool) : Mo (Bool) :=
 .iG 22034 (r0) (.rt [1,158] 1 (true)) <|
 .iG 22038 (p_e.fOp != 1) (.cl (WX p_e.fArg (ak.mk 0 0 ⟨#[]⟩ [] [])) fun r1 _ =>
 .rt [1,158] 1 (!r1)) <|
 .rt [1,158] 1 (false)
def YH (p_e:aC) (r0:Bool) : Mo (Bool) :=
 .iG 22046 (r0) (.ret ⟨[.kill 0],[163],[],1⟩ (true)) <|
 .ret ⟨[.kill 0],[163],[],1⟩ (p_e.fN != 0)
def ahg (p_e:aC) : Mo (Int) :=
 .jp Tryz.f319 0 [1,0,0] 9 [1] 1 (.normal) (fun r_=>⟨[(1,.ptr 0 0),(46,.b_ r_)],[.box 44 (.dat (aC.lf1 p_e))]⟩) ⟨[(1,.ptr 0 0)],[.box 44 (.dat (aC.lf1 p_e))]⟩ (abH p_e).den (jW (by kernel_rfl)) fun r0 _ =>
 .iB (r0) (.ret (bC 1) (11)) <|
 .sj Tryz.f319 0 [1,1,0,0] [0,1,2,3,4,5,6,7,8] 3 9 [1] 1 (fun r_=>⟨[(1,.ptr 0 0),(55,.b_ r_)],[.box 44 (.dat (aC.lf1 p_e))]⟩) ⟨[(1,.ptr 0 0)],[.box 44 (.dat (aC.lf1 p_e))]⟩ (abI p_e).den (sW (by kernel_rfl)) fun r1 _ =>
 .sj Tryz.f319 0 [1,1,0,0] [9,10,11,12,13,14,15,16,17,18,19,20,21,22,23,24,25] 3 17 [1,55] 1 (fun r_=>⟨[(1,.ptr 0 0),(72,.b_ r_)],[.box 44 (.dat (aC.lf1 p_e))]⟩) ⟨[(1,.ptr 0 0),(55,.b_ r1)],[.box 44 (.dat (aC.lf1 p_e))]⟩ (Yv p_e r1).den (sW (by kernel_rfl)) fun r2 _ =>
 .iB (r2) (.ret (bC 1) (10)) <|
 .sj Tryz.f319 0 [1,1,1,0] [0,1,2,3,4,5,6,7] 5 8 [1] 1 (fun r_=>⟨[(1,.ptr 0 0),(80,.b_ r_)],[.box 44 (.dat (aC.lf1 p_e))]⟩) ⟨[(1,.ptr 0 0)],[.box 44 (.dat (aC.lf1 p_e))]⟩ (Yw p_e).den (sW (by kernel_rfl)) fun r3 _ =>
 .sj Tryz.f319 0 [1,1,1,0] [8,9,10,11,12] 5 5 [1,80] 1 (fun r_=>⟨[(1,.ptr 0 0),(85,.b_ r_)],[.box 44 (.dat (aC.lf1 p_e))]⟩) ⟨[(1,.ptr 0 0),(80,.b_ r3)],[.box 44 (.dat (aC.lf1 p_e))]⟩ (Yx p_e r3).den (sW (by kernel_rfl)) fun r4 _ =>
 .sj Tryz.f319 0 [1,1,1,0] [13] 5 1 [1,85] 1 (fun r_=>⟨[(1,.ptr 0 0),(3,.b_ r4)],[.box 44 (.dat (aC.lf1 p_e))]⟩) ⟨[(1,.ptr 0 0),(85,.b_ r4)],[.box 44 (.dat (aC.lf1 p_e))]⟩ (Yy p_e r4).den (sW (by kernel_rfl)) fun r5 _ =>
 .sj Tryz.f319 0 [1,1,1,1,0,0] [0,1,2,3,4,5,6] 6 7 [1,3] 1 (fun r_=>⟨[(1,.ptr 0 0),(3,.b_ r4),(92,.b_ r_)],[.box 44 (.dat (aC.lf1 p_e))]⟩) ⟨[(1,.ptr 0 0),(3,.b_ r4)],[.box 44 (.dat (aC.lf1 p_e))]⟩ (Yz p_e r4).den (sW (by kernel_rfl)) fun r6 _ =>
 .sj Tryz.f319 0 [1,1,1,1,0,0] [7,8,9,10,11,12,13,14,15,16,17] 6 11 [1,3,92] 1 (fun r_=>⟨[(1,.ptr 0 0),(3,.b_ r4),(103,.b_ r_)],[.box 44 (.dat (aC.lf1 p_e))]⟩) ⟨[(1,.ptr 0 0),(3,.b_ r4),(92,.b_ r6)],[.box 44 (.dat (aC.lf1 p_e))]⟩ (YA p_e r4 r6).den (sW (by kernel_rfl)) fun r7 _ =>
 .iB (r7) (.ret (bC 1) (9)) <|
 .jp Tryz.f319 0 [1,1,1,1,1,0,0] 23 [1,3] 1 (.normal) (fun r_=>⟨[(1,.ptr 0 0),(3,.b_ r4),(112,.b_ r_)],[.box 44 (.dat (aC.lf1 p_e))]⟩) ⟨[(1,.ptr 0 0),(3,.b_ r4)],[.box 44 (.dat (aC.lf1 p_e))]⟩ (YB p_e r4).den (jW (by kernel_rfl)) fun r8 _ =>
 .iB (r8) (.ret (bC 1) (8)) <|
 .sj Tryz.f319 0 [1,1,1,1,1,1,0,0] [0,1,2,3,4,5,6,7] 10 8 [1,3] 1 (fun r_=>⟨[(1,.ptr 0 0),(3,.b_ r4),(120,.b_ r_)],[.box 44 (.dat (aC.lf1 p_e))]⟩) ⟨[(1,.ptr 0 0),(3,.b_ r4)],[.box 44 (.dat (aC.lf1 p_e))]⟩ (YC p_e r4).den (sW (by kernel_rfl)) fun r9 _ =>
 .sj Tryz.f319 0 [1,1,1,1,1,1,0,0] [8,9,10,11,12,13] 10 6 [1,3,120] 1 (fun r_=>⟨[(1,.ptr 0 0),(3,.b_ r4),(126,.b_ r_)],[.box 44 (.dat (aC.lf1 p_e))]⟩) ⟨[(1,.ptr 0 0),(3,.b_ r4),(120,.b_ r9)],[.box 44 (.dat (aC.lf1 p_e))]⟩ (YD p_e r4 r9).den (sW (by kernel_rfl)) fun r10 _ =>
 .sj Tryz.f319 0 [1,1,1,1,1,1,0,0] [14,15,16,17,18,19,20,21,22] 10 9 [1,3,126] 1 (fun r_=>⟨[(1,.ptr 0 0),(135,.b_ r_)],[.box 44 (.dat (aC.lf1 p_e))]⟩) ⟨[(1,.ptr 0 0),(3,.b_ r4),(126,.b_ r10)],[.box 44 (.dat (aC.lf1 p_e))]⟩ (YE p_e r4 r10).den (sW (by kernel_rfl)) fun r11 _ =>
 .sj Tryz.f319 0 [1,1,1,1,1,1,0,0] [23,24,25,26,27,28,29,30,31,32,33] 10 11 [1,135] 1 (fun r_=>⟨[(1,.ptr 0 0),(146,.b_ r_)],[.box 44 (.dat (aC.lf1 p_e))]⟩) ⟨[(1,.ptr 0 0),(135,.b_ r11)],[.box 44 (.dat (aC.lf1 p_e))]⟩ (YF p_e r11).den (sW (by kernel_rfl)) fun r12 _ =>
 .sj Tryz.f319 0 [1,1,1,1,1,1,0,0] [34,35,36,37,38,39,40,41,42,43,44,45] 10 12 [1,146] 1 (fun r_=>⟨[(1,.ptr 0 0),(158,.b_ r_)],[.box 44 (.dat (aC.lf1 p_e))]⟩) ⟨[(1,.ptr 0 0),(146,.b_ r12)],[.box 44 (.dat (aC.lf1 p_e))]⟩ (YG p_e r12).den (sW (by kernel_rfl)) fun r13 _ =>
 .sj Tryz.f319 0 [1,1,1,1,1,1,0,0] [46,47,48,49,50] 10 5 [1,158] 1 (fun r_=>⟨[(163,.b_ r_)],[.dead]⟩) ⟨[(1,.ptr 0 0),(158,.b_ r13)],[.box 44 (.dat (aC.lf1 p_e))]⟩ (YH p_e r13).den (sW (by kernel_rfl)) fun r14 _ =>
 .iB (r14) (.ret (bC 1) (4)) <|
 .ret (bC 1) (0)
def Q36 (p_e:aC) : Option (Int) := Mo.den (ahg p_e)
theorem aiR (p_e:aC) : FV (Q36 p_e) 319 [.dat (aC.lf1 p_e)] (fun r=>.i_ r) := bY Tryz.func319 (by kernel_rfl) (fun _=>rfl) (by kernel_rfl)
structure PS where
 m1:(p_e:aC) → (p_number:Int) → (p_level:Int) → Option (Int × Int)
 ok1:∀ p_e p_number p_level,FV (m1 p_e p_number p_level) 297 [.dat (aC.lf1 p_e),.i_ p_number,.i_ p_level] (fun r=>.tup [.i_ r.1,.i_ r.2])
def PU (R_:PS) (p_e:aC) (p_level:Int) (p_number:Int) : Mo (Bool) :=
 .iG 4002 (decide ((16:Int) < p_level)) (.rt [1,2,3,17] 1 (true)) <|
 .rt [1,2,3,17] 1 (decide ((256:Int) < p_number))
def DU (R_:PS) (p_e:aC) (p_level:Int) : (Int × Int) → Mo ((Int × Int) ⊕ (Int × Int) ⊕ (Int)) := fun (v0,v1) =>
 .say [.num p_e.bg.length] (ok1 (ln_ p_e.bg aC.lf)) <|
 .iB (decide ((v1:Int) < (p_e.bg.length:Int))) (.ask (bM p_e.bg v1) fun x0 h0 =>
 .say [.row (aC.lf1 x0)] (ok1 (aX aC.aV h0)) <|
 .cl (R_.ok1 x0 (IntKind.wrap .i64 (v0 + 1)) (IntKind.wrap .i64 (p_level + 1))) fun r0 _ =>
 .iB (r0.2 != 0) (.ret ⟨[.kill 0],[6,7],[],1⟩ (.inr (.inl (r0.1,r0.2)))) <|
 .rt [1,2,3,9] 1 (.inl (r0.1,IntKind.wrap .i64 (v1 + 1)))) <|
 .ret ⟨[.kill 0],[1],[],1⟩ (.inr (.inr (v0)))
def abJ (R_:PS) (p_e:aC) (p_level:Int) (v0:Int) (v1:Int) : Option ((Int × Int) ⊕ (Int)) := bK (fun v_=>(DU R_ p_e p_level v_).den) FU (v0,v1)
def PV (R_:PS) (p_e:aC) (p_level:Int) : (Int × Int) → St := fun (v0,v1)=>⟨[(1,.i_ v0),(2,.i_ p_level),(3,.ptr 0 0),(9,.i_ v1)],[.box 44 (.dat (aC.lf1 p_e))]⟩
def xk (r_:(Int × Int) ⊕ (Int)) : Exit := match r_ with
 | .inl o_=>.ret
 | .inr (o_)=>.exit 0
def xq  (r_:(Int × Int) ⊕ (Int)) : St := match r_ with
 | .inl o_=>⟨[(6,.i_ o_.1),(7,.i_ o_.2)],[.dead]⟩
 | .inr (o_)=>⟨[(1,.i_ o_)],[.dead]⟩
theorem PW {R_:PS} {p_e:aC} {p_level:Int} {v0:Int} {v1:Int} {r_:(Int × Int) ⊕ (Int)} (h:abJ R_ p_e p_level v0 v1 = some r_) : fQ Tryz.f297 0 [1,1,1,0,1,0] (xk r_) (xq r_) (PV R_ p_e p_level (v0,v1)) :=
 dO dK (body := (Code.sub (bodyC Tryz.f297) [1,1,1,0,1,0,0])) (by kernel_rfl) (DU R_ p_e p_level) (PV R_ p_e p_level) xk xq (fun r_=>by rcases r_ with _ | _ <;> rfl) (fun v_=>by kernel_rfl) h
def abK (R_:PS) (p_e:aC) (p_number:Int) (p_level:Int) : Mo (Int × Int) :=
 .jp Tryz.f297 0 [1,0,0] 9 [1,2,3] 1 (.normal) (fun r_=>⟨[(1,.i_ p_number),(2,.i_ p_level),(3,.ptr 0 0),(17,.b_ r_)],[.box 44 (.dat (aC.lf1 p_e))]⟩) ⟨[(1,.i_ p_number),(2,.i_ p_level),(3,.ptr 0 0)],[.box 44 (.dat (aC.lf1 p_e))]⟩ (PU R_ p_e p_level p_number).den (jW (by kernel_rfl)) fun r0 _ =>
 .iB (r0) (.ret (bC 2) (p_number,2)) <|
 .cl (aiR p_e) fun r1 _ =>
 .iB (r1 != 0) (.ret (bC 2) (p_number,r1)) <|
 .eP (abJ R_ p_e p_level p_number 0) (fun o0 h0 =>
 .say [.pt_ 0 [1,2,3,9] 1 (xk (.inl o0)) (xq (.inl o0))] (ok1 (PW h0)) <|
 .ret (bC 2) (o0.1,o0.2)) fun o1 h0 =>
 .say [.pt_ 0 [1,2,3,9] 1 (xk (.inr (o1))) (xq (.inr (o1)))] (ok1 (PW h0)) <|
 .ret (bC 2) (o1,0)
theorem afg (R_:PS) (p_e:aC) (p_number:Int) (p_level:Int) : FV (Mo.den (abK R_ p_e p_number p_level)) 297 [.dat (aC.lf1 p_e),.i_ p_number,.i_ p_level] (fun r=>.tup [.i_ r.1,.i_ r.2]) := bY Tryz.func297 (by kernel_rfl) (fun _=>rfl) (by kernel_rfl)
def qA:Nat → PS
 | 0=>{ m1 := fun p_e p_number p_level=>none,ok1 := fun _ _ _ _ h=>(by cases h) }
 | n_ + 1=>{ m1 := fun p_e p_number p_level=>Mo.den (abK (qA n_) p_e p_number p_level),ok1 := afg (qA n_) }
def Q40 (p_e:aC) (p_number:Int) (p_level:Int) : Option (Int × Int) := (qA FU).m1 p_e p_number p_level
theorem aiS (p_e:aC) (p_number:Int) (p_level:Int) : FV (Q40 p_e p_number p_level) 297 [.dat (aC.lf1 p_e),.i_ p_number,.i_ p_level] (fun r=>.tup [.i_ r.1,.i_ r.2]) := (qA FU).ok1 p_e p_number p_level
def abL (p_e:aC) : Mo (Int) :=
 .cl (aiS p_e 1 1) fun r0 _ =>
 .ret (bC 1) (r0.2)
def akI (p_e:aC) : Option (Int) := Mo.den (abL p_e)
theorem afh (p_e:aC) : FV (akI p_e) 250 [.dat (aC.lf1 p_e)] (fun r=>.i_ r) := bY Tryz.func250 (by kernel_rfl) (fun _=>rfl) (by kernel_rfl)
structure mZ where
 m1:(p_p:aK) → (p_elem:Bool) → Option (Int)
 ok1:∀ p_p p_elem,FV (m1 p_p p_elem) 206 [.dat (aK.lf1 p_p),.b_ p_elem] (fun r=>.i_ r)
def WY (R_:mZ) (p_elem:Bool) (p_p:aK) : Mo (Bool) :=
 .iG 4003 (decide ((p_p.fOp:Int) < 1)) (.rt [1,2,16] 1 (true)) <|
 .rt [1,2,16] 1 (decide ((24:Int) < p_p.fOp))
def WZ (R_:mZ) (p_elem:Bool) (p_p:aK) (r0:Bool) : Mo (Bool) :=
 .iG 4008 (r0) (.rt [1,2,21] 1 (true)) <|
 .cl (afe p_p) fun r1 _ =>
 .rt [1,2,21] 1 (!r1)
def PX (R_:mZ) (p_elem:Bool) (p_p:aK) (r0:Bool) : Mo (Bool) :=
 .iG 4013 (r0) (.rt [1,2,32] 1 (true)) <|
 .cl (KA p_p.fOp) fun r1 _ =>
 .ite (r1) (fun c0 =>
 .say [.gd 4017 true,.num p_p.fArgs.length] (okc c0 (ok1 (ln_ p_p.fArgs ak.lf))) <|
 .rt [1,2,32] 1 ((p_p.fArgs.length:Int) == 0)) fun c0 =>
 .say [.gd 4017 false] (ok1 c0) <|
 .rt [1,2,32] 1 (false)
def PY (R_:mZ) (p_elem:Bool) (p_p:aK) (r0:Bool) : Mo (Bool) :=
 .iG 4024 (r0) (.rt [1,2,37] 1 (true)) <|
 .cl (aiJ p_p) fun r1 _ =>
 .rt [1,2,37] 1 (!r1)
def PZ (R_:mZ) (p_elem:Bool) (p_p:aK) : Mo (Bool) :=
 .cl (WT p_p.fOp) fun r0 _ =>
 .iG 8003 (r0) (.cl (CS p_p.cZ) fun r1 _ =>
 .rt [1,2,46] 1 (!r1)) <|
 .rt [1,2,46] 1 (false)
def P5 (R_:mZ) (p_elem:Bool) (p_p:aK) (r0:Bool) : Mo (Bool) :=
 .iG 8009 (r0) (.ite (p_elem) (fun c0 =>
 .say [.gd 8011 true,.num p_p.cZ.length] (okc c0 (ok1 (ln_ p_p.cZ lfS))) <|
 .rt [1,2,56] 1 (!((p_p.cZ.length:Int) == 0))) fun c0 =>
 .say [.gd 8011 false] (ok1 c0) <|
 .rt [1,2,56] 1 (true)) <|
 .rt [1,2,56] 1 (false)
def P6 (R_:mZ) (p_elem:Bool) (p_p:aK) : Mo (Bool) :=
 .cl (WU p_p.fOp) fun r0 _ =>
 .iG 12003 (r0) (.cl (qy p_p.fArg) fun r1 _ =>
 .iG 12008 (!r1) (.rt [1,2,76] 1 (true)) <|
 .cl (KC p_p.fOp) fun r2 _ =>
 .iG 12012 (r2) (.rt [1,2,76] 1 (p_p.fArg.aU != 4)) <|
 .rt [1,2,76] 1 (false)) <|
 .rt [1,2,76] 1 (false)
def P7 (R_:mZ) (p_elem:Bool) (p_p:aK) (v0:Int) : Mo (Bool) :=
 .say [.num p_p.fArgs.length] (ok1 (ln_ p_p.fArgs ak.lf)) <|
 .iG 18005 (decide ((v0:Int) < (p_p.fArgs.length:Int))) (.cl (KA p_p.fOp) fun r0 _ =>
 .rt [1,2,5,86] 1 (r0)) <|
 .rt [1,2,5,86] 1 (false)
def DV (R_:mZ) (p_elem:Bool) (p_p:aK) : (Int) → Mo ((Int) ⊕ (Unit ⊕ Unit)) := fun (v0) =>
 .jp Tryz.f206 0 [1,1,1,1,0,1,0,0,0,0] 23 [1,2,5] 1 (.normal) (fun r_=>⟨[(1,.b_ p_elem),(2,.ptr 0 0),(5,.i_ v0),(86,.b_ r_)],[.box 47 (.dat (aK.lf1 p_p))]⟩) ⟨[(1,.b_ p_elem),(2,.ptr 0 0),(5,.i_ v0)],[.box 47 (.dat (aK.lf1 p_p))]⟩ (P7 R_ p_elem p_p v0).den (jW (by kernel_rfl)) fun r0 _ =>
 .iB (r0) (.ask (bM p_p.fArgs v0) fun x0 h0 =>
 .say [.row (ak.lf1 x0)] (ok1 (aX ak.aV h0)) <|
 .cl (qy x0) fun r1 _ =>
 .iB (!r1) (.ret ⟨[.kill 0],[4],[],1⟩ (.inr (.inl ()))) <|
 .rt [1,2,5] 1 (.inl (IntKind.wrap .i64 (v0 + 1)))) <|
 .rt [1,2] 1 (.inr (.inr (())))
def abM (R_:mZ) (p_elem:Bool) (p_p:aK) (v0:Int) : Option (Unit ⊕ Unit) := bK (fun v_=>(DV R_ p_elem p_p v_).den) FU (v0)
def P8 (R_:mZ) (p_elem:Bool) (p_p:aK) : (Int) → St := fun (v0)=>⟨[(1,.b_ p_elem),(2,.ptr 0 0),(5,.i_ v0)],[.box 47 (.dat (aK.lf1 p_p))]⟩
def xu (r_:Unit ⊕ Unit) : Exit := match r_ with
 | .inl o_=>.ret
 | .inr (o_)=>.exit 0
def xw (p_elem:Bool) (p_p:aK) (r_:Unit ⊕ Unit) : St := match r_ with
 | .inl o_=>⟨[(4,.i_ 8)],[.dead]⟩
 | .inr (o_)=>⟨[(1,.b_ p_elem),(2,.ptr 0 0)],[.box 47 (.dat (aK.lf1 p_p))]⟩
theorem P9 {R_:mZ} {p_elem:Bool} {p_p:aK} {v0:Int} {r_:Unit ⊕ Unit} (h:abM R_ p_elem p_p v0 = some r_) : fQ Tryz.f206 0 [1,1,1,1,0,1,0] (xu r_) (xw p_elem p_p r_) (P8 R_ p_elem p_p (v0)) :=
 dO dK (body := (Code.sub (bodyC Tryz.f206) [1,1,1,1,0,1,0,0])) (by kernel_rfl) (DV R_ p_elem p_p) (P8 R_ p_elem p_p) xu (xw p_elem p_p) (fun r_=>by rcases r_ with _ | _ <;> rfl) (fun v_=>by kernel_rfl) h
def DW (R_:mZ) (p_elem:Bool) (p_p:aK) : Mo ((Int) ⊕ Unit) :=
 .iB (p_p.fOp == 18) (.cl (aiK p_p.eF) fun r0 _ =>
 .iB (r0 != 0) (.ret ⟨[.kill 0],[4],[],1⟩ (.inl (r0))) <|
 .rt [1,2] 1 (.inr (()))) <|
 .rt [1,2] 1 (.inr (()))
def abN (R_:mZ) (p_elem:Bool) (p_p:aK) : Option ((Int) ⊕ Unit) := Mo.den (DW R_ p_elem p_p)
def xA (r_:(Int) ⊕ Unit) : Exit := match r_ with
 | .inl o_=>.ret
 | .inr (o_)=>.normal
def xB (p_elem:Bool) (p_p:aK) (r_:(Int) ⊕ Unit) : St := match r_ with
 | .inl o_=>⟨[(4,.i_ o_)],[.dead]⟩
 | .inr (o_)=>⟨[(1,.b_ p_elem),(2,.ptr 0 0)],[.box 47 (.dat (aK.lf1 p_p))]⟩
theorem Qa {R_:mZ} {p_elem:Bool} {p_p:aK} {r_:(Int) ⊕ Unit} (h:abN R_ p_elem p_p = some r_) : fQ Tryz.f206 0 [1,1,1,1,1,0,1] (xA r_) (xB p_elem p_p r_) ⟨[(1,.b_ p_elem),(2,.ptr 0 0),(98,.lf (.bool (p_p.fOp == 18)))],[.box 47 (.dat (aK.lf1 p_p))]⟩ :=
 jo dK (DW R_ p_elem p_p) xA (xB p_elem p_p) (by kernel_rfl) h
def Qb (R_:mZ) (p_elem:Bool) (p_p:aK) (v0:Int) : Mo (Int) :=
 .ask (bM p_p.bg v0) fun x0 h0 =>
 .say [] (ok1 (aX aK.aV h0)) <|
 .ite (p_elem) (fun c0 =>
 .say [] (ok1 c0) <|
 .ask (R_.m1 x0 true) fun r0 h1 =>
 .say [.dP (.q 0 (.q 1 (.q 2 (.q 3 (.q 4 (.q 5 (.q 6 (.q 7 (.q 8 (.q 9 (.q 10 (.l 11 (.q 12 .fin))))))))))))) (some 11) [] [.row (aK.lf1 x0),.gd 48006 true,.res (.i_ r0)] [1,2,7,8] 1 [(1,.b_ p_elem),(2,.ptr 0 0),(7,.i_ v0),(8,.i_ r0)] [.box 47 (.dat (aK.lf1 p_p))]] (okc (R_.ok1 _ _ _ h1) (ok1 (rf_ ⟨[(1,.b_ p_elem),(2,.ptr 0 0),(7,.i_ v0),(8,.i_ r0)],[.box 47 (.dat (aK.lf1 p_p))]⟩))) <|
 .rt [1,2,7,8] 1 (r0)) fun c0 =>
 .say [] (ok1 c0) <|
 .ask (R_.m1 x0 (p_p.fOp == 15)) fun r1 h2 =>
 .say [.dP (.q 0 (.q 1 (.q 2 (.q 3 (.q 4 (.q 5 (.q 6 (.q 7 (.q 8 (.q 9 (.q 10 (.l 11 (.q 12 .fin))))))))))))) (some 11) [] [.row (aK.lf1 x0),.gd 48006 false,.res (.i_ r1)] [1,2,7,8] 1 [(1,.b_ p_elem),(2,.ptr 0 0),(7,.i_ v0),(8,.i_ r1)] [.box 47 (.dat (aK.lf1 p_p))]] (okc (R_.ok1 _ _ _ h2) (ok1 (rf_ ⟨[(1,.b_ p_elem),(2,.ptr 0 0),(7,.i_ v0),(8,.i_ r1)],[.box 47 (.dat (aK.lf1 p_p))]⟩))) <|
 .rt [1,2,7,8] 1 (r1)
def DX (R_:mZ) (p_elem:Bool) (p_p:aK) : (Int) → Mo ((Int) ⊕ (Int) ⊕ Unit) := fun (v0) =>
 .say [.num p_p.bg.length] (ok1 (ln_ p_p.bg aK.lf)) <|
 .iB (decide ((v0:Int) < (p_p.bg.length:Int))) (.jp Tryz.f206 0 [1,1,1,1,1,1,1,1,0,1,0,0,1,0,0,0] 53 [1,2,7] 1 (.normal) (fun r_=>⟨[(1,.b_ p_elem),(2,.ptr 0 0),(7,.i_ v0),(8,.i_ r_)],[.box 47 (.dat (aK.lf1 p_p))]⟩) ⟨[(1,.b_ p_elem),(2,.ptr 0 0),(7,.i_ v0)],[.box 47 (.dat (aK.lf1 p_p))]⟩ (Qb R_ p_elem p_p v0).den (jW (by kernel_rfl)) fun r0 _ =>
 .iB (r0 != 0) (.ret ⟨[.kill 0],[4],[],1⟩ (.inr (.inl (r0)))) <|
 .rt [1,2,7] 1 (.inl (IntKind.wrap .i64 (v0 + 1)))) <|
 .ret ⟨[.kill 0],[],[],1⟩ (.inr (.inr (())))
def abO (R_:mZ) (p_elem:Bool) (p_p:aK) (v0:Int) : Option ((Int) ⊕ Unit) := bK (fun v_=>(DX R_ p_elem p_p v_).den) FU (v0)
def Qc (R_:mZ) (p_elem:Bool) (p_p:aK) : (Int) → St := fun (v0)=>⟨[(1,.b_ p_elem),(2,.ptr 0 0),(7,.i_ v0)],[.box 47 (.dat (aK.lf1 p_p))]⟩
def xC (r_:(Int) ⊕ Unit) : Exit := match r_ with
 | .inl o_=>.ret
 | .inr (o_)=>.exit 2
def xE  (r_:(Int) ⊕ Unit) : St := match r_ with
 | .inl o_=>⟨[(4,.i_ o_)],[.dead]⟩
 | .inr (o_)=>⟨[],[.dead]⟩
theorem Qd {R_:mZ} {p_elem:Bool} {p_p:aK} {v0:Int} {r_:(Int) ⊕ Unit} (h:abO R_ p_elem p_p v0 = some r_) : fQ Tryz.f206 0 [1,1,1,1,1,1,1,1,0,1,0] (xC r_) (xE r_) (Qc R_ p_elem p_p (v0)) :=
 dO dK (body := (Code.sub (bodyC Tryz.f206) [1,1,1,1,1,1,1,1,0,1,0,0])) (by kernel_rfl) (DX R_ p_elem p_p) (Qc R_ p_elem p_p) xC xE (fun r_=>by rcases r_ with _ | _ <;> rfl) (fun v_=>by kernel_rfl) h
def aiT (R_:mZ) (p_p:aK) (p_elem:Bool) : Mo (Int) :=
 .sj Tryz.f206 0 [1,0,0] [0,1,2,3,4,5,6,7] 1 8 [1,2] 1 (fun r_=>⟨[(1,.b_ p_elem),(2,.ptr 0 0),(16,.b_ r_)],[.box 47 (.dat (aK.lf1 p_p))]⟩) ⟨[(1,.b_ p_elem),(2,.ptr 0 0)],[.box 47 (.dat (aK.lf1 p_p))]⟩ (WY R_ p_elem p_p).den (sW (by kernel_rfl)) fun r0 _ =>
 .sj Tryz.f206 0 [1,0,0] [8,9,10,11,12] 1 5 [1,2,16] 1 (fun r_=>⟨[(1,.b_ p_elem),(2,.ptr 0 0),(21,.b_ r_)],[.box 47 (.dat (aK.lf1 p_p))]⟩) ⟨[(1,.b_ p_elem),(2,.ptr 0 0),(16,.b_ r0)],[.box 47 (.dat (aK.lf1 p_p))]⟩ (WZ R_ p_elem p_p r0).den (sW (by kernel_rfl)) fun r1 _ =>
 .sj Tryz.f206 0 [1,0,0] [13,14,15,16,17,18,19,20,21,22,23] 1 11 [1,2,21] 1 (fun r_=>⟨[(1,.b_ p_elem),(2,.ptr 0 0),(32,.b_ r_)],[.box 47 (.dat (aK.lf1 p_p))]⟩) ⟨[(1,.b_ p_elem),(2,.ptr 0 0),(21,.b_ r1)],[.box 47 (.dat (aK.lf1 p_p))]⟩ (PX R_ p_elem p_p r1).den (sW (by kernel_rfl)) fun r2 _ =>
 .sj Tryz.f206 0 [1,0,0] [24,25,26,27,28] 1 5 [1,2,32] 1 (fun r_=>⟨[(1,.b_ p_elem),(2,.ptr 0 0),(37,.b_ r_)],[.box 47 (.dat (aK.lf1 p_p))]⟩) ⟨[(1,.b_ p_elem),(2,.ptr 0 0),(32,.b_ r2)],[.box 47 (.dat (aK.lf1 p_p))]⟩ (PY R_ p_elem p_p r2).den (sW (by kernel_rfl)) fun r3 _ =>
 .iB (r3) (.ret (bC 1) (11)) <|
 .sj Tryz.f206 0 [1,1,0,0] [0,1,2,3,4,5,6,7,8] 3 9 [1,2] 1 (fun r_=>⟨[(1,.b_ p_elem),(2,.ptr 0 0),(46,.b_ r_)],[.box 47 (.dat (aK.lf1 p_p))]⟩) ⟨[(1,.b_ p_elem),(2,.ptr 0 0)],[.box 47 (.dat (aK.lf1 p_p))]⟩ (PZ R_ p_elem p_p).den (sW (by kernel_rfl)) fun r4 _ =>
 .sj Tryz.f206 0 [1,1,0,0] [9,10,11,12,13,14,15,16,17,18] 3 10 [1,2,46] 1 (fun r_=>⟨[(1,.b_ p_elem),(2,.ptr 0 0),(56,.b_ r_)],[.box 47 (.dat (aK.lf1 p_p))]⟩) ⟨[(1,.b_ p_elem),(2,.ptr 0 0),(46,.b_ r4)],[.box 47 (.dat (aK.lf1 p_p))]⟩ (P5 R_ p_elem p_p r4).den (sW (by kernel_rfl)) fun r5 _ =>
 .iB (r5) (.ret (bC 1) (10)) <|
 .jp Tryz.f206 0 [1,1,1,0,0] 17 [1,2] 1 (.normal) (fun r_=>⟨[(1,.b_ p_elem),(2,.ptr 0 0),(76,.b_ r_)],[.box 47 (.dat (aK.lf1 p_p))]⟩) ⟨[(1,.b_ p_elem),(2,.ptr 0 0)],[.box 47 (.dat (aK.lf1 p_p))]⟩ (P6 R_ p_elem p_p).den (jW (by kernel_rfl)) fun r6 _ =>
 .iB (r6) (.ret (bC 1) (8)) <|
 .eP (abM R_ p_elem p_p 0) (fun o0 h0 =>
 .say [.pt_ 0 [1,2,5] 1 (xu (.inl o0)) (xw p_elem p_p (.inl o0))] (ok1 (P9 h0)) <|
 .ret (bC 1) (8)) fun o1 h0 =>
 .say [.pt_ 0 [1,2,5] 1 (xu (.inr (o1))) (xw p_elem p_p (.inr (o1)))] (ok1 (P9 h0)) <|
 .eP (abN R_ p_elem p_p) (fun o2 h1 =>
 .say [.pt_ 1 [1,2,98] 1 (xA (.inl o2)) (xB p_elem p_p (.inl o2))] (ok1 (Qa h1)) <|
 .ret (bC 1) (o2)) fun o3 h1 =>
 .say [.pt_ 1 [1,2,98] 1 (xA (.inr (o3))) (xB p_elem p_p (.inr (o3)))] (ok1 (Qa h1)) <|
 .cl (aiN p_p) fun r7 _ =>
 .iB (!r7) (.ret (bC 1) (4)) <|
 .iB (p_p.fOp == 24) (.cl (afh p_p.fExpr) fun r8 _ =>
 .ret (bC 1) (r8)) <|
 .eP (abO R_ p_elem p_p 0) (fun o4 h2 =>
 .say [.pt_ 0 [1,2,7] 1 (xC (.inl o4)) (xE (.inl o4))] (ok1 (Qd h2)) <|
 .ret (bC 1) (o4)) fun o5 h2 =>
 .say [.pt_ 0 [1,2,7] 1 (xC (.inr (o5))) (xE (.inr (o5)))] (ok1 (Qd h2)) <|
 .ret (bC 1) (0)
theorem aiU (R_:mZ) (p_p:aK) (p_elem:Bool) : FV (Mo.den (aiT R_ p_p p_elem)) 206 [.dat (aK.lf1 p_p),.b_ p_elem] (fun r=>.i_ r) := bY Tryz.func206 (by kernel_rfl) (fun _=>rfl) (by kernel_rfl)
def jg:Nat → mZ
 | 0=>{ m1 := fun p_p p_elem=>none,ok1 := fun _ _ _ h=>(by cases h) }
 | n_ + 1=>{ m1 := fun p_p p_elem=>Mo.den (aiT (jg n_) p_p p_elem),ok1 := aiU (jg n_) }
def Q0 (p_p:aK) (p_elem:Bool) : Option (Int) := (jg FU).m1 p_p p_elem
theorem akJ (p_p:aK) (p_elem:Bool) : FV (Q0 p_p p_elem) 206 [.dat (aK.lf1 p_p),.b_ p_elem] (fun r=>.i_ r) := (jg FU).ok1 p_p p_elem
def abP (p_p:aK) : Mo (Int) :=
 .cl (aiI p_p 16 256) fun r0 _ =>
 .iB (decide ((r0:Int) < 0)) (.ret (bC 1) (2)) <|
 .cl (akJ p_p false) fun r1 _ =>
 .ret (bC 1) (r1)
def akK (p_p:aK) : Option (Int) := Mo.den (abP p_p)
theorem afi (p_p:aK) : FV (akK p_p) 160 [.dat (aK.lf1 p_p)] (fun r=>.i_ r) := bY Tryz.func160 (by kernel_rfl) (fun _=>rfl) (by kernel_rfl)
def DY (p_a:List ByteArray) (p_b:List ByteArray) : (Int) → Mo ((Int) ⊕ (Unit ⊕ Unit)) := fun (v0) =>
 .say [.num p_a.length] (ok1 (ln_ p_a lfS)) <|
 .ite (decide ((v0:Int) < (p_a.length:Int))) (fun c0 =>
 .say [.br true,.order [(true,0),(true,1),(true,2),(true,3),(true,4),(true,5),(true,6),(true,7),(true,8)] none []] (ok1 c0) <|
 .ask (bM p_a v0) fun x0 h0 =>
 .say [.row (lfS x0)] (ok1 (aX lS_ h0)) <|
 .ask (bM p_b v0) fun x1 h1 =>
 .say [.row (lfS x1)] (ok1 (aX lS_ h1)) <|
 .iB (!decide ((x0:ByteArray) = (x1:ByteArray))) (.rt [4] 0 (.inr (.inl ()))) <|
 .rt [0,1,5] 0 (.inl (IntKind.wrap .i64 (v0 + 1)))) fun c0 =>
 .say [.br false] (ok1 c0) <|
 .rt [] 0 (.inr (.inr (())))
def abQ (p_a:List ByteArray) (p_b:List ByteArray) (v0:Int) : Option (Unit ⊕ Unit) := bK (fun v_=>(DY p_a p_b v_).den) FU (v0)
def Qe (p_a:List ByteArray) (p_b:List ByteArray) : (Int) → St := fun (v0)=>⟨[(0,.lf (.rows 1 (p_a.map lfS))),(1,.lf (.rows 1 (p_b.map lfS))),(5,.i_ v0)],[]⟩
def xG (r_:Unit ⊕ Unit) : Exit := match r_ with
 | .inl o_=>.ret
 | .inr (o_)=>.exit 0
def xH  (r_:Unit ⊕ Unit) : St := match r_ with
 | .inl o_=>⟨[(4,.b_ false)],[]⟩
 | .inr (o_)=>⟨[],[]⟩
theorem Qg {p_a:List ByteArray} {p_b:List ByteArray} {v0:Int} {r_:Unit ⊕ Unit} (h:abQ p_a p_b v0 = some r_) : fQ Tryz.f298 0 [1,1,0,1,0] (xG r_) (xH r_) (Qe p_a p_b (v0)) :=
 dO dK (body := (Code.sub (bodyC Tryz.f298) [1,1,0,1,0,0])) (by kernel_rfl) (DY p_a p_b) (Qe p_a p_b) xG xH (fun r_=>by rcases r_ with _ | _ <;> rfl) (fun v_=>by kernel_rfl) h
def ahh (p_a:List ByteArray) (p_b:List ByteArray) : Mo (Bool) :=
 .say [.num p_a.length,.num p_b.length] (okc (ln_ p_a lfS) (ok1 (ln_ p_b lfS))) <|
 .iB (decide (((p_b.length:Int) : Int) < (p_a.length:Int))) (.ret (bC 1) (false)) <|
 .eP (abQ p_a p_b 0) (fun o0 h0 =>
 .say [.pt_ 0 [0,1,5] 0 (xG (.inl o0)) (xH (.inl o0))] (ok1 (Qg h0)) <|
 .ret (bC 1) (false)) fun o1 h0 =>
 .say [.pt_ 0 [0,1,5] 0 (xG (.inr (o1))) (xH (.inr (o1)))] (ok1 (Qg h0)) <|
 .ret (bC 1) (true)
def Q48 (p_a:List ByteArray) (p_b:List ByteArray) : Option (Bool) := Mo.den (ahh p_a p_b)
theorem aiV (p_a:List ByteArray) (p_b:List ByteArray) : FV (Q48 p_a p_b) 298 [.lf (.rows 1 (p_a.map lfS)),.lf (.rows 1 (p_b.map lfS))] (fun r=>.b_ r) := bY Tryz.func298 (by kernel_rfl) (fun _=>rfl) (by kernel_rfl)
def abR (p_a:List ByteArray) (p_b:List ByteArray) : Mo (Bool) :=
 .say [.num p_a.length,.num p_b.length] (okc (ln_ p_a lfS) (ok1 (ln_ p_b lfS))) <|
 .iG 4005 ((p_a.length:Int) == (p_b.length:Int)) (.cl (aiV p_a p_b) fun r0 _ =>
 .ret (bC 1) (r0)) <|
 .ret (bC 1) (false)
def akL (p_a:List ByteArray) (p_b:List ByteArray) : Option (Bool) := Mo.den (abR p_a p_b)
theorem W9 (p_a:List ByteArray) (p_b:List ByteArray) : FV (akL p_a p_b) 251 [.lf (.rows 1 (p_a.map lfS)),.lf (.rows 1 (p_b.map lfS))] (fun r=>.b_ r) := bY Tryz.func251 (by kernel_rfl) (fun _=>rfl) (by kernel_rfl)
structure zM where
 m1:(p_a:aC) → (p_b:aC) → Option (Bool)
 ok1:∀ p_a p_b,FV (m1 p_a p_b) 208 [.dat (aC.lf1 p_a),.dat (aC.lf1 p_b)] (fun r=>.b_ r)
def Qh (R_:zM) (p_a:aC) (p_b:aC) : Mo (Bool) :=
 .iG 4005 (p_a.fOp != p_b.fOp) (.rt [2,3,18] 2 (true)) <|
 .cl (W9 p_a.cZ p_b.cZ) fun r0 _ =>
 .rt [2,3,18] 2 (!r0)
def Qi (R_:zM) (p_a:aC) (p_b:aC) (r0:Bool) : Mo (Bool) :=
 .iG 4013 (r0) (.rt [2,3,25] 2 (true)) <|
 .rt [2,3,25] 2 (!decide ((p_a.fName:ByteArray) = (p_b.fName:ByteArray)))
def Ib (R_:zM) (p_a:aC) (p_b:aC) (r0:Bool) : Mo (Bool) :=
 .iG 4020 (r0) (.rt [2,3,33] 2 (true)) <|
 .cl (W9 p_a.bQ p_b.bQ) fun r1 _ =>
 .rt [2,3,33] 2 (!r1)
def Ic (R_:zM) (p_a:aC) (p_b:aC) (r0:Bool) : Mo (Bool) :=
 .iG 4028 (r0) (.rt [2,3,41] 2 (true)) <|
 .cl (WX p_a.fArg p_b.fArg) fun r1 _ =>
 .rt [2,3,41] 2 (!r1)
def Ie (R_:zM) (p_a:aC) (p_b:aC) (r0:Bool) : Mo (Bool) :=
 .iG 4036 (r0) (.rt [2,3,48] 2 (true)) <|
 .rt [2,3,48] 2 (p_a.fN != p_b.fN)
def Ig (R_:zM) (p_a:aC) (p_b:aC) (r0:Bool) : Mo (Bool) :=
 .ite (r0) (fun c0 =>
 .say [.gd 4043 true] (ok1 c0) <|
 .rt [2,3,57] 2 (true)) fun c0 =>
 .say [.gd 4043 false,.num p_a.bg.length,.num p_b.bg.length] (okc c0 (okc (ln_ p_a.bg aC.lf) (ok1 (ln_ p_b.bg aC.lf)))) <|
 .rt [2,3,57] 2 ((p_a.bg.length:Int) != (p_b.bg.length:Int))
def zN (R_:zM) (p_a:aC) (p_b:aC) : (Int) → Mo ((Int) ⊕ (Unit ⊕ Unit)) := fun (v0) =>
 .say [.num p_a.bg.length] (ok1 (ln_ p_a.bg aC.lf)) <|
 .iB (decide ((v0:Int) < (p_a.bg.length:Int))) (.ask (bM p_a.bg v0) fun x0 h0 =>
 .say [] (ok1 (aX aC.aV h0)) <|
 .ask (bM p_b.bg v0) fun x1 h1 =>
 .say [] (ok1 (aX aC.aV h1)) <|
 .ask (R_.m1 x0 x1) fun r0 h2 =>
 .say [.dP (.q 0 (.q 1 (.q 2 (.q 3 (.q 4 (.q 5 (.q 6 (.q 7 (.q 8 (.q 9 (.l 10 (.q 11 .fin)))))))))))) (some 10) [] [.row (aC.lf1 x0),.row (aC.lf1 x1),.res (.b_ r0)] [2,3,5,76] 2 [(2,.ptr 0 0),(3,.ptr 1 0),(5,.i_ v0),(76,.lf (.bool (!r0)))] [.box 44 (.dat (aC.lf1 p_a)),.box 44 (.dat (aC.lf1 p_b))]] (okc (R_.ok1 _ _ _ h2) (ok1 (rf_ ⟨[(2,.ptr 0 0),(3,.ptr 1 0),(5,.i_ v0),(76,.lf (.bool (!r0)))],[.box 44 (.dat (aC.lf1 p_a)),.box 44 (.dat (aC.lf1 p_b))]⟩))) <|
 .iB (!r0) (.ret ⟨[.kill 0,.kill 1],[4],[],2⟩ (.inr (.inl ()))) <|
 .rt [2,3,5] 2 (.inl (IntKind.wrap .i64 (v0 + 1)))) <|
 .ret ⟨[.kill 0,.kill 1],[],[],2⟩ (.inr (.inr (())))
def Xa (R_:zM) (p_a:aC) (p_b:aC) (v0:Int) : Option (Unit ⊕ Unit) := bK (fun v_=>(zN R_ p_a p_b v_).den) FU (v0)
def Ih (R_:zM) (p_a:aC) (p_b:aC) : (Int) → St := fun (v0)=>⟨[(2,.ptr 0 0),(3,.ptr 1 0),(5,.i_ v0)],[.box 44 (.dat (aC.lf1 p_a)),.box 44 (.dat (aC.lf1 p_b))]⟩
def rH (r_:Unit ⊕ Unit) : Exit := match r_ with
 | .inl o_=>.ret
 | .inr (o_)=>.exit 0
def rJ  (r_:Unit ⊕ Unit) : St := match r_ with
 | .inl o_=>⟨[(4,.b_ false)],[.dead,.dead]⟩
 | .inr (o_)=>⟨[],[.dead,.dead]⟩
theorem Ii {R_:zM} {p_a:aC} {p_b:aC} {v0:Int} {r_:Unit ⊕ Unit} (h:Xa R_ p_a p_b v0 = some r_) : fQ Tryz.f208 0 [1,1,0,1,0] (rH r_) (rJ r_) (Ih R_ p_a p_b (v0)) :=
 dO dK (body := (Code.sub (bodyC Tryz.f208) [1,1,0,1,0,0])) (by kernel_rfl) (zN R_ p_a p_b) (Ih R_ p_a p_b) rH rJ (fun r_=>by rcases r_ with _ | _ <;> rfl) (fun v_=>by kernel_rfl) h
def abS (R_:zM) (p_a:aC) (p_b:aC) : Mo (Bool) :=
 .sj Tryz.f208 0 [1,0,0] [0,1,2,3,4,5,6,7,8,9,10,11,12] 1 13 [2,3] 2 (fun r_=>⟨[(2,.ptr 0 0),(3,.ptr 1 0),(18,.b_ r_)],[.box 44 (.dat (aC.lf1 p_a)),.box 44 (.dat (aC.lf1 p_b))]⟩) ⟨[(2,.ptr 0 0),(3,.ptr 1 0)],[.box 44 (.dat (aC.lf1 p_a)),.box 44 (.dat (aC.lf1 p_b))]⟩ (Qh R_ p_a p_b).den (sW (by kernel_rfl)) fun r0 _ =>
 .sj Tryz.f208 0 [1,0,0] [13,14,15,16,17,18,19] 1 7 [2,3,18] 2 (fun r_=>⟨[(2,.ptr 0 0),(3,.ptr 1 0),(25,.b_ r_)],[.box 44 (.dat (aC.lf1 p_a)),.box 44 (.dat (aC.lf1 p_b))]⟩) ⟨[(2,.ptr 0 0),(3,.ptr 1 0),(18,.b_ r0)],[.box 44 (.dat (aC.lf1 p_a)),.box 44 (.dat (aC.lf1 p_b))]⟩ (Qi R_ p_a p_b r0).den (sW (by kernel_rfl)) fun r1 _ =>
 .sj Tryz.f208 0 [1,0,0] [20,21,22,23,24,25,26,27] 1 8 [2,3,25] 2 (fun r_=>⟨[(2,.ptr 0 0),(3,.ptr 1 0),(33,.b_ r_)],[.box 44 (.dat (aC.lf1 p_a)),.box 44 (.dat (aC.lf1 p_b))]⟩) ⟨[(2,.ptr 0 0),(3,.ptr 1 0),(25,.b_ r1)],[.box 44 (.dat (aC.lf1 p_a)),.box 44 (.dat (aC.lf1 p_b))]⟩ (Ib R_ p_a p_b r1).den (sW (by kernel_rfl)) fun r2 _ =>
 .sj Tryz.f208 0 [1,0,0] [28,29,30,31,32,33,34,35] 1 8 [2,3,33] 2 (fun r_=>⟨[(2,.ptr 0 0),(3,.ptr 1 0),(41,.b_ r_)],[.box 44 (.dat (aC.lf1 p_a)),.box 44 (.dat (aC.lf1 p_b))]⟩) ⟨[(2,.ptr 0 0),(3,.ptr 1 0),(33,.b_ r2)],[.box 44 (.dat (aC.lf1 p_a)),.box 44 (.dat (aC.lf1 p_b))]⟩ (Ic R_ p_a p_b r2).den (sW (by kernel_rfl)) fun r3 _ =>
 .sj Tryz.f208 0 [1,0,0] [36,37,38,39,40,41,42] 1 7 [2,3,41] 2 (fun r_=>⟨[(2,.ptr 0 0),(3,.ptr 1 0),(48,.b_ r_)],[.box 44 (.dat (aC.lf1 p_a)),.box 44 (.dat (aC.lf1 p_b))]⟩) ⟨[(2,.ptr 0 0),(3,.ptr 1 0),(41,.b_ r3)],[.box 44 (.dat (aC.lf1 p_a)),.box 44 (.dat (aC.lf1 p_b))]⟩ (Ie R_ p_a p_b r3).den (sW (by kernel_rfl)) fun r4 _ =>
 .sj Tryz.f208 0 [1,0,0] [43,44,45,46,47,48,49,50,51] 1 9 [2,3,48] 2 (fun r_=>⟨[(2,.ptr 0 0),(3,.ptr 1 0),(57,.b_ r_)],[.box 44 (.dat (aC.lf1 p_a)),.box 44 (.dat (aC.lf1 p_b))]⟩) ⟨[(2,.ptr 0 0),(3,.ptr 1 0),(48,.b_ r4)],[.box 44 (.dat (aC.lf1 p_a)),.box 44 (.dat (aC.lf1 p_b))]⟩ (Ig R_ p_a p_b r4).den (sW (by kernel_rfl)) fun r5 _ =>
 .iB (r5) (.ret (bC 1) (false)) <|
 .eP (Xa R_ p_a p_b 0) (fun o0 h0 =>
 .say [.pt_ 0 [2,3,5] 2 (rH (.inl o0)) (rJ (.inl o0))] (ok1 (Ii h0)) <|
 .ret (bC 1) (false)) fun o1 h0 =>
 .say [.pt_ 0 [2,3,5] 2 (rH (.inr (o1))) (rJ (.inr (o1)))] (ok1 (Ii h0)) <|
 .ret (bC 1) (true)
theorem afj (R_:zM) (p_a:aC) (p_b:aC) : FV (Mo.den (abS R_ p_a p_b)) 208 [.dat (aC.lf1 p_a),.dat (aC.lf1 p_b)] (fun r=>.b_ r) := bY Tryz.func208 (by kernel_rfl) (fun _=>rfl) (by kernel_rfl)
def kP:Nat → zM
 | 0=>{ m1 := fun p_a p_b=>none,ok1 := fun _ _ _ h=>(by cases h) }
 | n_ + 1=>{ m1 := fun p_a p_b=>Mo.den (abS (kP n_) p_a p_b),ok1 := afj (kP n_) }
def Q18 (p_a:aC) (p_b:aC) : Option (Bool) := (kP FU).m1 p_a p_b
theorem aiW (p_a:aC) (p_b:aC) : FV (Q18 p_a p_b) 208 [.dat (aC.lf1 p_a),.dat (aC.lf1 p_b)] (fun r=>.b_ r) := (kP FU).ok1 p_a p_b
def abT (p_p:aK) : Mo (Bool) :=
 .ite (p_p.fOp == 0) (fun c0 =>
 .say [.gd 4003 true,.num p_p.cZ.length] (okc c0 (ok1 (ln_ p_p.cZ lfS))) <|
 .rt [1,2,11] 1 ((p_p.cZ.length:Int) == 0)) fun c0 =>
 .say [.gd 4003 false] (ok1 c0) <|
 .rt [1,2,11] 1 (false)
def abU (p_p:aK) (r0:Bool) : Mo (Bool) :=
 .iG 4009 (r0) (.cl (WX p_p.fArg (ak.mk 0 0 ⟨#[]⟩ [] [])) fun r1 _ =>
 .rt [1,2,17] 1 (r1)) <|
 .rt [1,2,17] 1 (false)
def YI (p_p:aK) (r0:Bool) : Mo (Bool) :=
 .ite (r0) (fun c0 =>
 .say [.gd 4015 true,.num p_p.fArgs.length] (okc c0 (ok1 (ln_ p_p.fArgs ak.lf))) <|
 .rt [1,2,23] 1 ((p_p.fArgs.length:Int) == 0)) fun c0 =>
 .say [.gd 4015 false] (ok1 c0) <|
 .rt [1,2,23] 1 (false)
def YJ (p_p:aK) (r0:Bool) : Mo (Bool) :=
 .iG 4021 (r0) (.rt [1,2,28] 1 (p_p.fN == 0)) <|
 .rt [1,2,28] 1 (false)
def YK (p_p:aK) (r0:Bool) : Mo (Bool) :=
 .iG 4026 (r0) (.rt [1,2,33] 1 (p_p.fM == 0)) <|
 .rt [1,2,33] 1 (false)
def YL (p_p:aK) (r0:Bool) : Mo (Bool) :=
 .iG 4031 (r0) (.rt [1,2,39] 1 (p_p.eF.aU == 0)) <|
 .rt [1,2,39] 1 (false)
def YM (p_p:aK) (r0:Bool) : Mo (Bool) :=
 .ite (r0) (fun c0 =>
 .say [.gd 4037 true,.num p_p.eF.bW.length] (okc c0 (ok1 (ln_ p_p.eF.bW dF.lf))) <|
 .rt [1,2,46] 1 ((p_p.eF.bW.length:Int) == 0)) fun c0 =>
 .say [.gd 4037 false] (ok1 c0) <|
 .rt [1,2,46] 1 (false)
def YN (p_p:aK) (r0:Bool) : Mo (Bool) :=
 .iG 4044 (r0) (.rt [1,2,52] 1 (p_p.eF.fR == 0)) <|
 .rt [1,2,52] 1 (false)
def YO (p_p:aK) (r0:Bool) : Mo (Bool) :=
 .iG 4050 (r0) (.cl (aiW p_p.fExpr aC.z) fun r1 _ =>
 .rt [1,2,58] 1 (r1)) <|
 .rt [1,2,58] 1 (false)
def YP (p_p:aK) (r0:Bool) : Mo (Bool) :=
 .ite (r0) (fun c0 =>
 .say [.gd 4056 true,.num p_p.bg.length] (okc c0 (ok1 (ln_ p_p.bg aK.lf))) <|
 .ret ⟨[.kill 0],[2,64],[],1⟩ ((p_p.bg.length:Int) == 0)) fun c0 =>
 .say [.gd 4056 false] (ok1 c0) <|
 .ret ⟨[.kill 0],[2,64],[],1⟩ (false)
def YQ (r0:Bool) : Mo (Unit) :=
 .rt [2] 1 ()
def ahi (p_p:aK) : Mo (Bool) :=
 .sj Tryz.f161 0 [1,0] [0,1,2,3,4,5,6,7,8] 1 9 [1,2] 1 (fun r_=>⟨[(1,.ptr 0 0),(2,.b_ false),(11,.b_ r_)],[.box 47 (.dat (aK.lf1 p_p))]⟩) ⟨[(1,.ptr 0 0),(2,.b_ false)],[.box 47 (.dat (aK.lf1 p_p))]⟩ (abT p_p).den (sW (by kernel_rfl)) fun r0 _ =>
 .sj Tryz.f161 0 [1,0] [9,10,11,12,13,14] 1 6 [1,2,11] 1 (fun r_=>⟨[(1,.ptr 0 0),(2,.b_ false),(17,.b_ r_)],[.box 47 (.dat (aK.lf1 p_p))]⟩) ⟨[(1,.ptr 0 0),(2,.b_ false),(11,.b_ r0)],[.box 47 (.dat (aK.lf1 p_p))]⟩ (abU p_p r0).den (sW (by kernel_rfl)) fun r1 _ =>
 .sj Tryz.f161 0 [1,0] [15,16,17,18,19,20] 1 6 [1,2,17] 1 (fun r_=>⟨[(1,.ptr 0 0),(2,.b_ false),(23,.b_ r_)],[.box 47 (.dat (aK.lf1 p_p))]⟩) ⟨[(1,.ptr 0 0),(2,.b_ false),(17,.b_ r1)],[.box 47 (.dat (aK.lf1 p_p))]⟩ (YI p_p r1).den (sW (by kernel_rfl)) fun r2 _ =>
 .sj Tryz.f161 0 [1,0] [21,22,23,24,25] 1 5 [1,2,23] 1 (fun r_=>⟨[(1,.ptr 0 0),(2,.b_ false),(28,.b_ r_)],[.box 47 (.dat (aK.lf1 p_p))]⟩) ⟨[(1,.ptr 0 0),(2,.b_ false),(23,.b_ r2)],[.box 47 (.dat (aK.lf1 p_p))]⟩ (YJ p_p r2).den (sW (by kernel_rfl)) fun r3 _ =>
 .sj Tryz.f161 0 [1,0] [26,27,28,29,30] 1 5 [1,2,28] 1 (fun r_=>⟨[(1,.ptr 0 0),(2,.b_ false),(33,.b_ r_)],[.box 47 (.dat (aK.lf1 p_p))]⟩) ⟨[(1,.ptr 0 0),(2,.b_ false),(28,.b_ r3)],[.box 47 (.dat (aK.lf1 p_p))]⟩ (YK p_p r3).den (sW (by kernel_rfl)) fun r4 _ =>
 .sj Tryz.f161 0 [1,0] [31,32,33,34,35,36] 1 6 [1,2,33] 1 (fun r_=>⟨[(1,.ptr 0 0),(2,.b_ false),(39,.b_ r_)],[.box 47 (.dat (aK.lf1 p_p))]⟩) ⟨[(1,.ptr 0 0),(2,.b_ false),(33,.b_ r4)],[.box 47 (.dat (aK.lf1 p_p))]⟩ (YL p_p r4).den (sW (by kernel_rfl)) fun r5 _ =>
 .sj Tryz.f161 0 [1,0] [37,38,39,40,41,42,43] 1 7 [1,2,39] 1 (fun r_=>⟨[(1,.ptr 0 0),(2,.b_ false),(46,.b_ r_)],[.box 47 (.dat (aK.lf1 p_p))]⟩) ⟨[(1,.ptr 0 0),(2,.b_ false),(39,.b_ r5)],[.box 47 (.dat (aK.lf1 p_p))]⟩ (YM p_p r5).den (sW (by kernel_rfl)) fun r6 _ =>
 .sj Tryz.f161 0 [1,0] [44,45,46,47,48,49] 1 6 [1,2,46] 1 (fun r_=>⟨[(1,.ptr 0 0),(2,.b_ false),(52,.b_ r_)],[.box 47 (.dat (aK.lf1 p_p))]⟩) ⟨[(1,.ptr 0 0),(2,.b_ false),(46,.b_ r6)],[.box 47 (.dat (aK.lf1 p_p))]⟩ (YN p_p r6).den (sW (by kernel_rfl)) fun r7 _ =>
 .sj Tryz.f161 0 [1,0] [50,51,52,53,54,55] 1 6 [1,2,52] 1 (fun r_=>⟨[(1,.ptr 0 0),(2,.b_ false),(58,.b_ r_)],[.box 47 (.dat (aK.lf1 p_p))]⟩) ⟨[(1,.ptr 0 0),(2,.b_ false),(52,.b_ r7)],[.box 47 (.dat (aK.lf1 p_p))]⟩ (YO p_p r7).den (sW (by kernel_rfl)) fun r8 _ =>
 .sj Tryz.f161 0 [1,0] [56,57,58,59,60,61] 1 6 [1,2,58] 1 (fun r_=>⟨[(2,.b_ false),(64,.b_ r_)],[.dead]⟩) ⟨[(1,.ptr 0 0),(2,.b_ false),(58,.b_ r8)],[.box 47 (.dat (aK.lf1 p_p))]⟩ (YP p_p r8).den (sW (by kernel_rfl)) fun r9 _ =>
 .sj Tryz.f161 0 [1,0] [62] 1 1 [2,64] 1 (fun r_=>⟨[(2,.b_ r9)],[.dead]⟩) ⟨[(2,.b_ false),(64,.b_ r9)],[.dead]⟩ (YQ r9).den (sW (by kernel_rfl)) fun r10 _ =>
 .ret (bC 1) (r9)
def Q53 (p_p:aK) : Option (Bool) := Mo.den (ahi p_p)
theorem aiX (p_p:aK) : FV (Q53 p_p) 161 [.dat (aK.lf1 p_p)] (fun r=>.b_ r) := bY Tryz.func161 (by kernel_rfl) (fun _=>rfl) (by kernel_rfl)
def Ij (p_x:aT) : Mo (Bool) :=
 .iG 8003 (decide ((p_x.aU:Int) < 1)) (.rt [1,15] 1 (true)) <|
 .rt [1,15] 1 (decide ((3:Int) < p_x.aU))
def Ik (p_x:aT) : Mo (Bool) :=
 .say [.num p_x.gu.length] (ok1 (ln_ p_x.gu bf.lf)) <|
 .iG 18004 ((p_x.gu.length:Int) == 0) (.rt [1,47] 1 (true)) <|
 .ite (p_x.aU != 1) (fun c0 =>
 .say [.gd 18008 true,.num p_x.gu.length] (okc c0 (ok1 (ln_ p_x.gu bf.lf))) <|
 .iG 18013 (decide ((1:Int) < (p_x.gu.length:Int))) (.rt [1,47] 1 (true)) <|
 .ask (bM p_x.gu 0) fun x0 h0 =>
 .say [.row (bf.lf1 x0)] (ok1 (aX bf.aV h0)) <|
 .iG 18020 (x0.Gp) (.rt [1,47] 1 (true)) <|
 .rt [1,47] 1 (p_x.iR)) fun c0 =>
 .say [.gd 18008 false] (ok1 c0) <|
 .rt [1,47] 1 (false)
def abV (p_x:aT) : Mo (Int) :=
 .cl (ug p_x.fName) fun r0 _ =>
 .iB (!r0) (.ret (bC 1) (9)) <|
 .jp Tryz.f117 0 [1,1,0,0] 13 [1] 1 (.normal) (fun r_=>⟨[(1,.ptr 0 0),(15,.b_ r_)],[.box 49 (.dat (aT.lf1 p_x))]⟩) ⟨[(1,.ptr 0 0)],[.box 49 (.dat (aT.lf1 p_x))]⟩ (Ij p_x).den (jW (by kernel_rfl)) fun r1 _ =>
 .iB (r1) (.ret (bC 1) (8)) <|
 .cl (aiH p_x.gu) fun r2 _ =>
 .iB (r2 != 0) (.ret (bC 1) (r2)) <|
 .jp Tryz.f117 0 [1,1,1,1,0,0] 23 [1] 1 (.normal) (fun r_=>⟨[(1,.ptr 0 0),(47,.b_ r_)],[.box 49 (.dat (aT.lf1 p_x))]⟩) ⟨[(1,.ptr 0 0)],[.box 49 (.dat (aT.lf1 p_x))]⟩ (Ik p_x).den (jW (by kernel_rfl)) fun r3 _ =>
 .iB (r3) (.ret (bC 1) (11)) <|
 .iB (p_x.jV) (.cl (afi p_x.iV) fun r4 _ =>
 .ret (bC 1) (r4)) <|
 .cl (aiX p_x.iV) fun r5 _ =>
 .iB (!r5) (.ret (bC 1) (4)) <|
 .ret (bC 1) (0)
def akM (p_x:aT) : Option (Int) := Mo.den (abV p_x)
theorem Xb (p_x:aT) : FV (akM p_x) 117 [.dat (aT.lf1 p_x)] (fun r=>.i_ r) := bY Tryz.func117 (by kernel_rfl) (fun _=>rfl) (by kernel_rfl)
def DZ (p_l:List aT) (p_name:ByteArray) : (Int) → Mo ((Int) ⊕ (Int) ⊕ Unit) := fun (v0) =>
 .say [.num p_l.length] (ok1 (ln_ p_l aT.lf)) <|
 .iB (decide ((v0:Int) < (p_l.length:Int))) (.ask (bM p_l v0) fun x0 h0 =>
 .say [.row (aT.lf1 x0)] (ok1 (aX aT.aV h0)) <|
 .iB (decide ((x0.fName:ByteArray) = (p_name:ByteArray))) (.rt [4] 0 (.inr (.inl (v0)))) <|
 .rt [0,1,5] 0 (.inl (IntKind.wrap .i64 (v0 + 1)))) <|
 .rt [] 0 (.inr (.inr (())))
def abW (p_l:List aT) (p_name:ByteArray) (v0:Int) : Option ((Int) ⊕ Unit) := bK (fun v_=>(DZ p_l p_name v_).den) FU (v0)
def Qj (p_l:List aT) (p_name:ByteArray) : (Int) → St := fun (v0)=>⟨[(0,.lf (.rows 31 (p_l.map aT.lf))),(1,.lf (.str p_name)),(5,.i_ v0)],[]⟩
def xI (r_:(Int) ⊕ Unit) : Exit := match r_ with
 | .inl o_=>.ret
 | .inr (o_)=>.exit 0
def xJ  (r_:(Int) ⊕ Unit) : St := match r_ with
 | .inl o_=>⟨[(4,.i_ o_)],[]⟩
 | .inr (o_)=>⟨[],[]⟩
theorem Qk {p_l:List aT} {p_name:ByteArray} {v0:Int} {r_:(Int) ⊕ Unit} (h:abW p_l p_name v0 = some r_) : fQ Tryz.f157 0 [1,0,1,0] (xI r_) (xJ r_) (Qj p_l p_name (v0)) :=
 dO dK (body := (Code.sub (bodyC Tryz.f157) [1,0,1,0,0])) (by kernel_rfl) (DZ p_l p_name) (Qj p_l p_name) xI xJ (fun r_=>by rcases r_ with _ | _ <;> rfl) (fun v_=>by kernel_rfl) h
def ahj (p_l:List aT) (p_name:ByteArray) : Mo (Int) :=
 .eP (abW p_l p_name 0) (fun o0 h0 =>
 .say [.pt_ 0 [0,1,5] 0 (xI (.inl o0)) (xJ (.inl o0))] (ok1 (Qk h0)) <|
 .ret (bC 1) (o0)) fun o1 h0 =>
 .say [.pt_ 0 [0,1,5] 0 (xI (.inr (o1))) (xJ (.inr (o1)))] (ok1 (Qk h0)) <|
 .ret (bC 1) ((-1))
def Q55 (p_l:List aT) (p_name:ByteArray) : Option (Int) := Mo.den (ahj p_l p_name)
theorem aiY (p_l:List aT) (p_name:ByteArray) : FV (Q55 p_l p_name) 157 [.lf (.rows 31 (p_l.map aT.lf)),.lf (.str p_name)] (fun r=>.i_ r) := bY Tryz.func157 (by kernel_rfl) (fun _=>rfl) (by kernel_rfl)
def D5 (p_l:List ByteArray) (v0:Int) : (Int) → Mo ((Int) ⊕ (Unit ⊕ Unit)) := fun (v1) =>
 .ite (decide ((v1:Int) < v0)) (fun c0 =>
 .say [.br true,.order [(true,0),(true,1),(true,2),(true,3),(true,4),(true,5),(true,6),(true,7),(true,8)] none []] (ok1 c0) <|
 .ask (bM p_l v1) fun x0 h0 =>
 .say [.row (lfS x0)] (ok1 (aX lS_ h0)) <|
 .ask (bM p_l v0) fun x1 h1 =>
 .say [.row (lfS x1)] (ok1 (aX lS_ h1)) <|
 .iB (decide ((x0:ByteArray) = (x1:ByteArray))) (.rt [2] 0 (.inr (.inl ()))) <|
 .rt [0,3,4] 0 (.inl (IntKind.wrap .i64 (v1 + 1)))) fun c0 =>
 .say [.br false] (ok1 c0) <|
 .rt [0,3] 0 (.inr (.inr (())))
def abX (p_l:List ByteArray) (v0:Int) (v1:Int) : Option (Unit ⊕ Unit) := bK (fun v_=>(D5 p_l v0 v_).den) FU (v1)
def Ql (p_l:List ByteArray) (v0:Int) : (Int) → St := fun (v1)=>⟨[(0,.lf (.rows 1 (p_l.map lfS))),(3,.i_ v0),(4,.i_ v1)],[]⟩
def xK (r_:Unit ⊕ Unit) : Exit := match r_ with
 | .inl o_=>.ret
 | .inr (o_)=>.exit 2
def xM (p_l:List ByteArray) (v0:Int) (r_:Unit ⊕ Unit) : St := match r_ with
 | .inl o_=>⟨[(2,.b_ false)],[]⟩
 | .inr (o_)=>⟨[(0,.lf (.rows 1 (p_l.map lfS))),(3,.i_ v0)],[]⟩
theorem Qm {p_l:List ByteArray} {v0:Int} {v1:Int} {r_:Unit ⊕ Unit} (h:abX p_l v0 v1 = some r_) : fQ Tryz.f291 0 [1,0,1,0,0,1,0,0,1,1,0] (xK r_) (xM p_l v0 r_) (Ql p_l v0 (v1)) :=
 dO dK (body := (Code.sub (bodyC Tryz.f291) [1,0,1,0,0,1,0,0,1,1,0,0])) (by kernel_rfl) (D5 p_l v0) (Ql p_l v0) xK (xM p_l v0) (fun r_=>by rcases r_ with _ | _ <;> rfl) (fun v_=>by kernel_rfl) h
def D6 (p_l:List ByteArray) : (Int) → Mo ((Int) ⊕ (Unit ⊕ Unit)) := fun (v0) =>
 .say [.num p_l.length] (ok1 (ln_ p_l lfS)) <|
 .iB (decide ((v0:Int) < (p_l.length:Int))) (.ask (bM p_l v0) fun x0 h0 =>
 .say [.row (lfS x0)] (ok1 (aX lS_ h0)) <|
 .cl (ug x0) fun r0 _ =>
 .iB (!r0) (.rt [2] 0 (.inr (.inl ()))) <|
 .eP (abX p_l v0 0) (fun o0 h1 =>
 .say [.pt_ 0 [0,3,4] 0 (xK (.inl o0)) (xM p_l v0 (.inl o0))] (ok1 (Qm h1)) <|
 .rt [2] 0 (.inr (.inl ()))) fun o1 h1 =>
 .say [.pt_ 0 [0,3,4] 0 (xK (.inr (o1))) (xM p_l v0 (.inr (o1)))] (ok1 (Qm h1)) <|
 .rt [0,3] 0 (.inl (IntKind.wrap .i64 (v0 + 1)))) <|
 .rt [] 0 (.inr (.inr (())))
def abY (p_l:List ByteArray) (v0:Int) : Option (Unit ⊕ Unit) := bK (fun v_=>(D6 p_l v_).den) FU (v0)
def Qn (p_l:List ByteArray) : (Int) → St := fun (v0)=>⟨[(0,.lf (.rows 1 (p_l.map lfS))),(3,.i_ v0)],[]⟩
def xO (r_:Unit ⊕ Unit) : Exit := match r_ with
 | .inl o_=>.ret
 | .inr (o_)=>.exit 0
def xP  (r_:Unit ⊕ Unit) : St := match r_ with
 | .inl o_=>⟨[(2,.b_ false)],[]⟩
 | .inr (o_)=>⟨[],[]⟩
theorem Qo {p_l:List ByteArray} {v0:Int} {r_:Unit ⊕ Unit} (h:abY p_l v0 = some r_) : fQ Tryz.f291 0 [1,0,1,0] (xO r_) (xP r_) (Qn p_l (v0)) :=
 dO dK (body := (Code.sub (bodyC Tryz.f291) [1,0,1,0,0])) (by kernel_rfl) (D6 p_l) (Qn p_l) xO xP (fun r_=>by rcases r_ with _ | _ <;> rfl) (fun v_=>by kernel_rfl) h
def ahk (p_l:List ByteArray) : Mo (Bool) :=
 .eP (abY p_l 0) (fun o0 h0 =>
 .say [.pt_ 0 [0,3] 0 (xO (.inl o0)) (xP (.inl o0))] (ok1 (Qo h0)) <|
 .ret (bC 1) (false)) fun o1 h0 =>
 .say [.pt_ 0 [0,3] 0 (xO (.inr (o1))) (xP (.inr (o1)))] (ok1 (Qo h0)) <|
 .ret (bC 1) (true)
def Q13 (p_l:List ByteArray) : Option (Bool) := Mo.den (ahk p_l)
theorem abZ (p_l:List ByteArray) : FV (Q13 p_l) 291 [.lf (.rows 1 (p_l.map lfS))] (fun r=>.b_ r) := bY Tryz.func291 (by kernel_rfl) (fun _=>rfl) (by kernel_rfl)
def ab1 (p_has:Bool) (p_v:ak) : Mo (Bool) :=
 .iG 4001 (p_has) (.cl (qy p_v) fun r0 _ =>
 .rt [0,3,4,10] 1 (!r0)) <|
 .rt [0,3,4,10] 1 (false)
def ab2 (p_has:Bool) (p_v:ak) (r0:Bool) : Mo (Bool) :=
 .iG 4006 (r0) (.ret ⟨[.kill 0],[4,20],[],1⟩ (true)) <|
 .iG 4009 (!p_has) (.cl (WX p_v (ak.mk 0 0 ⟨#[]⟩ [] [])) fun r1 _ =>
 .ret ⟨[.kill 0],[4,20],[],1⟩ (!r1)) <|
 .ret ⟨[.kill 0],[4,20],[],1⟩ (false)
def YR (r0:Bool) : Mo (Unit) :=
 .rt [4] 1 ()
def ahl (p_has:Bool) (p_v:ak) : Mo (Bool) :=
 .sj Tryz.f292 0 [1,0] [0,1,2,3,4,5] 1 6 [0,3,4] 1 (fun r_=>⟨[(0,.b_ p_has),(3,.ptr 0 0),(4,.b_ false),(10,.b_ r_)],[.box 29 (.dat (ak.lf1 p_v))]⟩) ⟨[(0,.b_ p_has),(3,.ptr 0 0),(4,.b_ false)],[.box 29 (.dat (ak.lf1 p_v))]⟩ (ab1 p_has p_v).den (sW (by kernel_rfl)) fun r0 _ =>
 .sj Tryz.f292 0 [1,0] [6,7,8,9,10,11,12,13,14,15] 1 10 [0,3,4,10] 1 (fun r_=>⟨[(4,.b_ false),(20,.b_ r_)],[.dead]⟩) ⟨[(0,.b_ p_has),(3,.ptr 0 0),(4,.b_ false),(10,.b_ r0)],[.box 29 (.dat (ak.lf1 p_v))]⟩ (ab2 p_has p_v r0).den (sW (by kernel_rfl)) fun r1 _ =>
 .sj Tryz.f292 0 [1,0] [16] 1 1 [4,20] 1 (fun r_=>⟨[(4,.b_ r1)],[.dead]⟩) ⟨[(4,.b_ false),(20,.b_ r1)],[.dead]⟩ (YR r1).den (sW (by kernel_rfl)) fun r2 _ =>
 .ret (bC 1) (r1)
def Q89 (p_has:Bool) (p_v:ak) : Option (Bool) := Mo.den (ahl p_has p_v)
theorem ab3 (p_has:Bool) (p_v:ak) : FV (Q89 p_has p_v) 292 [.b_ p_has,.dat (ak.lf1 p_v)] (fun r=>.b_ r) := bY Tryz.func292 (by kernel_rfl) (fun _=>rfl) (by kernel_rfl)
def Bo (p_s:aB) : (Int × (List ByteArray)) → Mo ((Int × (List ByteArray)) ⊕ ((List ByteArray))) := fun (v0,l0) =>
 .say [.num p_s.dN.length] (ok1 (ln_ p_s.dN bH.lf)) <|
 .iB (decide ((v0:Int) < (p_s.dN.length:Int))) (.ask (bM p_s.dN v0) fun x0 h0 =>
 .say [.row (bH.lf1 x0),.rows ((l0 ++ [x0.fName]).map lfS)] (okc (aX bH.aV h0) (ok1 (by simp [lfS] : (l0 ++ [x0.fName]).map lfS = (l0.map lfS) ++ [(lfS x0.fName)]))) <|
 .grd ((l0.length + [x0.fName].length) * 16 ≤ 140737488355328) fun h1 =>
 .say [] (ok1 (cp_ lfS h1)) <|
 .ret ⟨[],[1,3,4],[(3,1)],2⟩ (.inl (IntKind.wrap .i64 (v0 + 1),l0 ++ [x0.fName]))) <|
 .rt [1,3] 2 (.inr (l0))
def Xc (p_s:aB) (v0:Int) (l0:List ByteArray) : Option (((List ByteArray))) := bK (fun v_=>(Bo p_s v_).den) FU (v0,l0)
def Xd (p_s:aB) : (Int × (List ByteArray)) → St := fun (v0,l0)=>⟨[(1,.ptr 0 0),(3,.own 1),(4,.i_ v0)],[.box 35 (.dat (aB.lf1 p_s)),.row 9 1 (l0.map lfS)]⟩
def Bq (p_s:aB) (r_:((List ByteArray))) : St := ⟨[(1,.ptr 0 0),(3,.own 1)],[.box 35 (.dat (aB.lf1 p_s)),.row 9 1 (r_.map lfS)]⟩
theorem afk {p_s:aB} {v0:Int} {l0:List ByteArray} {r_:((List ByteArray))} (h:Xc p_s v0 l0 = some r_) : fQ Tryz.f241 0 [1,1,0,1,0] (.exit 0) (Bq p_s r_) (Xd p_s (v0,l0)) :=
 dO dK (body := (Code.sub (bodyC Tryz.f241) [1,1,0,1,0,0])) (by kernel_rfl) (Bo p_s) (Xd p_s) (fun _=>.exit 0) (Bq p_s) (fun r_=>rfl) (fun v_=>by kernel_rfl) h
def Xe (p_s:aB) (r0:((List ByteArray))) : Mo (Bool) :=
 .cl (abZ p_s.gy) fun r1 _ =>
 .ite (!r1) (fun c0 =>
 .say [.gd 14004 true] (ok1 c0) <|
 .ret ⟨[.kill 1],[1,30],[],2⟩ (true)) fun c0 =>
 .say [.gd 14004 false,.at_ 14 6,.frz 1] (ok1 c0) <|
 .cl (abZ r0) fun r2 _ =>
 .rt [1,30] 2 (!r2)
def Qp (p_s:aB) : Mo (Bool) :=
 .ite (decide ((p_s.jX:Int) < 0)) (fun c0 =>
 .say [.gd 18003 true] (ok1 c0) <|
 .rt [1,39] 2 (true)) fun c0 =>
 .say [.gd 18003 false] (okc c0 (ok1 (by decide:(2:Int) ≠ 0))) <|
 .rt [1,39] 2 ((Int.tmod p_s.jX 2) == 1)
def Qq (p_s:aB) (r0:Bool) : Mo (Bool) :=
 .iG 18009 (r0) (.rt [1,44] 2 (true)) <|
 .rt [1,44] 2 (decide ((4096:Int) ≤ p_s.jX))
def Qr (p_s:aB) (r0:Bool) : Mo (Bool) :=
 .iG 18014 (r0) (.rt [1,49] 2 (true)) <|
 .rt [1,49] 2 (decide ((p_s.kW:Int) < 0))
def Qs (p_s:aB) (r0:Bool) : Mo (Bool) :=
 .iG 18019 (r0) (.rt [1,54] 2 (true)) <|
 .rt [1,54] 2 (decide ((p_s.kX:Int) < (-1)))
def Qu (p_s:aB) (r0:Bool) : Mo (Bool) :=
 .ite (r0) (fun c0 =>
 .say [.gd 18024 true] (ok1 c0) <|
 .rt [1,60] 2 (true)) fun c0 =>
 .say [.gd 18024 false,.num p_s.fG.length] (okc c0 (ok1 (ln_ p_s.fG aB.lf))) <|
 .rt [1,60] 2 (decide ((1:Int) < (p_s.fG.length:Int)))
def Qv (p_s:aB) : Mo (Bool) :=
 .cl (ab3 p_s.kU p_s.sH) fun r0 _ =>
 .iG 22005 (r0) (.rt [1,72] 2 (true)) <|
 .cl (ab3 p_s.kV p_s.sJ) fun r1 _ =>
 .rt [1,72] 2 (r1)
def D7 (p_s:aB) : (Int) → Mo ((Int) ⊕ (Unit ⊕ Unit)) := fun (v0) =>
 .say [.num p_s.jY.length] (ok1 (ln_ p_s.jY ak.lf)) <|
 .iB (decide ((v0:Int) < (p_s.jY.length:Int))) (.ask (bM p_s.jY v0) fun x0 h0 =>
 .say [.row (ak.lf1 x0)] (ok1 (aX ak.aV h0)) <|
 .cl (qy x0) fun r0 _ =>
 .iB (!r0) (.ret ⟨[.kill 0],[2],[],2⟩ (.inr (.inl ()))) <|
 .rt [1,5] 2 (.inl (IntKind.wrap .i64 (v0 + 1)))) <|
 .ret ⟨[.kill 0],[],[],2⟩ (.inr (.inr (())))
def ab4 (p_s:aB) (v0:Int) : Option (Unit ⊕ Unit) := bK (fun v_=>(D7 p_s v_).den) FU (v0)
def Qw (p_s:aB) : (Int) → St := fun (v0)=>⟨[(1,.ptr 0 0),(5,.i_ v0)],[.box 35 (.dat (aB.lf1 p_s)),.dead]⟩
def xQ (r_:Unit ⊕ Unit) : Exit := match r_ with
 | .inl o_=>.ret
 | .inr (o_)=>.exit 2
def xR  (r_:Unit ⊕ Unit) : St := match r_ with
 | .inl o_=>⟨[(2,.i_ 8)],[.dead,.dead]⟩
 | .inr (o_)=>⟨[],[.dead,.dead]⟩
theorem Qx {p_s:aB} {v0:Int} {r_:Unit ⊕ Unit} (h:ab4 p_s v0 = some r_) : fQ Tryz.f241 0 [1,1,1,1,1,1,0,1,0] (xQ r_) (xR r_) (Qw p_s (v0)) :=
 dO dK (body := (Code.sub (bodyC Tryz.f241) [1,1,1,1,1,1,0,1,0,0])) (by kernel_rfl) (D7 p_s) (Qw p_s) xQ xR (fun r_=>by rcases r_ with _ | _ <;> rfl) (fun v_=>by kernel_rfl) h
def akN (p_s:aB) : Mo (Int) :=
 .say [] (ok1 (by simp [lfS] : (([] : List ByteArray).map lfS) = [])) <|
 .ask (Xc p_s 0 ([] : List ByteArray)) fun r0 h0 =>
 .say [.part [.Fb 3 9 1,.kJ 1 (([] : List ByteArray).map lfS)] 0 [1,3,4] 2 (.exit 0) (Bq p_s r0).T (Bq p_s r0).H] (ok1 (afk h0)) <|
 .jp Tryz.f241 0 [1,1,1,0,0] 19 [1,3] 2 (.normal) (fun r_=>⟨[(1,.ptr 0 0),(30,.b_ r_)],[.box 35 (.dat (aB.lf1 p_s)),.dead]⟩) ⟨[(1,.ptr 0 0),(3,.own 1)],[.box 35 (.dat (aB.lf1 p_s)),.row 9 1 (r0.map lfS)]⟩ (Xe p_s r0).den (jW (by kernel_rfl)) fun r1 _ =>
 .iB (r1) (.ret (bC 1) (9)) <|
 .sj Tryz.f241 0 [1,1,1,1,0,0] [0,1,2,3,4,5,6,7,8] 8 9 [1] 2 (fun r_=>⟨[(1,.ptr 0 0),(39,.b_ r_)],[.box 35 (.dat (aB.lf1 p_s)),.dead]⟩) ⟨[(1,.ptr 0 0)],[.box 35 (.dat (aB.lf1 p_s)),.dead]⟩ (Qp p_s).den (sW (by kernel_rfl)) fun r2 _ =>
 .sj Tryz.f241 0 [1,1,1,1,0,0] [9,10,11,12,13] 8 5 [1,39] 2 (fun r_=>⟨[(1,.ptr 0 0),(44,.b_ r_)],[.box 35 (.dat (aB.lf1 p_s)),.dead]⟩) ⟨[(1,.ptr 0 0),(39,.b_ r2)],[.box 35 (.dat (aB.lf1 p_s)),.dead]⟩ (Qq p_s r2).den (sW (by kernel_rfl)) fun r3 _ =>
 .sj Tryz.f241 0 [1,1,1,1,0,0] [14,15,16,17,18] 8 5 [1,44] 2 (fun r_=>⟨[(1,.ptr 0 0),(49,.b_ r_)],[.box 35 (.dat (aB.lf1 p_s)),.dead]⟩) ⟨[(1,.ptr 0 0),(44,.b_ r3)],[.box 35 (.dat (aB.lf1 p_s)),.dead]⟩ (Qr p_s r3).den (sW (by kernel_rfl)) fun r4 _ =>
 .sj Tryz.f241 0 [1,1,1,1,0,0] [19,20,21,22,23] 8 5 [1,49] 2 (fun r_=>⟨[(1,.ptr 0 0),(54,.b_ r_)],[.box 35 (.dat (aB.lf1 p_s)),.dead]⟩) ⟨[(1,.ptr 0 0),(49,.b_ r4)],[.box 35 (.dat (aB.lf1 p_s)),.dead]⟩ (Qs p_s r4).den (sW (by kernel_rfl)) fun r5 _ =>
 .sj Tryz.f241 0 [1,1,1,1,0,0] [24,25,26,27,28,29] 8 6 [1,54] 2 (fun r_=>⟨[(1,.ptr 0 0),(60,.b_ r_)],[.box 35 (.dat (aB.lf1 p_s)),.dead]⟩) ⟨[(1,.ptr 0 0),(54,.b_ r5)],[.box 35 (.dat (aB.lf1 p_s)),.dead]⟩ (Qu p_s r5).den (sW (by kernel_rfl)) fun r6 _ =>
 .iB (r6) (.ret (bC 1) (1)) <|
 .jp Tryz.f241 0 [1,1,1,1,1,0,0] 27 [1] 2 (.normal) (fun r_=>⟨[(1,.ptr 0 0),(72,.b_ r_)],[.box 35 (.dat (aB.lf1 p_s)),.dead]⟩) ⟨[(1,.ptr 0 0)],[.box 35 (.dat (aB.lf1 p_s)),.dead]⟩ (Qv p_s).den (jW (by kernel_rfl)) fun r7 _ =>
 .iB (r7) (.ret (bC 1) (8)) <|
 .eP (ab4 p_s 0) (fun o0 h1 =>
 .say [.pt_ 0 [1,5] 2 (xQ (.inl o0)) (xR (.inl o0))] (ok1 (Qx h1)) <|
 .ret (bC 1) (8)) fun o1 h1 =>
 .say [.pt_ 0 [1,5] 2 (xQ (.inr (o1))) (xR (.inr (o1)))] (ok1 (Qx h1)) <|
 .ret (bC 1) (0)
def Q7 (p_s:aB) : Option (Int) := Mo.den (akN p_s)
theorem akO (p_s:aB) : FV (Q7 p_s) 241 [.dat (aB.lf1 p_s)] (fun r=>.i_ r) := bY Tryz.func241 (by kernel_rfl) (fun _=>rfl) (by kernel_rfl)
structure KE where
 m1:(p_s:aB) → (p_number:Int) → (p_level:Int) → Option (Int × Int)
 ok1:∀ p_s p_number p_level,FV (m1 p_s p_number p_level) 203 [.dat (aB.lf1 p_s),.i_ p_number,.i_ p_level] (fun r=>.tup [.i_ r.1,.i_ r.2])
def Qy (R_:KE) (p_level:Int) (p_number:Int) (p_s:aB) : Mo (Bool) :=
 .iG 4002 (decide ((16:Int) < p_level)) (.rt [1,2,3,18] 1 (true)) <|
 .rt [1,2,3,18] 1 (decide ((64:Int) < p_number))
def Qz (R_:KE) (p_level:Int) (p_s:aB) (v0:Int) (v1:Int) : Mo (aB) :=
 .ite (decide ((v1:Int) < (p_s.dN.length:Int))) (fun c0 =>
 .say [.br true] (ok1 c0) <|
 .ask (bM p_s.dN v1) fun x0 h0 =>
 .say [.row (bH.lf1 x0)] (ok1 (aX bH.aV h0)) <|
 .ret ⟨[.norm 1],[1,2,3,9,10],[],2⟩ (x0.fF)) fun c0 =>
 .say [.br false,.num p_s.dN.length] (okc c0 (ok1 (ln_ p_s.dN bH.lf))) <|
 .ask (bM p_s.fG (IntKind.wrap .i64 (v1 - (p_s.dN.length:Int)))) fun x1 h1 =>
 .say [.row (aB.lf1 x1)] (ok1 (aX aB.aV h1)) <|
 .ret ⟨[.norm 1],[1,2,3,9,10],[],2⟩ (x1)
def zO (R_:KE) (p_level:Int) (p_s:aB) : (Int × Int) → Mo ((Int × Int) ⊕ (Int × Int) ⊕ (Int)) := fun (v0,v1) =>
 .say [.num p_s.dN.length,.num p_s.fG.length] (okc (ln_ p_s.dN bH.lf) (ok1 (ln_ p_s.fG aB.lf))) <|
 .ite (decide ((v1:Int) < (IntKind.wrap .i64 ((p_s.dN.length:Int) + (p_s.fG.length:Int))))) (fun c0 =>
 .say [.br true,.num p_s.dN.length] (okc c0 (ok1 (ln_ p_s.dN bH.lf))) <|
 .jp Tryz.f203 0 [1,1,1,0,1,0,0,1,0,0,1,0,1] 1 [1,2,3,9,10,41] 2 (.normal) (fun r_=>⟨[(1,.i_ v0),(2,.i_ p_level),(3,.ptr 0 0),(9,.i_ v1),(10,.ptr 1 0)],[.box 35 (.dat (aB.lf1 p_s)),.box 35 (.dat (aB.lf1 r_))]⟩) ⟨[(1,.i_ v0),(2,.i_ p_level),(3,.ptr 0 0),(9,.i_ v1),(10,.ptr 1 0),(41,.lf (.bool (decide ((v1:Int) < (p_s.dN.length:Int)))))],[.box 35 (.dat (aB.lf1 p_s)),.box 35 (Z35)]⟩ (Qz R_ p_level p_s v0 v1).den (jW (by kernel_rfl)) fun r0 _ =>
 .cl (R_.ok1 r0 (IntKind.wrap .i64 (v0 + 1)) (IntKind.wrap .i64 (p_level + 1))) fun r1 _ =>
 .iB (r1.2 != 0) (.ret ⟨[.kill 0],[6,7],[],1⟩ (.inr (.inl (r1.1,r1.2)))) <|
 .rt [1,2,3,9] 1 (.inl (r1.1,IntKind.wrap .i64 (v1 + 1)))) fun c0 =>
 .say [.br false] (ok1 c0) <|
 .ret ⟨[.kill 0],[1],[],1⟩ (.inr (.inr (v0)))
def Xf (R_:KE) (p_level:Int) (p_s:aB) (v0:Int) (v1:Int) : Option ((Int × Int) ⊕ (Int)) := bK (fun v_=>(zO R_ p_level p_s v_).den) FU (v0,v1)
def Il (R_:KE) (p_level:Int) (p_s:aB) : (Int × Int) → St := fun (v0,v1)=>⟨[(1,.i_ v0),(2,.i_ p_level),(3,.ptr 0 0),(9,.i_ v1)],[.box 35 (.dat (aB.lf1 p_s))]⟩
def rM (r_:(Int × Int) ⊕ (Int)) : Exit := match r_ with
 | .inl o_=>.ret
 | .inr (o_)=>.exit 0
def rO  (r_:(Int × Int) ⊕ (Int)) : St := match r_ with
 | .inl o_=>⟨[(6,.i_ o_.1),(7,.i_ o_.2)],[.dead]⟩
 | .inr (o_)=>⟨[(1,.i_ o_)],[.dead]⟩
theorem Io {R_:KE} {p_level:Int} {p_s:aB} {v0:Int} {v1:Int} {r_:(Int × Int) ⊕ (Int)} (h:Xf R_ p_level p_s v0 v1 = some r_) : fQ Tryz.f203 0 [1,1,1,0,1,0] (rM r_) (rO r_) (Il R_ p_level p_s (v0,v1)) :=
 dO dK (body := (Code.sub (bodyC Tryz.f203) [1,1,1,0,1,0,0])) (by kernel_rfl) (zO R_ p_level p_s) (Il R_ p_level p_s) rM rO (fun r_=>by rcases r_ with _ | _ <;> rfl) (fun v_=>by kernel_rfl) h
def ab5 (R_:KE) (p_s:aB) (p_number:Int) (p_level:Int) : Mo (Int × Int) :=
 .jp Tryz.f203 0 [1,0,0] 9 [1,2,3] 1 (.normal) (fun r_=>⟨[(1,.i_ p_number),(2,.i_ p_level),(3,.ptr 0 0),(18,.b_ r_)],[.box 35 (.dat (aB.lf1 p_s))]⟩) ⟨[(1,.i_ p_number),(2,.i_ p_level),(3,.ptr 0 0)],[.box 35 (.dat (aB.lf1 p_s))]⟩ (Qy R_ p_level p_number p_s).den (jW (by kernel_rfl)) fun r0 _ =>
 .iB (r0) (.ret (bC 2) (p_number,2)) <|
 .cl (akO p_s) fun r1 _ =>
 .iB (r1 != 0) (.ret (bC 2) (p_number,r1)) <|
 .eP (Xf R_ p_level p_s p_number 0) (fun o0 h0 =>
 .say [.pt_ 0 [1,2,3,9] 1 (rM (.inl o0)) (rO (.inl o0))] (ok1 (Io h0)) <|
 .ret (bC 2) (o0.1,o0.2)) fun o1 h0 =>
 .say [.pt_ 0 [1,2,3,9] 1 (rM (.inr (o1))) (rO (.inr (o1)))] (ok1 (Io h0)) <|
 .ret (bC 2) (o1,0)
theorem afl (R_:KE) (p_s:aB) (p_number:Int) (p_level:Int) : FV (Mo.den (ab5 R_ p_s p_number p_level)) 203 [.dat (aB.lf1 p_s),.i_ p_number,.i_ p_level] (fun r=>.tup [.i_ r.1,.i_ r.2]) := bY Tryz.func203 (by kernel_rfl) (fun _=>rfl) (by kernel_rfl)
def oU:Nat → KE
 | 0=>{ m1 := fun p_s p_number p_level=>none,ok1 := fun _ _ _ _ h=>(by cases h) }
 | n_ + 1=>{ m1 := fun p_s p_number p_level=>Mo.den (ab5 (oU n_) p_s p_number p_level),ok1 := afl (oU n_) }
def Q31 (p_s:aB) (p_number:Int) (p_level:Int) : Option (Int × Int) := (oU FU).m1 p_s p_number p_level
theorem aiZ (p_s:aB) (p_number:Int) (p_level:Int) : FV (Q31 p_s p_number p_level) 203 [.dat (aB.lf1 p_s),.i_ p_number,.i_ p_level] (fun r=>.tup [.i_ r.1,.i_ r.2]) := (oU FU).ok1 p_s p_number p_level
def ab6 (p_s:aB) : Mo (Int) :=
 .cl (aiZ p_s 1 1) fun r0 _ =>
 .ret (bC 1) (r0.2)
def akP (p_s:aB) : Option (Int) := Mo.den (ab6 p_s)
theorem afm (p_s:aB) : FV (akP p_s) 158 [.dat (aB.lf1 p_s)] (fun r=>.i_ r) := bY Tryz.func158 (by kernel_rfl) (fun _=>rfl) (by kernel_rfl)
def D8 (p_d:bP) : (Int) → Mo ((Int) ⊕ (Int) ⊕ Unit) := fun (v0) =>
 .say [.num p_d.dH.length] (ok1 (ln_ p_d.dH aT.lf)) <|
 .iB (decide ((v0:Int) < (p_d.dH.length:Int))) (.ask (bM p_d.dH v0) fun x0 h0 =>
 .say [.row (aT.lf1 x0)] (ok1 (aX aT.aV h0)) <|
 .cl (Xb x0) fun r0 _ =>
 .ite (r0 != 0) (fun c0 =>
 .say [.br true] (ok1 c0) <|
 .ret ⟨[.kill 0],[2],[],1⟩ (.inr (.inl (r0)))) fun c0 =>
 .say [.br false,.order [(true,0),(true,1),(true,2),(true,3),(true,4),(true,5),(true,6),(true,7),(true,9),(false,8),(true,10)] none []] (ok1 c0) <|
 .ask (bM p_d.dH v0) fun x1 h1 =>
 .say [.row (aT.lf1 x1)] (ok1 (aX aT.aV h1)) <|
 .cl (aiY p_d.dH x1.fName) fun r1 _ =>
 .iB (r1 != v0) (.ret ⟨[.kill 0],[2],[],1⟩ (.inr (.inl (16)))) <|
 .rt [1,3] 1 (.inl (IntKind.wrap .i64 (v0 + 1)))) <|
 .rt [1] 1 (.inr (.inr (())))
def ab7 (p_d:bP) (v0:Int) : Option ((Int) ⊕ Unit) := bK (fun v_=>(D8 p_d v_).den) FU (v0)
def QA (p_d:bP) : (Int) → St := fun (v0)=>⟨[(1,.ptr 0 0),(3,.i_ v0)],[.box 37 (.dat (bP.lf1 p_d))]⟩
def xU (r_:(Int) ⊕ Unit) : Exit := match r_ with
 | .inl o_=>.ret
 | .inr (o_)=>.exit 0
def xW (p_d:bP) (r_:(Int) ⊕ Unit) : St := match r_ with
 | .inl o_=>⟨[(2,.i_ o_)],[.dead]⟩
 | .inr (o_)=>⟨[(1,.ptr 0 0)],[.box 37 (.dat (bP.lf1 p_d))]⟩
theorem QB {p_d:bP} {v0:Int} {r_:(Int) ⊕ Unit} (h:ab7 p_d v0 = some r_) : fQ Tryz.f116 0 [1,1,1,0,1,0] (xU r_) (xW p_d r_) (QA p_d (v0)) :=
 dO dK (body := (Code.sub (bodyC Tryz.f116) [1,1,1,0,1,0,0])) (by kernel_rfl) (D8 p_d) (QA p_d) xU (xW p_d) (fun r_=>by rcases r_ with _ | _ <;> rfl) (fun v_=>by kernel_rfl) h
def QC (p_d:bP) : Mo (Bool) :=
 .iG 28003 (decide ((p_d.oM:Int) < 0)) (.rt [1,47] 1 (true)) <|
 .rt [1,47] 1 (decide ((2:Int) < p_d.oM))
def Ip (p_d:bP) (r0:Bool) : Mo (Bool) :=
 .iG 28008 (r0) (.rt [1,57] 1 (true)) <|
 .iG 28012 (p_d.l9 != 0) (.rt [1,57] 1 (p_d.l9 != 1)) <|
 .rt [1,57] 1 (false)
def ahm (p_d:bP) : Mo (Int) :=
 .cl (ug p_d.fName) fun r0 _ =>
 .ite (!r0) (fun c0 =>
 .say [.br true] (ok1 c0) <|
 .ret (bC 1) (9)) fun c0 =>
 .say [.br false,.num p_d.dH.length] (okc c0 (ok1 (ln_ p_d.dH aT.lf))) <|
 .iB (decide ((16:Int) < (p_d.dH.length:Int))) (.ret (bC 1) (2)) <|
 .eP (ab7 p_d 0) (fun o0 h0 =>
 .say [.pt_ 0 [1,3] 1 (xU (.inl o0)) (xW p_d (.inl o0))] (ok1 (QB h0)) <|
 .ret (bC 1) (o0)) fun o1 h0 =>
 .say [.pt_ 0 [1,3] 1 (xU (.inr (o1))) (xW p_d (.inr (o1)))] (ok1 (QB h0)) <|
 .sj Tryz.f116 0 [1,1,1,1,0,0] [0,1,2,3,4,5,6,7] 13 8 [1] 1 (fun r_=>⟨[(1,.ptr 0 0),(47,.b_ r_)],[.box 37 (.dat (bP.lf1 p_d))]⟩) ⟨[(1,.ptr 0 0)],[.box 37 (.dat (bP.lf1 p_d))]⟩ (QC p_d).den (sW (by kernel_rfl)) fun r1 _ =>
 .sj Tryz.f116 0 [1,1,1,1,0,0] [8,9,10,11,12,13,14,15,16,17] 13 10 [1,47] 1 (fun r_=>⟨[(1,.ptr 0 0),(57,.b_ r_)],[.box 37 (.dat (bP.lf1 p_d))]⟩) ⟨[(1,.ptr 0 0),(47,.b_ r1)],[.box 37 (.dat (bP.lf1 p_d))]⟩ (Ip p_d r1).den (sW (by kernel_rfl)) fun r2 _ =>
 .iB (r2) (.ret (bC 1) (1)) <|
 .cl (afm p_d.fF) fun r3 _ =>
 .ret (bC 1) (r3)
def Q39 (p_d:bP) : Option (Int) := Mo.den (ahm p_d)
theorem ai0 (p_d:bP) : FV (Q39 p_d) 116 [.dat (bP.lf1 p_d)] (fun r=>.i_ r) := bY Tryz.func116 (by kernel_rfl) (fun _=>rfl) (by kernel_rfl)
def Xg (p_hi:Int) (p_lo:Int) (p_w:aG) : Mo (Bool) :=
 .iG 6003 (decide ((p_w.aU:Int) < p_lo)) (.rt [3,7,20] 1 (true)) <|
 .rt [3,7,20] 1 (decide ((p_hi:Int) < p_w.aU))
def Xh (p_w:aG) (r0:Bool) : Mo (Bool) :=
 .iG 6008 (r0) (.rt [3,7,25] 1 (true)) <|
 .cl (aiy p_w) fun r1 _ =>
 .rt [3,7,25] 1 (!r1)
def QD (p_w:aG) (r0:Bool) : Mo (Bool) :=
 .iG 6013 (r0) (.rt [3,7,35] 1 (true)) <|
 .cl (WM p_w.aU) fun r1 _ =>
 .ite (r1) (fun c0 =>
 .say [.gd 6016 true,.num p_w.dL.length] (okc c0 (ok1 (ln_ p_w.dL aG.lf))) <|
 .rt [3,7,35] 1 ((p_w.dL.length:Int) == 0)) fun c0 =>
 .say [.gd 6016 false] (ok1 c0) <|
 .rt [3,7,35] 1 (false)
def QE (p_w:aG) (r0:Bool) : Mo (Unit) :=
 .rt [3,7,12] 1 ()
def QF (p_w:aG) : Mo (Bool) :=
 .cl (WB p_w.aU) fun r0 _ =>
 .iG 14002 (r0) (.cl (Bl p_w.kM) fun r1 _ =>
 .rt [3,7,49] 1 (!r1)) <|
 .rt [3,7,49] 1 (false)
def QG (p_w:aG) (r0:Bool) : Mo (Bool) :=
 .iG 14008 (r0) (.rt [3,7,59] 1 (true)) <|
 .cl (WL p_w.aU) fun r1 _ =>
 .iG 14011 (r1) (.cl (Bl p_w.zq) fun r2 _ =>
 .rt [3,7,59] 1 (!r2)) <|
 .rt [3,7,59] 1 (false)
def QH (p_w:aG) (r0:Bool) : Mo (Bool) :=
 .iG 14018 (r0) (.rt [3,7,70] 1 (true)) <|
 .iG 14021 (p_w.aU == 7) (.cl (Bl p_w.aY.fName) fun r1 _ =>
 .rt [3,7,70] 1 (!r1)) <|
 .rt [3,7,70] 1 (false)
def QI (p_w:aG) (r0:Bool) : Mo (Unit) :=
 .rt [3,7,41] 1 ()
def QJ (p_w:aG) : Mo (Bool) :=
 .iG 18002 (p_w.aU == 10) (.rt [3,7,78] 1 (decide ((p_w.fB:Int) < 1))) <|
 .rt [3,7,78] 1 (false)
def QK (p_w:aG) (r0:Bool) : Mo (Bool) :=
 .iG 18007 (r0) (.rt [3,7,83] 1 (true)) <|
 .rt [3,7,83] 1 (decide ((p_w.fB:Int) < 0))
def QL (p_w:aG) (r0:Bool) : Mo (Bool) :=
 .iG 18012 (r0) (.rt [3,7,88] 1 (true)) <|
 .rt [3,7,88] 1 (decide ((1099511627776:Int) < p_w.fB))
def QM (p_w:aG) (r0:Bool) : Mo (Bool) :=
 .iG 18017 (r0) (.rt [3,7,98] 1 (true)) <|
 .iG 18020 (p_w.aU == 12) (.cl (aiz p_w.eu) fun r1 _ =>
 .rt [3,7,98] 1 (!r1)) <|
 .rt [3,7,98] 1 (false)
def QN (p_w:aG) (r0:Bool) : Mo (Unit) :=
 .rt [3,7,71] 1 ()
def QO (p_w:aG) : Mo (Bool) :=
 .cl (J5 p_w.aU) fun r0 _ =>
 .iG 22002 (r0) (.cl (aiA p_w.mg) fun r1 _ =>
 .rt [3,7,99] 1 (!r1)) <|
 .rt [3,7,99] 1 (false)
def D9 (p_w:aG) : Mo ((Int) ⊕ Unit) :=
 .iB (p_w.aU == 2) (.cl (WS p_w.bU p_w.mg) fun r0 _ =>
 .iB (r0 != 0) (.ret ⟨[.kill 0],[6],[],1⟩ (.inl (r0))) <|
 .rt [3,7] 1 (.inr (()))) <|
 .rt [3,7] 1 (.inr (()))
def ab8 (p_w:aG) : Option ((Int) ⊕ Unit) := Mo.den (D9 p_w)
def xX (r_:(Int) ⊕ Unit) : Exit := match r_ with
 | .inl o_=>.ret
 | .inr (o_)=>.normal
def xY (p_w:aG) (r_:(Int) ⊕ Unit) : St := match r_ with
 | .inl o_=>⟨[(6,.i_ o_)],[.dead]⟩
 | .inr (o_)=>⟨[(3,.ptr 0 0),(7,.i_ p_w.aU)],[.box 52 (.dat (aG.lf1 p_w))]⟩
theorem QS {p_w:aG} {r_:(Int) ⊕ Unit} (h:ab8 p_w = some r_) : fQ Tryz.f78 0 [1,1,1,0,1] (xX r_) (xY p_w r_) ⟨[(3,.ptr 0 0),(7,.i_ p_w.aU),(109,.lf (.bool (p_w.aU == 2)))],[.box 52 (.dat (aG.lf1 p_w))]⟩ :=
 jo dK (D9 p_w) xX (xY p_w) (by kernel_rfl) h
def QT (p_w:aG) : Mo (Bool) :=
 .cl (J5 p_w.aU) fun r0 _ =>
 .iG 34002 (r0) (.cl (uh p_w.gY) fun r1 _ =>
 .rt [3,7,125] 1 (!r1)) <|
 .rt [3,7,125] 1 (false)
def Ea (p_w:aG) (r0:Bool) : Mo ((Int) ⊕ Unit) :=
 .iB (r0) (.cl (WS p_w.gY p_w.mg) fun r1 _ =>
 .iB (r1 != 0) (.ret ⟨[.kill 0],[6],[],1⟩ (.inl (r1))) <|
 .rt [3,7] 1 (.inr (()))) <|
 .rt [3,7] 1 (.inr (()))
def ab9 (p_w:aG) (r0:Bool) : Option ((Int) ⊕ Unit) := Mo.den (Ea p_w r0)
def xZ (r_:(Int) ⊕ Unit) : Exit := match r_ with
 | .inl o_=>.ret
 | .inr (o_)=>.normal
def yc (p_w:aG) (r_:(Int) ⊕ Unit) : St := match r_ with
 | .inl o_=>⟨[(6,.i_ o_)],[.dead]⟩
 | .inr (o_)=>⟨[(3,.ptr 0 0),(7,.i_ p_w.aU)],[.box 52 (.dat (aG.lf1 p_w))]⟩
theorem QU {p_w:aG} {r0:Bool} {r_:(Int) ⊕ Unit} (h:ab9 p_w r0 = some r_) : fQ Tryz.f78 0 [1,1,1,1,0,1] (xZ r_) (yc p_w r_) ⟨[(3,.ptr 0 0),(7,.i_ p_w.aU),(125,.b_ r0)],[.box 52 (.dat (aG.lf1 p_w))]⟩ :=
 jo dK (Ea p_w r0) xZ (yc p_w) (by kernel_rfl) h
def akQ (p_w:aG) (p_lo:Int) (p_hi:Int) : Mo (Int) :=
 .sj Tryz.f78 0 [1,1,0,0,0] [0,1,2,3,4,5,6,7] 2 8 [1,2,3,7] 1 (fun r_=>⟨[(3,.ptr 0 0),(7,.i_ p_w.aU),(20,.b_ r_)],[.box 52 (.dat (aG.lf1 p_w))]⟩) ⟨[(1,.i_ p_lo),(2,.i_ p_hi),(3,.ptr 0 0),(7,.i_ p_w.aU)],[.box 52 (.dat (aG.lf1 p_w))]⟩ (Xg p_hi p_lo p_w).den (sW (by kernel_rfl)) fun r0 _ =>
 .sj Tryz.f78 0 [1,1,0,0,0] [8,9,10,11,12] 2 5 [3,7,20] 1 (fun r_=>⟨[(3,.ptr 0 0),(7,.i_ p_w.aU),(25,.b_ r_)],[.box 52 (.dat (aG.lf1 p_w))]⟩) ⟨[(3,.ptr 0 0),(7,.i_ p_w.aU),(20,.b_ r0)],[.box 52 (.dat (aG.lf1 p_w))]⟩ (Xh p_w r0).den (sW (by kernel_rfl)) fun r1 _ =>
 .sj Tryz.f78 0 [1,1,0,0,0] [13,14,15,16,17,18,19,20,21,22] 2 10 [3,7,25] 1 (fun r_=>⟨[(3,.ptr 0 0),(7,.i_ p_w.aU),(35,.b_ r_)],[.box 52 (.dat (aG.lf1 p_w))]⟩) ⟨[(3,.ptr 0 0),(7,.i_ p_w.aU),(25,.b_ r1)],[.box 52 (.dat (aG.lf1 p_w))]⟩ (QD p_w r1).den (sW (by kernel_rfl)) fun r2 _ =>
 .sj Tryz.f78 0 [1,1,0,0,0] [23] 2 1 [3,7,35] 1 (fun r_=>⟨[(3,.ptr 0 0),(7,.i_ p_w.aU),(12,.b_ r2)],[.box 52 (.dat (aG.lf1 p_w))]⟩) ⟨[(3,.ptr 0 0),(7,.i_ p_w.aU),(35,.b_ r2)],[.box 52 (.dat (aG.lf1 p_w))]⟩ (QE p_w r2).den (sW (by kernel_rfl)) fun r3 _ =>
 .ite (r2) (fun c0 =>
 .say [.br true] (ok1 c0) <|
 .ret (bC 1) (11)) fun c0 =>
 .say [.br false,.num p_w.dL.length] (okc c0 (ok1 (ln_ p_w.dL aG.lf))) <|
 .iB (decide ((256:Int) < (p_w.dL.length:Int))) (.ret (bC 1) (2)) <|
 .sj Tryz.f78 0 [1,1,0,0,1,1,1,1,0] [0,1,2,3,4,5,6,7] 6 8 [3,7] 1 (fun r_=>⟨[(3,.ptr 0 0),(7,.i_ p_w.aU),(49,.b_ r_)],[.box 52 (.dat (aG.lf1 p_w))]⟩) ⟨[(3,.ptr 0 0),(7,.i_ p_w.aU)],[.box 52 (.dat (aG.lf1 p_w))]⟩ (QF p_w).den (sW (by kernel_rfl)) fun r4 _ =>
 .sj Tryz.f78 0 [1,1,0,0,1,1,1,1,0] [8,9,10,11,12,13,14,15,16,17] 6 10 [3,7,49] 1 (fun r_=>⟨[(3,.ptr 0 0),(7,.i_ p_w.aU),(59,.b_ r_)],[.box 52 (.dat (aG.lf1 p_w))]⟩) ⟨[(3,.ptr 0 0),(7,.i_ p_w.aU),(49,.b_ r4)],[.box 52 (.dat (aG.lf1 p_w))]⟩ (QG p_w r4).den (sW (by kernel_rfl)) fun r5 _ =>
 .sj Tryz.f78 0 [1,1,0,0,1,1,1,1,0] [18,19,20,21,22,23,24,25,26,27,28] 6 11 [3,7,59] 1 (fun r_=>⟨[(3,.ptr 0 0),(7,.i_ p_w.aU),(70,.b_ r_)],[.box 52 (.dat (aG.lf1 p_w))]⟩) ⟨[(3,.ptr 0 0),(7,.i_ p_w.aU),(59,.b_ r5)],[.box 52 (.dat (aG.lf1 p_w))]⟩ (QH p_w r5).den (sW (by kernel_rfl)) fun r6 _ =>
 .sj Tryz.f78 0 [1,1,0,0,1,1,1,1,0] [29] 6 1 [3,7,70] 1 (fun r_=>⟨[(3,.ptr 0 0),(7,.i_ p_w.aU),(41,.b_ r6)],[.box 52 (.dat (aG.lf1 p_w))]⟩) ⟨[(3,.ptr 0 0),(7,.i_ p_w.aU),(70,.b_ r6)],[.box 52 (.dat (aG.lf1 p_w))]⟩ (QI p_w r6).den (sW (by kernel_rfl)) fun r7 _ =>
 .iB (r6) (.ret (bC 1) (9)) <|
 .sj Tryz.f78 0 [1,1,0,0,1,1,1,1,1,1,0] [0,1,2,3,4,5,6] 8 7 [3,7] 1 (fun r_=>⟨[(3,.ptr 0 0),(7,.i_ p_w.aU),(78,.b_ r_)],[.box 52 (.dat (aG.lf1 p_w))]⟩) ⟨[(3,.ptr 0 0),(7,.i_ p_w.aU)],[.box 52 (.dat (aG.lf1 p_w))]⟩ (QJ p_w).den (sW (by kernel_rfl)) fun r8 _ =>
 .sj Tryz.f78 0 [1,1,0,0,1,1,1,1,1,1,0] [7,8,9,10,11] 8 5 [3,7,78] 1 (fun r_=>⟨[(3,.ptr 0 0),(7,.i_ p_w.aU),(83,.b_ r_)],[.box 52 (.dat (aG.lf1 p_w))]⟩) ⟨[(3,.ptr 0 0),(7,.i_ p_w.aU),(78,.b_ r8)],[.box 52 (.dat (aG.lf1 p_w))]⟩ (QK p_w r8).den (sW (by kernel_rfl)) fun r9 _ =>
 .sj Tryz.f78 0 [1,1,0,0,1,1,1,1,1,1,0] [12,13,14,15,16] 8 5 [3,7,83] 1 (fun r_=>⟨[(3,.ptr 0 0),(7,.i_ p_w.aU),(88,.b_ r_)],[.box 52 (.dat (aG.lf1 p_w))]⟩) ⟨[(3,.ptr 0 0),(7,.i_ p_w.aU),(83,.b_ r9)],[.box 52 (.dat (aG.lf1 p_w))]⟩ (QL p_w r9).den (sW (by kernel_rfl)) fun r10 _ =>
 .sj Tryz.f78 0 [1,1,0,0,1,1,1,1,1,1,0] [17,18,19,20,21,22,23,24,25,26] 8 10 [3,7,88] 1 (fun r_=>⟨[(3,.ptr 0 0),(7,.i_ p_w.aU),(98,.b_ r_)],[.box 52 (.dat (aG.lf1 p_w))]⟩) ⟨[(3,.ptr 0 0),(7,.i_ p_w.aU),(88,.b_ r10)],[.box 52 (.dat (aG.lf1 p_w))]⟩ (QM p_w r10).den (sW (by kernel_rfl)) fun r11 _ =>
 .sj Tryz.f78 0 [1,1,0,0,1,1,1,1,1,1,0] [27] 8 1 [3,7,98] 1 (fun r_=>⟨[(3,.ptr 0 0),(7,.i_ p_w.aU),(71,.b_ r11)],[.box 52 (.dat (aG.lf1 p_w))]⟩) ⟨[(3,.ptr 0 0),(7,.i_ p_w.aU),(98,.b_ r11)],[.box 52 (.dat (aG.lf1 p_w))]⟩ (QN p_w r11).den (sW (by kernel_rfl)) fun r12 _ =>
 .iB (r11) (.ret (bC 1) (1)) <|
 .jp Tryz.f78 0 [1,1,0,0,1,1,1,1,1,1,1,1,0] 27 [3,7] 1 (.normal) (fun r_=>⟨[(3,.ptr 0 0),(7,.i_ p_w.aU),(99,.b_ r_)],[.box 52 (.dat (aG.lf1 p_w))]⟩) ⟨[(3,.ptr 0 0),(7,.i_ p_w.aU)],[.box 52 (.dat (aG.lf1 p_w))]⟩ (QO p_w).den (jW (by kernel_rfl)) fun r13 _ =>
 .iB (r13) (.ret (bC 1) (8)) <|
 .eP (ab8 p_w) (fun o0 h0 =>
 .say [.pt_ 1 [3,7,109] 1 (xX (.inl o0)) (xY p_w (.inl o0))] (ok1 (QS h0)) <|
 .ret (bC 1) (o0)) fun o1 h0 =>
 .say [.pt_ 1 [3,7,109] 1 (xX (.inr (o1))) (xY p_w (.inr (o1)))] (ok1 (QS h0)) <|
 .jp Tryz.f78 0 [1,1,1,1,0,0] 39 [3,7] 1 (.normal) (fun r_=>⟨[(3,.ptr 0 0),(7,.i_ p_w.aU),(125,.b_ r_)],[.box 52 (.dat (aG.lf1 p_w))]⟩) ⟨[(3,.ptr 0 0),(7,.i_ p_w.aU)],[.box 52 (.dat (aG.lf1 p_w))]⟩ (QT p_w).den (jW (by kernel_rfl)) fun r14 _ =>
 .eP (ab9 p_w r14) (fun o2 h1 =>
 .say [.pt_ 1 [3,7,125] 1 (xZ (.inl o2)) (yc p_w (.inl o2))] (ok1 (QU h1)) <|
 .ret (bC 1) (o2)) fun o3 h1 =>
 .say [.pt_ 1 [3,7,125] 1 (xZ (.inr (o3))) (yc p_w (.inr (o3)))] (ok1 (QU h1)) <|
 .iB (p_w.aU == 4) (.cl (ai0 p_w.ou) fun r15 _ =>
 .ret (bC 1) (r15)) <|
 .iB (p_w.aU == 6) (.cl (Xb p_w.aY) fun r16 _ =>
 .ret (bC 1) (r16)) <|
 .ret (bC 1) (0)
def Q3 (p_w:aG) (p_lo:Int) (p_hi:Int) : Option (Int) := Mo.den (akQ p_w p_lo p_hi)
theorem ahn (p_w:aG) (p_lo:Int) (p_hi:Int) : FV (Q3 p_w p_lo p_hi) 78 [.dat (aG.lf1 p_w),.i_ p_lo,.i_ p_hi] (fun r=>.i_ r) := bY Tryz.func78 (by kernel_rfl) (fun _=>rfl) (by kernel_rfl)
def QV (p_e:ay) : Mo (Bool) :=
 .iG 8003 (decide ((p_e.fB:Int) < 1)) (.rt [1,19] 1 (true)) <|
 .rt [1,19] 1 (decide ((1099511627776:Int) < p_e.fB))
def QW (p_e:ay) (r0:Bool) : Mo (Bool) :=
 .iG 8008 (r0) (.rt [1,24] 1 (true)) <|
 .rt [1,24] 1 (decide ((p_e.oN:Int) < 0))
def Iq (p_e:ay) (r0:Bool) : Mo (Unit) :=
 .rt [1,11] 1 ()
def Ir (p_e:ay) : Mo (Bool) :=
 .iG 12003 (!decide ((p_e.jZ:ByteArray) = (⟨#[]⟩ : ByteArray))) (.cl (Bl p_e.jZ) fun r0 _ =>
 .rt [1,25] 1 (!r0)) <|
 .rt [1,25] 1 (false)
def Iu (p_e:ay) : Mo (Int) :=
 .iB (p_e.iH.aU == 9) (.rt [1,4] 1 (3)) <|
 .rt [1,4] 1 (7)
def zQ (p_e:ay) (r0:Int) : (Int) → Mo ((Int) ⊕ (Int) ⊕ Unit) := fun (v0) =>
 .say [.num p_e.iH.dL.length] (ok1 (ln_ p_e.iH.dL aG.lf)) <|
 .iB (decide ((v0:Int) < (p_e.iH.dL.length:Int))) (.ask (bM p_e.iH.dL v0) fun x0 h0 =>
 .say [.row (aG.lf1 x0)] (ok1 (aX aG.aV h0)) <|
 .cl (ahn x0 2 r0) fun r1 _ =>
 .iB (r1 != 0) (.ret ⟨[.kill 0],[2],[],1⟩ (.inr (.inl (r1)))) <|
 .rt [1,4,5] 1 (.inl (IntKind.wrap .i64 (v0 + 1)))) <|
 .ret ⟨[.kill 0],[],[],1⟩ (.inr (.inr (())))
def Xi (p_e:ay) (r0:Int) (v0:Int) : Option ((Int) ⊕ Unit) := bK (fun v_=>(zQ p_e r0 v_).den) FU (v0)
def Iw (p_e:ay) (r0:Int) : (Int) → St := fun (v0)=>⟨[(1,.ptr 0 0),(4,.i_ r0),(5,.i_ v0)],[.box 54 (.dat (ay.lf1 p_e))]⟩
def rP (r_:(Int) ⊕ Unit) : Exit := match r_ with
 | .inl o_=>.ret
 | .inr (o_)=>.exit 1
def rQ  (r_:(Int) ⊕ Unit) : St := match r_ with
 | .inl o_=>⟨[(2,.i_ o_)],[.dead]⟩
 | .inr (o_)=>⟨[],[.dead]⟩
theorem Iy {p_e:ay} {r0:Int} {v0:Int} {r_:(Int) ⊕ Unit} (h:Xi p_e r0 v0 = some r_) : fQ Tryz.f39 0 [1,1,1,1,1,0,1,0] (rP r_) (rQ r_) (Iw p_e r0 (v0)) :=
 dO dK (body := (Code.sub (bodyC Tryz.f39) [1,1,1,1,1,0,1,0,0])) (by kernel_rfl) (zQ p_e r0) (Iw p_e r0) rP rQ (fun r_=>by rcases r_ with _ | _ <;> rfl) (fun v_=>by kernel_rfl) h
def aho (p_e:ay) : Mo (Int) :=
 .iB (decide ((p_e.bD:Int) < 0)) (.ret (bC 1) (24)) <|
 .sj Tryz.f39 0 [1,0,0,1,1,0] [0,1,2,3,4,5,6,7] 3 8 [1] 1 (fun r_=>⟨[(1,.ptr 0 0),(19,.b_ r_)],[.box 54 (.dat (ay.lf1 p_e))]⟩) ⟨[(1,.ptr 0 0)],[.box 54 (.dat (ay.lf1 p_e))]⟩ (QV p_e).den (sW (by kernel_rfl)) fun r0 _ =>
 .sj Tryz.f39 0 [1,0,0,1,1,0] [8,9,10,11,12] 3 5 [1,19] 1 (fun r_=>⟨[(1,.ptr 0 0),(24,.b_ r_)],[.box 54 (.dat (ay.lf1 p_e))]⟩) ⟨[(1,.ptr 0 0),(19,.b_ r0)],[.box 54 (.dat (ay.lf1 p_e))]⟩ (QW p_e r0).den (sW (by kernel_rfl)) fun r1 _ =>
 .sj Tryz.f39 0 [1,0,0,1,1,0] [13] 3 1 [1,24] 1 (fun r_=>⟨[(1,.ptr 0 0),(11,.b_ r1)],[.box 54 (.dat (ay.lf1 p_e))]⟩) ⟨[(1,.ptr 0 0),(24,.b_ r1)],[.box 54 (.dat (ay.lf1 p_e))]⟩ (Iq p_e r1).den (sW (by kernel_rfl)) fun r2 _ =>
 .iB (r1) (.ret (bC 1) (1)) <|
 .jp Tryz.f39 0 [1,0,0,1,1,1,1,0] 17 [1] 1 (.normal) (fun r_=>⟨[(1,.ptr 0 0),(25,.b_ r_)],[.box 54 (.dat (ay.lf1 p_e))]⟩) ⟨[(1,.ptr 0 0)],[.box 54 (.dat (ay.lf1 p_e))]⟩ (Ir p_e).den (jW (by kernel_rfl)) fun r3 _ =>
 .iB (r3) (.ret (bC 1) (9)) <|
 .cl (ahn p_e.iH 1 12) fun r4 _ =>
 .iB (r4 != 0) (.ret (bC 1) (r4)) <|
 .jp Tryz.f39 0 [1,1,1,1,0,1] 1 [1,4,44] 1 (.normal) (fun r_=>⟨[(1,.ptr 0 0),(4,.i_ r_)],[.box 54 (.dat (ay.lf1 p_e))]⟩) ⟨[(1,.ptr 0 0),(4,.i_ 7),(44,.lf (.bool (p_e.iH.aU == 9)))],[.box 54 (.dat (ay.lf1 p_e))]⟩ (Iu p_e).den (jW (by kernel_rfl)) fun r5 _ =>
 .eP (Xi p_e r5 0) (fun o0 h0 =>
 .say [.pt_ 0 [1,4,5] 1 (rP (.inl o0)) (rQ (.inl o0))] (ok1 (Iy h0)) <|
 .ret (bC 1) (o0)) fun o1 h0 =>
 .say [.pt_ 0 [1,4,5] 1 (rP (.inr (o1))) (rQ (.inr (o1)))] (ok1 (Iy h0)) <|
 .ret (bC 1) (0)
def Q22 (p_e:ay) : Option (Int) := Mo.den (aho p_e)
theorem ai1 (p_e:ay) : FV (Q22 p_e) 39 [.dat (ay.lf1 p_e)] (fun r=>.i_ r) := bY Tryz.func39 (by kernel_rfl) (fun _=>rfl) (by kernel_rfl)
end
end Go.Proofs.YtdnafbfmaphhhaaGreatDoor
set_option linter.unusedSimpArgs false
set_option linter.unusedVariables false
namespace Go.Proofs.YtdnafbfmaphhhaaGreatDoor
open Go.RowKit
set_option maxRecDepth 20000
set_option maxHeartbeats 4000000
noncomputable section
def QX (p_m:aj) (p_x:ah) : Mo (Bool) :=
 .iG 4005 (p_x.fTo != p_m.fID) (.rt [2,3,17] 2 (true)) <|
 .rt [2,3,17] 2 (p_x.dh == p_m.fID)
def QY (p_m:aj) (p_x:ah) (r0:Bool) : Mo (Bool) :=
 .iG 4012 (r0) (.rt [2,3,22] 2 (true)) <|
 .rt [2,3,22] 2 (decide ((p_x.dh:Int) < 0))
def Iz (p_m:aj) (p_x:ah) (r0:Bool) : Mo (Bool) :=
 .iG 4017 (r0) (.ret ⟨[.kill 0],[3,29],[],2⟩ (true)) <|
 .ret ⟨[.kill 0],[3,29],[],2⟩ (decide ((p_m.dI:Int) ≤ p_x.dh))
def IB (p_x:ah) (r0:Bool) : Mo (Bool) :=
 .iG 4024 (r0) (.rt [3,34] 2 (true)) <|
 .rt [3,34] 2 (decide ((p_x.bD:Int) < 0))
def IC (p_x:ah) (r0:Bool) : Mo (Bool) :=
 .iG 4029 (r0) (.rt [3,39] 2 (true)) <|
 .rt [3,39] 2 (decide ((p_x.aY:Int) < 0))
def IE (p_x:ah) (r0:Bool) : Mo (Bool) :=
 .iG 4034 (r0) (.rt [3,44] 2 (true)) <|
 .rt [3,44] 2 (decide ((16384:Int) < p_x.aY))
def IG (p_x:ah) (r0:Bool) : Mo (Bool) :=
 .iG 4039 (r0) (.rt [3,49] 2 (true)) <|
 .rt [3,49] 2 (decide ((p_x.au:Int) < 0))
def II (p_x:ah) (r0:Bool) : Mo (Bool) :=
 .iG 4044 (r0) (.rt [3,54] 2 (true)) <|
 .rt [3,54] 2 (decide ((16384:Int) < p_x.au))
def IJ (p_x:ah) (r0:Bool) : Mo (Bool) :=
 .iG 4049 (r0) (.rt [3,59] 2 (true)) <|
 .rt [3,59] 2 (decide ((p_x.ku:Int) < 0))
def IK (p_x:ah) (r0:Bool) : Mo (Bool) :=
 .ite (r0) (fun c0 =>
 .say [.gd 4054 true] (ok1 c0) <|
 .rt [3,65] 2 (true)) fun c0 =>
 .say [.gd 4054 false,.num p_x.aH.length] (okc c0 (ok1 (ln_ p_x.aH ay.lf))) <|
 .rt [3,65] 2 (decide ((16:Int) < (p_x.aH.length:Int)))
def IL (p_x:ah) (v0:Int) : Mo (Bool) :=
 .ask (bM p_x.aH v0) fun x0 h0 =>
 .say [] (ok1 (aX ay.aV h0)) <|
 .ite (decide ((p_x.bD:Int) < x0.bD)) (fun c0 =>
 .say [.dP (.q 0 (.q 1 (.q 2 (.q 3 (.q 4 (.q 5 (.q 6 (.q 7 (.q 8 (.q 9 (.q 10 (.q 11 (.q 12 (.q 13 (.q 14 (.l 15 (.q 16 (.q 17 .fin)))))))))))))))))) (some 15) [] [.row (ay.lf1 x0),.gd 14009 true] [3,5,90] 2 [(3,.ptr 1 0),(5,.i_ v0),(90,.b_ true)] [.dead,.box 63 (.dat (ah.lf1 p_x))]] (okc c0 (ok1 (rf_ ⟨[(3,.ptr 1 0),(5,.i_ v0),(90,.b_ true)],[.dead,.box 63 (.dat (ah.lf1 p_x))]⟩))) <|
 .rt [3,5,90] 2 (true)) fun c0 =>
 .say [] (ok1 c0) <|
 .ask (bM p_x.aH v0) fun x1 h1 =>
 .say [] (ok1 (aX ay.aV h1)) <|
 .ask (Q22 x1) fun r0 h2 =>
 .say [.dP (.q 0 (.q 1 (.q 2 (.q 3 (.q 4 (.q 5 (.q 6 (.q 7 (.q 8 (.q 9 (.q 10 (.q 11 (.q 12 (.q 13 (.q 14 (.l 15 (.q 16 (.q 17 .fin)))))))))))))))))) (some 15) [] [.row (ay.lf1 x0),.gd 14009 false,.row (ay.lf1 x1),.res (.i_ r0)] [3,5,90] 2 [(3,.ptr 1 0),(5,.i_ v0),(90,.lf (.bool (r0 != 0)))] [.dead,.box 63 (.dat (ah.lf1 p_x))]] (okc (ai1 _ _ h2) (ok1 (rf_ ⟨[(3,.ptr 1 0),(5,.i_ v0),(90,.lf (.bool (r0 != 0)))],[.dead,.box 63 (.dat (ah.lf1 p_x))]⟩))) <|
 .rt [3,5,90] 2 (r0 != 0)
def zS (p_x:ah) : (Int) → Mo ((Int) ⊕ (Unit ⊕ Unit)) := fun (v0) =>
 .say [.num p_x.aH.length] (ok1 (ln_ p_x.aH ay.lf)) <|
 .iB (decide ((v0:Int) < (p_x.aH.length:Int))) (.jp Tryz.f15 0 [1,1,0,1,0,0,1,0,0,0] 19 [3,5] 2 (.normal) (fun r_=>⟨[(3,.ptr 1 0),(5,.i_ v0),(90,.b_ r_)],[.dead,.box 63 (.dat (ah.lf1 p_x))]⟩) ⟨[(3,.ptr 1 0),(5,.i_ v0)],[.dead,.box 63 (.dat (ah.lf1 p_x))]⟩ (IL p_x v0).den (jW (by kernel_rfl)) fun r0 _ =>
 .iB (r0) (.ret ⟨[.kill 1],[4],[],2⟩ (.inr (.inl ()))) <|
 .rt [3,5] 2 (.inl (IntKind.wrap .i64 (v0 + 1)))) <|
 .ret ⟨[.kill 1],[],[],2⟩ (.inr (.inr (())))
def KF (p_x:ah) (v0:Int) : Option (Unit ⊕ Unit) := bK (fun v_=>(zS p_x v_).den) FU (v0)
def IQ (p_x:ah) : (Int) → St := fun (v0)=>⟨[(3,.ptr 1 0),(5,.i_ v0)],[.dead,.box 63 (.dat (ah.lf1 p_x))]⟩
def rU (r_:Unit ⊕ Unit) : Exit := match r_ with
 | .inl o_=>.ret
 | .inr (o_)=>.exit 0
def rV  (r_:Unit ⊕ Unit) : St := match r_ with
 | .inl o_=>⟨[(4,.b_ false)],[.dead,.dead]⟩
 | .inr (o_)=>⟨[],[.dead,.dead]⟩
theorem IU {p_x:ah} {v0:Int} {r_:Unit ⊕ Unit} (h:KF p_x v0 = some r_) : fQ Tryz.f15 0 [1,1,0,1,0] (rU r_) (rV r_) (IQ p_x (v0)) :=
 dO dK (body := (Code.sub (bodyC Tryz.f15) [1,1,0,1,0,0])) (by kernel_rfl) (zS p_x) (IQ p_x) rU rV (fun r_=>by rcases r_ with _ | _ <;> rfl) (fun v_=>by kernel_rfl) h
def ahp (p_m:aj) (p_x:ah) : Mo (Bool) :=
 .sj Tryz.f15 0 [1,0,0] [0,1,2,3,4,5,6,7,8,9,10,11] 1 12 [2,3] 2 (fun r_=>⟨[(2,.ptr 0 0),(3,.ptr 1 0),(17,.b_ r_)],[.box 25 (.dat (aj.lf1 p_m)),.box 63 (.dat (ah.lf1 p_x))]⟩) ⟨[(2,.ptr 0 0),(3,.ptr 1 0)],[.box 25 (.dat (aj.lf1 p_m)),.box 63 (.dat (ah.lf1 p_x))]⟩ (QX p_m p_x).den (sW (by kernel_rfl)) fun r0 _ =>
 .sj Tryz.f15 0 [1,0,0] [12,13,14,15,16] 1 5 [2,3,17] 2 (fun r_=>⟨[(2,.ptr 0 0),(3,.ptr 1 0),(22,.b_ r_)],[.box 25 (.dat (aj.lf1 p_m)),.box 63 (.dat (ah.lf1 p_x))]⟩) ⟨[(2,.ptr 0 0),(3,.ptr 1 0),(17,.b_ r0)],[.box 25 (.dat (aj.lf1 p_m)),.box 63 (.dat (ah.lf1 p_x))]⟩ (QY p_m p_x r0).den (sW (by kernel_rfl)) fun r1 _ =>
 .sj Tryz.f15 0 [1,0,0] [17,18,19,20,21,22,23] 1 7 [2,3,22] 2 (fun r_=>⟨[(3,.ptr 1 0),(29,.b_ r_)],[.dead,.box 63 (.dat (ah.lf1 p_x))]⟩) ⟨[(2,.ptr 0 0),(3,.ptr 1 0),(22,.b_ r1)],[.box 25 (.dat (aj.lf1 p_m)),.box 63 (.dat (ah.lf1 p_x))]⟩ (Iz p_m p_x r1).den (sW (by kernel_rfl)) fun r2 _ =>
 .sj Tryz.f15 0 [1,0,0] [24,25,26,27,28] 1 5 [3,29] 2 (fun r_=>⟨[(3,.ptr 1 0),(34,.b_ r_)],[.dead,.box 63 (.dat (ah.lf1 p_x))]⟩) ⟨[(3,.ptr 1 0),(29,.b_ r2)],[.dead,.box 63 (.dat (ah.lf1 p_x))]⟩ (IB p_x r2).den (sW (by kernel_rfl)) fun r3 _ =>
 .sj Tryz.f15 0 [1,0,0] [29,30,31,32,33] 1 5 [3,34] 2 (fun r_=>⟨[(3,.ptr 1 0),(39,.b_ r_)],[.dead,.box 63 (.dat (ah.lf1 p_x))]⟩) ⟨[(3,.ptr 1 0),(34,.b_ r3)],[.dead,.box 63 (.dat (ah.lf1 p_x))]⟩ (IC p_x r3).den (sW (by kernel_rfl)) fun r4 _ =>
 .sj Tryz.f15 0 [1,0,0] [34,35,36,37,38] 1 5 [3,39] 2 (fun r_=>⟨[(3,.ptr 1 0),(44,.b_ r_)],[.dead,.box 63 (.dat (ah.lf1 p_x))]⟩) ⟨[(3,.ptr 1 0),(39,.b_ r4)],[.dead,.box 63 (.dat (ah.lf1 p_x))]⟩ (IE p_x r4).den (sW (by kernel_rfl)) fun r5 _ =>
 .sj Tryz.f15 0 [1,0,0] [39,40,41,42,43] 1 5 [3,44] 2 (fun r_=>⟨[(3,.ptr 1 0),(49,.b_ r_)],[.dead,.box 63 (.dat (ah.lf1 p_x))]⟩) ⟨[(3,.ptr 1 0),(44,.b_ r5)],[.dead,.box 63 (.dat (ah.lf1 p_x))]⟩ (IG p_x r5).den (sW (by kernel_rfl)) fun r6 _ =>
 .sj Tryz.f15 0 [1,0,0] [44,45,46,47,48] 1 5 [3,49] 2 (fun r_=>⟨[(3,.ptr 1 0),(54,.b_ r_)],[.dead,.box 63 (.dat (ah.lf1 p_x))]⟩) ⟨[(3,.ptr 1 0),(49,.b_ r6)],[.dead,.box 63 (.dat (ah.lf1 p_x))]⟩ (II p_x r6).den (sW (by kernel_rfl)) fun r7 _ =>
 .sj Tryz.f15 0 [1,0,0] [49,50,51,52,53] 1 5 [3,54] 2 (fun r_=>⟨[(3,.ptr 1 0),(59,.b_ r_)],[.dead,.box 63 (.dat (ah.lf1 p_x))]⟩) ⟨[(3,.ptr 1 0),(54,.b_ r7)],[.dead,.box 63 (.dat (ah.lf1 p_x))]⟩ (IJ p_x r7).den (sW (by kernel_rfl)) fun r8 _ =>
 .sj Tryz.f15 0 [1,0,0] [54,55,56,57,58,59] 1 6 [3,59] 2 (fun r_=>⟨[(3,.ptr 1 0),(65,.b_ r_)],[.dead,.box 63 (.dat (ah.lf1 p_x))]⟩) ⟨[(3,.ptr 1 0),(59,.b_ r8)],[.dead,.box 63 (.dat (ah.lf1 p_x))]⟩ (IK p_x r8).den (sW (by kernel_rfl)) fun r9 _ =>
 .iB (r9) (.ret (bC 1) (false)) <|
 .eP (KF p_x 0) (fun o0 h0 =>
 .say [.pt_ 0 [3,5] 2 (rU (.inl o0)) (rV (.inl o0))] (ok1 (IU h0)) <|
 .ret (bC 1) (false)) fun o1 h0 =>
 .say [.pt_ 0 [3,5] 2 (rU (.inr (o1))) (rV (.inr (o1)))] (ok1 (IU h0)) <|
 .ret (bC 1) (true)
def Q10 (p_m:aj) (p_x:ah) : Option (Bool) := Mo.den (ahp p_m p_x)
theorem ai2 (p_m:aj) (p_x:ah) : FV (Q10 p_m p_x) 15 [.dat (aj.lf1 p_m),.dat (ah.lf1 p_x)] (fun r=>.b_ r) := bY Tryz.func15 (by kernel_rfl) (fun _=>rfl) (by kernel_rfl)
def acd (p_id:Int) : Mo (Int) :=
 .ret (bC 1) (IntKind.wrap .i64 (10 + (IntKind.wrap .i64 (3 * p_id))))
def akR (p_id:Int) : Option (Int) := Mo.den (acd p_id)
theorem Xj (p_id:Int) : FV (akR p_id) 69 [.i_ p_id] (fun r=>.i_ r) := bY Tryz.func69 (by kernel_rfl) (fun _=>rfl) (by kernel_rfl)
def YS (p_id:Int) (p_size:Int) : Mo (Bool) :=
 .iG 4002 (decide ((p_size:Int) < 1)) (.rt [0,1,4,11] 1 (true)) <|
 .rt [0,1,4,11] 1 (decide ((7:Int) < p_size))
def YT (p_id:Int) (p_size:Int) (r0:Bool) : Mo (Bool) :=
 .iG 4006 (r0) (.rt [0,1,4,15] 1 (true)) <|
 .rt [0,1,4,15] 1 (decide ((p_id:Int) < 0))
def UD (p_id:Int) (p_size:Int) (r0:Bool) : Mo (Bool) :=
 .iG 4010 (r0) (.rt [0,1,4,20] 1 (true)) <|
 .rt [0,1,4,20] 1 (decide ((p_size:Int) ≤ p_id))
def ai3 (p_id:Int) (p_size:Int) : Mo (aj × Int) :=
 .sj Tryz.f33 0 [1,0,0] [0,1,2,3,4,5] 1 6 [0,1,4] 1 (fun r_=>⟨[(0,.i_ p_id),(1,.i_ p_size),(4,.ptr 0 0),(11,.b_ r_)],[.box 25 (Z25)]⟩) ⟨[(0,.i_ p_id),(1,.i_ p_size),(4,.ptr 0 0)],[.box 25 (Z25)]⟩ (YS p_id p_size).den (sW (by kernel_rfl)) fun r0 _ =>
 .sj Tryz.f33 0 [1,0,0] [6,7,8,9] 1 4 [0,1,4,11] 1 (fun r_=>⟨[(0,.i_ p_id),(1,.i_ p_size),(4,.ptr 0 0),(15,.b_ r_)],[.box 25 (Z25)]⟩) ⟨[(0,.i_ p_id),(1,.i_ p_size),(4,.ptr 0 0),(11,.b_ r0)],[.box 25 (Z25)]⟩ (YT p_id p_size r0).den (sW (by kernel_rfl)) fun r1 _ =>
 .sj Tryz.f33 0 [1,0,0] [10,11,12,13,14] 1 5 [0,1,4,15] 1 (fun r_=>⟨[(0,.i_ p_id),(1,.i_ p_size),(4,.ptr 0 0),(20,.b_ r_)],[.box 25 (Z25)]⟩) ⟨[(0,.i_ p_id),(1,.i_ p_size),(4,.ptr 0 0),(15,.b_ r1)],[.box 25 (Z25)]⟩ (UD p_id p_size r1).den (sW (by kernel_rfl)) fun r2 _ =>
 .iB (r2) (.ret (bC 2) (aj.z,1)) <|
 .cl (Xj p_id) fun r3 _ =>
 .ret (bC 2) (aj.qo (aj.uQ (aj.aag (aj.agL (aj.sID aj.z p_id) p_size) (-1)) (-1)) r3,0)
def alC (p_id:Int) (p_size:Int) : Option (aj × Int) := Mo.den (ai3 p_id p_size)
theorem afn (p_id:Int) (p_size:Int) : FV (alC p_id p_size) 33 [.i_ p_id,.i_ p_size] (fun r=>.tup [.dat (aj.lf1 r.1),.i_ r.2]) := bY Tryz.func33 (by kernel_rfl) (fun _=>rfl) (by kernel_rfl)
def ai4 (p_term:Int) (p_stamp:Int) : Mo (ay) :=
 .ret (bC 1) (ay.mk p_term p_stamp ⟨#[]⟩ 0 (aG.jG aG.z 1))
def ai5 (p_term:Int) (p_stamp:Int) : Option (ay) := Mo.den (ai4 p_term p_stamp)
theorem KG (p_term:Int) (p_stamp:Int) : FV (ai5 p_term p_stamp) 34 [.i_ p_term,.i_ p_stamp] (fun r=>.dat (ay.lf1 r)) := bY Tryz.func34 (by kernel_rfl) (fun _=>rfl) (by kernel_rfl)
structure zT where
 m1:(p_v:ak) → Option (ak)
 ok1:∀ p_v,FV (m1 p_v) 209 [.dat (ak.lf1 p_v)] (fun r=>.dat (ak.lf1 r))
 m2:(p_l:List ak) → Option (List ak)
 ok2:∀ p_l,FH (m2 p_l) 252 [.lf (.rows 5 (p_l.map ak.lf)),.raw (.func (.func 209) #[] #[])] [] (fun r=>.lf (.rows 5 (r.map ak.lf))) (fun _=>[])
 m3:(p_l:List aS) → Option (List aS)
 ok3:∀ p_l,FH (m3 p_l) 253 [.lf (.rows 6 (p_l.map aS.lf)),.raw (.func (.func 254) #[] #[])] [] (fun r=>.lf (.rows 6 (r.map aS.lf))) (fun _=>[])
 m4:(p_f:aS) → Option (aS)
 ok4:∀ p_f,FV (m4 p_f) 254 [.dat (aS.lf1 p_f)] (fun r=>.dat (aS.lf1 r))
def ace (R_:zT) (p_v:ak) : Mo (ak) :=
 .cH [] (R_.ok2 p_v.bV) fun r0 _ =>
 .cH [] (R_.ok3 p_v.bU) fun r1 _ =>
 .ret (bC 1) (ak.mk p_v.aU p_v.jL p_v.fText r0 r1)
theorem afo (R_:zT) (p_v:ak) : FV (Mo.den (ace R_ p_v)) 209 [.dat (ak.lf1 p_v)] (fun r=>.dat (ak.lf1 r)) := bY Tryz.func209 (by kernel_rfl) (fun _=>rfl) (by kernel_rfl)
def QZ (R_:zT) (p_l:List ak) : (Int × (List ak)) → Mo ((Int × (List ak)) ⊕ ((List ak))) := fun (v0,l0) =>
 .iB (decide ((v0:Int) < (p_l.length:Int))) (.ask (bM p_l v0) fun x0 h0 =>
 .say [.row (ak.lf1 x0)] (ok1 (aX ak.aV h0)) <|
 .cl (R_.ok1 x0) fun r0 _ =>
 .ask (bM l0 v0) fun x1 h1 =>
 .say [.row (ak.lf1 x1),.rows ((l0.set v0.toNat r0).map ak.lf)] (okc (cu ak.aV h1) (okc (st_ ak.aV l0 v0.toNat r0) (ok1 ((aX ak.aV h1).2)))) <|
 .rt [1,5,14,15,16] 1 (.inl (IntKind.wrap .i64 (v0 + 1),l0.set v0.toNat r0))) <|
 .rt [5] 1 (.inr (l0))
def acf (R_:zT) (p_l:List ak) (v0:Int) (l0:List ak) : Option (((List ak))) := bK (fun v_=>(QZ R_ p_l v_).den) FU (v0,l0)
def acg (R_:zT) (p_l:List ak) : Mo (List ak) :=
 .say [.num p_l.length] (ok1 (ln_ p_l ak.lf)) <|
 .ite ((p_l.length:Int) == 0) (fun c0 =>
 .say [.br true] (ok1 c0) <|
 .ret ⟨[.nil 0 5,.tod 0],[0],[],0⟩ ([])) fun c0 =>
 .say [.br false,.num p_l.length,.rows ((List.replicate (p_l.length:Int).toNat (ak.mk 0 0 ⟨#[]⟩ [] [])).map ak.lf),.num p_l.length] (okc c0 (okc (ln_ p_l ak.lf) (ok1 (rp_ ak.aV (p_l.length:Int).toNat (ak.mk 0 0 ⟨#[]⟩ [] []))))) <|
 .grd ((0:Int) ≤ (p_l.length:Int) ∧ 80 * (p_l.length:Int).toNat ≤ 281474976710656 ∧ (p_l.length:Int).toNat ≤ maxLen) fun h0 =>
 .say [] (okc (mk_ (p_l.length:Int) h0) (ok1 (ln_ p_l ak.lf))) <|
 .lp Tryz.f252 0 [1,1,1,0,1,0] 0 [1,5,14,15,16] 1 (.exit 0) (fun r_=>⟨[(5,.own 0)],[.row 29 5 (r_.map ak.lf)]⟩) (acf R_ p_l 0 (List.replicate (p_l.length:Int).toNat (ak.mk 0 0 ⟨#[]⟩ [] []))) (lW (fun (v0,l0)=>⟨[(1,.raw (.func (.func 209) #[] #[])),(5,.own 0),(14,.lf (.rows 5 (p_l.map ak.lf))),(15,.i_ (p_l.length:Int)),(16,.i_ v0)],[.row 29 5 (l0.map ak.lf)]⟩) (by kernel_rfl) rfl fun v_=>by kernel_rfl) fun r0 _ =>
 .ret ⟨[.frz 0],[0],[],0⟩ (r0)
theorem afp (R_:zT) (p_l:List ak) : FH (Mo.den (acg R_ p_l)) 252 [.lf (.rows 5 (p_l.map ak.lf)),.raw (.func (.func 209) #[] #[])] [] (fun r=>.lf (.rows 5 (r.map ak.lf))) (fun _=>[]) := gW Tryz.func252 (by kernel_rfl) (fun _=>rfl) (by kernel_rfl)
def Rf (R_:zT) (p_l:List aS) : (Int × (List aS)) → Mo ((Int × (List aS)) ⊕ ((List aS))) := fun (v0,l0) =>
 .iB (decide ((v0:Int) < (p_l.length:Int))) (.ask (bM p_l v0) fun x0 h0 =>
 .say [.row (aS.lf1 x0)] (ok1 (aX aS.aV h0)) <|
 .cl (R_.ok4 x0) fun r0 _ =>
 .ask (bM l0 v0) fun x1 h1 =>
 .say [.row (aS.lf1 x1),.rows ((l0.set v0.toNat r0).map aS.lf)] (okc (cu aS.aV h1) (okc (st_ aS.aV l0 v0.toNat r0) (ok1 ((aX aS.aV h1).2)))) <|
 .rt [1,5,14,15,16] 1 (.inl (IntKind.wrap .i64 (v0 + 1),l0.set v0.toNat r0))) <|
 .rt [5] 1 (.inr (l0))
def ach (R_:zT) (p_l:List aS) (v0:Int) (l0:List aS) : Option (((List aS))) := bK (fun v_=>(Rf R_ p_l v_).den) FU (v0,l0)
def aci (R_:zT) (p_l:List aS) : Mo (List aS) :=
 .say [.num p_l.length] (ok1 (ln_ p_l aS.lf)) <|
 .ite ((p_l.length:Int) == 0) (fun c0 =>
 .say [.br true] (ok1 c0) <|
 .ret ⟨[.nil 0 6,.tod 0],[0],[],0⟩ ([])) fun c0 =>
 .say [.br false,.num p_l.length,.rows ((List.replicate (p_l.length:Int).toNat (aS.mk ⟨#[]⟩ (ak.mk 0 0 ⟨#[]⟩ [] []))).map aS.lf),.num p_l.length] (okc c0 (okc (ln_ p_l aS.lf) (ok1 (rp_ aS.aV (p_l.length:Int).toNat (aS.mk ⟨#[]⟩ (ak.mk 0 0 ⟨#[]⟩ [] [])))))) <|
 .grd ((0:Int) ≤ (p_l.length:Int) ∧ 96 * (p_l.length:Int).toNat ≤ 281474976710656 ∧ (p_l.length:Int).toNat ≤ maxLen) fun h0 =>
 .say [] (okc (mk_ (p_l.length:Int) h0) (ok1 (ln_ p_l aS.lf))) <|
 .lp Tryz.f253 0 [1,1,1,0,1,0] 0 [1,5,14,15,16] 1 (.exit 0) (fun r_=>⟨[(5,.own 0)],[.row 174 6 (r_.map aS.lf)]⟩) (ach R_ p_l 0 (List.replicate (p_l.length:Int).toNat (aS.mk ⟨#[]⟩ (ak.mk 0 0 ⟨#[]⟩ [] [])))) (lW (fun (v0,l0)=>⟨[(1,.raw (.func (.func 254) #[] #[])),(5,.own 0),(14,.lf (.rows 6 (p_l.map aS.lf))),(15,.i_ (p_l.length:Int)),(16,.i_ v0)],[.row 174 6 (l0.map aS.lf)]⟩) (by kernel_rfl) rfl fun v_=>by kernel_rfl) fun r0 _ =>
 .ret ⟨[.frz 0],[0],[],0⟩ (r0)
theorem afq (R_:zT) (p_l:List aS) : FH (Mo.den (aci R_ p_l)) 253 [.lf (.rows 6 (p_l.map aS.lf)),.raw (.func (.func 254) #[] #[])] [] (fun r=>.lf (.rows 6 (r.map aS.lf))) (fun _=>[]) := gW Tryz.func253 (by kernel_rfl) (fun _=>rfl) (by kernel_rfl)
def UE (R_:zT) (p_f:aS) : Mo (aS) :=
 .say [.order [(true,0),(true,1),(true,2),(true,3),(false,4),(true,5),(false,6)] (some 6) []] ok0 <|
 .cl (R_.ok1 p_f.fValue) fun r0 _ =>
 .ret (bC 1) (aS.mk p_f.fName r0)
theorem acj (R_:zT) (p_f:aS) : FV (Mo.den (UE R_ p_f)) 254 [.dat (aS.lf1 p_f)] (fun r=>.dat (aS.lf1 r)) := bY Tryz.func254 (by kernel_rfl) (fun _=>rfl) (by kernel_rfl)
def iD:Nat → zT
 | 0=>{ m1 := fun p_v=>none,ok1 := fun _ _ h=>(by cases h),m2 := fun p_l=>none,ok2 := fun _ _ h=>(by cases h),m3 := fun p_l=>none,ok3 := fun _ _ h=>(by cases h),m4 := fun p_f=>none,ok4 := fun _ _ h=>(by cases h) }
 | n_ + 1=>{ m1 := fun p_v=>Mo.den (ace (iD n_) p_v),ok1 := fun p_v r h=>afo (iD n_) p_v r h,m2 := fun p_l=>Mo.den (acg (iD n_) p_l),ok2 := fun p_l r h=>afp (iD n_) p_l r h,m3 := fun p_l=>Mo.den (aci (iD n_) p_l),ok3 := fun p_l r h=>afq (iD n_) p_l r h,m4 := fun p_f=>Mo.den (UE (iD n_) p_f),ok4 := acj (iD n_) }
def Q87 (p_v:ak) : Option (ak) := (iD FU).m1 p_v
theorem um (p_v:ak) : FV (Q87 p_v) 209 [.dat (ak.lf1 p_v)] (fun r=>.dat (ak.lf1 r)) := (iD FU).ok1 p_v
def Q63 (p_l:List ak) : Option (List ak) := (iD FU).m2 p_l
theorem acn (p_l:List ak) : FH (Q63 p_l) 252 [.lf (.rows 5 (p_l.map ak.lf)),.raw (.func (.func 209) #[] #[])] [] (fun r=>.lf (.rows 5 (r.map ak.lf))) (fun _=>[]) := (iD FU).ok2 p_l
def aco (p_l:List ByteArray) : Mo (List ByteArray) :=
 .say [.rows (p_l.map lfS),.at_ 0 0,.frz 0] (ok1 (by simp [lfS] : p_l.map lfS = [] ++ (p_l.map lfS))) <|
 .grd ((([] : List ByteArray).length + p_l.length) * 16 ≤ 140737488355328) fun h0 =>
 .say [] (ok1 (cq_ lfS h0)) <|
 .ret (bC 1) (p_l)
def ai6 (p_l:List ByteArray) : Option (List ByteArray) := Mo.den (aco p_l)
theorem yg (p_l:List ByteArray) : FV (ai6 p_l) 299 [.lf (.rows 1 (p_l.map lfS))] (fun r=>.lf (.rows 1 (r.map lfS))) := bY Tryz.func299 (by kernel_rfl) (fun _=>rfl) (by kernel_rfl)
def acp (p_o:bf) : Mo (bf) :=
 .cl (yg p_o.cZ) fun r0 _ =>
 .ret (bC 1) (bf.mk r0 p_o.Gp)
def afr (p_o:bf) : Option (bf) := Mo.den (acp p_o)
theorem afs (p_o:bf) : FV (afr p_o) 258 [.dat (bf.lf1 p_o)] (fun r=>.dat (bf.lf1 r)) := bY Tryz.func258 (by kernel_rfl) (fun _=>rfl) (by kernel_rfl)
def Rh (p_l:List bf) : (Int × (List bf)) → Mo ((Int × (List bf)) ⊕ ((List bf))) := fun (v0,l0) =>
 .iB (decide ((v0:Int) < (p_l.length:Int))) (.ask (bM p_l v0) fun x0 h0 =>
 .say [.row (bf.lf1 x0)] (ok1 (aX bf.aV h0)) <|
 .cl (afs x0) fun r0 _ =>
 .ask (bM l0 v0) fun x1 h1 =>
 .say [.row (bf.lf1 x1),.rows ((l0.set v0.toNat r0).map bf.lf)] (okc (cu bf.aV h1) (okc (st_ bf.aV l0 v0.toNat r0) (ok1 ((aX bf.aV h1).2)))) <|
 .rt [1,5,14,15,16] 1 (.inl (IntKind.wrap .i64 (v0 + 1),l0.set v0.toNat r0))) <|
 .rt [5] 1 (.inr (l0))
def acr (p_l:List bf) (v0:Int) (l0:List bf) : Option (((List bf))) := bK (fun v_=>(Rh p_l v_).den) FU (v0,l0)
def ahq (p_l:List bf) : Mo (List bf) :=
 .say [.num p_l.length] (ok1 (ln_ p_l bf.lf)) <|
 .ite ((p_l.length:Int) == 0) (fun c0 =>
 .say [.br true] (okc c0 (ok1 (by simp [bf.aV] : (([] : List bf).map bf.lf) = []))) <|
 .ret ⟨[.Fb 0 152 2,.kJ 0 (([] : List bf).map bf.lf),.mvn 0],[0],[(1,0)],1⟩ (([] : List bf))) fun c0 =>
 .say [.br false,.num p_l.length,.rows ((List.replicate (p_l.length:Int).toNat (bf.mk [] false)).map bf.lf),.num p_l.length] (okc c0 (okc (ln_ p_l bf.lf) (ok1 (rp_ bf.aV (p_l.length:Int).toNat (bf.mk [] false))))) <|
 .grd ((0:Int) ≤ (p_l.length:Int) ∧ 32 * (p_l.length:Int).toNat ≤ 281474976710656 ∧ (p_l.length:Int).toNat ≤ maxLen) fun h0 =>
 .say [] (okc (mk_ (p_l.length:Int) h0) (ok1 (ln_ p_l bf.lf))) <|
 .lp Tryz.f257 0 [1,1,1,0,1,0] 0 [1,5,14,15,16] 1 (.exit 0) (fun r_=>⟨[(5,.own 0)],[.row 152 2 (r_.map bf.lf)]⟩) (acr p_l 0 (List.replicate (p_l.length:Int).toNat (bf.mk [] false))) (lW (fun (v0,l0)=>⟨[(1,.raw (.func (.func 258) #[] #[])),(5,.own 0),(14,.lf (.rows 2 (p_l.map bf.lf))),(15,.i_ (p_l.length:Int)),(16,.i_ v0)],[.row 152 2 (l0.map bf.lf)]⟩) (by kernel_rfl) rfl fun v_=>by kernel_rfl) fun r0 _ =>
 .ret ⟨[.mvn 0],[0],[(1,0)],1⟩ (r0)
def Q78 (p_l:List bf) : Option (List bf) := Mo.den (ahq p_l)
theorem ai7 (p_l:List bf) : FH (Q78 p_l) 257 [.lf (.rows 2 (p_l.map bf.lf)),.raw (.func (.func 258) #[] #[])] [] (fun _=>.own 0) (fun r=>[.row 152 2 (r.map bf.lf)]) := gW Tryz.func257 (by kernel_rfl) (fun _=>rfl) (by kernel_rfl)
structure UF where
 m1:(p_e:aC) → Option (aC)
 ok1:∀ p_e,FV (m1 p_e) 303 [.dat (aC.lf1 p_e)] (fun r=>.dat (aC.lf1 r))
 m2:(p_l:List aC) → Option (List aC)
 ok2:∀ p_l,FH (m2 p_l) 320 [.lf (.rows 11 (p_l.map aC.lf)),.raw (.func (.func 303) #[] #[])] [] (fun r=>.lf (.rows 11 (r.map aC.lf))) (fun _=>[])
def UG (R_:UF) (p_e:aC) : Mo (aC) :=
 .cl (yg p_e.cZ) fun r0 _ =>
 .cl (yg p_e.bQ) fun r1 _ =>
 .cl (um p_e.fArg) fun r2 _ =>
 .cH [] (R_.ok2 p_e.bg) fun r3 _ =>
 .ret (bC 1) (aC.mk p_e.fOp r0 p_e.fName r1 r2 p_e.fN r3)
theorem acs (R_:UF) (p_e:aC) : FV (Mo.den (UG R_ p_e)) 303 [.dat (aC.lf1 p_e)] (fun r=>.dat (aC.lf1 r)) := bY Tryz.func303 (by kernel_rfl) (fun _=>rfl) (by kernel_rfl)
def Ri (R_:UF) (p_l:List aC) : (Int × (List aC)) → Mo ((Int × (List aC)) ⊕ ((List aC))) := fun (v0,l0) =>
 .iB (decide ((v0:Int) < (p_l.length:Int))) (.ask (bM p_l v0) fun x0 h0 =>
 .say [.row (aC.lf1 x0)] (ok1 (aX aC.aV h0)) <|
 .cl (R_.ok1 x0) fun r0 _ =>
 .ask (bM l0 v0) fun x1 h1 =>
 .say [.row (aC.lf1 x1),.rows ((l0.set v0.toNat r0).map aC.lf)] (okc (cu aC.aV h1) (okc (st_ aC.aV l0 v0.toNat r0) (ok1 ((aX aC.aV h1).2)))) <|
 .rt [1,5,14,15,16] 1 (.inl (IntKind.wrap .i64 (v0 + 1),l0.set v0.toNat r0))) <|
 .rt [5] 1 (.inr (l0))
def acu (R_:UF) (p_l:List aC) (v0:Int) (l0:List aC) : Option (((List aC))) := bK (fun v_=>(Ri R_ p_l v_).den) FU (v0,l0)
def acv (R_:UF) (p_l:List aC) : Mo (List aC) :=
 .say [.num p_l.length] (ok1 (ln_ p_l aC.lf)) <|
 .ite ((p_l.length:Int) == 0) (fun c0 =>
 .say [.br true] (ok1 c0) <|
 .ret ⟨[.nil 0 11,.tod 0],[0],[],0⟩ ([])) fun c0 =>
 .say [.br false,.num p_l.length,.rows ((List.replicate (p_l.length:Int).toNat aC.z).map aC.lf),.num p_l.length] (okc c0 (okc (ln_ p_l aC.lf) (ok1 (rp_ aC.aV (p_l.length:Int).toNat aC.z)))) <|
 .grd ((0:Int) ≤ (p_l.length:Int) ∧ 184 * (p_l.length:Int).toNat ≤ 281474976710656 ∧ (p_l.length:Int).toNat ≤ maxLen) fun h0 =>
 .say [] (okc (mk_ (p_l.length:Int) h0) (ok1 (ln_ p_l aC.lf))) <|
 .lp Tryz.f320 0 [1,1,1,0,1,0] 0 [1,5,14,15,16] 1 (.exit 0) (fun r_=>⟨[(5,.own 0)],[.row 44 11 (r_.map aC.lf)]⟩) (acu R_ p_l 0 (List.replicate (p_l.length:Int).toNat aC.z)) (lW (fun (v0,l0)=>⟨[(1,.raw (.func (.func 303) #[] #[])),(5,.own 0),(14,.lf (.rows 11 (p_l.map aC.lf))),(15,.i_ (p_l.length:Int)),(16,.i_ v0)],[.row 44 11 (l0.map aC.lf)]⟩) (by kernel_rfl) rfl fun v_=>by kernel_rfl) fun r0 _ =>
 .ret ⟨[.frz 0],[0],[],0⟩ (r0)
theorem aft (R_:UF) (p_l:List aC) : FH (Mo.den (acv R_ p_l)) 320 [.lf (.rows 11 (p_l.map aC.lf)),.raw (.func (.func 303) #[] #[])] [] (fun r=>.lf (.rows 11 (r.map aC.lf))) (fun _=>[]) := gW Tryz.func320 (by kernel_rfl) (fun _=>rfl) (by kernel_rfl)
def lN:Nat → UF
 | 0=>{ m1 := fun p_e=>none,ok1 := fun _ _ h=>(by cases h),m2 := fun p_l=>none,ok2 := fun _ _ h=>(by cases h) }
 | n_ + 1=>{ m1 := fun p_e=>Mo.den (UG (lN n_) p_e),ok1 := fun p_e r h=>acs (lN n_) p_e r h,m2 := fun p_l=>Mo.den (acv (lN n_) p_l),ok2 := aft (lN n_) }
def akS (p_e:aC) : Option (aC) := (lN FU).m1 p_e
theorem afu (p_e:aC) : FV (akS p_e) 303 [.dat (aC.lf1 p_e)] (fun r=>.dat (aC.lf1 r)) := (lN FU).ok1 p_e
structure UH where
 m1:(p_p:aK) → Option (aK)
 ok1:∀ p_p,FV (m1 p_p) 259 [.dat (aK.lf1 p_p)] (fun r=>.dat (aK.lf1 r))
 m2:(p_l:List aK) → Option (List aK)
 ok2:∀ p_l,FH (m2 p_l) 304 [.lf (.rows 25 (p_l.map aK.lf)),.raw (.func (.func 259) #[] #[])] [] (fun r=>.lf (.rows 25 (r.map aK.lf))) (fun _=>[])
def UJ (R_:UH) (p_p:aK) : Mo (aK) :=
 .cl (yg p_p.cZ) fun r0 _ =>
 .cl (um p_p.fArg) fun r1 _ =>
 .ask (Q63 p_p.fArgs) fun r2 h0 =>
 .say [.jc [] (.lf (.rows 5 (r2.map ak.lf))) [],.rows (p_p.eF.bW.map dF.lf)] (okc (acn _ _ h0) (ok1 (by simp [dF.aV] : p_p.eF.bW.map dF.lf = [] ++ (p_p.eF.bW.map dF.lf)))) <|
 .grd ((([] : List dF).length + p_p.eF.bW.length) * 16 ≤ 140737488355328) fun h1 =>
 .say [] (ok1 (cq_ dF.lf h1)) <|
 .cl (afu p_p.fExpr) fun r3 _ =>
 .ask (R_.m2 p_p.bg) fun r4 h2 =>
 .say [.jc [] (.lf (.rows 25 (r4.map aK.lf))) [],.at_ 0 0,.frz 2] (ok1 (R_.ok2 _ _ h2)) <|
 .ret (bC 1) (aK.mk p_p.fOp r0 r1 r2 p_p.fN p_p.fM p_p.eF r3 r4)
theorem acw (R_:UH) (p_p:aK) : FV (Mo.den (UJ R_ p_p)) 259 [.dat (aK.lf1 p_p)] (fun r=>.dat (aK.lf1 r)) := bY Tryz.func259 (by kernel_rfl) (fun _=>rfl) (by kernel_rfl)
def Rj (R_:UH) (p_l:List aK) : (Int × (List aK)) → Mo ((Int × (List aK)) ⊕ ((List aK))) := fun (v0,l0) =>
 .iB (decide ((v0:Int) < (p_l.length:Int))) (.ask (bM p_l v0) fun x0 h0 =>
 .say [.row (aK.lf1 x0)] (ok1 (aX aK.aV h0)) <|
 .cl (R_.ok1 x0) fun r0 _ =>
 .ask (bM l0 v0) fun x1 h1 =>
 .say [.row (aK.lf1 x1),.rows ((l0.set v0.toNat r0).map aK.lf)] (okc (cu aK.aV h1) (okc (st_ aK.aV l0 v0.toNat r0) (ok1 ((aX aK.aV h1).2)))) <|
 .rt [1,5,14,15,16] 1 (.inl (IntKind.wrap .i64 (v0 + 1),l0.set v0.toNat r0))) <|
 .rt [5] 1 (.inr (l0))
def acy (R_:UH) (p_l:List aK) (v0:Int) (l0:List aK) : Option (((List aK))) := bK (fun v_=>(Rj R_ p_l v_).den) FU (v0,l0)
def acz (R_:UH) (p_l:List aK) : Mo (List aK) :=
 .say [.num p_l.length] (ok1 (ln_ p_l aK.lf)) <|
 .ite ((p_l.length:Int) == 0) (fun c0 =>
 .say [.br true] (ok1 c0) <|
 .ret ⟨[.nil 0 25,.tod 0],[0],[],0⟩ ([])) fun c0 =>
 .say [.br false,.num p_l.length,.rows ((List.replicate (p_l.length:Int).toNat aK.z).map aK.lf),.num p_l.length] (okc c0 (okc (ln_ p_l aK.lf) (ok1 (rp_ aK.aV (p_l.length:Int).toNat aK.z)))) <|
 .grd ((0:Int) ≤ (p_l.length:Int) ∧ 400 * (p_l.length:Int).toNat ≤ 281474976710656 ∧ (p_l.length:Int).toNat ≤ maxLen) fun h0 =>
 .say [] (okc (mk_ (p_l.length:Int) h0) (ok1 (ln_ p_l aK.lf))) <|
 .lp Tryz.f304 0 [1,1,1,0,1,0] 0 [1,5,14,15,16] 1 (.exit 0) (fun r_=>⟨[(5,.own 0)],[.row 47 25 (r_.map aK.lf)]⟩) (acy R_ p_l 0 (List.replicate (p_l.length:Int).toNat aK.z)) (lW (fun (v0,l0)=>⟨[(1,.raw (.func (.func 259) #[] #[])),(5,.own 0),(14,.lf (.rows 25 (p_l.map aK.lf))),(15,.i_ (p_l.length:Int)),(16,.i_ v0)],[.row 47 25 (l0.map aK.lf)]⟩) (by kernel_rfl) rfl fun v_=>by kernel_rfl) fun r0 _ =>
 .ret ⟨[.frz 0],[0],[],0⟩ (r0)
theorem afv (R_:UH) (p_l:List aK) : FH (Mo.den (acz R_ p_l)) 304 [.lf (.rows 25 (p_l.map aK.lf)),.raw (.func (.func 259) #[] #[])] [] (fun r=>.lf (.rows 25 (r.map aK.lf))) (fun _=>[]) := gW Tryz.func304 (by kernel_rfl) (fun _=>rfl) (by kernel_rfl)
def lQ:Nat → UH
 | 0=>{ m1 := fun p_p=>none,ok1 := fun _ _ h=>(by cases h),m2 := fun p_l=>none,ok2 := fun _ _ h=>(by cases h) }
 | n_ + 1=>{ m1 := fun p_p=>Mo.den (UJ (lQ n_) p_p),ok1 := fun p_p r h=>acw (lQ n_) p_p r h,m2 := fun p_l=>Mo.den (acz (lQ n_) p_l),ok2 := afv (lQ n_) }
def ai8 (p_p:aK) : Option (aK) := (lQ FU).m1 p_p
theorem afw (p_p:aK) : FV (ai8 p_p) 259 [.dat (aK.lf1 p_p)] (fun r=>.dat (aK.lf1 r)) := (lQ FU).ok1 p_p
def acA (p_x:aT) : Mo (aT) :=
 .cH [] (ai7 p_x.gu) fun r0 _ =>
 .ask (ai8 p_x.iV) fun r1 h0 =>
 .say [.res (.dat (aK.lf1 r1)),.at_ 0 0,.frz 2] (ok1 (afw _ _ h0)) <|
 .ret (bC 1) (aT.aaf (aT.agK p_x r0) r1)
def afx (p_x:aT) : Option (aT) := Mo.den (acA p_x)
theorem Xk (p_x:aT) : FV (afx p_x) 211 [.dat (aT.lf1 p_x)] (fun r=>.dat (aT.lf1 r)) := bY Tryz.func211 (by kernel_rfl) (fun _=>rfl) (by kernel_rfl)
def Rk (p_l:List aT) : (Int × (List aT)) → Mo ((Int × (List aT)) ⊕ ((List aT))) := fun (v0,l0) =>
 .iB (decide ((v0:Int) < (p_l.length:Int))) (.ask (bM p_l v0) fun x0 h0 =>
 .say [.row (aT.lf1 x0)] (ok1 (aX aT.aV h0)) <|
 .cl (Xk x0) fun r0 _ =>
 .ask (bM l0 v0) fun x1 h1 =>
 .say [.row (aT.lf1 x1),.rows ((l0.set v0.toNat r0).map aT.lf)] (okc (cu aT.aV h1) (okc (st_ aT.aV l0 v0.toNat r0) (ok1 ((aX aT.aV h1).2)))) <|
 .rt [1,5,14,15,16] 1 (.inl (IntKind.wrap .i64 (v0 + 1),l0.set v0.toNat r0))) <|
 .rt [5] 1 (.inr (l0))
def acB (p_l:List aT) (v0:Int) (l0:List aT) : Option (((List aT))) := bK (fun v_=>(Rk p_l v_).den) FU (v0,l0)
def ahr (p_l:List aT) : Mo (List aT) :=
 .say [.num p_l.length] (ok1 (ln_ p_l aT.lf)) <|
 .ite ((p_l.length:Int) == 0) (fun c0 =>
 .say [.br true] (okc c0 (ok1 (by simp [aT.aV] : (([] : List aT).map aT.lf) = []))) <|
 .ret ⟨[.Fb 0 49 31,.kJ 0 (([] : List aT).map aT.lf),.mvn 0],[0],[(1,0)],1⟩ (([] : List aT))) fun c0 =>
 .say [.br false,.num p_l.length,.rows ((List.replicate (p_l.length:Int).toNat aT.z).map aT.lf),.num p_l.length] (okc c0 (okc (ln_ p_l aT.lf) (ok1 (rp_ aT.aV (p_l.length:Int).toNat aT.z)))) <|
 .grd ((0:Int) ≤ (p_l.length:Int) ∧ 456 * (p_l.length:Int).toNat ≤ 281474976710656 ∧ (p_l.length:Int).toNat ≤ maxLen) fun h0 =>
 .say [] (okc (mk_ (p_l.length:Int) h0) (ok1 (ln_ p_l aT.lf))) <|
 .lp Tryz.f255 0 [1,1,1,0,1,0] 0 [1,5,14,15,16] 1 (.exit 0) (fun r_=>⟨[(5,.own 0)],[.row 49 31 (r_.map aT.lf)]⟩) (acB p_l 0 (List.replicate (p_l.length:Int).toNat aT.z)) (lW (fun (v0,l0)=>⟨[(1,.raw (.func (.func 211) #[] #[])),(5,.own 0),(14,.lf (.rows 31 (p_l.map aT.lf))),(15,.i_ (p_l.length:Int)),(16,.i_ v0)],[.row 49 31 (l0.map aT.lf)]⟩) (by kernel_rfl) rfl fun v_=>by kernel_rfl) fun r0 _ =>
 .ret ⟨[.mvn 0],[0],[(1,0)],1⟩ (r0)
def Q79 (p_l:List aT) : Option (List aT) := Mo.den (ahr p_l)
theorem ai9 (p_l:List aT) : FH (Q79 p_l) 255 [.lf (.rows 31 (p_l.map aT.lf)),.raw (.func (.func 211) #[] #[])] [] (fun _=>.own 0) (fun r=>[.row 49 31 (r.map aT.lf)]) := gW Tryz.func255 (by kernel_rfl) (fun _=>rfl) (by kernel_rfl)
structure zU where
 m1:(p_s:aB) → Option (aB)
 ok1:∀ p_s,FV (m1 p_s) 256 [.dat (aB.lf1 p_s)] (fun r=>.dat (aB.lf1 r))
 m2:(p_l:List bH) → Option (List bH)
 ok2:∀ p_l,FH (m2 p_l) 300 [.lf (.rows 22 (p_l.map bH.lf)),.raw (.func (.func 301) #[] #[])] [] (fun r=>.lf (.rows 22 (r.map bH.lf))) (fun _=>[])
 m3:(p_l:List aB) → Option (List aB)
 ok3:∀ p_l,FH (m3 p_l) 302 [.lf (.rows 21 (p_l.map aB.lf)),.raw (.func (.func 256) #[] #[])] [] (fun r=>.lf (.rows 21 (r.map aB.lf))) (fun _=>[])
 m4:(p_p:bH) → Option (bH)
 ok4:∀ p_p,FV (m4 p_p) 301 [.dat (bH.lf1 p_p)] (fun r=>.dat (bH.lf1 r))
def UK (R_:zU) (p_s:aB) : Mo (aB) :=
 .cl (um p_s.sH) fun r0 _ =>
 .cl (um p_s.sJ) fun r1 _ =>
 .cH [] (acn p_s.jY) fun r2 _ =>
 .cl (yg p_s.gy) fun r3 _ =>
 .cH [] (R_.ok2 p_s.dN) fun r4 _ =>
 .cH [] (R_.ok3 p_s.fG) fun r5 _ =>
 .ret (bC 1) (aB.mk p_s.jX p_s.kU r0 p_s.kV r1 r2 p_s.kW p_s.kX r3 r4 p_s.nM r5 p_s.iR)
theorem acC (R_:zU) (p_s:aB) : FV (Mo.den (UK R_ p_s)) 256 [.dat (aB.lf1 p_s)] (fun r=>.dat (aB.lf1 r)) := bY Tryz.func256 (by kernel_rfl) (fun _=>rfl) (by kernel_rfl)
def IV (R_:zU) (p_l:List bH) : (Int × (List bH)) → Mo ((Int × (List bH)) ⊕ ((List bH))) := fun (v0,l0) =>
 .iB (decide ((v0:Int) < (p_l.length:Int))) (.ask (bM p_l v0) fun x0 h0 =>
 .say [.row (bH.lf1 x0)] (ok1 (aX bH.aV h0)) <|
 .cl (R_.ok4 x0) fun r0 _ =>
 .ask (bM l0 v0) fun x1 h1 =>
 .say [.row (bH.lf1 x1),.rows ((l0.set v0.toNat r0).map bH.lf)] (okc (cu bH.aV h1) (okc (st_ bH.aV l0 v0.toNat r0) (ok1 ((aX bH.aV h1).2)))) <|
 .rt [1,5,14,15,16] 1 (.inl (IntKind.wrap .i64 (v0 + 1),l0.set v0.toNat r0))) <|
 .rt [5] 1 (.inr (l0))
def Xl (R_:zU) (p_l:List bH) (v0:Int) (l0:List bH) : Option (((List bH))) := bK (fun v_=>(IV R_ p_l v_).den) FU (v0,l0)
def UL (R_:zU) (p_l:List bH) : Mo (List bH) :=
 .say [.num p_l.length] (ok1 (ln_ p_l bH.lf)) <|
 .ite ((p_l.length:Int) == 0) (fun c0 =>
 .say [.br true] (ok1 c0) <|
 .ret ⟨[.nil 0 22,.tod 0],[0],[],0⟩ ([])) fun c0 =>
 .say [.br false,.num p_l.length,.rows ((List.replicate (p_l.length:Int).toNat (bH.mk ⟨#[]⟩ aB.z)).map bH.lf),.num p_l.length] (okc c0 (okc (ln_ p_l bH.lf) (ok1 (rp_ bH.aV (p_l.length:Int).toNat (bH.mk ⟨#[]⟩ aB.z))))) <|
 .grd ((0:Int) ≤ (p_l.length:Int) ∧ 328 * (p_l.length:Int).toNat ≤ 281474976710656 ∧ (p_l.length:Int).toNat ≤ maxLen) fun h0 =>
 .say [] (okc (mk_ (p_l.length:Int) h0) (ok1 (ln_ p_l bH.lf))) <|
 .lp Tryz.f300 0 [1,1,1,0,1,0] 0 [1,5,14,15,16] 1 (.exit 0) (fun r_=>⟨[(5,.own 0)],[.row 217 22 (r_.map bH.lf)]⟩) (Xl R_ p_l 0 (List.replicate (p_l.length:Int).toNat (bH.mk ⟨#[]⟩ aB.z))) (lW (fun (v0,l0)=>⟨[(1,.raw (.func (.func 301) #[] #[])),(5,.own 0),(14,.lf (.rows 22 (p_l.map bH.lf))),(15,.i_ (p_l.length:Int)),(16,.i_ v0)],[.row 217 22 (l0.map bH.lf)]⟩) (by kernel_rfl) rfl fun v_=>by kernel_rfl) fun r0 _ =>
 .ret ⟨[.frz 0],[0],[],0⟩ (r0)
theorem acD (R_:zU) (p_l:List bH) : FH (Mo.den (UL R_ p_l)) 300 [.lf (.rows 22 (p_l.map bH.lf)),.raw (.func (.func 301) #[] #[])] [] (fun r=>.lf (.rows 22 (r.map bH.lf))) (fun _=>[]) := gW Tryz.func300 (by kernel_rfl) (fun _=>rfl) (by kernel_rfl)
def Rl (R_:zU) (p_l:List aB) : (Int × (List aB)) → Mo ((Int × (List aB)) ⊕ ((List aB))) := fun (v0,l0) =>
 .iB (decide ((v0:Int) < (p_l.length:Int))) (.ask (bM p_l v0) fun x0 h0 =>
 .say [.row (aB.lf1 x0)] (ok1 (aX aB.aV h0)) <|
 .cl (R_.ok1 x0) fun r0 _ =>
 .ask (bM l0 v0) fun x1 h1 =>
 .say [.row (aB.lf1 x1),.rows ((l0.set v0.toNat r0).map aB.lf)] (okc (cu aB.aV h1) (okc (st_ aB.aV l0 v0.toNat r0) (ok1 ((aX aB.aV h1).2)))) <|
 .rt [1,5,14,15,16] 1 (.inl (IntKind.wrap .i64 (v0 + 1),l0.set v0.toNat r0))) <|
 .rt [5] 1 (.inr (l0))
def acE (R_:zU) (p_l:List aB) (v0:Int) (l0:List aB) : Option (((List aB))) := bK (fun v_=>(Rl R_ p_l v_).den) FU (v0,l0)
def acF (R_:zU) (p_l:List aB) : Mo (List aB) :=
 .say [.num p_l.length] (ok1 (ln_ p_l aB.lf)) <|
 .ite ((p_l.length:Int) == 0) (fun c0 =>
 .say [.br true] (ok1 c0) <|
 .ret ⟨[.nil 0 21,.tod 0],[0],[],0⟩ ([])) fun c0 =>
 .say [.br false,.num p_l.length,.rows ((List.replicate (p_l.length:Int).toNat aB.z).map aB.lf),.num p_l.length] (okc c0 (okc (ln_ p_l aB.lf) (ok1 (rp_ aB.aV (p_l.length:Int).toNat aB.z)))) <|
 .grd ((0:Int) ≤ (p_l.length:Int) ∧ 312 * (p_l.length:Int).toNat ≤ 281474976710656 ∧ (p_l.length:Int).toNat ≤ maxLen) fun h0 =>
 .say [] (okc (mk_ (p_l.length:Int) h0) (ok1 (ln_ p_l aB.lf))) <|
 .lp Tryz.f302 0 [1,1,1,0,1,0] 0 [1,5,14,15,16] 1 (.exit 0) (fun r_=>⟨[(5,.own 0)],[.row 35 21 (r_.map aB.lf)]⟩) (acE R_ p_l 0 (List.replicate (p_l.length:Int).toNat aB.z)) (lW (fun (v0,l0)=>⟨[(1,.raw (.func (.func 256) #[] #[])),(5,.own 0),(14,.lf (.rows 21 (p_l.map aB.lf))),(15,.i_ (p_l.length:Int)),(16,.i_ v0)],[.row 35 21 (l0.map aB.lf)]⟩) (by kernel_rfl) rfl fun v_=>by kernel_rfl) fun r0 _ =>
 .ret ⟨[.frz 0],[0],[],0⟩ (r0)
theorem afy (R_:zU) (p_l:List aB) : FH (Mo.den (acF R_ p_l)) 302 [.lf (.rows 21 (p_l.map aB.lf)),.raw (.func (.func 256) #[] #[])] [] (fun r=>.lf (.rows 21 (r.map aB.lf))) (fun _=>[]) := gW Tryz.func302 (by kernel_rfl) (fun _=>rfl) (by kernel_rfl)
def UM (R_:zU) (p_p:bH) : Mo (bH) :=
 .say [.order [(true,0),(true,1),(true,2),(true,3),(false,4),(true,5),(false,6)] (some 6) []] ok0 <|
 .cl (R_.ok1 p_p.fF) fun r0 _ =>
 .ret (bC 1) (bH.mk p_p.fName r0)
theorem acG (R_:zU) (p_p:bH) : FV (Mo.den (UM R_ p_p)) 301 [.dat (bH.lf1 p_p)] (fun r=>.dat (bH.lf1 r)) := bY Tryz.func301 (by kernel_rfl) (fun _=>rfl) (by kernel_rfl)
def iK:Nat → zU
 | 0=>{ m1 := fun p_s=>none,ok1 := fun _ _ h=>(by cases h),m2 := fun p_l=>none,ok2 := fun _ _ h=>(by cases h),m3 := fun p_l=>none,ok3 := fun _ _ h=>(by cases h),m4 := fun p_p=>none,ok4 := fun _ _ h=>(by cases h) }
 | n_ + 1=>{ m1 := fun p_s=>Mo.den (UK (iK n_) p_s),ok1 := fun p_s r h=>acC (iK n_) p_s r h,m2 := fun p_l=>Mo.den (UL (iK n_) p_l),ok2 := fun p_l r h=>acD (iK n_) p_l r h,m3 := fun p_l=>Mo.den (acF (iK n_) p_l),ok3 := fun p_l r h=>afy (iK n_) p_l r h,m4 := fun p_p=>Mo.den (UM (iK n_) p_p),ok4 := acG (iK n_) }
def aja (p_s:aB) : Option (aB) := (iK FU).m1 p_s
theorem afz (p_s:aB) : FV (aja p_s) 256 [.dat (aB.lf1 p_s)] (fun r=>.dat (aB.lf1 r)) := (iK FU).ok1 p_s
def acH (p_d:bP) : Mo (bP) :=
 .cH [] (ai9 p_d.dH) fun r0 _ =>
 .ask (aja p_d.fF) fun r1 h0 =>
 .say [.res (.dat (aB.lf1 r1)),.at_ 0 0,.frz 2] (ok1 (afz _ _ h0)) <|
 .ret (bC 1) (bP.mk p_d.fName r0 r1 p_d.oM p_d.l9)
def ajb (p_d:bP) : Option (bP) := Mo.den (acH p_d)
theorem afA (p_d:bP) : FV (ajb p_d) 210 [.dat (bP.lf1 p_d)] (fun r=>.dat (bP.lf1 r)) := bY Tryz.func210 (by kernel_rfl) (fun _=>rfl) (by kernel_rfl)
def acI (p_l:List Int) : Mo (List Int) :=
 .say [.rows (p_l.map lfI)] (ok1 (by simp [lfI,lfK] : p_l.map lfI = [] ++ (p_l.map lfI))) <|
 .grd ((([] : List Int).length + p_l.length) * 8 ≤ 140737488355328) fun h0 =>
 .say [] (ok1 (cq_ lfI h0)) <|
 .ret ⟨[.mvn 0],[0],[(1,0)],1⟩ (p_l)
def afB (p_l:List Int) : Option (List Int) := Mo.den (acI p_l)
theorem KH (p_l:List Int) : FH (afB p_l) 122 [.lf (.rows 1 (p_l.map lfI))] [] (fun _=>.own 0) (fun r=>[.row 3 1 (r.map lfI)]) := gW Tryz.func122 (by kernel_rfl) (fun _=>rfl) (by kernel_rfl)
structure UN where
 m1:(p_w:aG) → Option (aG)
 ok1:∀ p_w,FV (m1 p_w) 165 [.dat (aG.lf1 p_w)] (fun r=>.dat (aG.lf1 r))
 m2:(p_l:List aG) → Option (List aG)
 ok2:∀ p_l,FH (m2 p_l) 212 [.lf (.rows 78 (p_l.map aG.lf)),.raw (.func (.func 165) #[] #[])] [] (fun r=>.lf (.rows 78 (r.map aG.lf))) (fun _=>[])
def UO (R_:UN) (p_w:aG) : Mo (aG) :=
 .cl (um p_w.mg) fun r0 _ =>
 .cl (um p_w.bU) fun r1 _ =>
 .cl (um p_w.gY) fun r2 _ =>
 .cl (afA p_w.ou) fun r3 _ =>
 .cl (Xk p_w.aY) fun r4 _ =>
 .cH [] (R_.ok2 p_w.dL) fun r5 _ =>
 .ask (afB p_w.eu) fun r6 h0 =>
 .say [.jc [] (.own 0) [.row 3 1 (r6.map lfI)],.at_ 0 0,.frz 2] (ok1 (KH _ _ h0)) <|
 .ret (bC 1) (aG.mk p_w.aU p_w.kM r0 r1 r2 r3 r4 p_w.zq p_w.fB r5 r6 p_w.kY)
theorem acJ (R_:UN) (p_w:aG) : FV (Mo.den (UO R_ p_w)) 165 [.dat (aG.lf1 p_w)] (fun r=>.dat (aG.lf1 r)) := bY Tryz.func165 (by kernel_rfl) (fun _=>rfl) (by kernel_rfl)
def Rn (R_:UN) (p_l:List aG) : (Int × (List aG)) → Mo ((Int × (List aG)) ⊕ ((List aG))) := fun (v0,l0) =>
 .iB (decide ((v0:Int) < (p_l.length:Int))) (.ask (bM p_l v0) fun x0 h0 =>
 .say [.row (aG.lf1 x0)] (ok1 (aX aG.aV h0)) <|
 .cl (R_.ok1 x0) fun r0 _ =>
 .ask (bM l0 v0) fun x1 h1 =>
 .say [.row (aG.lf1 x1),.rows ((l0.set v0.toNat r0).map aG.lf)] (okc (cu aG.aV h1) (okc (st_ aG.aV l0 v0.toNat r0) (ok1 ((aX aG.aV h1).2)))) <|
 .rt [1,5,14,15,16] 1 (.inl (IntKind.wrap .i64 (v0 + 1),l0.set v0.toNat r0))) <|
 .rt [5] 1 (.inr (l0))
def acK (R_:UN) (p_l:List aG) (v0:Int) (l0:List aG) : Option (((List aG))) := bK (fun v_=>(Rn R_ p_l v_).den) FU (v0,l0)
def acL (R_:UN) (p_l:List aG) : Mo (List aG) :=
 .say [.num p_l.length] (ok1 (ln_ p_l aG.lf)) <|
 .ite ((p_l.length:Int) == 0) (fun c0 =>
 .say [.br true] (ok1 c0) <|
 .ret ⟨[.nil 0 78,.tod 0],[0],[],0⟩ ([])) fun c0 =>
 .say [.br false,.num p_l.length,.rows ((List.replicate (p_l.length:Int).toNat aG.z).map aG.lf),.num p_l.length] (okc c0 (okc (ln_ p_l aG.lf) (ok1 (rp_ aG.aV (p_l.length:Int).toNat aG.z)))) <|
 .grd ((0:Int) ≤ (p_l.length:Int) ∧ 1168 * (p_l.length:Int).toNat ≤ 281474976710656 ∧ (p_l.length:Int).toNat ≤ maxLen) fun h0 =>
 .say [] (okc (mk_ (p_l.length:Int) h0) (ok1 (ln_ p_l aG.lf))) <|
 .lp Tryz.f212 0 [1,1,1,0,1,0] 0 [1,5,14,15,16] 1 (.exit 0) (fun r_=>⟨[(5,.own 0)],[.row 52 78 (r_.map aG.lf)]⟩) (acK R_ p_l 0 (List.replicate (p_l.length:Int).toNat aG.z)) (lW (fun (v0,l0)=>⟨[(1,.raw (.func (.func 165) #[] #[])),(5,.own 0),(14,.lf (.rows 78 (p_l.map aG.lf))),(15,.i_ (p_l.length:Int)),(16,.i_ v0)],[.row 52 78 (l0.map aG.lf)]⟩) (by kernel_rfl) rfl fun v_=>by kernel_rfl) fun r0 _ =>
 .ret ⟨[.frz 0],[0],[],0⟩ (r0)
theorem afC (R_:UN) (p_l:List aG) : FH (Mo.den (acL R_ p_l)) 212 [.lf (.rows 78 (p_l.map aG.lf)),.raw (.func (.func 165) #[] #[])] [] (fun r=>.lf (.rows 78 (r.map aG.lf))) (fun _=>[]) := gW Tryz.func212 (by kernel_rfl) (fun _=>rfl) (by kernel_rfl)
def lS:Nat → UN
 | 0=>{ m1 := fun p_w=>none,ok1 := fun _ _ h=>(by cases h),m2 := fun p_l=>none,ok2 := fun _ _ h=>(by cases h) }
 | n_ + 1=>{ m1 := fun p_w=>Mo.den (UO (lS n_) p_w),ok1 := fun p_w r h=>acJ (lS n_) p_w r h,m2 := fun p_l=>Mo.den (acL (lS n_) p_l),ok2 := afC (lS n_) }
def akT (p_w:aG) : Option (aG) := (lS FU).m1 p_w
theorem afD (p_w:aG) : FV (akT p_w) 165 [.dat (aG.lf1 p_w)] (fun r=>.dat (aG.lf1 r)) := (lS FU).ok1 p_w
def acM (p_e:ay) : Mo (ay) :=
 .cl (afD p_e.iH) fun r0 _ =>
 .ret (bC 1) (ay.mk p_e.bD p_e.fB p_e.jZ p_e.oN r0)
def afE (p_e:ay) : Option (ay) := Mo.den (acM p_e)
theorem afF (p_e:ay) : FV (afE p_e) 121 [.dat (ay.lf1 p_e)] (fun r=>.dat (ay.lf1 r)) := bY Tryz.func121 (by kernel_rfl) (fun _=>rfl) (by kernel_rfl)
def Ro (p_l:List ay) : (Int × (List ay)) → Mo ((Int × (List ay)) ⊕ ((List ay))) := fun (v0,l0) =>
 .iB (decide ((v0:Int) < (p_l.length:Int))) (.ask (bM p_l v0) fun x0 h0 =>
 .say [.row (ay.lf1 x0)] (ok1 (aX ay.aV h0)) <|
 .cl (afF x0) fun r0 _ =>
 .ask (bM l0 v0) fun x1 h1 =>
 .say [.row (ay.lf1 x1),.rows ((l0.set v0.toNat r0).map ay.lf)] (okc (cu ay.aV h1) (okc (st_ ay.aV l0 v0.toNat r0) (ok1 ((aX ay.aV h1).2)))) <|
 .rt [1,5,14,15,16] 1 (.inl (IntKind.wrap .i64 (v0 + 1),l0.set v0.toNat r0))) <|
 .rt [5] 1 (.inr (l0))
def acN (p_l:List ay) (v0:Int) (l0:List ay) : Option (((List ay))) := bK (fun v_=>(Ro p_l v_).den) FU (v0,l0)
def ahs (p_l:List ay) : Mo (List ay) :=
 .say [.num p_l.length] (ok1 (ln_ p_l ay.lf)) <|
 .ite ((p_l.length:Int) == 0) (fun c0 =>
 .say [.br true] (okc c0 (ok1 (by simp [ay.aV] : (([] : List ay).map ay.lf) = []))) <|
 .ret ⟨[.Fb 0 54 82,.kJ 0 (([] : List ay).map ay.lf),.mvn 0],[0],[(1,0)],1⟩ (([] : List ay))) fun c0 =>
 .say [.br false,.num p_l.length,.rows ((List.replicate (p_l.length:Int).toNat (ay.mk 0 0 ⟨#[]⟩ 0 aG.z)).map ay.lf),.num p_l.length] (okc c0 (okc (ln_ p_l ay.lf) (ok1 (rp_ ay.aV (p_l.length:Int).toNat (ay.mk 0 0 ⟨#[]⟩ 0 aG.z))))) <|
 .grd ((0:Int) ≤ (p_l.length:Int) ∧ 1208 * (p_l.length:Int).toNat ≤ 281474976710656 ∧ (p_l.length:Int).toNat ≤ maxLen) fun h0 =>
 .say [] (okc (mk_ (p_l.length:Int) h0) (ok1 (ln_ p_l ay.lf))) <|
 .lp Tryz.f120 0 [1,1,1,0,1,0] 0 [1,5,14,15,16] 1 (.exit 0) (fun r_=>⟨[(5,.own 0)],[.row 54 82 (r_.map ay.lf)]⟩) (acN p_l 0 (List.replicate (p_l.length:Int).toNat (ay.mk 0 0 ⟨#[]⟩ 0 aG.z))) (lW (fun (v0,l0)=>⟨[(1,.raw (.func (.func 121) #[] #[])),(5,.own 0),(14,.lf (.rows 82 (p_l.map ay.lf))),(15,.i_ (p_l.length:Int)),(16,.i_ v0)],[.row 54 82 (l0.map ay.lf)]⟩) (by kernel_rfl) rfl fun v_=>by kernel_rfl) fun r0 _ =>
 .ret ⟨[.mvn 0],[0],[(1,0)],1⟩ (r0)
def Q80 (p_l:List ay) : Option (List ay) := Mo.den (ahs p_l)
theorem ajc (p_l:List ay) : FH (Q80 p_l) 120 [.lf (.rows 82 (p_l.map ay.lf)),.raw (.func (.func 121) #[] #[])] [] (fun _=>.own 0) (fun r=>[.row 54 82 (r.map ay.lf)]) := gW Tryz.func120 (by kernel_rfl) (fun _=>rfl) (by kernel_rfl)
def acO (p_m:aj) : Mo (aj) :=
 .cH [] (ajc p_m.aQ) fun r0 _ =>
 .cH [] (KH p_m.fNext) fun r1 _ =>
 .cH [] (KH p_m.bn) fun r2 _ =>
 .ret ⟨[.kill 0,.kill 1,.mvn 2,.mvn 3,.mvn 4],[0],[(5,0),(6,1),(7,2)],3⟩ (aj.JX (aj.Wj (aj.mW p_m r0) r1) r2)
def ajd (p_m:aj) : Option (aj) := Mo.den (acO p_m)
theorem KI (p_m:aj) : FH (ajd p_m) 88 [.dat (aj.lf1 p_m)] [] (fun r=>uS (.agg ((aj.lf1 r).map AV.lf)) [(8,.own 0),(10,.own 1),(11,.own 2)]) (fun r=>[.row 54 82 (r.aQ.map ay.lf),.row 3 1 (r.fNext.map lfI),.row 3 1 (r.bn.map lfI)]) := gW Tryz.func88 (by kernel_rfl) (fun _=>rfl) (by kernel_rfl)
def acP (p_id:Int) : Mo (Int) :=
 .ret (bC 1) (IntKind.wrap .i64 (10 + (IntKind.wrap .i64 (3 * p_id))))
def akU (p_id:Int) : Option (Int) := Mo.den (acP p_id)
theorem Xm (p_id:Int) : FV (akU p_id) 62 [.i_ p_id] (fun r=>.i_ r) := bY Tryz.func62 (by kernel_rfl) (fun _=>rfl) (by kernel_rfl)
def yh (p_m:aj) (p_term:Int) : Mo (Int) :=
 .iB (p_m.dM == 2) (.cl (Xm p_m.fID) fun r0 _ =>
 .rt [1,2,4] 5 (r0)) <|
 .rt [1,2,4] 5 (p_m.gI)
def KJ (p_m:aj) (p_term:Int) : Option (Int) := Mo.den (yh p_m p_term)
def Eb (p_m:aj) (p_term:Int) (r_:Int) : St := ⟨[(1,.i_ p_term),(2,.ptr 3 0),(4,.ptr 4 0)],[.row 54 82 (p_m.aQ.map ay.lf),.row 3 1 (p_m.fNext.map lfI),.row 3 1 (p_m.bn.map lfI),.box 25 (ag_ (aj.lf1 p_m) [(6,.i_ r_),(8,.own 0),(10,.own 1),(11,.own 2)]),.box 25 (Z25)]⟩
theorem acQ {p_m:aj} {p_term:Int} {r_:Int} (h:KJ p_m p_term = some r_) : fQ Tryz.f100 3 [1,1,0,1] (.normal) (Eb p_m p_term r_) ⟨[(1,.i_ p_term),(2,.ptr 3 0),(4,.ptr 4 0),(12,.lf (.bool (p_m.dM == 2)))],[.row 54 82 (p_m.aQ.map ay.lf),.row 3 1 (p_m.fNext.map lfI),.row 3 1 (p_m.bn.map lfI),.box 25 (ag_ (aj.lf1 p_m) [(8,.own 0),(10,.own 1),(11,.own 2)]),.box 25 (Z25)]⟩ :=
 jo dK (yh p_m p_term) (fun _=>.normal) (Eb p_m p_term) (by kernel_rfl) h
def acR (p_m:aj) (p_term:Int) : Mo (aj) :=
 .iB (decide ((p_term:Int) ≤ p_m.bD)) (.ret ⟨[.kill 3,.kill 4,.mvn 0,.mvn 1,.mvn 2],[0],[(5,3),(6,4),(7,5)],6⟩ (p_m)) <|
 .ask (KJ p_m p_term) fun r0 h0 =>
 .say [.pt_ 1 [1,2,4,12] 5 (.normal) (Eb p_m p_term r0)] (okc (acQ h0) (okc (by simp [lfI,lfK] : (([] : List Int).map lfI) = []) (ok1 (by simp [lfI,lfK] : (([] : List Int).map lfI) = [])))) <|
 .ret ⟨[.aeo 0 10 3,.aeo 0 11 3,.kill 1,.kill 2,.kill 3,.kill 4,.kJ 5 (([] : List Int).map lfI),.kJ 6 (([] : List Int).map lfI),.mvn 0,.mvn 5,.mvn 6],[0],[(7,3),(8,4),(9,5)],6⟩ (aj.mk p_m.fID p_m.dI p_term (-1) 0 (-1) r0 0 p_m.aQ p_m.au ([] : List Int) ([] : List Int))
def Q61 (p_m:aj) (p_term:Int) : Option (aj) := Mo.den (acR p_m p_term)
theorem UQ (p_m:aj) (p_term:Int) : FH (Q61 p_m p_term) 100 [uS (.agg ((aj.lf1 p_m).map AV.lf)) [(8,.own 0),(10,.own 1),(11,.own 2)],.i_ p_term] [.row 54 82 (p_m.aQ.map ay.lf),.row 3 1 (p_m.fNext.map lfI),.row 3 1 (p_m.bn.map lfI)] (fun r=>uS (.agg ((aj.lf1 r).map AV.lf)) [(8,.own 3),(10,.own 4),(11,.own 5)]) (fun r=>[.dead,.dead,.dead,.row 54 82 (r.aQ.map ay.lf),.row 3 1 (r.fNext.map lfI),.row 3 1 (r.bn.map lfI)]) := gW Tryz.func100 (by kernel_rfl) (fun _=>rfl) (by kernel_rfl)
def UR (p_m:aj) (p_term:Int) : Mo (aj) :=
 .cH [] (KI p_m) fun r0 _ =>
 .cH [2,3,4] (UQ r0 p_term) fun r1 _ =>
 .ret ⟨[.kill 0,.kill 1,.mvn 5,.mvn 6,.mvn 7],[0],[(8,0),(9,1),(10,2)],3⟩ (r1)
def afG (p_m:aj) (p_term:Int) : Option (aj) := Mo.den (UR p_m p_term)
theorem KL (p_m:aj) (p_term:Int) : FH (afG p_m p_term) 72 [.dat (aj.lf1 p_m),.i_ p_term] [] (fun r=>uS (.agg ((aj.lf1 r).map AV.lf)) [(8,.own 0),(10,.own 1),(11,.own 2)]) (fun r=>[.row 54 82 (r.aQ.map ay.lf),.row 3 1 (r.fNext.map lfI),.row 3 1 (r.bn.map lfI)]) := gW Tryz.func72 (by kernel_rfl) (fun _=>rfl) (by kernel_rfl)
def aht (p_m:aj) : Mo (aj) :=
 .cH [] (KL p_m p_m.bD) fun r0 _ =>
 .ret ⟨[.kill 0,.kill 1,.mvn 2,.mvn 3,.mvn 4],[0],[(5,0),(6,1),(7,2)],3⟩ (r0)
def Q94 (p_m:aj) : Option (aj) := Mo.den (aht p_m)
theorem qB (p_m:aj) : FH (Q94 p_m) 36 [.dat (aj.lf1 p_m)] [] (fun r=>uS (.agg ((aj.lf1 r).map AV.lf)) [(8,.own 0),(10,.own 1),(11,.own 2)]) (fun r=>[.row 54 82 (r.aQ.map ay.lf),.row 3 1 (r.fNext.map lfI),.row 3 1 (r.bn.map lfI)]) := gW Tryz.func36 (by kernel_rfl) (fun _=>rfl) (by kernel_rfl)
def akV  : Mo (bF) :=
 .ret (bC 1) (bF.mk (-1) 0 0 [])
def Q84  : Option (bF) := Mo.den (akV )
theorem uo:FV (Q84 ) 42 [] (fun r=>.dat (bF.lf1 r)) := bY Tryz.func42 (by kernel_rfl) (fun _=>rfl) (by kernel_rfl)
def aje (p_l:List ay) : Mo (Int) :=
 .say [.num p_l.length] (ok1 (ln_ p_l ay.lf)) <|
 .ite ((p_l.length:Int) == 0) (fun c0 =>
 .say [.br true] (ok1 c0) <|
 .ret (bC 1) (0)) fun c0 =>
 .say [.br false,.num p_l.length] (okc c0 (ok1 (ln_ p_l ay.lf))) <|
 .ask (bM p_l (IntKind.wrap .i64 ((p_l.length:Int) - 1))) fun x0 h0 =>
 .say [.row (ay.lf1 x0)] (ok1 (aX ay.aV h0)) <|
 .ret (bC 1) (x0.bD)
def alD (p_l:List ay) : Option (Int) := Mo.den (aje p_l)
theorem afH (p_l:List ay) : FV (alD p_l) 91 [.lf (.rows 82 (p_l.map ay.lf))] (fun r=>.i_ r) := bY Tryz.func91 (by kernel_rfl) (fun _=>rfl) (by kernel_rfl)
def acS (p_x:ah) (r0:aj) (r1:Int) : Mo (Bool) :=
 .iG 14004 (decide ((r1:Int) < p_x.ku)) (.rt [2,3,4,40] 9 (true)) <|
 .ite (p_x.ku == r1) (fun c0 =>
 .say [.gd 14009 true,.num r0.aQ.length] (okc c0 (ok1 (ln_ r0.aQ ay.lf))) <|
 .rt [2,3,4,40] 9 (decide (((r0.aQ.length:Int) : Int) ≤ p_x.aY))) fun c0 =>
 .say [.gd 14009 false] (ok1 c0) <|
 .rt [2,3,4,40] 9 (false)
def acT (p_x:ah) (r0:aj) (r1:Bool) : Mo (Unit) :=
 .rt [2,3,4,7] 9 ()
def YU (p_x:ah) (r0:aj) (r1:Bool) : Mo (Bool) :=
 .iG 16005 (p_x.bD == r0.bD) (.iG 16009 (r0.je == (-1)) (.rt [2,3,4,7,57] 9 (true)) <|
 .rt [2,3,4,7,57] 9 (r0.je == p_x.dh)) <|
 .rt [2,3,4,7,57] 9 (false)
def YV (p_x:ah) (r0:aj) (r1:Bool) (r2:Bool) : Mo (Bool) :=
 .iG 16017 (r2) (.rt [2,3,4,60] 9 (r1)) <|
 .rt [2,3,4,60] 9 (false)
def YW (p_x:ah) (r0:aj) (r1:Bool) : Mo (Unit) :=
 .rt [2,3,4,8] 9 ()
def IW (p_x:ah) (r0:aj) (r1:Bool) : Mo ((Int × Int)) :=
 .iB (r1) (.cl (Xm r0.fID) fun r2 _ =>
 .rt [2,3,4,8] 9 (p_x.dh,r2)) <|
 .rt [2,3,4,8] 9 (r0.je,r0.gI)
def Xn (p_x:ah) (r0:aj) (r1:Bool) : Option ((Int × Int)) := Mo.den (IW p_x r0 r1)
def zV (p_x:ah) (r0:aj) (r1:Bool) (r_:(Int × Int)) : St := ⟨[(2,.ptr 0 0),(3,.ptr 1 0),(4,.ptr 2 0),(8,.b_ r1)],[.box 25 (ag_ (aj.lf1 r0) [(3,.i_ r_.1),(6,.i_ r_.2),(10,.own 7),(11,.own 8)]),.box 63 (.dat (ah.lf1 p_x)),.box 25 (Z25),.dead,.dead,.dead,.dead,.row 3 1 (r0.fNext.map lfI),.row 3 1 (r0.bn.map lfI)]⟩
theorem YX {p_x:ah} {r0:aj} {r1:Bool} {r_:(Int × Int)} (h:Xn p_x r0 r1 = some r_) : fQ Tryz.f79 0 [1,1,1,1,1,1,1,0,1] (.normal) (zV p_x r0 r1 r_) ⟨[(2,.ptr 0 0),(3,.ptr 1 0),(4,.ptr 2 0),(8,.b_ r1),(61,.b_ r1)],[.box 25 (ag_ (aj.lf1 r0) [(10,.own 7),(11,.own 8)]),.box 63 (.dat (ah.lf1 p_x)),.box 25 (Z25),.dead,.dead,.dead,.dead,.row 3 1 (r0.fNext.map lfI),.row 3 1 (r0.bn.map lfI)]⟩ :=
 jo dK (IW p_x r0 r1) (fun _=>.normal) (zV p_x r0 r1) (by kernel_rfl) h
def akW (p_m:aj) (p_x:ah) : Mo (aj × List ah) :=
 .cH [] (KI p_m) fun r0 _ =>
 .ite (p_x.aU != 1) (fun c0 =>
 .say [.br true,.at_ 0 0,.frz 3,.frz 4,.frz 5] (ok1 c0) <|
 .ret ⟨[.nil 1 9,.tod 1],[0,1],[],0⟩ (r0,[])) fun c0 =>
 .say [.br false] (ok1 c0) <|
 .ask (Q61 r0 p_x.bD) fun r1 h0 =>
 .say [.jc [3,4,5] (ag_ (aj.lf1 r1) [(8,.own 3),(10,.own 4),(11,.own 5)]) [.dead,.dead,.dead,.row 54 82 (r1.aQ.map ay.lf),.row 3 1 (r1.fNext.map lfI),.row 3 1 (r1.bn.map lfI)],.at_ 12 2,.frz 6] (ok1 (UQ _ _ _ h0)) <|
 .cl (afH r1.aQ) fun r2 _ =>
 .sj Tryz.f79 0 [1,1,1,1,1,0] [0,1,2,3,4,5,6,7,8,9,10,11,12,13,14,15,16,17] 6 18 [2,3,4,6] 9 (fun r_=>⟨[(2,.ptr 0 0),(3,.ptr 1 0),(4,.ptr 2 0),(40,.b_ r_)],[.box 25 (ag_ (aj.lf1 r1) [(10,.own 7),(11,.own 8)]),.box 63 (.dat (ah.lf1 p_x)),.box 25 (Z25),.dead,.dead,.dead,.dead,.row 3 1 (r1.fNext.map lfI),.row 3 1 (r1.bn.map lfI)]⟩) ⟨[(2,.ptr 0 0),(3,.ptr 1 0),(4,.ptr 2 0),(6,.i_ r2)],[.box 25 (ag_ (aj.lf1 r1) [(10,.own 7),(11,.own 8)]),.box 63 (.dat (ah.lf1 p_x)),.box 25 (Z25),.dead,.dead,.dead,.dead,.row 3 1 (r1.fNext.map lfI),.row 3 1 (r1.bn.map lfI)]⟩ (acS p_x r1 r2).den (sW (by kernel_rfl)) fun r3 _ =>
 .sj Tryz.f79 0 [1,1,1,1,1,0] [18] 6 1 [2,3,4,40] 9 (fun r_=>⟨[(2,.ptr 0 0),(3,.ptr 1 0),(4,.ptr 2 0),(7,.b_ r3)],[.box 25 (ag_ (aj.lf1 r1) [(10,.own 7),(11,.own 8)]),.box 63 (.dat (ah.lf1 p_x)),.box 25 (Z25),.dead,.dead,.dead,.dead,.row 3 1 (r1.fNext.map lfI),.row 3 1 (r1.bn.map lfI)]⟩) ⟨[(2,.ptr 0 0),(3,.ptr 1 0),(4,.ptr 2 0),(40,.b_ r3)],[.box 25 (ag_ (aj.lf1 r1) [(10,.own 7),(11,.own 8)]),.box 63 (.dat (ah.lf1 p_x)),.box 25 (Z25),.dead,.dead,.dead,.dead,.row 3 1 (r1.fNext.map lfI),.row 3 1 (r1.bn.map lfI)]⟩ (acT p_x r1 r3).den (sW (by kernel_rfl)) fun r4 _ =>
 .sj Tryz.f79 0 [1,1,1,1,1,1,0] [0,1,2,3,4,5,6,7,8,9,10,11,12,13,14,15,16] 7 17 [2,3,4,7] 9 (fun r_=>⟨[(2,.ptr 0 0),(3,.ptr 1 0),(4,.ptr 2 0),(7,.b_ r3),(57,.b_ r_)],[.box 25 (ag_ (aj.lf1 r1) [(10,.own 7),(11,.own 8)]),.box 63 (.dat (ah.lf1 p_x)),.box 25 (Z25),.dead,.dead,.dead,.dead,.row 3 1 (r1.fNext.map lfI),.row 3 1 (r1.bn.map lfI)]⟩) ⟨[(2,.ptr 0 0),(3,.ptr 1 0),(4,.ptr 2 0),(7,.b_ r3)],[.box 25 (ag_ (aj.lf1 r1) [(10,.own 7),(11,.own 8)]),.box 63 (.dat (ah.lf1 p_x)),.box 25 (Z25),.dead,.dead,.dead,.dead,.row 3 1 (r1.fNext.map lfI),.row 3 1 (r1.bn.map lfI)]⟩ (YU p_x r1 r3).den (sW (by kernel_rfl)) fun r5 _ =>
 .sj Tryz.f79 0 [1,1,1,1,1,1,0] [17,18,19] 7 3 [2,3,4,7,57] 9 (fun r_=>⟨[(2,.ptr 0 0),(3,.ptr 1 0),(4,.ptr 2 0),(60,.b_ r_)],[.box 25 (ag_ (aj.lf1 r1) [(10,.own 7),(11,.own 8)]),.box 63 (.dat (ah.lf1 p_x)),.box 25 (Z25),.dead,.dead,.dead,.dead,.row 3 1 (r1.fNext.map lfI),.row 3 1 (r1.bn.map lfI)]⟩) ⟨[(2,.ptr 0 0),(3,.ptr 1 0),(4,.ptr 2 0),(7,.b_ r3),(57,.b_ r5)],[.box 25 (ag_ (aj.lf1 r1) [(10,.own 7),(11,.own 8)]),.box 63 (.dat (ah.lf1 p_x)),.box 25 (Z25),.dead,.dead,.dead,.dead,.row 3 1 (r1.fNext.map lfI),.row 3 1 (r1.bn.map lfI)]⟩ (YV p_x r1 r3 r5).den (sW (by kernel_rfl)) fun r6 _ =>
 .sj Tryz.f79 0 [1,1,1,1,1,1,0] [20] 7 1 [2,3,4,60] 9 (fun r_=>⟨[(2,.ptr 0 0),(3,.ptr 1 0),(4,.ptr 2 0),(8,.b_ r6)],[.box 25 (ag_ (aj.lf1 r1) [(10,.own 7),(11,.own 8)]),.box 63 (.dat (ah.lf1 p_x)),.box 25 (Z25),.dead,.dead,.dead,.dead,.row 3 1 (r1.fNext.map lfI),.row 3 1 (r1.bn.map lfI)]⟩) ⟨[(2,.ptr 0 0),(3,.ptr 1 0),(4,.ptr 2 0),(60,.b_ r6)],[.box 25 (ag_ (aj.lf1 r1) [(10,.own 7),(11,.own 8)]),.box 63 (.dat (ah.lf1 p_x)),.box 25 (Z25),.dead,.dead,.dead,.dead,.row 3 1 (r1.fNext.map lfI),.row 3 1 (r1.bn.map lfI)]⟩ (YW p_x r1 r6).den (sW (by kernel_rfl)) fun r7 _ =>
 .ask (Xn p_x r1 r6) fun r8 h1 =>
 .say [.pt_ 1 [2,3,4,8,61] 9 (.normal) (zV p_x r1 r6 r8),.dP (.q 0 (.q 1 (.alt 2 (.l 3 (.q 4 .fin)) (.l 3 (.l 2 (.q 4 .fin)))))) none [2,10] [.both [.at_ 26 2,.resv 1,.slot 10] [.at_ 26 3,.resv 1,.slot 10]] [4,5] 11 [(4,.ptr 2 0),(5,.own 10)] [.box 25 (ag_ (aj.lf1 r1) [(3,.i_ r8.1),(6,.i_ r8.2),(10,.own 7),(11,.own 8)]),.box 63 (.dat (ah.lf1 p_x)),.box 25 (ag_ (aj.lf1 r1) [(3,.i_ r8.1),(6,.i_ r8.2),(10,.own 7),(11,.own 8)]),.dead,.dead,.dead,.dead,.row 3 1 (r1.fNext.map lfI),.row 3 1 (r1.bn.map lfI),.box 63 (.agg [.i_ r1.fID,.i_ p_x.dh,.i_ 2,.i_ r1.bD,.i_ 0,.i_ 0,.i_ 0,.bI 82,.b_ r6]),.row 63 9 [(ah.lf1 (ah.sOK (ah.jP (ah.jG (ah.sTo (ah.lD ah.z r1.fID) p_x.dh) 2) r1.bD) r6))]],.at_ 0 0,.frz 7,.frz 8,.XE 10 ([ah.sOK (ah.jP (ah.jG (ah.sTo (ah.lD ah.z r1.fID) p_x.dh) 2) r1.bD) r6].map ah.lf)] (okc (YX h1) (okc (rf_ ⟨[(4,.ptr 2 0),(5,.own 10)],[.box 25 (ag_ (aj.lf1 r1) [(3,.i_ r8.1),(6,.i_ r8.2),(10,.own 7),(11,.own 8)]),.box 63 (.dat (ah.lf1 p_x)),.box 25 (ag_ (aj.lf1 r1) [(3,.i_ r8.1),(6,.i_ r8.2),(10,.own 7),(11,.own 8)]),.dead,.dead,.dead,.dead,.row 3 1 (r1.fNext.map lfI),.row 3 1 (r1.bn.map lfI),.box 63 (.agg [.i_ r1.fID,.i_ p_x.dh,.i_ 2,.i_ r1.bD,.i_ 0,.i_ 0,.i_ 0,.bI 82,.b_ r6]),.row 63 9 [(ah.lf1 (ah.sOK (ah.jP (ah.jG (ah.sTo (ah.lD ah.z r1.fID) p_x.dh) 2) r1.bD) r6))]]⟩) (okc (rf_ ⟨[(4,.ptr 2 0),(5,.own 10)],[.box 25 (ag_ (aj.lf1 r1) [(3,.i_ r8.1),(6,.i_ r8.2),(10,.own 7),(11,.own 8)]),.box 63 (.dat (ah.lf1 p_x)),.box 25 (ag_ (aj.lf1 r1) [(3,.i_ r8.1),(6,.i_ r8.2),(10,.own 7),(11,.own 8)]),.dead,.dead,.dead,.dead,.row 3 1 (r1.fNext.map lfI),.row 3 1 (r1.bn.map lfI),.box 63 (.agg [.i_ r1.fID,.i_ p_x.dh,.i_ 2,.i_ r1.bD,.i_ 0,.i_ 0,.i_ 0,.bI 82,.b_ r6]),.row 63 9 [(ah.lf1 (ah.sOK (ah.jP (ah.jG (ah.sTo (ah.lD ah.z r1.fID) p_x.dh) 2) r1.bD) r6))]]⟩) (ok1 (by simp [ah.aV] : [ah.sOK (ah.jP (ah.jG (ah.sTo (ah.lD ah.z r1.fID) p_x.dh) 2) r1.bD) r6].map ah.lf = [(ah.lf1 (ah.sOK (ah.jP (ah.jG (ah.sTo (ah.lD ah.z r1.fID) p_x.dh) 2) r1.bD) r6))]))))) <|
 .ret (bC 2) (aj.qo (aj.aag r1 r8.1) r8.2,[ah.sOK (ah.jP (ah.jG (ah.sTo (ah.lD ah.z r1.fID) p_x.dh) 2) r1.bD) r6])
def Q67 (p_m:aj) (p_x:ah) : Option (aj × List ah) := Mo.den (akW p_m p_x)
theorem ajf (p_m:aj) (p_x:ah) : FV (Q67 p_m p_x) 79 [.dat (aj.lf1 p_m),.dat (ah.lf1 p_x)] (fun r=>.tup [.dat (aj.lf1 r.1),.lf (.rows 9 (r.2.map ah.lf))]) := bY Tryz.func79 (by kernel_rfl) (fun _=>rfl) (by kernel_rfl)
def ajg (p_x:ah) (p_b0:aF) : Mo (aF) :=
 .say [.order [(true,0),(true,1),(true,2),(true,3),(true,4),(true,6),(false,5),(false,7),(true,8),(true,9),(true,10),(true,11),(true,12),(false,13),(true,14),(true,15),(false,16)] (some 16) [0,1,2,3],.at_ 4 7,.frz 1,.frz 2,.frz 3] ok0 <|
 .cl (ajf p_b0.aO p_x) fun r0 _ =>
 .ret ⟨[.norm 0,.kill 4,.kill 5],[],[],5⟩ (aF.mk r0.1 r0.2 p_b0.eG)
def akX (p_x:ah) (p_b0:aF) : Option (aF) := Mo.den (ajg p_x p_b0)
theorem afI (p_x:ah) (p_b0:aF) : FH (akX p_x p_b0) 43 [.ptr 0 0,.dat (ah.lf1 p_x)] [.box 97 (ag_ (aF.lf1 p_b0) [(8,.own 1),(10,.own 2),(11,.own 3),(12,.own 4)]),.row 54 82 (p_b0.aO.aQ.map ay.lf),.row 3 1 (p_b0.aO.fNext.map lfI),.row 3 1 (p_b0.aO.bn.map lfI),.row 63 9 (p_b0.dw.map ah.lf)] (fun _=>.tup []) (fun r=>[.box 97 (.dat (aF.lf1 r)),.dead,.dead,.dead,.dead]) := gW Tryz.func43 (by kernel_rfl) (fun _=>rfl) (by kernel_rfl)
def YZ (p_m:aj) : Mo (Bool) :=
 .iG 4003 (decide ((1:Int) ≤ p_m.dI)) (.rt [1,2,10] 1 (decide ((p_m.dI:Int) ≤ 7))) <|
 .rt [1,2,10] 1 (false)
def Y0 (p_m:aj) (r0:Bool) : Mo (Bool) :=
 .iG 4008 (r0) (.rt [1,2,15] 1 (decide ((0:Int) ≤ p_m.fID))) <|
 .rt [1,2,15] 1 (false)
def UU (p_m:aj) (r0:Bool) : Mo (Bool) :=
 .iG 4013 (r0) (.ret ⟨[.kill 0],[2,22],[],1⟩ (decide ((p_m.fID:Int) < p_m.dI))) <|
 .ret ⟨[.kill 0],[2,22],[],1⟩ (false)
def UW (r0:Bool) : Mo (Unit) :=
 .rt [2] 1 ()
def ajh (p_m:aj) : Mo (Bool) :=
 .sj Tryz.f89 0 [1,0] [0,1,2,3,4,5,6,7] 1 8 [1,2] 1 (fun r_=>⟨[(1,.ptr 0 0),(2,.b_ false),(10,.b_ r_)],[.box 25 (.dat (aj.lf1 p_m))]⟩) ⟨[(1,.ptr 0 0),(2,.b_ false)],[.box 25 (.dat (aj.lf1 p_m))]⟩ (YZ p_m).den (sW (by kernel_rfl)) fun r0 _ =>
 .sj Tryz.f89 0 [1,0] [8,9,10,11,12] 1 5 [1,2,10] 1 (fun r_=>⟨[(1,.ptr 0 0),(2,.b_ false),(15,.b_ r_)],[.box 25 (.dat (aj.lf1 p_m))]⟩) ⟨[(1,.ptr 0 0),(2,.b_ false),(10,.b_ r0)],[.box 25 (.dat (aj.lf1 p_m))]⟩ (Y0 p_m r0).den (sW (by kernel_rfl)) fun r1 _ =>
 .sj Tryz.f89 0 [1,0] [13,14,15,16,17,18,19] 1 7 [1,2,15] 1 (fun r_=>⟨[(2,.b_ false),(22,.b_ r_)],[.dead]⟩) ⟨[(1,.ptr 0 0),(2,.b_ false),(15,.b_ r1)],[.box 25 (.dat (aj.lf1 p_m))]⟩ (UU p_m r1).den (sW (by kernel_rfl)) fun r2 _ =>
 .sj Tryz.f89 0 [1,0] [20] 1 1 [2,22] 1 (fun r_=>⟨[(2,.b_ r2)],[.dead]⟩) ⟨[(2,.b_ false),(22,.b_ r2)],[.dead]⟩ (UW r2).den (sW (by kernel_rfl)) fun r3 _ =>
 .ret (bC 1) (r2)
def alE (p_m:aj) : Option (Bool) := Mo.den (ajh p_m)
theorem afJ (p_m:aj) : FV (alE p_m) 89 [.dat (aj.lf1 p_m)] (fun r=>.b_ r) := bY Tryz.func89 (by kernel_rfl) (fun _=>rfl) (by kernel_rfl)
def aji (p_x:Int) : Mo (Int) :=
 .say [] (okc (by decide:(0:Int) ≤ 1) (okc (by decide:(0:Int) ≤ 2) (okc (by decide:(0:Int) ≤ 4) (okc (by decide:(0:Int) ≤ 8) (okc (by decide:(0:Int) ≤ 16) (ok1 (by decide:(0:Int) ≤ 32))))))) <|
 .ret (bC 1) (bJ .and .i64 (IntKind.wrap .i64 (IntKind.wrap .u64 ((IntKind.wrap .u64 ((IntKind.wrap .u64 ((bJ .and .u64 (IntKind.wrap .u64 ((fO .u64 (IntKind.wrap .u64 ((bJ .and .u64 (fO .u64 (IntKind.wrap .u64 ((bJ .and .u64 (fO .u64 p_x 1) 6148914691236517205) + (bJ .and .u64 p_x 6148914691236517205))) 2) 3689348814741910323) + (bJ .and .u64 (IntKind.wrap .u64 ((bJ .and .u64 (fO .u64 p_x 1) 6148914691236517205) + (bJ .and .u64 p_x 6148914691236517205))) 3689348814741910323))) 4) + (IntKind.wrap .u64 ((bJ .and .u64 (fO .u64 (IntKind.wrap .u64 ((bJ .and .u64 (fO .u64 p_x 1) 6148914691236517205) + (bJ .and .u64 p_x 6148914691236517205))) 2) 3689348814741910323) + (bJ .and .u64 (IntKind.wrap .u64 ((bJ .and .u64 (fO .u64 p_x 1) 6148914691236517205) + (bJ .and .u64 p_x 6148914691236517205))) 3689348814741910323))))) 1085102592571150095) + (fO .u64 (bJ .and .u64 (IntKind.wrap .u64 ((fO .u64 (IntKind.wrap .u64 ((bJ .and .u64 (fO .u64 (IntKind.wrap .u64 ((bJ .and .u64 (fO .u64 p_x 1) 6148914691236517205) + (bJ .and .u64 p_x 6148914691236517205))) 2) 3689348814741910323) + (bJ .and .u64 (IntKind.wrap .u64 ((bJ .and .u64 (fO .u64 p_x 1) 6148914691236517205) + (bJ .and .u64 p_x 6148914691236517205))) 3689348814741910323))) 4) + (IntKind.wrap .u64 ((bJ .and .u64 (fO .u64 (IntKind.wrap .u64 ((bJ .and .u64 (fO .u64 p_x 1) 6148914691236517205) + (bJ .and .u64 p_x 6148914691236517205))) 2) 3689348814741910323) + (bJ .and .u64 (IntKind.wrap .u64 ((bJ .and .u64 (fO .u64 p_x 1) 6148914691236517205) + (bJ .and .u64 p_x 6148914691236517205))) 3689348814741910323))))) 1085102592571150095) 8))) + (fO .u64 (IntKind.wrap .u64 ((bJ .and .u64 (IntKind.wrap .u64 ((fO .u64 (IntKind.wrap .u64 ((bJ .and .u64 (fO .u64 (IntKind.wrap .u64 ((bJ .and .u64 (fO .u64 p_x 1) 6148914691236517205) + (bJ .and .u64 p_x 6148914691236517205))) 2) 3689348814741910323) + (bJ .and .u64 (IntKind.wrap .u64 ((bJ .and .u64 (fO .u64 p_x 1) 6148914691236517205) + (bJ .and .u64 p_x 6148914691236517205))) 3689348814741910323))) 4) + (IntKind.wrap .u64 ((bJ .and .u64 (fO .u64 (IntKind.wrap .u64 ((bJ .and .u64 (fO .u64 p_x 1) 6148914691236517205) + (bJ .and .u64 p_x 6148914691236517205))) 2) 3689348814741910323) + (bJ .and .u64 (IntKind.wrap .u64 ((bJ .and .u64 (fO .u64 p_x 1) 6148914691236517205) + (bJ .and .u64 p_x 6148914691236517205))) 3689348814741910323))))) 1085102592571150095) + (fO .u64 (bJ .and .u64 (IntKind.wrap .u64 ((fO .u64 (IntKind.wrap .u64 ((bJ .and .u64 (fO .u64 (IntKind.wrap .u64 ((bJ .and .u64 (fO .u64 p_x 1) 6148914691236517205) + (bJ .and .u64 p_x 6148914691236517205))) 2) 3689348814741910323) + (bJ .and .u64 (IntKind.wrap .u64 ((bJ .and .u64 (fO .u64 p_x 1) 6148914691236517205) + (bJ .and .u64 p_x 6148914691236517205))) 3689348814741910323))) 4) + (IntKind.wrap .u64 ((bJ .and .u64 (fO .u64 (IntKind.wrap .u64 ((bJ .and .u64 (fO .u64 p_x 1) 6148914691236517205) + (bJ .and .u64 p_x 6148914691236517205))) 2) 3689348814741910323) + (bJ .and .u64 (IntKind.wrap .u64 ((bJ .and .u64 (fO .u64 p_x 1) 6148914691236517205) + (bJ .and .u64 p_x 6148914691236517205))) 3689348814741910323))))) 1085102592571150095) 8))) 16))) + (fO .u64 (IntKind.wrap .u64 ((IntKind.wrap .u64 ((bJ .and .u64 (IntKind.wrap .u64 ((fO .u64 (IntKind.wrap .u64 ((bJ .and .u64 (fO .u64 (IntKind.wrap .u64 ((bJ .and .u64 (fO .u64 p_x 1) 6148914691236517205) + (bJ .and .u64 p_x 6148914691236517205))) 2) 3689348814741910323) + (bJ .and .u64 (IntKind.wrap .u64 ((bJ .and .u64 (fO .u64 p_x 1) 6148914691236517205) + (bJ .and .u64 p_x 6148914691236517205))) 3689348814741910323))) 4) + (IntKind.wrap .u64 ((bJ .and .u64 (fO .u64 (IntKind.wrap .u64 ((bJ .and .u64 (fO .u64 p_x 1) 6148914691236517205) + (bJ .and .u64 p_x 6148914691236517205))) 2) 3689348814741910323) + (bJ .and .u64 (IntKind.wrap .u64 ((bJ .and .u64 (fO .u64 p_x 1) 6148914691236517205) + (bJ .and .u64 p_x 6148914691236517205))) 3689348814741910323))))) 1085102592571150095) + (fO .u64 (bJ .and .u64 (IntKind.wrap .u64 ((fO .u64 (IntKind.wrap .u64 ((bJ .and .u64 (fO .u64 (IntKind.wrap .u64 ((bJ .and .u64 (fO .u64 p_x 1) 6148914691236517205) + (bJ .and .u64 p_x 6148914691236517205))) 2) 3689348814741910323) + (bJ .and .u64 (IntKind.wrap .u64 ((bJ .and .u64 (fO .u64 p_x 1) 6148914691236517205) + (bJ .and .u64 p_x 6148914691236517205))) 3689348814741910323))) 4) + (IntKind.wrap .u64 ((bJ .and .u64 (fO .u64 (IntKind.wrap .u64 ((bJ .and .u64 (fO .u64 p_x 1) 6148914691236517205) + (bJ .and .u64 p_x 6148914691236517205))) 2) 3689348814741910323) + (bJ .and .u64 (IntKind.wrap .u64 ((bJ .and .u64 (fO .u64 p_x 1) 6148914691236517205) + (bJ .and .u64 p_x 6148914691236517205))) 3689348814741910323))))) 1085102592571150095) 8))) + (fO .u64 (IntKind.wrap .u64 ((bJ .and .u64 (IntKind.wrap .u64 ((fO .u64 (IntKind.wrap .u64 ((bJ .and .u64 (fO .u64 (IntKind.wrap .u64 ((bJ .and .u64 (fO .u64 p_x 1) 6148914691236517205) + (bJ .and .u64 p_x 6148914691236517205))) 2) 3689348814741910323) + (bJ .and .u64 (IntKind.wrap .u64 ((bJ .and .u64 (fO .u64 p_x 1) 6148914691236517205) + (bJ .and .u64 p_x 6148914691236517205))) 3689348814741910323))) 4) + (IntKind.wrap .u64 ((bJ .and .u64 (fO .u64 (IntKind.wrap .u64 ((bJ .and .u64 (fO .u64 p_x 1) 6148914691236517205) + (bJ .and .u64 p_x 6148914691236517205))) 2) 3689348814741910323) + (bJ .and .u64 (IntKind.wrap .u64 ((bJ .and .u64 (fO .u64 p_x 1) 6148914691236517205) + (bJ .and .u64 p_x 6148914691236517205))) 3689348814741910323))))) 1085102592571150095) + (fO .u64 (bJ .and .u64 (IntKind.wrap .u64 ((fO .u64 (IntKind.wrap .u64 ((bJ .and .u64 (fO .u64 (IntKind.wrap .u64 ((bJ .and .u64 (fO .u64 p_x 1) 6148914691236517205) + (bJ .and .u64 p_x 6148914691236517205))) 2) 3689348814741910323) + (bJ .and .u64 (IntKind.wrap .u64 ((bJ .and .u64 (fO .u64 p_x 1) 6148914691236517205) + (bJ .and .u64 p_x 6148914691236517205))) 3689348814741910323))) 4) + (IntKind.wrap .u64 ((bJ .and .u64 (fO .u64 (IntKind.wrap .u64 ((bJ .and .u64 (fO .u64 p_x 1) 6148914691236517205) + (bJ .and .u64 p_x 6148914691236517205))) 2) 3689348814741910323) + (bJ .and .u64 (IntKind.wrap .u64 ((bJ .and .u64 (fO .u64 p_x 1) 6148914691236517205) + (bJ .and .u64 p_x 6148914691236517205))) 3689348814741910323))))) 1085102592571150095) 8))) 16))) 32)))) 127)
def alF (p_x:Int) : Option (Int) := Mo.den (aji p_x)
theorem afK (p_x:Int) : FV (alF p_x) 163 [.lf (.int .u64 p_x)] (fun r=>.i_ r) := bY Tryz.func163 (by kernel_rfl) (fun _=>rfl) (by kernel_rfl)
def ajj (p_x:Int) : Mo (Int) :=
 .say [.br false] (ok1 (rfl:false = false)) <|
 .cl (afK p_x) fun r0 _ =>
 .ret (bC 1) (r0)
def akY (p_x:Int) : Option (Int) := Mo.den (ajj p_x)
theorem afL (p_x:Int) : FV (akY p_x) 118 [.lf (.int .u64 p_x)] (fun r=>.i_ r) := bY Tryz.func118 (by kernel_rfl) (fun _=>rfl) (by kernel_rfl)
def Y1 (p_size:Int) : Mo (Bool) :=
 .iG 4002 (decide ((p_size:Int) < 1)) (.rt [0,8] 0 (true)) <|
 .rt [0,8] 0 (decide ((7:Int) < p_size))
def ajk (p_size:Int) : Mo (Int) :=
 .jp Tryz.f74 0 [1,0,0] 9 [0] 0 (.normal) (fun r_=>⟨[(0,.i_ p_size),(8,.b_ r_)],[]⟩) ⟨[(0,.i_ p_size)],[]⟩ (Y1 p_size).den (jW (by kernel_rfl)) fun r0 _ =>
 .ite (r0) (fun c0 =>
 .say [.br true] (ok1 c0) <|
 .ret (bC 1) (0)) fun c0 =>
 .say [.br false] (okc c0 (ok1 (by decide:(2:Int) ≠ 0))) <|
 .ret (bC 1) (IntKind.wrap .i64 ((IntKind.wrap .i64 (Int.tdiv p_size 2)) + 1))
def akZ (p_size:Int) : Option (Int) := Mo.den (ajk p_size)
theorem Xo (p_size:Int) : FV (akZ p_size) 74 [.i_ p_size] (fun r=>.i_ r) := bY Tryz.func74 (by kernel_rfl) (fun _=>rfl) (by kernel_rfl)
def Rq (p_m:aj) : (Int × (List Int)) → Mo ((Int × (List Int)) ⊕ ((List Int))) := fun (v0,l0) =>
 .ite (decide ((v0:Int) < ((List.replicate p_m.dI.toNat 0).length:Int))) (fun c0 =>
 .say [.br true,.num p_m.aQ.length] (okc c0 (ok1 (ln_ p_m.aQ ay.lf))) <|
 .ask (bM l0 v0) fun x0 h0 =>
 .say [.row (lfI x0),.rows ((l0.set v0.toNat (p_m.aQ.length:Int)).map lfI)] (okc (cu lI_ h0) (okc (st_ lI_ l0 v0.toNat (p_m.aQ.length:Int)) (ok1 ((aX lI_ h0).2)))) <|
 .rt [1,2,19,20] 4 (.inl (IntKind.wrap .i64 (v0 + 1),l0.set v0.toNat (p_m.aQ.length:Int)))) fun c0 =>
 .say [.br false] (ok1 c0) <|
 .rt [1,2] 4 (.inr (l0))
def acU (p_m:aj) (v0:Int) (l0:List Int) : Option (((List Int))) := bK (fun v_=>(Rq p_m v_).den) FU (v0,l0)
def Rt (p_m:aj) : (Int × (List Int)) → St := fun (v0,l0)=>⟨[(1,.ptr 0 0),(2,.ptr 1 0),(19,.i_ ((List.replicate p_m.dI.toNat 0).length:Int)),(20,.i_ v0)],[.box 25 (ag_ (aj.lf1 p_m) [(4,.i_ 2),(5,.i_ p_m.fID),(6,.i_ 1),(10,.own 2),(11,.own 3)]),.box 25 (Z25),.row 3 1 (l0.map lfI),.row 3 1 ((List.replicate p_m.dI.toNat 0).map lfI)]⟩
def Ec (p_m:aj) (r_:((List Int))) : St := ⟨[(1,.ptr 0 0),(2,.ptr 1 0)],[.box 25 (ag_ (aj.lf1 p_m) [(4,.i_ 2),(5,.i_ p_m.fID),(6,.i_ 1),(10,.own 2),(11,.own 3)]),.box 25 (Z25),.row 3 1 (r_.map lfI),.row 3 1 ((List.replicate p_m.dI.toNat 0).map lfI)]⟩
theorem acV {p_m:aj} {v0:Int} {l0:List Int} {r_:((List Int))} (h:acU p_m v0 l0 = some r_) : fQ Tryz.f90 0 [1,1,1,1,0,1,0] (.exit 0) (Ec p_m r_) (Rt p_m (v0,l0)) :=
 dO dK (body := (Code.sub (bodyC Tryz.f90) [1,1,1,1,0,1,0,0])) (by kernel_rfl) (Rq p_m) (Rt p_m) (fun _=>.exit 0) (Ec p_m) (fun r_=>rfl) (fun v_=>by kernel_rfl) h
def ak0 (p_m:aj) : Mo (aj) :=
 .say [.rows ((List.replicate p_m.dI.toNat 0).map lfI),.rows ((List.replicate p_m.dI.toNat 0).map lfI),.num (List.replicate p_m.dI.toNat 0).length] (ok1 (rp_ lI_ p_m.dI.toNat 0)) <|
 .grd ((0:Int) ≤ p_m.dI ∧ 8 * p_m.dI.toNat ≤ 281474976710656 ∧ p_m.dI.toNat ≤ maxLen) fun h0 =>
 .say [] (okc (mk_ p_m.dI h0) (ok1 (rp_ lI_ p_m.dI.toNat 0))) <|
 .grd ((0:Int) ≤ p_m.dI ∧ 8 * p_m.dI.toNat ≤ 281474976710656 ∧ p_m.dI.toNat ≤ maxLen) fun h1 =>
 .say [] (okc (mk_ p_m.dI h1) (ok1 (by simp:(List.replicate p_m.dI.toNat 0).length = ((List.replicate p_m.dI.toNat 0).map lfI).length))) <|
 .ask (acU p_m 0 (List.replicate p_m.dI.toNat 0)) fun r0 h2 =>
 .say [.pt_ 0 [1,2,19,20] 4 (.exit 0) (Ec p_m r0),.num p_m.aQ.length] (okc (acV h2) (ok1 (ln_ p_m.aQ ay.lf))) <|
 .ask (bM (List.replicate p_m.dI.toNat 0) p_m.fID) fun x0 h3 =>
 .say [.row (lfI x0),.rows (((List.replicate p_m.dI.toNat 0).set p_m.fID.toNat (p_m.aQ.length:Int)).map lfI),.at_ 0 0,.frz 2,.frz 3] (okc (cu lI_ h3) (okc (st_ lI_ (List.replicate p_m.dI.toNat 0) p_m.fID.toNat (p_m.aQ.length:Int)) (ok1 ((aX lI_ h3).2)))) <|
 .ret (bC 1) (aj.JX (aj.Wj (aj.qo (aj.uQ (aj.aah p_m 2) p_m.fID) 1) r0) ((List.replicate p_m.dI.toNat 0).set p_m.fID.toNat (p_m.aQ.length:Int)))
def Q95 (p_m:aj) : Option (aj) := Mo.den (ak0 p_m)
theorem ajl (p_m:aj) : FV (Q95 p_m) 90 [.dat (aj.lf1 p_m)] (fun r=>.dat (aj.lf1 r)) := bY Tryz.func90 (by kernel_rfl) (fun _=>rfl) (by kernel_rfl)
def Y2 (p_x:ah) (r0:aj) : Mo (Bool) :=
 .iG 14003 (r0.dM != 1) (.rt [2,3,4,29] 6 (true)) <|
 .rt [2,3,4,29] 6 (p_x.bD != r0.bD)
def Y3 (p_x:ah) (r0:aj) (r1:Bool) : Mo (Bool) :=
 .iG 14010 (r1) (.rt [2,3,4,34] 6 (true)) <|
 .rt [2,3,4,34] 6 (!p_x.fOK)
def UY (p_x:ah) (r0:aj) (r1:Bool) : Mo (Bool) :=
 .ite (r1) (fun c0 =>
 .say [.gd 14015 true] (ok1 c0) <|
 .ret ⟨[.frz 3,.frz 4,.frz 5],[2,3,4,39],[],6⟩ (true)) fun c0 =>
 .say [.gd 14015 false,.at_ 14 17,.frz 3,.frz 4,.frz 5] (ok1 c0) <|
 .cl (afJ r0) fun r2 _ =>
 .rt [2,3,4,39] 6 (!r2)
def UZ (p_x:ah) (r0:aj) (r1:Bool) : Mo (Bool) :=
 .iG 14020 (r1) (.rt [2,3,4,44] 6 (true)) <|
 .rt [2,3,4,44] 6 (decide ((p_x.dh:Int) < 0))
def U0 (p_x:ah) (r0:aj) (r1:Bool) : Mo (Bool) :=
 .iG 14025 (r1) (.rt [2,3,4,51] 6 (true)) <|
 .rt [2,3,4,51] 6 (decide ((r0.dI:Int) ≤ p_x.dh))
def ajm (p_m:aj) (p_x:ah) : Mo (aj) :=
 .cH [] (KI p_m) fun r0 _ =>
 .ite (p_x.aU != 2) (fun c0 =>
 .say [.br true,.at_ 0 0,.frz 3,.frz 4,.frz 5] (ok1 c0) <|
 .ret (bC 1) (r0)) fun c0 =>
 .say [.br false] (ok1 c0) <|
 .iB (decide ((r0.bD:Int) < p_x.bD)) (.ask (Q61 r0 p_x.bD) fun r1 h0 =>
 .say [.jc [3,4,5] (ag_ (aj.lf1 r1) [(8,.own 3),(10,.own 4),(11,.own 5)]) [.dead,.dead,.dead,.row 54 82 (r1.aQ.map ay.lf),.row 3 1 (r1.fNext.map lfI),.row 3 1 (r1.bn.map lfI)],.at_ 0 0,.frz 6,.frz 7,.frz 8] (ok1 (UQ _ _ _ h0)) <|
 .ret (bC 1) (r1)) <|
 .sj Tryz.f80 0 [1,1,1,1,0,0] [0,1,2,3,4,5,6,7,8,9] 6 10 [2,3,4] 6 (fun r_=>⟨[(2,.ptr 0 0),(3,.ptr 1 0),(4,.ptr 2 0),(29,.b_ r_)],[.box 25 (ag_ (aj.lf1 r0) [(8,.own 3),(10,.own 4),(11,.own 5)]),.box 63 (.dat (ah.lf1 p_x)),.box 25 (Z25),.row 54 82 (r0.aQ.map ay.lf),.row 3 1 (r0.fNext.map lfI),.row 3 1 (r0.bn.map lfI)]⟩) ⟨[(2,.ptr 0 0),(3,.ptr 1 0),(4,.ptr 2 0)],[.box 25 (ag_ (aj.lf1 r0) [(8,.own 3),(10,.own 4),(11,.own 5)]),.box 63 (.dat (ah.lf1 p_x)),.box 25 (Z25),.row 54 82 (r0.aQ.map ay.lf),.row 3 1 (r0.fNext.map lfI),.row 3 1 (r0.bn.map lfI)]⟩ (Y2 p_x r0).den (sW (by kernel_rfl)) fun r2 _ =>
 .sj Tryz.f80 0 [1,1,1,1,0,0] [10,11,12,13,14] 6 5 [2,3,4,29] 6 (fun r_=>⟨[(2,.ptr 0 0),(3,.ptr 1 0),(4,.ptr 2 0),(34,.b_ r_)],[.box 25 (ag_ (aj.lf1 r0) [(8,.own 3),(10,.own 4),(11,.own 5)]),.box 63 (.dat (ah.lf1 p_x)),.box 25 (Z25),.row 54 82 (r0.aQ.map ay.lf),.row 3 1 (r0.fNext.map lfI),.row 3 1 (r0.bn.map lfI)]⟩) ⟨[(2,.ptr 0 0),(3,.ptr 1 0),(4,.ptr 2 0),(29,.b_ r2)],[.box 25 (ag_ (aj.lf1 r0) [(8,.own 3),(10,.own 4),(11,.own 5)]),.box 63 (.dat (ah.lf1 p_x)),.box 25 (Z25),.row 54 82 (r0.aQ.map ay.lf),.row 3 1 (r0.fNext.map lfI),.row 3 1 (r0.bn.map lfI)]⟩ (Y3 p_x r0 r2).den (sW (by kernel_rfl)) fun r3 _ =>
 .sj Tryz.f80 0 [1,1,1,1,0,0] [15,16,17,18,19] 6 5 [2,3,4,34] 6 (fun r_=>⟨[(2,.ptr 0 0),(3,.ptr 1 0),(4,.ptr 2 0),(39,.b_ r_)],[.box 25 (.agg ((aj.lf1 r0).map AV.lf)),.box 63 (.dat (ah.lf1 p_x)),.box 25 (Z25),.dead,.dead,.dead]⟩) ⟨[(2,.ptr 0 0),(3,.ptr 1 0),(4,.ptr 2 0),(34,.b_ r3)],[.box 25 (ag_ (aj.lf1 r0) [(8,.own 3),(10,.own 4),(11,.own 5)]),.box 63 (.dat (ah.lf1 p_x)),.box 25 (Z25),.row 54 82 (r0.aQ.map ay.lf),.row 3 1 (r0.fNext.map lfI),.row 3 1 (r0.bn.map lfI)]⟩ (UY p_x r0 r3).den (sW (by kernel_rfl)) fun r4 _ =>
 .sj Tryz.f80 0 [1,1,1,1,0,0] [20,21,22,23,24] 6 5 [2,3,4,39] 6 (fun r_=>⟨[(2,.ptr 0 0),(3,.ptr 1 0),(4,.ptr 2 0),(44,.b_ r_)],[.box 25 (.agg ((aj.lf1 r0).map AV.lf)),.box 63 (.dat (ah.lf1 p_x)),.box 25 (Z25),.dead,.dead,.dead]⟩) ⟨[(2,.ptr 0 0),(3,.ptr 1 0),(4,.ptr 2 0),(39,.b_ r4)],[.box 25 (.agg ((aj.lf1 r0).map AV.lf)),.box 63 (.dat (ah.lf1 p_x)),.box 25 (Z25),.dead,.dead,.dead]⟩ (UZ p_x r0 r4).den (sW (by kernel_rfl)) fun r5 _ =>
 .sj Tryz.f80 0 [1,1,1,1,0,0] [25,26,27,28,29,30,31] 6 7 [2,3,4,44] 6 (fun r_=>⟨[(2,.ptr 0 0),(3,.ptr 1 0),(4,.ptr 2 0),(51,.b_ r_)],[.box 25 (.agg ((aj.lf1 r0).map AV.lf)),.box 63 (.dat (ah.lf1 p_x)),.box 25 (Z25),.dead,.dead,.dead]⟩) ⟨[(2,.ptr 0 0),(3,.ptr 1 0),(4,.ptr 2 0),(44,.b_ r5)],[.box 25 (.agg ((aj.lf1 r0).map AV.lf)),.box 63 (.dat (ah.lf1 p_x)),.box 25 (Z25),.dead,.dead,.dead]⟩ (U0 p_x r0 r5).den (sW (by kernel_rfl)) fun r6 _ =>
 .ite (r6) (fun c1 =>
 .say [.br true] (ok1 c1) <|
 .ret (bC 1) (r0)) fun c1 =>
 .say [.br false,.order [(true,0),(true,1),(true,2),(true,3),(true,4),(true,5),(true,6),(false,7)] (some 7) []] (ok1 c1) <|
 .grd ((0:Int) ≤ p_x.dh) fun h1 =>
 .say [] (ok1 h1) <|
 .ask (akY (IntKind.wrap .u64 (bJ .or .i64 r0.fH (yY .i64 1 p_x.dh)))) fun r7 h2 =>
 .say [] (ok1 (afL _ _ h2)) <|
 .ask (akZ r0.dI) fun r8 h3 =>
 .say [.dP (.q 0 (.q 1 (.q 2 (.q 4 (.q 5 (.l 3 (.l 6 (.q 7 .fin)))))))) (some 6) [] [.res (.i_ r7),.res (.i_ r8)] [2,4,67] 6 [(2,.ptr 0 0),(4,.ptr 2 0),(67,.lf (.bool (decide ((r8:Int) ≤ r7))))] [.box 25 (ag_ (aj.lf1 r0) [(7,.i_ (bJ .or .i64 r0.fH (yY .i64 1 p_x.dh)))]),.box 63 (.dat (ah.lf1 p_x)),.box 25 (Z25),.dead,.dead,.dead]] (okc (Xo _ _ h3) (ok1 (rf_ ⟨[(2,.ptr 0 0),(4,.ptr 2 0),(67,.lf (.bool (decide ((r8:Int) ≤ r7))))],[.box 25 (ag_ (aj.lf1 r0) [(7,.i_ (bJ .or .i64 r0.fH (yY .i64 1 p_x.dh)))]),.box 63 (.dat (ah.lf1 p_x)),.box 25 (Z25),.dead,.dead,.dead]⟩))) <|
 .iB (decide ((r8:Int) ≤ r7)) (.cl (ajl (aj.JW r0 (bJ .or .i64 r0.fH (yY .i64 1 p_x.dh)))) fun r9 _ =>
 .ret (bC 1) (r9)) <|
 .ret (bC 1) (aj.JW r0 (bJ .or .i64 r0.fH (yY .i64 1 p_x.dh)))
def alG (p_m:aj) (p_x:ah) : Option (aj) := Mo.den (ajm p_m p_x)
theorem afM (p_m:aj) (p_x:ah) : FV (alG p_m p_x) 80 [.dat (aj.lf1 p_m),.dat (ah.lf1 p_x)] (fun r=>.dat (aj.lf1 r)) := bY Tryz.func80 (by kernel_rfl) (fun _=>rfl) (by kernel_rfl)
def ajn (p_x:ah) (p_b0:aF) : Mo (aF) :=
 .say [.order [(true,0),(true,1),(true,2),(true,3),(true,5),(false,4),(false,6),(true,7),(true,8),(false,9)] (some 9) [0,1,2,3],.at_ 4 6,.frz 1,.frz 2,.frz 3] ok0 <|
 .cl (afM p_b0.aO p_x) fun r0 _ =>
 .ret ⟨[.kill 5,.mvn 4],[],[(6,5)],6⟩ (aF.mk r0 p_b0.dw p_b0.eG)
def ak1 (p_x:ah) (p_b0:aF) : Option (aF) := Mo.den (ajn p_x p_b0)
theorem afN (p_x:ah) (p_b0:aF) : FH (ak1 p_x p_b0) 44 [.ptr 0 0,.dat (ah.lf1 p_x)] [.box 97 (ag_ (aF.lf1 p_b0) [(8,.own 1),(10,.own 2),(11,.own 3),(12,.own 4)]),.row 54 82 (p_b0.aO.aQ.map ay.lf),.row 3 1 (p_b0.aO.fNext.map lfI),.row 3 1 (p_b0.aO.bn.map lfI),.row 63 9 (p_b0.dw.map ah.lf)] (fun _=>.tup []) (fun r=>[.box 97 (ag_ (aF.lf1 r) [(12,.own 5)]),.dead,.dead,.dead,.dead,.row 63 9 (r.dw.map ah.lf)]) := gW Tryz.func44 (by kernel_rfl) (fun _=>rfl) (by kernel_rfl)
def acW (p_x:ah) (p_ok:Bool) (p_index:Int) (p_b0:aF) : Mo (aF) :=
 .say [.order [(true,0),(true,1),(true,2),(true,3),(true,4),(true,5),(true,6),(true,7),(true,8),(true,9),(true,10),(true,11),(true,12),(true,13),(true,14),(true,15),(true,16),(true,17),(true,18),(true,19),(false,20),(false,21),(true,22),(true,23),(false,24)] (some 24) [4,6,7],.rows ((p_b0.dw ++ [ah.sOK (ah.mV (ah.jP (ah.jG (ah.sTo (ah.lD ah.z p_b0.aO.fID) p_x.dh) 4) p_b0.aO.bD) p_index) p_ok]).map ah.lf)] (ok1 (by simp [ah.aV] : (p_b0.dw ++ [ah.sOK (ah.mV (ah.jP (ah.jG (ah.sTo (ah.lD ah.z p_b0.aO.fID) p_x.dh) 4) p_b0.aO.bD) p_index) p_ok]).map ah.lf = (p_b0.dw.map ah.lf) ++ [(ah.lf1 (ah.sOK (ah.mV (ah.jP (ah.jG (ah.sTo (ah.lD ah.z p_b0.aO.fID) p_x.dh) 4) p_b0.aO.bD) p_index) p_ok))])) <|
 .grd ((p_b0.dw.length + [ah.sOK (ah.mV (ah.jP (ah.jG (ah.sTo (ah.lD ah.z p_b0.aO.fID) p_x.dh) 4) p_b0.aO.bD) p_index) p_ok].length) * 88 ≤ 140737488355328) fun h0 =>
 .say [] (ok1 (cp_ ah.lf h0)) <|
 .ret ⟨[.kill 5,.kill 6,.mvn 1,.mvn 2,.mvn 3,.mvn 7],[],[(8,5),(9,6),(10,7),(11,8)],9⟩ (aF.mk p_b0.aO (p_b0.dw ++ [ah.sOK (ah.mV (ah.jP (ah.jG (ah.sTo (ah.lD ah.z p_b0.aO.fID) p_x.dh) 4) p_b0.aO.bD) p_index) p_ok]) p_b0.eG)
def ajo (p_x:ah) (p_ok:Bool) (p_index:Int) (p_b0:aF) : Option (aF) := Mo.den (acW p_x p_ok p_index p_b0)
theorem KN (p_x:ah) (p_ok:Bool) (p_index:Int) (p_b0:aF) : FH (ajo p_x p_ok p_index p_b0) 81 [.ptr 0 0,.dat (ah.lf1 p_x),.b_ p_ok,.i_ p_index] [.box 97 (ag_ (aF.lf1 p_b0) [(8,.own 1),(10,.own 2),(11,.own 3),(12,.own 4)]),.row 54 82 (p_b0.aO.aQ.map ay.lf),.row 3 1 (p_b0.aO.fNext.map lfI),.row 3 1 (p_b0.aO.bn.map lfI),.row 63 9 (p_b0.dw.map ah.lf)] (fun _=>.tup []) (fun r=>[.box 97 (ag_ (aF.lf1 r) [(8,.own 5),(10,.own 6),(11,.own 7),(12,.own 8)]),.dead,.dead,.dead,.dead,.row 54 82 (r.aO.aQ.map ay.lf),.row 3 1 (r.aO.fNext.map lfI),.row 3 1 (r.aO.bn.map lfI),.row 63 9 (r.dw.map ah.lf)]) := gW Tryz.func81 (by kernel_rfl) (fun _=>rfl) (by kernel_rfl)
def IX (p_n:Int) (p_s0:List ay) : Mo (Bool) :=
 .ite (decide ((p_n:Int) < 1)) (fun c0 =>
 .say [.gd 4002 true] (ok1 c0) <|
 .rt [0,1,12] 1 (true)) fun c0 =>
 .say [.gd 4002 false,.num p_s0.length] (okc c0 (ok1 (ln_ p_s0 ay.lf))) <|
 .rt [0,1,12] 1 (decide (((p_s0.length:Int) : Int) < p_n))
def acX (p_n:Int) (p_s0:List ay) : Mo (Int) :=
 .jp Tryz.f53 1 [1,0,0] 9 [0,1] 1 (.normal) (fun r_=>⟨[(0,.own 0),(1,.i_ p_n),(12,.b_ r_)],[.row 54 82 (p_s0.map ay.lf)]⟩) ⟨[(0,.own 0),(1,.i_ p_n)],[.row 54 82 (p_s0.map ay.lf)]⟩ (IX p_n p_s0).den (jW (by kernel_rfl)) fun r0 _ =>
 .iB (r0) (.rt [0] 1 (0)) <|
 .ask (bM p_s0 (IntKind.wrap .i64 (p_n - 1))) fun x0 h0 =>
 .say [.row (ay.lf1 x0)] (okc (cu ay.aV h0) (ok1 ((aX ay.aV h0).2))) <|
 .rt [0] 1 (x0.bD)
def ajp (p_n:Int) (p_s0:List ay) : Option (Int) := Mo.den (acX p_n p_s0)
theorem afO (p_n:Int) (p_s0:List ay) : FH (ajp p_n p_s0) 53 [.own 0,.i_ p_n] [.row 54 82 (p_s0.map ay.lf)] (fun r=>.i_ r) (fun _=>[.row 54 82 (p_s0.map ay.lf)]) := gW Tryz.func53 (by kernel_rfl) (fun _=>rfl) (by kernel_rfl)
def acY (p_a:ay) (p_b:ay) : Mo (Bool) :=
 .iG 4005 (p_a.bD == p_b.bD) (.ret (bC 1) (p_a.fB == p_b.fB)) <|
 .ret (bC 1) (false)
def afP (p_a:ay) (p_b:ay) : Option (Bool) := Mo.den (acY p_a p_b)
theorem afQ (p_a:ay) (p_b:ay) : FV (afP p_a p_b) 164 [.dat (ay.lf1 p_a),.dat (ay.lf1 p_b)] (fun r=>.b_ r) := bY Tryz.func164 (by kernel_rfl) (fun _=>rfl) (by kernel_rfl)
def yj (p_b0:aF) (p_x:ah) : (Int) → Mo ((Int) ⊕ (Unit ⊕ (Int))) := fun (v0) =>
 .iB (decide ((v0:Int) < (p_x.aH.length:Int))) (.ask (bM p_x.aH v0) fun x0 h0 =>
 .say [.row (ay.lf1 x0),.num p_b0.aO.aQ.length] (okc (aX ay.aV h0) (ok1 (ln_ p_b0.aO.aQ ay.lf))) <|
 .iB (decide (((p_b0.aO.aQ.length:Int) : Int) ≤ (IntKind.wrap .i64 (p_x.aY + v0)))) (.ret ⟨[.kill 5],[0],[],6⟩ (.inr (.inl ()))) <|
 .ask (bM p_b0.aO.aQ (IntKind.wrap .i64 (p_x.aY + v0))) fun x1 h1 =>
 .say [] (okc (cu ay.aV h1) (ok1 ((aX ay.aV h1).2))) <|
 .ask (afP x0 x1) fun r0 h2 =>
 .say [.dP (.q 0 (.q 1 (.q 2 (.q 3 (.q 4 (.q 6 (.l 5 (.q 7 (.q 8 (.l 9 (.q 10 .fin))))))))))) (some 9) [] [.row (ay.lf1 x1),.res (.b_ r0)] [0,3,7,9,10,11,38] 7 [(0,.ptr 0 0),(3,.ptr 5 0),(7,.i_ (IntKind.wrap .i64 (p_x.aY + v0))),(9,.lf (.rows 82 (p_x.aH.map ay.lf))),(10,.i_ (p_x.aH.length:Int)),(11,.i_ v0),(38,.lf (.bool (!r0)))] [.box 97 (ag_ (aF.lf1 p_b0) [(8,.own 1),(10,.own 2),(11,.own 3),(12,.own 4)]),.row 54 82 (p_b0.aO.aQ.map ay.lf),.row 3 1 (p_b0.aO.fNext.map lfI),.row 3 1 (p_b0.aO.bn.map lfI),.row 63 9 (p_b0.dw.map ah.lf),.box 63 (.dat (ah.lf1 p_x)),.box 54 (.agg ((ay.lf1 x0).map AV.lf))]] (okc (afQ _ _ _ h2) (ok1 (rf_ ⟨[(0,.ptr 0 0),(3,.ptr 5 0),(7,.i_ (IntKind.wrap .i64 (p_x.aY + v0))),(9,.lf (.rows 82 (p_x.aH.map ay.lf))),(10,.i_ (p_x.aH.length:Int)),(11,.i_ v0),(38,.lf (.bool (!r0)))],[.box 97 (ag_ (aF.lf1 p_b0) [(8,.own 1),(10,.own 2),(11,.own 3),(12,.own 4)]),.row 54 82 (p_b0.aO.aQ.map ay.lf),.row 3 1 (p_b0.aO.fNext.map lfI),.row 3 1 (p_b0.aO.bn.map lfI),.row 63 9 (p_b0.dw.map ah.lf),.box 63 (.dat (ah.lf1 p_x)),.box 54 (.agg ((ay.lf1 x0).map AV.lf))]⟩))) <|
 .iB (!r0) (.ret ⟨[.kill 5],[4],[],6⟩ (.inr (.inr ((IntKind.wrap .i64 (p_x.aY + v0)))))) <|
 .rt [0,3,9,10,11] 6 (.inl (IntKind.wrap .i64 (v0 + 1)))) <|
 .ret ⟨[.kill 5],[0],[],6⟩ (.inr (.inl ()))
def U1 (p_b0:aF) (p_x:ah) (v0:Int) : Option (Unit ⊕ (Int)) := bK (fun v_=>(yj p_b0 p_x v_).den) FU (v0)
def Ru (p_b0:aF) (p_x:ah) : (Int) → St := fun (v0)=>⟨[(0,.ptr 0 0),(3,.ptr 5 0),(9,.lf (.rows 82 (p_x.aH.map ay.lf))),(10,.i_ (p_x.aH.length:Int)),(11,.i_ v0)],[.box 97 (ag_ (aF.lf1 p_b0) [(8,.own 1),(10,.own 2),(11,.own 3),(12,.own 4)]),.row 54 82 (p_b0.aO.aQ.map ay.lf),.row 3 1 (p_b0.aO.fNext.map lfI),.row 3 1 (p_b0.aO.bn.map lfI),.row 63 9 (p_b0.dw.map ah.lf),.box 63 (.dat (ah.lf1 p_x))]⟩
def yt (r_:Unit ⊕ (Int)) : Exit := match r_ with
 | .inl o_=>.exit 0
 | .inr (o_)=>.ret
def yu (p_b0:aF) (r_:Unit ⊕ (Int)) : St := match r_ with
 | .inl o_=>⟨[(0,.ptr 0 0)],[.box 97 (ag_ (aF.lf1 p_b0) [(8,.own 1),(10,.own 2),(11,.own 3),(12,.own 4)]),.row 54 82 (p_b0.aO.aQ.map ay.lf),.row 3 1 (p_b0.aO.fNext.map lfI),.row 3 1 (p_b0.aO.bn.map lfI),.row 63 9 (p_b0.dw.map ah.lf),.dead]⟩
 | .inr (o_)=>⟨[(4,.i_ o_)],[.box 97 (ag_ (aF.lf1 p_b0) [(8,.own 1),(10,.own 2),(11,.own 3),(12,.own 4)]),.row 54 82 (p_b0.aO.aQ.map ay.lf),.row 3 1 (p_b0.aO.fNext.map lfI),.row 3 1 (p_b0.aO.bn.map lfI),.row 63 9 (p_b0.dw.map ah.lf),.dead]⟩
theorem Rw {p_b0:aF} {p_x:ah} {v0:Int} {r_:Unit ⊕ (Int)} (h:U1 p_b0 p_x v0 = some r_) : fQ Tryz.f119 5 [1,0,1,0] (yt r_) (yu p_b0 r_) (Ru p_b0 p_x (v0)) :=
 dO dK (body := (Code.sub (bodyC Tryz.f119) [1,0,1,0,0])) (by kernel_rfl) (yj p_b0 p_x) (Ru p_b0 p_x) yt (yu p_b0) (fun r_=>by rcases r_ with _ | _ <;> rfl) (fun v_=>by kernel_rfl) h
def ahu (p_x:ah) (p_b0:aF) : Mo (Int) :=
 .say [.num p_x.aH.length] (ok1 (ln_ p_x.aH ay.lf)) <|
 .eP (U1 p_b0 p_x 0) (fun o0 h0 =>
 .say [.pt_ 0 [0,3,9,10,11] 6 (yt (.inl o0)) (yu p_b0 (.inl o0)),.num p_b0.aO.aQ.length] (okc (Rw h0) (ok1 (ln_ p_b0.aO.aQ ay.lf))) <|
 .ret ⟨[.mvn 1,.mvn 2,.mvn 3,.mvn 4],[0],[(6,5),(7,6),(8,7),(9,8)],9⟩ ((p_b0.aO.aQ.length:Int))) fun o1 h0 =>
 .say [.pt_ 0 [0,3,9,10,11] 6 (yt (.inr (o1))) (yu p_b0 (.inr (o1)))] (ok1 (Rw h0)) <|
 .ret ⟨[.mvn 1,.mvn 2,.mvn 3,.mvn 4],[0],[(6,5),(7,6),(8,7),(9,8)],9⟩ (o1)
def Q32 (p_x:ah) (p_b0:aF) : Option (Int) := Mo.den (ahu p_x p_b0)
theorem KO (p_x:ah) (p_b0:aF) : FH (Q32 p_x p_b0) 119 [.ptr 0 0,.dat (ah.lf1 p_x)] [.box 97 (ag_ (aF.lf1 p_b0) [(8,.own 1),(10,.own 2),(11,.own 3),(12,.own 4)]),.row 54 82 (p_b0.aO.aQ.map ay.lf),.row 3 1 (p_b0.aO.fNext.map lfI),.row 3 1 (p_b0.aO.bn.map lfI),.row 63 9 (p_b0.dw.map ah.lf)] (fun r=>.i_ r) (fun _=>[.box 97 (ag_ (aF.lf1 p_b0) [(8,.own 5),(10,.own 6),(11,.own 7),(12,.own 8)]),.dead,.dead,.dead,.dead,.row 54 82 (p_b0.aO.aQ.map ay.lf),.row 3 1 (p_b0.aO.fNext.map lfI),.row 3 1 (p_b0.aO.bn.map lfI),.row 63 9 (p_b0.dw.map ah.lf)]) := gW Tryz.func119 (by kernel_rfl) (fun _=>rfl) (by kernel_rfl)
def IY (p_b0:aF) (p_x:ah) : Mo (Bool) :=
 .ite (decide ((p_x.aY:Int) < 0)) (fun c0 =>
 .say [.order [(true,0),(true,1),(true,2),(true,3),(true,4),(true,5),(true,6),(true,7),(true,8),(true,9),(false,10),(true,11),(true,12),(true,13),(true,14),(true,15),(true,16),(true,17),(true,18),(true,19),(true,21),(true,22),(false,20),(true,23),(true,24)] none [],.gd 6003 true] (ok1 c0) <|
 .rt [0,3,5,33] 6 (true)) fun c0 =>
 .say [] (okc c0 (ok1 (ln_ p_b0.aO.aQ ay.lf))) <|
 .ite (decide (((p_b0.aO.aQ.length:Int) : Int) < p_x.aY)) (fun c1 =>
 .say [.order [(true,0),(true,1),(true,2),(true,3),(true,4),(true,5),(true,6),(true,7),(true,8),(true,9),(false,10),(true,11),(true,12),(true,13),(true,14),(true,15),(true,16),(true,17),(true,18),(true,19),(true,21),(true,22),(false,20),(true,23),(true,24)] none [],.gd 6003 false,.num p_b0.aO.aQ.length,.gd 6013 true] (ok1 c1) <|
 .rt [0,3,5,33] 6 (true)) fun c1 =>
 .say [.order [(true,0),(true,1),(true,2),(true,3),(true,4),(true,5),(true,6),(true,7),(true,8),(true,9),(false,10),(true,11),(true,12),(true,13),(true,14),(true,15),(true,16),(true,17),(true,18),(true,19),(true,21),(true,22),(false,20),(true,23),(true,24)] none [1],.gd 6003 false,.num p_b0.aO.aQ.length,.gd 6013 false] (ok1 c1) <|
 .cH [1] (afO p_x.aY p_b0.aO.aQ) fun r0 _ =>
 .rt [0,3,5,33] 6 (r0 != p_x.ku)
def acZ (p_x:ah) (p_b0:aF) : Mo (Bool) :=
 .jp Tryz.f82 5 [1,1,0,0] 11 [0,3,5] 6 (.normal) (fun r_=>⟨[(0,.ptr 0 0),(3,.ptr 5 0),(5,.ptr 0 0),(33,.b_ r_)],[.box 97 (ag_ (aF.lf1 p_b0) [(8,.own 1),(10,.own 2),(11,.own 3),(12,.own 4)]),.row 54 82 (p_b0.aO.aQ.map ay.lf),.row 3 1 (p_b0.aO.fNext.map lfI),.row 3 1 (p_b0.aO.bn.map lfI),.row 63 9 (p_b0.dw.map ah.lf),.box 63 (.dat (ah.lf1 p_x))]⟩) ⟨[(0,.ptr 0 0),(3,.ptr 5 0),(5,.ptr 0 0)],[.box 97 (ag_ (aF.lf1 p_b0) [(8,.own 1),(10,.own 2),(11,.own 3),(12,.own 4)]),.row 54 82 (p_b0.aO.aQ.map ay.lf),.row 3 1 (p_b0.aO.fNext.map lfI),.row 3 1 (p_b0.aO.bn.map lfI),.row 63 9 (p_b0.dw.map ah.lf),.box 63 (.dat (ah.lf1 p_x))]⟩ (IY p_b0 p_x).den (jW (by kernel_rfl)) fun r0 _ =>
 .iB (r0) (.ret ⟨[.kill 5,.mvn 1,.mvn 2,.mvn 3,.mvn 4],[0],[(6,5),(7,6),(8,7),(9,8)],9⟩ (true)) <|
 .ask (Q32 p_x p_b0) fun r1 h0 =>
 .say [] (ok1 (KO _ _ _ h0)) <|
 .ite (decide ((r1:Int) < p_b0.aO.au)) (fun c0 =>
 .say [.dP (.q 0 (.q 1 (.q 3 (.q 4 (.q 5 (.alt 2 (.l 6 (.q 7 (.q 8 (.q 9 (.q 11 (.alt 10 (.l 12 (.q 13 (.q 14 (.q 15 (.q 16 (.q 17 .fin)))))) (.l 12 (.q 13 (.l 10 (.q 14 (.q 15 (.q 16 (.q 17 .fin))))))))))))) (.l 6 (.l 2 (.q 7 (.q 8 (.q 9 (.q 11 (.alt 10 (.l 12 (.q 13 (.q 14 (.q 15 (.q 16 (.q 17 .fin)))))) (.l 12 (.q 13 (.l 10 (.q 14 (.q 15 (.q 16 (.q 17 .fin)))))))))))))))))))) none [0,1,2,3,4] [.both [.jc [0,1,2,3,4] (.i_ r1) [.box 97 (ag_ (aF.lf1 p_b0) [(8,.own 5),(10,.own 6),(11,.own 7),(12,.own 8)]),.dead,.dead,.dead,.dead,.row 54 82 (p_b0.aO.aQ.map ay.lf),.row 3 1 (p_b0.aO.fNext.map lfI),.row 3 1 (p_b0.aO.bn.map lfI),.row 63 9 (p_b0.dw.map ah.lf)],.gd 10008 true,.both [] []] [.jc [0,1,2,3,4] (.i_ r1) [.box 97 (ag_ (aF.lf1 p_b0) [(8,.own 5),(10,.own 6),(11,.own 7),(12,.own 8)]),.dead,.dead,.dead,.dead,.row 54 82 (p_b0.aO.aQ.map ay.lf),.row 3 1 (p_b0.aO.fNext.map lfI),.row 3 1 (p_b0.aO.bn.map lfI),.row 63 9 (p_b0.dw.map ah.lf)],.gd 10008 true,.both [] []]] [4] 10 [(4,.b_ true)] [.box 97 (ag_ (aF.lf1 p_b0) [(8,.own 6),(10,.own 7),(11,.own 8),(12,.own 9)]),.dead,.dead,.dead,.dead,.box 63 (.dat (ah.lf1 p_x)),.row 54 82 (p_b0.aO.aQ.map ay.lf),.row 3 1 (p_b0.aO.fNext.map lfI),.row 3 1 (p_b0.aO.bn.map lfI),.row 63 9 (p_b0.dw.map ah.lf)]] (okc c0 (okc (rf_ ⟨[(4,.b_ true)],[.box 97 (ag_ (aF.lf1 p_b0) [(8,.own 6),(10,.own 7),(11,.own 8),(12,.own 9)]),.dead,.dead,.dead,.dead,.box 63 (.dat (ah.lf1 p_x)),.row 54 82 (p_b0.aO.aQ.map ay.lf),.row 3 1 (p_b0.aO.fNext.map lfI),.row 3 1 (p_b0.aO.bn.map lfI),.row 63 9 (p_b0.dw.map ah.lf)]⟩) (okc (rf_ ⟨[(4,.b_ true)],[.box 97 (ag_ (aF.lf1 p_b0) [(8,.own 6),(10,.own 7),(11,.own 8),(12,.own 9)]),.dead,.dead,.dead,.dead,.box 63 (.dat (ah.lf1 p_x)),.row 54 82 (p_b0.aO.aQ.map ay.lf),.row 3 1 (p_b0.aO.fNext.map lfI),.row 3 1 (p_b0.aO.bn.map lfI),.row 63 9 (p_b0.dw.map ah.lf)]⟩) (okc (KO _ _ _ h0) (okc c0 (okc (rf_ ⟨[(4,.b_ true)],[.box 97 (ag_ (aF.lf1 p_b0) [(8,.own 6),(10,.own 7),(11,.own 8),(12,.own 9)]),.dead,.dead,.dead,.dead,.box 63 (.dat (ah.lf1 p_x)),.row 54 82 (p_b0.aO.aQ.map ay.lf),.row 3 1 (p_b0.aO.fNext.map lfI),.row 3 1 (p_b0.aO.bn.map lfI),.row 63 9 (p_b0.dw.map ah.lf)]⟩) (ok1 (rf_ ⟨[(4,.b_ true)],[.box 97 (ag_ (aF.lf1 p_b0) [(8,.own 6),(10,.own 7),(11,.own 8),(12,.own 9)]),.dead,.dead,.dead,.dead,.box 63 (.dat (ah.lf1 p_x)),.row 54 82 (p_b0.aO.aQ.map ay.lf),.row 3 1 (p_b0.aO.fNext.map lfI),.row 3 1 (p_b0.aO.bn.map lfI),.row 63 9 (p_b0.dw.map ah.lf)]⟩)))))))) <|
 .ret ⟨[.kill 5,.mvn 6,.mvn 7,.mvn 8,.mvn 9],[0],[(10,5),(11,6),(12,7),(13,8)],9⟩ (true)) fun c0 =>
 .say [.dP (.q 0 (.q 1 (.q 3 (.q 4 (.q 5 (.alt 2 (.l 6 (.q 7 (.q 8 (.q 9 (.q 11 (.alt 10 (.l 12 (.q 13 (.q 14 (.q 15 (.q 16 (.q 17 .fin)))))) (.l 12 (.q 13 (.l 10 (.q 14 (.q 15 (.q 16 (.q 17 .fin))))))))))))) (.l 6 (.l 2 (.q 7 (.q 8 (.q 9 (.q 11 (.alt 10 (.l 12 (.q 13 (.q 14 (.q 15 (.q 16 (.q 17 .fin)))))) (.l 12 (.q 13 (.l 10 (.q 14 (.q 15 (.q 16 (.q 17 .fin)))))))))))))))))))) none [0,1,2,3,4] [.both [.jc [0,1,2,3,4] (.i_ r1) [.box 97 (ag_ (aF.lf1 p_b0) [(8,.own 5),(10,.own 6),(11,.own 7),(12,.own 8)]),.dead,.dead,.dead,.dead,.row 54 82 (p_b0.aO.aQ.map ay.lf),.row 3 1 (p_b0.aO.fNext.map lfI),.row 3 1 (p_b0.aO.bn.map lfI),.row 63 9 (p_b0.dw.map ah.lf)],.gd 10008 false,.both [.num p_x.aH.length] [.num p_x.aH.length]] [.jc [0,1,2,3,4] (.i_ r1) [.box 97 (ag_ (aF.lf1 p_b0) [(8,.own 5),(10,.own 6),(11,.own 7),(12,.own 8)]),.dead,.dead,.dead,.dead,.row 54 82 (p_b0.aO.aQ.map ay.lf),.row 3 1 (p_b0.aO.fNext.map lfI),.row 3 1 (p_b0.aO.bn.map lfI),.row 63 9 (p_b0.dw.map ah.lf)],.gd 10008 false,.both [.num p_x.aH.length] [.num p_x.aH.length]]] [4] 10 [(4,.lf (.bool (decide ((16384:Int) < (IntKind.wrap .i64 (p_x.aY + (p_x.aH.length:Int)))))))] [.box 97 (ag_ (aF.lf1 p_b0) [(8,.own 6),(10,.own 7),(11,.own 8),(12,.own 9)]),.dead,.dead,.dead,.dead,.box 63 (.dat (ah.lf1 p_x)),.row 54 82 (p_b0.aO.aQ.map ay.lf),.row 3 1 (p_b0.aO.fNext.map lfI),.row 3 1 (p_b0.aO.bn.map lfI),.row 63 9 (p_b0.dw.map ah.lf)]] (okc c0 (okc (ln_ p_x.aH ay.lf) (okc (rf_ ⟨[(4,.lf (.bool (decide ((16384:Int) < (IntKind.wrap .i64 (p_x.aY + (p_x.aH.length:Int)))))))],[.box 97 (ag_ (aF.lf1 p_b0) [(8,.own 6),(10,.own 7),(11,.own 8),(12,.own 9)]),.dead,.dead,.dead,.dead,.box 63 (.dat (ah.lf1 p_x)),.row 54 82 (p_b0.aO.aQ.map ay.lf),.row 3 1 (p_b0.aO.fNext.map lfI),.row 3 1 (p_b0.aO.bn.map lfI),.row 63 9 (p_b0.dw.map ah.lf)]⟩) (okc (ln_ p_x.aH ay.lf) (okc (rf_ ⟨[(4,.lf (.bool (decide ((16384:Int) < (IntKind.wrap .i64 (p_x.aY + (p_x.aH.length:Int)))))))],[.box 97 (ag_ (aF.lf1 p_b0) [(8,.own 6),(10,.own 7),(11,.own 8),(12,.own 9)]),.dead,.dead,.dead,.dead,.box 63 (.dat (ah.lf1 p_x)),.row 54 82 (p_b0.aO.aQ.map ay.lf),.row 3 1 (p_b0.aO.fNext.map lfI),.row 3 1 (p_b0.aO.bn.map lfI),.row 63 9 (p_b0.dw.map ah.lf)]⟩) (okc (KO _ _ _ h0) (okc c0 (okc (ln_ p_x.aH ay.lf) (okc (rf_ ⟨[(4,.lf (.bool (decide ((16384:Int) < (IntKind.wrap .i64 (p_x.aY + (p_x.aH.length:Int)))))))],[.box 97 (ag_ (aF.lf1 p_b0) [(8,.own 6),(10,.own 7),(11,.own 8),(12,.own 9)]),.dead,.dead,.dead,.dead,.box 63 (.dat (ah.lf1 p_x)),.row 54 82 (p_b0.aO.aQ.map ay.lf),.row 3 1 (p_b0.aO.fNext.map lfI),.row 3 1 (p_b0.aO.bn.map lfI),.row 63 9 (p_b0.dw.map ah.lf)]⟩) (okc (ln_ p_x.aH ay.lf) (ok1 (rf_ ⟨[(4,.lf (.bool (decide ((16384:Int) < (IntKind.wrap .i64 (p_x.aY + (p_x.aH.length:Int)))))))],[.box 97 (ag_ (aF.lf1 p_b0) [(8,.own 6),(10,.own 7),(11,.own 8),(12,.own 9)]),.dead,.dead,.dead,.dead,.box 63 (.dat (ah.lf1 p_x)),.row 54 82 (p_b0.aO.aQ.map ay.lf),.row 3 1 (p_b0.aO.fNext.map lfI),.row 3 1 (p_b0.aO.bn.map lfI),.row 63 9 (p_b0.dw.map ah.lf)]⟩)))))))))))) <|
 .ret ⟨[.kill 5,.mvn 6,.mvn 7,.mvn 8,.mvn 9],[0],[(10,5),(11,6),(12,7),(13,8)],9⟩ (decide ((16384:Int) < (IntKind.wrap .i64 (p_x.aY + (p_x.aH.length:Int)))))
def ajq (p_x:ah) (p_b0:aF) : Option (Bool) := Mo.den (acZ p_x p_b0)
theorem afR (p_x:ah) (p_b0:aF) : FH (ajq p_x p_b0) 82 [.ptr 0 0,.dat (ah.lf1 p_x)] [.box 97 (ag_ (aF.lf1 p_b0) [(8,.own 1),(10,.own 2),(11,.own 3),(12,.own 4)]),.row 54 82 (p_b0.aO.aQ.map ay.lf),.row 3 1 (p_b0.aO.fNext.map lfI),.row 3 1 (p_b0.aO.bn.map lfI),.row 63 9 (p_b0.dw.map ah.lf)] (fun r=>.b_ r) (fun _=>[.box 97 (ag_ (aF.lf1 p_b0) [(8,.own 5),(10,.own 6),(11,.own 7),(12,.own 8)]),.dead,.dead,.dead,.dead,.row 54 82 (p_b0.aO.aQ.map ay.lf),.row 3 1 (p_b0.aO.fNext.map lfI),.row 3 1 (p_b0.aO.bn.map lfI),.row 63 9 (p_b0.dw.map ah.lf)]) := gW Tryz.func82 (by kernel_rfl) (fun _=>rfl) (by kernel_rfl)
structure zW where
 m1:(p_v:ak) → Option (ak)
 ok1:∀ p_v,FV (m1 p_v) 186 [.dat (ak.lf1 p_v)] (fun r=>.dat (ak.lf1 r))
 m2:(p_l:List ak) → Option (List ak)
 ok2:∀ p_l,FH (m2 p_l) 228 [.lf (.rows 5 (p_l.map ak.lf)),.raw (.func (.func 186) #[] #[])] [] (fun r=>.lf (.rows 5 (r.map ak.lf))) (fun _=>[])
 m3:(p_l:List aS) → Option (List aS)
 ok3:∀ p_l,FH (m3 p_l) 229 [.lf (.rows 6 (p_l.map aS.lf)),.raw (.func (.func 230) #[] #[])] [] (fun r=>.lf (.rows 6 (r.map aS.lf))) (fun _=>[])
 m4:(p_f:aS) → Option (aS)
 ok4:∀ p_f,FV (m4 p_f) 230 [.dat (aS.lf1 p_f)] (fun r=>.dat (aS.lf1 r))
def ac0 (R_:zW) (p_v:ak) : Mo (ak) :=
 .cH [] (R_.ok2 p_v.bV) fun r0 _ =>
 .cH [] (R_.ok3 p_v.bU) fun r1 _ =>
 .ret (bC 1) (ak.mk p_v.aU p_v.jL p_v.fText r0 r1)
theorem afS (R_:zW) (p_v:ak) : FV (Mo.den (ac0 R_ p_v)) 186 [.dat (ak.lf1 p_v)] (fun r=>.dat (ak.lf1 r)) := bY Tryz.func186 (by kernel_rfl) (fun _=>rfl) (by kernel_rfl)
def Rx (R_:zW) (p_l:List ak) : (Int × (List ak)) → Mo ((Int × (List ak)) ⊕ ((List ak))) := fun (v0,l0) =>
 .iB (decide ((v0:Int) < (p_l.length:Int))) (.ask (bM p_l v0) fun x0 h0 =>
 .say [.row (ak.lf1 x0)] (ok1 (aX ak.aV h0)) <|
 .cl (R_.ok1 x0) fun r0 _ =>
 .ask (bM l0 v0) fun x1 h1 =>
 .say [.row (ak.lf1 x1),.rows ((l0.set v0.toNat r0).map ak.lf)] (okc (cu ak.aV h1) (okc (st_ ak.aV l0 v0.toNat r0) (ok1 ((aX ak.aV h1).2)))) <|
 .rt [1,5,14,15,16] 1 (.inl (IntKind.wrap .i64 (v0 + 1),l0.set v0.toNat r0))) <|
 .rt [5] 1 (.inr (l0))
def ac1 (R_:zW) (p_l:List ak) (v0:Int) (l0:List ak) : Option (((List ak))) := bK (fun v_=>(Rx R_ p_l v_).den) FU (v0,l0)
def ac2 (R_:zW) (p_l:List ak) : Mo (List ak) :=
 .say [.num p_l.length] (ok1 (ln_ p_l ak.lf)) <|
 .ite ((p_l.length:Int) == 0) (fun c0 =>
 .say [.br true] (ok1 c0) <|
 .ret ⟨[.nil 0 5,.tod 0],[0],[],0⟩ ([])) fun c0 =>
 .say [.br false,.num p_l.length,.rows ((List.replicate (p_l.length:Int).toNat (ak.mk 0 0 ⟨#[]⟩ [] [])).map ak.lf),.num p_l.length] (okc c0 (okc (ln_ p_l ak.lf) (ok1 (rp_ ak.aV (p_l.length:Int).toNat (ak.mk 0 0 ⟨#[]⟩ [] []))))) <|
 .grd ((0:Int) ≤ (p_l.length:Int) ∧ 80 * (p_l.length:Int).toNat ≤ 281474976710656 ∧ (p_l.length:Int).toNat ≤ maxLen) fun h0 =>
 .say [] (okc (mk_ (p_l.length:Int) h0) (ok1 (ln_ p_l ak.lf))) <|
 .lp Tryz.f228 0 [1,1,1,0,1,0] 0 [1,5,14,15,16] 1 (.exit 0) (fun r_=>⟨[(5,.own 0)],[.row 29 5 (r_.map ak.lf)]⟩) (ac1 R_ p_l 0 (List.replicate (p_l.length:Int).toNat (ak.mk 0 0 ⟨#[]⟩ [] []))) (lW (fun (v0,l0)=>⟨[(1,.raw (.func (.func 186) #[] #[])),(5,.own 0),(14,.lf (.rows 5 (p_l.map ak.lf))),(15,.i_ (p_l.length:Int)),(16,.i_ v0)],[.row 29 5 (l0.map ak.lf)]⟩) (by kernel_rfl) rfl fun v_=>by kernel_rfl) fun r0 _ =>
 .ret ⟨[.frz 0],[0],[],0⟩ (r0)
theorem afT (R_:zW) (p_l:List ak) : FH (Mo.den (ac2 R_ p_l)) 228 [.lf (.rows 5 (p_l.map ak.lf)),.raw (.func (.func 186) #[] #[])] [] (fun r=>.lf (.rows 5 (r.map ak.lf))) (fun _=>[]) := gW Tryz.func228 (by kernel_rfl) (fun _=>rfl) (by kernel_rfl)
def Ry (R_:zW) (p_l:List aS) : (Int × (List aS)) → Mo ((Int × (List aS)) ⊕ ((List aS))) := fun (v0,l0) =>
 .iB (decide ((v0:Int) < (p_l.length:Int))) (.ask (bM p_l v0) fun x0 h0 =>
 .say [.row (aS.lf1 x0)] (ok1 (aX aS.aV h0)) <|
 .cl (R_.ok4 x0) fun r0 _ =>
 .ask (bM l0 v0) fun x1 h1 =>
 .say [.row (aS.lf1 x1),.rows ((l0.set v0.toNat r0).map aS.lf)] (okc (cu aS.aV h1) (okc (st_ aS.aV l0 v0.toNat r0) (ok1 ((aX aS.aV h1).2)))) <|
 .rt [1,5,14,15,16] 1 (.inl (IntKind.wrap .i64 (v0 + 1),l0.set v0.toNat r0))) <|
 .rt [5] 1 (.inr (l0))
def ac3 (R_:zW) (p_l:List aS) (v0:Int) (l0:List aS) : Option (((List aS))) := bK (fun v_=>(Ry R_ p_l v_).den) FU (v0,l0)
def ac4 (R_:zW) (p_l:List aS) : Mo (List aS) :=
 .say [.num p_l.length] (ok1 (ln_ p_l aS.lf)) <|
 .ite ((p_l.length:Int) == 0) (fun c0 =>
 .say [.br true] (ok1 c0) <|
 .ret ⟨[.nil 0 6,.tod 0],[0],[],0⟩ ([])) fun c0 =>
 .say [.br false,.num p_l.length,.rows ((List.replicate (p_l.length:Int).toNat (aS.mk ⟨#[]⟩ (ak.mk 0 0 ⟨#[]⟩ [] []))).map aS.lf),.num p_l.length] (okc c0 (okc (ln_ p_l aS.lf) (ok1 (rp_ aS.aV (p_l.length:Int).toNat (aS.mk ⟨#[]⟩ (ak.mk 0 0 ⟨#[]⟩ [] [])))))) <|
 .grd ((0:Int) ≤ (p_l.length:Int) ∧ 96 * (p_l.length:Int).toNat ≤ 281474976710656 ∧ (p_l.length:Int).toNat ≤ maxLen) fun h0 =>
 .say [] (okc (mk_ (p_l.length:Int) h0) (ok1 (ln_ p_l aS.lf))) <|
 .lp Tryz.f229 0 [1,1,1,0,1,0] 0 [1,5,14,15,16] 1 (.exit 0) (fun r_=>⟨[(5,.own 0)],[.row 174 6 (r_.map aS.lf)]⟩) (ac3 R_ p_l 0 (List.replicate (p_l.length:Int).toNat (aS.mk ⟨#[]⟩ (ak.mk 0 0 ⟨#[]⟩ [] [])))) (lW (fun (v0,l0)=>⟨[(1,.raw (.func (.func 230) #[] #[])),(5,.own 0),(14,.lf (.rows 6 (p_l.map aS.lf))),(15,.i_ (p_l.length:Int)),(16,.i_ v0)],[.row 174 6 (l0.map aS.lf)]⟩) (by kernel_rfl) rfl fun v_=>by kernel_rfl) fun r0 _ =>
 .ret ⟨[.frz 0],[0],[],0⟩ (r0)
theorem afU (R_:zW) (p_l:List aS) : FH (Mo.den (ac4 R_ p_l)) 229 [.lf (.rows 6 (p_l.map aS.lf)),.raw (.func (.func 230) #[] #[])] [] (fun r=>.lf (.rows 6 (r.map aS.lf))) (fun _=>[]) := gW Tryz.func229 (by kernel_rfl) (fun _=>rfl) (by kernel_rfl)
def U2 (R_:zW) (p_f:aS) : Mo (aS) :=
 .say [.order [(true,0),(true,1),(true,2),(true,3),(false,4),(true,5),(false,6)] (some 6) []] ok0 <|
 .cl (R_.ok1 p_f.fValue) fun r0 _ =>
 .ret (bC 1) (aS.mk p_f.fName r0)
theorem ac5 (R_:zW) (p_f:aS) : FV (Mo.den (U2 R_ p_f)) 230 [.dat (aS.lf1 p_f)] (fun r=>.dat (aS.lf1 r)) := bY Tryz.func230 (by kernel_rfl) (fun _=>rfl) (by kernel_rfl)
def iE:Nat → zW
 | 0=>{ m1 := fun p_v=>none,ok1 := fun _ _ h=>(by cases h),m2 := fun p_l=>none,ok2 := fun _ _ h=>(by cases h),m3 := fun p_l=>none,ok3 := fun _ _ h=>(by cases h),m4 := fun p_f=>none,ok4 := fun _ _ h=>(by cases h) }
 | n_ + 1=>{ m1 := fun p_v=>Mo.den (ac0 (iE n_) p_v),ok1 := fun p_v r h=>afS (iE n_) p_v r h,m2 := fun p_l=>Mo.den (ac2 (iE n_) p_l),ok2 := fun p_l r h=>afT (iE n_) p_l r h,m3 := fun p_l=>Mo.den (ac4 (iE n_) p_l),ok3 := fun p_l r h=>afU (iE n_) p_l r h,m4 := fun p_f=>Mo.den (U2 (iE n_) p_f),ok4 := ac5 (iE n_) }
def Q88 (p_v:ak) : Option (ak) := (iE FU).m1 p_v
theorem uq (p_v:ak) : FV (Q88 p_v) 186 [.dat (ak.lf1 p_v)] (fun r=>.dat (ak.lf1 r)) := (iE FU).ok1 p_v
def Q64 (p_l:List ak) : Option (List ak) := (iE FU).m2 p_l
theorem ac6 (p_l:List ak) : FH (Q64 p_l) 228 [.lf (.rows 5 (p_l.map ak.lf)),.raw (.func (.func 186) #[] #[])] [] (fun r=>.lf (.rows 5 (r.map ak.lf))) (fun _=>[]) := (iE FU).ok2 p_l
def ac7 (p_l:List ByteArray) : Mo (List ByteArray) :=
 .say [.rows (p_l.map lfS),.at_ 0 0,.frz 0] (ok1 (by simp [lfS] : p_l.map lfS = [] ++ (p_l.map lfS))) <|
 .grd ((([] : List ByteArray).length + p_l.length) * 16 ≤ 140737488355328) fun h0 =>
 .say [] (ok1 (cq_ lfS h0)) <|
 .ret (bC 1) (p_l)
def ajr (p_l:List ByteArray) : Option (List ByteArray) := Mo.den (ac7 p_l)
theorem yw (p_l:List ByteArray) : FV (ajr p_l) 282 [.lf (.rows 1 (p_l.map lfS))] (fun r=>.lf (.rows 1 (r.map lfS))) := bY Tryz.func282 (by kernel_rfl) (fun _=>rfl) (by kernel_rfl)
def ac8 (p_o:bf) : Mo (bf) :=
 .cl (yw p_o.cZ) fun r0 _ =>
 .ret (bC 1) (bf.mk r0 p_o.Gp)
def afV (p_o:bf) : Option (bf) := Mo.den (ac8 p_o)
theorem afW (p_o:bf) : FV (afV p_o) 234 [.dat (bf.lf1 p_o)] (fun r=>.dat (bf.lf1 r)) := bY Tryz.func234 (by kernel_rfl) (fun _=>rfl) (by kernel_rfl)
def Rz (p_l:List bf) : (Int × (List bf)) → Mo ((Int × (List bf)) ⊕ ((List bf))) := fun (v0,l0) =>
 .iB (decide ((v0:Int) < (p_l.length:Int))) (.ask (bM p_l v0) fun x0 h0 =>
 .say [.row (bf.lf1 x0)] (ok1 (aX bf.aV h0)) <|
 .cl (afW x0) fun r0 _ =>
 .ask (bM l0 v0) fun x1 h1 =>
 .say [.row (bf.lf1 x1),.rows ((l0.set v0.toNat r0).map bf.lf)] (okc (cu bf.aV h1) (okc (st_ bf.aV l0 v0.toNat r0) (ok1 ((aX bf.aV h1).2)))) <|
 .rt [1,5,14,15,16] 1 (.inl (IntKind.wrap .i64 (v0 + 1),l0.set v0.toNat r0))) <|
 .rt [5] 1 (.inr (l0))
def ac9 (p_l:List bf) (v0:Int) (l0:List bf) : Option (((List bf))) := bK (fun v_=>(Rz p_l v_).den) FU (v0,l0)
def ahv (p_l:List bf) : Mo (List bf) :=
 .say [.num p_l.length] (ok1 (ln_ p_l bf.lf)) <|
 .ite ((p_l.length:Int) == 0) (fun c0 =>
 .say [.br true] (okc c0 (ok1 (by simp [bf.aV] : (([] : List bf).map bf.lf) = []))) <|
 .ret ⟨[.Fb 0 152 2,.kJ 0 (([] : List bf).map bf.lf),.mvn 0],[0],[(1,0)],1⟩ (([] : List bf))) fun c0 =>
 .say [.br false,.num p_l.length,.rows ((List.replicate (p_l.length:Int).toNat (bf.mk [] false)).map bf.lf),.num p_l.length] (okc c0 (okc (ln_ p_l bf.lf) (ok1 (rp_ bf.aV (p_l.length:Int).toNat (bf.mk [] false))))) <|
 .grd ((0:Int) ≤ (p_l.length:Int) ∧ 32 * (p_l.length:Int).toNat ≤ 281474976710656 ∧ (p_l.length:Int).toNat ≤ maxLen) fun h0 =>
 .say [] (okc (mk_ (p_l.length:Int) h0) (ok1 (ln_ p_l bf.lf))) <|
 .lp Tryz.f233 0 [1,1,1,0,1,0] 0 [1,5,14,15,16] 1 (.exit 0) (fun r_=>⟨[(5,.own 0)],[.row 152 2 (r_.map bf.lf)]⟩) (ac9 p_l 0 (List.replicate (p_l.length:Int).toNat (bf.mk [] false))) (lW (fun (v0,l0)=>⟨[(1,.raw (.func (.func 234) #[] #[])),(5,.own 0),(14,.lf (.rows 2 (p_l.map bf.lf))),(15,.i_ (p_l.length:Int)),(16,.i_ v0)],[.row 152 2 (l0.map bf.lf)]⟩) (by kernel_rfl) rfl fun v_=>by kernel_rfl) fun r0 _ =>
 .ret ⟨[.mvn 0],[0],[(1,0)],1⟩ (r0)
def Q81 (p_l:List bf) : Option (List bf) := Mo.den (ahv p_l)
theorem ajs (p_l:List bf) : FH (Q81 p_l) 233 [.lf (.rows 2 (p_l.map bf.lf)),.raw (.func (.func 234) #[] #[])] [] (fun _=>.own 0) (fun r=>[.row 152 2 (r.map bf.lf)]) := gW Tryz.func233 (by kernel_rfl) (fun _=>rfl) (by kernel_rfl)
structure U3 where
 m1:(p_e:aC) → Option (aC)
 ok1:∀ p_e,FV (m1 p_e) 286 [.dat (aC.lf1 p_e)] (fun r=>.dat (aC.lf1 r))
 m2:(p_l:List aC) → Option (List aC)
 ok2:∀ p_l,FH (m2 p_l) 318 [.lf (.rows 11 (p_l.map aC.lf)),.raw (.func (.func 286) #[] #[])] [] (fun r=>.lf (.rows 11 (r.map aC.lf))) (fun _=>[])
def U4 (R_:U3) (p_e:aC) : Mo (aC) :=
 .cl (yw p_e.cZ) fun r0 _ =>
 .cl (yw p_e.bQ) fun r1 _ =>
 .cl (uq p_e.fArg) fun r2 _ =>
 .cH [] (R_.ok2 p_e.bg) fun r3 _ =>
 .ret (bC 1) (aC.mk p_e.fOp r0 p_e.fName r1 r2 p_e.fN r3)
theorem ada (R_:U3) (p_e:aC) : FV (Mo.den (U4 R_ p_e)) 286 [.dat (aC.lf1 p_e)] (fun r=>.dat (aC.lf1 r)) := bY Tryz.func286 (by kernel_rfl) (fun _=>rfl) (by kernel_rfl)
def IZ (R_:U3) (p_l:List aC) : (Int × (List aC)) → Mo ((Int × (List aC)) ⊕ ((List aC))) := fun (v0,l0) =>
 .iB (decide ((v0:Int) < (p_l.length:Int))) (.ask (bM p_l v0) fun x0 h0 =>
 .say [.row (aC.lf1 x0)] (ok1 (aX aC.aV h0)) <|
 .cl (R_.ok1 x0) fun r0 _ =>
 .ask (bM l0 v0) fun x1 h1 =>
 .say [.row (aC.lf1 x1),.rows ((l0.set v0.toNat r0).map aC.lf)] (okc (cu aC.aV h1) (okc (st_ aC.aV l0 v0.toNat r0) (ok1 ((aX aC.aV h1).2)))) <|
 .rt [1,5,14,15,16] 1 (.inl (IntKind.wrap .i64 (v0 + 1),l0.set v0.toNat r0))) <|
 .rt [5] 1 (.inr (l0))
def Xp (R_:U3) (p_l:List aC) (v0:Int) (l0:List aC) : Option (((List aC))) := bK (fun v_=>(IZ R_ p_l v_).den) FU (v0,l0)
def U5 (R_:U3) (p_l:List aC) : Mo (List aC) :=
 .say [.num p_l.length] (ok1 (ln_ p_l aC.lf)) <|
 .ite ((p_l.length:Int) == 0) (fun c0 =>
 .say [.br true] (ok1 c0) <|
 .ret ⟨[.nil 0 11,.tod 0],[0],[],0⟩ ([])) fun c0 =>
 .say [.br false,.num p_l.length,.rows ((List.replicate (p_l.length:Int).toNat aC.z).map aC.lf),.num p_l.length] (okc c0 (okc (ln_ p_l aC.lf) (ok1 (rp_ aC.aV (p_l.length:Int).toNat aC.z)))) <|
 .grd ((0:Int) ≤ (p_l.length:Int) ∧ 184 * (p_l.length:Int).toNat ≤ 281474976710656 ∧ (p_l.length:Int).toNat ≤ maxLen) fun h0 =>
 .say [] (okc (mk_ (p_l.length:Int) h0) (ok1 (ln_ p_l aC.lf))) <|
 .lp Tryz.f318 0 [1,1,1,0,1,0] 0 [1,5,14,15,16] 1 (.exit 0) (fun r_=>⟨[(5,.own 0)],[.row 44 11 (r_.map aC.lf)]⟩) (Xp R_ p_l 0 (List.replicate (p_l.length:Int).toNat aC.z)) (lW (fun (v0,l0)=>⟨[(1,.raw (.func (.func 286) #[] #[])),(5,.own 0),(14,.lf (.rows 11 (p_l.map aC.lf))),(15,.i_ (p_l.length:Int)),(16,.i_ v0)],[.row 44 11 (l0.map aC.lf)]⟩) (by kernel_rfl) rfl fun v_=>by kernel_rfl) fun r0 _ =>
 .ret ⟨[.frz 0],[0],[],0⟩ (r0)
theorem adb (R_:U3) (p_l:List aC) : FH (Mo.den (U5 R_ p_l)) 318 [.lf (.rows 11 (p_l.map aC.lf)),.raw (.func (.func 286) #[] #[])] [] (fun r=>.lf (.rows 11 (r.map aC.lf))) (fun _=>[]) := gW Tryz.func318 (by kernel_rfl) (fun _=>rfl) (by kernel_rfl)
def lT:Nat → U3
 | 0=>{ m1 := fun p_e=>none,ok1 := fun _ _ h=>(by cases h),m2 := fun p_l=>none,ok2 := fun _ _ h=>(by cases h) }
 | n_ + 1=>{ m1 := fun p_e=>Mo.den (U4 (lT n_) p_e),ok1 := fun p_e r h=>ada (lT n_) p_e r h,m2 := fun p_l=>Mo.den (U5 (lT n_) p_l),ok2 := adb (lT n_) }
def ak2 (p_e:aC) : Option (aC) := (lT FU).m1 p_e
theorem afX (p_e:aC) : FV (ak2 p_e) 286 [.dat (aC.lf1 p_e)] (fun r=>.dat (aC.lf1 r)) := (lT FU).ok1 p_e
end
end Go.Proofs.YtdnafbfmaphhhaaGreatDoor
