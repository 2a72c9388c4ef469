/- Printed by dec.py. -/
import Derived.Test.YtdnafbfmaphhhaaGreatDoorQV5
set_option linter.unusedSimpArgs false
set_option linter.unusedVariables false
namespace Go.Proofs.YtdnafbfmaphhhaaGreatDoor
open Go.RowKit
set_option maxRecDepth 20000
set_option maxHeartbeats 4000000
noncomputable section
def adS (p_e:aH) : Mo (Bool) :=
 .ite (decide ((p_e.fOp:Int) < 1)) (fun c0 =>
 .say [.dL (.q 0 (.q 1 (.q 2 (.q 3 (.q 4 (.q 5 (.q 6 (.q 7 (.q 8 (.q 9 (.q 10 (.l 11 (.q 12 (.q 13 (.q 14 (.q 17 (.alt 15 (.q 16 (.l 18 (.l 19 (.q 20 (.q 21 (.q 22 (.q 23 (.q 24 (.l 25 (.q 26 (.q 27 (.q 28 (.q 31 (.alt 29 (.q 30 (.l 32 (.q 33 (.q 34 (.q 35 (.q 36 (.l 37 (.q 38 (.q 39 (.q 40 (.q 41 (.q 42 .fin)))))))))))) (.l 32 (.q 33 (.l 29 (.q 30 (.q 34 (.q 35 (.q 36 (.l 37 (.q 38 (.q 39 (.q 40 (.q 41 (.q 42 .fin))))))))))))))))))))))))))) (.l 18 (.alt 15 (.q 16 (.l 19 (.q 20 (.q 21 (.q 22 (.q 23 (.q 24 (.l 25 (.q 26 (.q 27 (.q 28 (.q 31 (.alt 29 (.q 30 (.l 32 (.q 33 (.q 34 (.q 35 (.q 36 (.l 37 (.q 38 (.q 39 (.q 40 (.q 41 (.q 42 .fin)))))))))))) (.l 32 (.q 33 (.l 29 (.q 30 (.q 34 (.q 35 (.q 36 (.l 37 (.q 38 (.q 39 (.q 40 (.q 41 (.q 42 .fin)))))))))))))))))))))))))) (.l 19 (.l 15 (.q 16 (.q 20 (.q 21 (.q 22 (.q 23 (.q 24 (.l 25 (.q 26 (.q 27 (.q 28 (.q 31 (.alt 29 (.q 30 (.l 32 (.q 33 (.q 34 (.q 35 (.q 36 (.l 37 (.q 38 (.q 39 (.q 40 (.q 41 (.q 42 .fin)))))))))))) (.l 32 (.q 33 (.l 29 (.q 30 (.q 34 (.q 35 (.q 36 (.l 37 (.q 38 (.q 39 (.q 40 (.q 41 (.q 42 .fin)))))))))))))))))))))))))))))))))))))))))))))) (some 11) [] [.gd 4003 true,.both [.both [] []] [.both [.both [] []] [.both [] []]]] [1,46] 1 [(1,.ptr 0 0),(46,.b_ true)] [.box 44 (.dat (aH.lf1 p_e))]] (okc c0 (okc (rf_ ⟨[(1,.ptr 0 0),(46,.b_ true)],[.box 44 (.dat (aH.lf1 p_e))]⟩) (okc (rf_ ⟨[(1,.ptr 0 0),(46,.b_ true)],[.box 44 (.dat (aH.lf1 p_e))]⟩) (okc (rf_ ⟨[(1,.ptr 0 0),(46,.b_ true)],[.box 44 (.dat (aH.lf1 p_e))]⟩) (okc (rf_ ⟨[(1,.ptr 0 0),(46,.b_ true)],[.box 44 (.dat (aH.lf1 p_e))]⟩) (okc (rf_ ⟨[(1,.ptr 0 0),(46,.b_ true)],[.box 44 (.dat (aH.lf1 p_e))]⟩) (ok1 (rf_ ⟨[(1,.ptr 0 0),(46,.b_ true)],[.box 44 (.dat (aH.lf1 p_e))]⟩)))))))) <|
 .rt [1,46] 1 (true)) fun c0 =>
 .say [] (ok1 c0) <|
 .ite (decide ((37:Int) < p_e.fOp)) (fun c1 =>
 .say [.dL (.q 0 (.q 1 (.q 2 (.q 3 (.q 4 (.q 5 (.q 6 (.q 7 (.q 8 (.q 9 (.q 10 (.l 11 (.q 12 (.q 13 (.q 14 (.q 17 (.alt 15 (.q 16 (.l 18 (.l 19 (.q 20 (.q 21 (.q 22 (.q 23 (.q 24 (.l 25 (.q 26 (.q 27 (.q 28 (.q 31 (.alt 29 (.q 30 (.l 32 (.q 33 (.q 34 (.q 35 (.q 36 (.l 37 (.q 38 (.q 39 (.q 40 (.q 41 (.q 42 .fin)))))))))))) (.l 32 (.q 33 (.l 29 (.q 30 (.q 34 (.q 35 (.q 36 (.l 37 (.q 38 (.q 39 (.q 40 (.q 41 (.q 42 .fin))))))))))))))))))))))))))) (.l 18 (.alt 15 (.q 16 (.l 19 (.q 20 (.q 21 (.q 22 (.q 23 (.q 24 (.l 25 (.q 26 (.q 27 (.q 28 (.q 31 (.alt 29 (.q 30 (.l 32 (.q 33 (.q 34 (.q 35 (.q 36 (.l 37 (.q 38 (.q 39 (.q 40 (.q 41 (.q 42 .fin)))))))))))) (.l 32 (.q 33 (.l 29 (.q 30 (.q 34 (.q 35 (.q 36 (.l 37 (.q 38 (.q 39 (.q 40 (.q 41 (.q 42 .fin)))))))))))))))))))))))))) (.l 19 (.l 15 (.q 16 (.q 20 (.q 21 (.q 22 (.q 23 (.q 24 (.l 25 (.q 26 (.q 27 (.q 28 (.q 31 (.alt 29 (.q 30 (.l 32 (.q 33 (.q 34 (.q 35 (.q 36 (.l 37 (.q 38 (.q 39 (.q 40 (.q 41 (.q 42 .fin)))))))))))) (.l 32 (.q 33 (.l 29 (.q 30 (.q 34 (.q 35 (.q 36 (.l 37 (.q 38 (.q 39 (.q 40 (.q 41 (.q 42 .fin)))))))))))))))))))))))))))))))))))))))))))))) (some 11) [] [.gd 4003 false,.gd 4008 true,.both [.both [] []] [.both [.both [] []] [.both [] []]]] [1,46] 1 [(1,.ptr 0 0),(46,.b_ true)] [.box 44 (.dat (aH.lf1 p_e))]] (okc c1 (okc (rf_ ⟨[(1,.ptr 0 0),(46,.b_ true)],[.box 44 (.dat (aH.lf1 p_e))]⟩) (okc (rf_ ⟨[(1,.ptr 0 0),(46,.b_ true)],[.box 44 (.dat (aH.lf1 p_e))]⟩) (okc (rf_ ⟨[(1,.ptr 0 0),(46,.b_ true)],[.box 44 (.dat (aH.lf1 p_e))]⟩) (okc (rf_ ⟨[(1,.ptr 0 0),(46,.b_ true)],[.box 44 (.dat (aH.lf1 p_e))]⟩) (okc (rf_ ⟨[(1,.ptr 0 0),(46,.b_ true)],[.box 44 (.dat (aH.lf1 p_e))]⟩) (ok1 (rf_ ⟨[(1,.ptr 0 0),(46,.b_ true)],[.box 44 (.dat (aH.lf1 p_e))]⟩)))))))) <|
 .rt [1,46] 1 (true)) fun c1 =>
 .say [] (ok1 c1) <|
 .ask (Q69 p_e.fOp) fun r0 h0 =>
 .say [] (ok1 (oP _ _ h0)) <|
 .ite (decide ((0:Int) ≤ r0)) (fun c2 =>
 .say [] (okc c2 (ok1 (ln_ p_e.bC aH.lf))) <|
 .ask (Q69 p_e.fOp) fun r1 h1 =>
 .say [] (ok1 (oP _ _ h1)) <|
 .ite ((p_e.bC.length:Int) != r1) (fun c3 =>
 .say [.dL (.q 0 (.q 1 (.q 2 (.q 3 (.q 4 (.q 5 (.q 6 (.q 7 (.q 8 (.q 9 (.q 10 (.l 11 (.q 12 (.q 13 (.q 14 (.q 17 (.alt 15 (.q 16 (.l 18 (.l 19 (.q 20 (.q 21 (.q 22 (.q 23 (.q 24 (.l 25 (.q 26 (.q 27 (.q 28 (.q 31 (.alt 29 (.q 30 (.l 32 (.q 33 (.q 34 (.q 35 (.q 36 (.l 37 (.q 38 (.q 39 (.q 40 (.q 41 (.q 42 .fin)))))))))))) (.l 32 (.q 33 (.l 29 (.q 30 (.q 34 (.q 35 (.q 36 (.l 37 (.q 38 (.q 39 (.q 40 (.q 41 (.q 42 .fin))))))))))))))))))))))))))) (.l 18 (.alt 15 (.q 16 (.l 19 (.q 20 (.q 21 (.q 22 (.q 23 (.q 24 (.l 25 (.q 26 (.q 27 (.q 28 (.q 31 (.alt 29 (.q 30 (.l 32 (.q 33 (.q 34 (.q 35 (.q 36 (.l 37 (.q 38 (.q 39 (.q 40 (.q 41 (.q 42 .fin)))))))))))) (.l 32 (.q 33 (.l 29 (.q 30 (.q 34 (.q 35 (.q 36 (.l 37 (.q 38 (.q 39 (.q 40 (.q 41 (.q 42 .fin)))))))))))))))))))))))))) (.l 19 (.l 15 (.q 16 (.q 20 (.q 21 (.q 22 (.q 23 (.q 24 (.l 25 (.q 26 (.q 27 (.q 28 (.q 31 (.alt 29 (.q 30 (.l 32 (.q 33 (.q 34 (.q 35 (.q 36 (.l 37 (.q 38 (.q 39 (.q 40 (.q 41 (.q 42 .fin)))))))))))) (.l 32 (.q 33 (.l 29 (.q 30 (.q 34 (.q 35 (.q 36 (.l 37 (.q 38 (.q 39 (.q 40 (.q 41 (.q 42 .fin)))))))))))))))))))))))))))))))))))))))))))))) (some 11) [] [.gd 4003 false,.gd 4008 false,.res (.i_ r0),.gd 4013 true,.both [.num p_e.bC.length,.res (.i_ r1),.gd 4023 true,.both [] []] [.both [.num p_e.bC.length,.res (.i_ r1),.gd 4023 true,.both [] []] [.res (.i_ r1),.num p_e.bC.length,.gd 4023 true,.both [] []]]] [1,46] 1 [(1,.ptr 0 0),(46,.b_ true)] [.box 44 (.dat (aH.lf1 p_e))]] (okc c3 (okc (rf_ ⟨[(1,.ptr 0 0),(46,.b_ true)],[.box 44 (.dat (aH.lf1 p_e))]⟩) (okc (rf_ ⟨[(1,.ptr 0 0),(46,.b_ true)],[.box 44 (.dat (aH.lf1 p_e))]⟩) (okc (ln_ p_e.bC aH.lf) (okc (oP _ _ h1) (okc c3 (okc (rf_ ⟨[(1,.ptr 0 0),(46,.b_ true)],[.box 44 (.dat (aH.lf1 p_e))]⟩) (okc (rf_ ⟨[(1,.ptr 0 0),(46,.b_ true)],[.box 44 (.dat (aH.lf1 p_e))]⟩) (okc (oP _ _ h1) (okc (ln_ p_e.bC aH.lf) (okc c3 (okc (rf_ ⟨[(1,.ptr 0 0),(46,.b_ true)],[.box 44 (.dat (aH.lf1 p_e))]⟩) (ok1 (rf_ ⟨[(1,.ptr 0 0),(46,.b_ true)],[.box 44 (.dat (aH.lf1 p_e))]⟩)))))))))))))) <|
 .rt [1,46] 1 (true)) fun c3 =>
 .say [] (ok1 c3) <|
 .ite (p_e.fOp == 34) (fun c4 =>
 .say [] (okc c4 (okc (ln_ p_e.bC aH.lf) (ok1 (ln_ p_e.bT lfS)))) <|
 .ite ((p_e.bC.length:Int) != (p_e.bT.length:Int)) (fun c5 =>
 .say [.dL (.q 0 (.q 1 (.q 2 (.q 3 (.q 4 (.q 5 (.q 6 (.q 7 (.q 8 (.q 9 (.q 10 (.l 11 (.q 12 (.q 13 (.q 14 (.q 17 (.alt 15 (.q 16 (.l 18 (.l 19 (.q 20 (.q 21 (.q 22 (.q 23 (.q 24 (.l 25 (.q 26 (.q 27 (.q 28 (.q 31 (.alt 29 (.q 30 (.l 32 (.q 33 (.q 34 (.q 35 (.q 36 (.l 37 (.q 38 (.q 39 (.q 40 (.q 41 (.q 42 .fin)))))))))))) (.l 32 (.q 33 (.l 29 (.q 30 (.q 34 (.q 35 (.q 36 (.l 37 (.q 38 (.q 39 (.q 40 (.q 41 (.q 42 .fin))))))))))))))))))))))))))) (.l 18 (.alt 15 (.q 16 (.l 19 (.q 20 (.q 21 (.q 22 (.q 23 (.q 24 (.l 25 (.q 26 (.q 27 (.q 28 (.q 31 (.alt 29 (.q 30 (.l 32 (.q 33 (.q 34 (.q 35 (.q 36 (.l 37 (.q 38 (.q 39 (.q 40 (.q 41 (.q 42 .fin)))))))))))) (.l 32 (.q 33 (.l 29 (.q 30 (.q 34 (.q 35 (.q 36 (.l 37 (.q 38 (.q 39 (.q 40 (.q 41 (.q 42 .fin)))))))))))))))))))))))))) (.l 19 (.l 15 (.q 16 (.q 20 (.q 21 (.q 22 (.q 23 (.q 24 (.l 25 (.q 26 (.q 27 (.q 28 (.q 31 (.alt 29 (.q 30 (.l 32 (.q 33 (.q 34 (.q 35 (.q 36 (.l 37 (.q 38 (.q 39 (.q 40 (.q 41 (.q 42 .fin)))))))))))) (.l 32 (.q 33 (.l 29 (.q 30 (.q 34 (.q 35 (.q 36 (.l 37 (.q 38 (.q 39 (.q 40 (.q 41 (.q 42 .fin)))))))))))))))))))))))))))))))))))))))))))))) (some 11) [] [.gd 4003 false,.gd 4008 false,.res (.i_ r0),.gd 4013 true,.both [.num p_e.bC.length,.res (.i_ r1),.gd 4023 false,.gd 4027 true,.both [.num p_e.bC.length,.num p_e.bT.length,.gd 4035 true] [.num p_e.bT.length,.num p_e.bC.length,.gd 4035 true]] [.both [.num p_e.bC.length,.res (.i_ r1),.gd 4023 false,.gd 4027 true,.both [.num p_e.bC.length,.num p_e.bT.length,.gd 4035 true] [.num p_e.bT.length,.num p_e.bC.length,.gd 4035 true]] [.res (.i_ r1),.num p_e.bC.length,.gd 4023 false,.gd 4027 true,.both [.num p_e.bC.length,.num p_e.bT.length,.gd 4035 true] [.num p_e.bT.length,.num p_e.bC.length,.gd 4035 true]]]] [1,46] 1 [(1,.ptr 0 0),(46,.b_ true)] [.box 44 (.dat (aH.lf1 p_e))]] (okc c5 (okc (rf_ ⟨[(1,.ptr 0 0),(46,.b_ true)],[.box 44 (.dat (aH.lf1 p_e))]⟩) (okc (ln_ p_e.bT lfS) (okc (ln_ p_e.bC aH.lf) (okc c5 (okc (rf_ ⟨[(1,.ptr 0 0),(46,.b_ true)],[.box 44 (.dat (aH.lf1 p_e))]⟩) (okc (ln_ p_e.bC aH.lf) (okc (oP _ _ h1) (okc c3 (okc c4 (okc (ln_ p_e.bC aH.lf) (okc (ln_ p_e.bT lfS) (okc c5 (okc (rf_ ⟨[(1,.ptr 0 0),(46,.b_ true)],[.box 44 (.dat (aH.lf1 p_e))]⟩) (okc (ln_ p_e.bT lfS) (okc (ln_ p_e.bC aH.lf) (okc c5 (okc (rf_ ⟨[(1,.ptr 0 0),(46,.b_ true)],[.box 44 (.dat (aH.lf1 p_e))]⟩) (okc (oP _ _ h1) (okc (ln_ p_e.bC aH.lf) (okc c3 (okc c4 (okc (ln_ p_e.bC aH.lf) (okc (ln_ p_e.bT lfS) (okc c5 (okc (rf_ ⟨[(1,.ptr 0 0),(46,.b_ true)],[.box 44 (.dat (aH.lf1 p_e))]⟩) (okc (ln_ p_e.bT lfS) (okc (ln_ p_e.bC aH.lf) (okc c5 (ok1 (rf_ ⟨[(1,.ptr 0 0),(46,.b_ true)],[.box 44 (.dat (aH.lf1 p_e))]⟩))))))))))))))))))))))))))))))) <|
 .rt [1,46] 1 (true)) fun c5 =>
 .say [.dL (.q 0 (.q 1 (.q 2 (.q 3 (.q 4 (.q 5 (.q 6 (.q 7 (.q 8 (.q 9 (.q 10 (.l 11 (.q 12 (.q 13 (.q 14 (.q 17 (.alt 15 (.q 16 (.l 18 (.l 19 (.q 20 (.q 21 (.q 22 (.q 23 (.q 24 (.l 25 (.q 26 (.q 27 (.q 28 (.q 31 (.alt 29 (.q 30 (.l 32 (.q 33 (.q 34 (.q 35 (.q 36 (.l 37 (.q 38 (.q 39 (.q 40 (.q 41 (.q 42 .fin)))))))))))) (.l 32 (.q 33 (.l 29 (.q 30 (.q 34 (.q 35 (.q 36 (.l 37 (.q 38 (.q 39 (.q 40 (.q 41 (.q 42 .fin))))))))))))))))))))))))))) (.l 18 (.alt 15 (.q 16 (.l 19 (.q 20 (.q 21 (.q 22 (.q 23 (.q 24 (.l 25 (.q 26 (.q 27 (.q 28 (.q 31 (.alt 29 (.q 30 (.l 32 (.q 33 (.q 34 (.q 35 (.q 36 (.l 37 (.q 38 (.q 39 (.q 40 (.q 41 (.q 42 .fin)))))))))))) (.l 32 (.q 33 (.l 29 (.q 30 (.q 34 (.q 35 (.q 36 (.l 37 (.q 38 (.q 39 (.q 40 (.q 41 (.q 42 .fin)))))))))))))))))))))))))) (.l 19 (.l 15 (.q 16 (.q 20 (.q 21 (.q 22 (.q 23 (.q 24 (.l 25 (.q 26 (.q 27 (.q 28 (.q 31 (.alt 29 (.q 30 (.l 32 (.q 33 (.q 34 (.q 35 (.q 36 (.l 37 (.q 38 (.q 39 (.q 40 (.q 41 (.q 42 .fin)))))))))))) (.l 32 (.q 33 (.l 29 (.q 30 (.q 34 (.q 35 (.q 36 (.l 37 (.q 38 (.q 39 (.q 40 (.q 41 (.q 42 .fin)))))))))))))))))))))))))))))))))))))))))))))) (some 11) [] [.gd 4003 false,.gd 4008 false,.res (.i_ r0),.gd 4013 true,.both [.num p_e.bC.length,.res (.i_ r1),.gd 4023 false,.gd 4027 true,.both [.num p_e.bC.length,.num p_e.bT.length,.gd 4035 false,.num p_e.bC.length] [.num p_e.bT.length,.num p_e.bC.length,.gd 4035 false,.num p_e.bC.length]] [.both [.num p_e.bC.length,.res (.i_ r1),.gd 4023 false,.gd 4027 true,.both [.num p_e.bC.length,.num p_e.bT.length,.gd 4035 false,.num p_e.bC.length] [.num p_e.bT.length,.num p_e.bC.length,.gd 4035 false,.num p_e.bC.length]] [.res (.i_ r1),.num p_e.bC.length,.gd 4023 false,.gd 4027 true,.both [.num p_e.bC.length,.num p_e.bT.length,.gd 4035 false,.num p_e.bC.length] [.num p_e.bT.length,.num p_e.bC.length,.gd 4035 false,.num p_e.bC.length]]]] [1,46] 1 [(1,.ptr 0 0),(46,.lf (.bool ((p_e.bC.length:Int) == 0)))] [.box 44 (.dat (aH.lf1 p_e))]] (okc c5 (okc (ln_ p_e.bC aH.lf) (okc (rf_ ⟨[(1,.ptr 0 0),(46,.lf (.bool ((p_e.bC.length:Int) == 0)))],[.box 44 (.dat (aH.lf1 p_e))]⟩) (okc (ln_ p_e.bT lfS) (okc (ln_ p_e.bC aH.lf) (okc c5 (okc (ln_ p_e.bC aH.lf) (okc (rf_ ⟨[(1,.ptr 0 0),(46,.lf (.bool ((p_e.bC.length:Int) == 0)))],[.box 44 (.dat (aH.lf1 p_e))]⟩) (okc (ln_ p_e.bC aH.lf) (okc (oP _ _ h1) (okc c3 (okc c4 (okc (ln_ p_e.bC aH.lf) (okc (ln_ p_e.bT lfS) (okc c5 (okc (ln_ p_e.bC aH.lf) (okc (rf_ ⟨[(1,.ptr 0 0),(46,.lf (.bool ((p_e.bC.length:Int) == 0)))],[.box 44 (.dat (aH.lf1 p_e))]⟩) (okc (ln_ p_e.bT lfS) (okc (ln_ p_e.bC aH.lf) (okc c5 (okc (ln_ p_e.bC aH.lf) (okc (rf_ ⟨[(1,.ptr 0 0),(46,.lf (.bool ((p_e.bC.length:Int) == 0)))],[.box 44 (.dat (aH.lf1 p_e))]⟩) (okc (oP _ _ h1) (okc (ln_ p_e.bC aH.lf) (okc c3 (okc c4 (okc (ln_ p_e.bC aH.lf) (okc (ln_ p_e.bT lfS) (okc c5 (okc (ln_ p_e.bC aH.lf) (okc (rf_ ⟨[(1,.ptr 0 0),(46,.lf (.bool ((p_e.bC.length:Int) == 0)))],[.box 44 (.dat (aH.lf1 p_e))]⟩) (okc (ln_ p_e.bT lfS) (okc (ln_ p_e.bC aH.lf) (okc c5 (okc (ln_ p_e.bC aH.lf) (ok1 (rf_ ⟨[(1,.ptr 0 0),(46,.lf (.bool ((p_e.bC.length:Int) == 0)))],[.box 44 (.dat (aH.lf1 p_e))]⟩))))))))))))))))))))))))))))))))))))) <|
 .rt [1,46] 1 ((p_e.bC.length:Int) == 0)) fun c4 =>
 .say [.dL (.q 0 (.q 1 (.q 2 (.q 3 (.q 4 (.q 5 (.q 6 (.q 7 (.q 8 (.q 9 (.q 10 (.l 11 (.q 12 (.q 13 (.q 14 (.q 17 (.alt 15 (.q 16 (.l 18 (.l 19 (.q 20 (.q 21 (.q 22 (.q 23 (.q 24 (.l 25 (.q 26 (.q 27 (.q 28 (.q 31 (.alt 29 (.q 30 (.l 32 (.q 33 (.q 34 (.q 35 (.q 36 (.l 37 (.q 38 (.q 39 (.q 40 (.q 41 (.q 42 .fin)))))))))))) (.l 32 (.q 33 (.l 29 (.q 30 (.q 34 (.q 35 (.q 36 (.l 37 (.q 38 (.q 39 (.q 40 (.q 41 (.q 42 .fin))))))))))))))))))))))))))) (.l 18 (.alt 15 (.q 16 (.l 19 (.q 20 (.q 21 (.q 22 (.q 23 (.q 24 (.l 25 (.q 26 (.q 27 (.q 28 (.q 31 (.alt 29 (.q 30 (.l 32 (.q 33 (.q 34 (.q 35 (.q 36 (.l 37 (.q 38 (.q 39 (.q 40 (.q 41 (.q 42 .fin)))))))))))) (.l 32 (.q 33 (.l 29 (.q 30 (.q 34 (.q 35 (.q 36 (.l 37 (.q 38 (.q 39 (.q 40 (.q 41 (.q 42 .fin)))))))))))))))))))))))))) (.l 19 (.l 15 (.q 16 (.q 20 (.q 21 (.q 22 (.q 23 (.q 24 (.l 25 (.q 26 (.q 27 (.q 28 (.q 31 (.alt 29 (.q 30 (.l 32 (.q 33 (.q 34 (.q 35 (.q 36 (.l 37 (.q 38 (.q 39 (.q 40 (.q 41 (.q 42 .fin)))))))))))) (.l 32 (.q 33 (.l 29 (.q 30 (.q 34 (.q 35 (.q 36 (.l 37 (.q 38 (.q 39 (.q 40 (.q 41 (.q 42 .fin)))))))))))))))))))))))))))))))))))))))))))))) (some 11) [] [.gd 4003 false,.gd 4008 false,.res (.i_ r0),.gd 4013 true,.both [.num p_e.bC.length,.res (.i_ r1),.gd 4023 false,.gd 4027 false,.both [] []] [.both [.num p_e.bC.length,.res (.i_ r1),.gd 4023 false,.gd 4027 false,.both [] []] [.res (.i_ r1),.num p_e.bC.length,.gd 4023 false,.gd 4027 false,.both [] []]]] [1,46] 1 [(1,.ptr 0 0),(46,.b_ false)] [.box 44 (.dat (aH.lf1 p_e))]] (okc c4 (okc (rf_ ⟨[(1,.ptr 0 0),(46,.b_ false)],[.box 44 (.dat (aH.lf1 p_e))]⟩) (okc (rf_ ⟨[(1,.ptr 0 0),(46,.b_ false)],[.box 44 (.dat (aH.lf1 p_e))]⟩) (okc (ln_ p_e.bC aH.lf) (okc (oP _ _ h1) (okc c3 (okc c4 (okc (rf_ ⟨[(1,.ptr 0 0),(46,.b_ false)],[.box 44 (.dat (aH.lf1 p_e))]⟩) (okc (rf_ ⟨[(1,.ptr 0 0),(46,.b_ false)],[.box 44 (.dat (aH.lf1 p_e))]⟩) (okc (oP _ _ h1) (okc (ln_ p_e.bC aH.lf) (okc c3 (okc c4 (okc (rf_ ⟨[(1,.ptr 0 0),(46,.b_ false)],[.box 44 (.dat (aH.lf1 p_e))]⟩) (ok1 (rf_ ⟨[(1,.ptr 0 0),(46,.b_ false)],[.box 44 (.dat (aH.lf1 p_e))]⟩)))))))))))))))) <|
 .rt [1,46] 1 (false)) fun c2 =>
 .say [] (ok1 c2) <|
 .ite (p_e.fOp == 34) (fun c6 =>
 .say [] (okc c6 (okc (ln_ p_e.bC aH.lf) (ok1 (ln_ p_e.bT lfS)))) <|
 .ite ((p_e.bC.length:Int) != (p_e.bT.length:Int)) (fun c7 =>
 .say [.dL (.q 0 (.q 1 (.q 2 (.q 3 (.q 4 (.q 5 (.q 6 (.q 7 (.q 8 (.q 9 (.q 10 (.l 11 (.q 12 (.q 13 (.q 14 (.q 17 (.alt 15 (.q 16 (.l 18 (.l 19 (.q 20 (.q 21 (.q 22 (.q 23 (.q 24 (.l 25 (.q 26 (.q 27 (.q 28 (.q 31 (.alt 29 (.q 30 (.l 32 (.q 33 (.q 34 (.q 35 (.q 36 (.l 37 (.q 38 (.q 39 (.q 40 (.q 41 (.q 42 .fin)))))))))))) (.l 32 (.q 33 (.l 29 (.q 30 (.q 34 (.q 35 (.q 36 (.l 37 (.q 38 (.q 39 (.q 40 (.q 41 (.q 42 .fin))))))))))))))))))))))))))) (.l 18 (.alt 15 (.q 16 (.l 19 (.q 20 (.q 21 (.q 22 (.q 23 (.q 24 (.l 25 (.q 26 (.q 27 (.q 28 (.q 31 (.alt 29 (.q 30 (.l 32 (.q 33 (.q 34 (.q 35 (.q 36 (.l 37 (.q 38 (.q 39 (.q 40 (.q 41 (.q 42 .fin)))))))))))) (.l 32 (.q 33 (.l 29 (.q 30 (.q 34 (.q 35 (.q 36 (.l 37 (.q 38 (.q 39 (.q 40 (.q 41 (.q 42 .fin)))))))))))))))))))))))))) (.l 19 (.l 15 (.q 16 (.q 20 (.q 21 (.q 22 (.q 23 (.q 24 (.l 25 (.q 26 (.q 27 (.q 28 (.q 31 (.alt 29 (.q 30 (.l 32 (.q 33 (.q 34 (.q 35 (.q 36 (.l 37 (.q 38 (.q 39 (.q 40 (.q 41 (.q 42 .fin)))))))))))) (.l 32 (.q 33 (.l 29 (.q 30 (.q 34 (.q 35 (.q 36 (.l 37 (.q 38 (.q 39 (.q 40 (.q 41 (.q 42 .fin)))))))))))))))))))))))))))))))))))))))))))))) (some 11) [] [.gd 4003 false,.gd 4008 false,.res (.i_ r0),.gd 4013 false,.both [.gd 4027 true,.both [.num p_e.bC.length,.num p_e.bT.length,.gd 4035 true] [.num p_e.bT.length,.num p_e.bC.length,.gd 4035 true]] [.both [.gd 4027 true,.both [.num p_e.bC.length,.num p_e.bT.length,.gd 4035 true] [.num p_e.bT.length,.num p_e.bC.length,.gd 4035 true]] [.gd 4027 true,.both [.num p_e.bC.length,.num p_e.bT.length,.gd 4035 true] [.num p_e.bT.length,.num p_e.bC.length,.gd 4035 true]]]] [1,46] 1 [(1,.ptr 0 0),(46,.b_ true)] [.box 44 (.dat (aH.lf1 p_e))]] (okc c7 (okc (rf_ ⟨[(1,.ptr 0 0),(46,.b_ true)],[.box 44 (.dat (aH.lf1 p_e))]⟩) (okc (ln_ p_e.bT lfS) (okc (ln_ p_e.bC aH.lf) (okc c7 (okc (rf_ ⟨[(1,.ptr 0 0),(46,.b_ true)],[.box 44 (.dat (aH.lf1 p_e))]⟩) (okc c6 (okc (ln_ p_e.bC aH.lf) (okc (ln_ p_e.bT lfS) (okc c7 (okc (rf_ ⟨[(1,.ptr 0 0),(46,.b_ true)],[.box 44 (.dat (aH.lf1 p_e))]⟩) (okc (ln_ p_e.bT lfS) (okc (ln_ p_e.bC aH.lf) (okc c7 (okc (rf_ ⟨[(1,.ptr 0 0),(46,.b_ true)],[.box 44 (.dat (aH.lf1 p_e))]⟩) (okc c6 (okc (ln_ p_e.bC aH.lf) (okc (ln_ p_e.bT lfS) (okc c7 (okc (rf_ ⟨[(1,.ptr 0 0),(46,.b_ true)],[.box 44 (.dat (aH.lf1 p_e))]⟩) (okc (ln_ p_e.bT lfS) (okc (ln_ p_e.bC aH.lf) (okc c7 (ok1 (rf_ ⟨[(1,.ptr 0 0),(46,.b_ true)],[.box 44 (.dat (aH.lf1 p_e))]⟩))))))))))))))))))))))))) <|
 .rt [1,46] 1 (true)) fun c7 =>
 .say [.dL (.q 0 (.q 1 (.q 2 (.q 3 (.q 4 (.q 5 (.q 6 (.q 7 (.q 8 (.q 9 (.q 10 (.l 11 (.q 12 (.q 13 (.q 14 (.q 17 (.alt 15 (.q 16 (.l 18 (.l 19 (.q 20 (.q 21 (.q 22 (.q 23 (.q 24 (.l 25 (.q 26 (.q 27 (.q 28 (.q 31 (.alt 29 (.q 30 (.l 32 (.q 33 (.q 34 (.q 35 (.q 36 (.l 37 (.q 38 (.q 39 (.q 40 (.q 41 (.q 42 .fin)))))))))))) (.l 32 (.q 33 (.l 29 (.q 30 (.q 34 (.q 35 (.q 36 (.l 37 (.q 38 (.q 39 (.q 40 (.q 41 (.q 42 .fin))))))))))))))))))))))))))) (.l 18 (.alt 15 (.q 16 (.l 19 (.q 20 (.q 21 (.q 22 (.q 23 (.q 24 (.l 25 (.q 26 (.q 27 (.q 28 (.q 31 (.alt 29 (.q 30 (.l 32 (.q 33 (.q 34 (.q 35 (.q 36 (.l 37 (.q 38 (.q 39 (.q 40 (.q 41 (.q 42 .fin)))))))))))) (.l 32 (.q 33 (.l 29 (.q 30 (.q 34 (.q 35 (.q 36 (.l 37 (.q 38 (.q 39 (.q 40 (.q 41 (.q 42 .fin)))))))))))))))))))))))))) (.l 19 (.l 15 (.q 16 (.q 20 (.q 21 (.q 22 (.q 23 (.q 24 (.l 25 (.q 26 (.q 27 (.q 28 (.q 31 (.alt 29 (.q 30 (.l 32 (.q 33 (.q 34 (.q 35 (.q 36 (.l 37 (.q 38 (.q 39 (.q 40 (.q 41 (.q 42 .fin)))))))))))) (.l 32 (.q 33 (.l 29 (.q 30 (.q 34 (.q 35 (.q 36 (.l 37 (.q 38 (.q 39 (.q 40 (.q 41 (.q 42 .fin)))))))))))))))))))))))))))))))))))))))))))))) (some 11) [] [.gd 4003 false,.gd 4008 false,.res (.i_ r0),.gd 4013 false,.both [.gd 4027 true,.both [.num p_e.bC.length,.num p_e.bT.length,.gd 4035 false,.num p_e.bC.length] [.num p_e.bT.length,.num p_e.bC.length,.gd 4035 false,.num p_e.bC.length]] [.both [.gd 4027 true,.both [.num p_e.bC.length,.num p_e.bT.length,.gd 4035 false,.num p_e.bC.length] [.num p_e.bT.length,.num p_e.bC.length,.gd 4035 false,.num p_e.bC.length]] [.gd 4027 true,.both [.num p_e.bC.length,.num p_e.bT.length,.gd 4035 false,.num p_e.bC.length] [.num p_e.bT.length,.num p_e.bC.length,.gd 4035 false,.num p_e.bC.length]]]] [1,46] 1 [(1,.ptr 0 0),(46,.lf (.bool ((p_e.bC.length:Int) == 0)))] [.box 44 (.dat (aH.lf1 p_e))]] (okc c7 (okc (ln_ p_e.bC aH.lf) (okc (rf_ ⟨[(1,.ptr 0 0),(46,.lf (.bool ((p_e.bC.length:Int) == 0)))],[.box 44 (.dat (aH.lf1 p_e))]⟩) (okc (ln_ p_e.bT lfS) (okc (ln_ p_e.bC aH.lf) (okc c7 (okc (ln_ p_e.bC aH.lf) (okc (rf_ ⟨[(1,.ptr 0 0),(46,.lf (.bool ((p_e.bC.length:Int) == 0)))],[.box 44 (.dat (aH.lf1 p_e))]⟩) (okc c6 (okc (ln_ p_e.bC aH.lf) (okc (ln_ p_e.bT lfS) (okc c7 (okc (ln_ p_e.bC aH.lf) (okc (rf_ ⟨[(1,.ptr 0 0),(46,.lf (.bool ((p_e.bC.length:Int) == 0)))],[.box 44 (.dat (aH.lf1 p_e))]⟩) (okc (ln_ p_e.bT lfS) (okc (ln_ p_e.bC aH.lf) (okc c7 (okc (ln_ p_e.bC aH.lf) (okc (rf_ ⟨[(1,.ptr 0 0),(46,.lf (.bool ((p_e.bC.length:Int) == 0)))],[.box 44 (.dat (aH.lf1 p_e))]⟩) (okc c6 (okc (ln_ p_e.bC aH.lf) (okc (ln_ p_e.bT lfS) (okc c7 (okc (ln_ p_e.bC aH.lf) (okc (rf_ ⟨[(1,.ptr 0 0),(46,.lf (.bool ((p_e.bC.length:Int) == 0)))],[.box 44 (.dat (aH.lf1 p_e))]⟩) (okc (ln_ p_e.bT lfS) (okc (ln_ p_e.bC aH.lf) (okc c7 (okc (ln_ p_e.bC aH.lf) (ok1 (rf_ ⟨[(1,.ptr 0 0),(46,.lf (.bool ((p_e.bC.length:Int) == 0)))],[.box 44 (.dat (aH.lf1 p_e))]⟩))))))))))))))))))))))))))))))) <|
 .rt [1,46] 1 ((p_e.bC.length:Int) == 0)) fun c6 =>
 .say [.dL (.q 0 (.q 1 (.q 2 (.q 3 (.q 4 (.q 5 (.q 6 (.q 7 (.q 8 (.q 9 (.q 10 (.l 11 (.q 12 (.q 13 (.q 14 (.q 17 (.alt 15 (.q 16 (.l 18 (.l 19 (.q 20 (.q 21 (.q 22 (.q 23 (.q 24 (.l 25 (.q 26 (.q 27 (.q 28 (.q 31 (.alt 29 (.q 30 (.l 32 (.q 33 (.q 34 (.q 35 (.q 36 (.l 37 (.q 38 (.q 39 (.q 40 (.q 41 (.q 42 .fin)))))))))))) (.l 32 (.q 33 (.l 29 (.q 30 (.q 34 (.q 35 (.q 36 (.l 37 (.q 38 (.q 39 (.q 40 (.q 41 (.q 42 .fin))))))))))))))))))))))))))) (.l 18 (.alt 15 (.q 16 (.l 19 (.q 20 (.q 21 (.q 22 (.q 23 (.q 24 (.l 25 (.q 26 (.q 27 (.q 28 (.q 31 (.alt 29 (.q 30 (.l 32 (.q 33 (.q 34 (.q 35 (.q 36 (.l 37 (.q 38 (.q 39 (.q 40 (.q 41 (.q 42 .fin)))))))))))) (.l 32 (.q 33 (.l 29 (.q 30 (.q 34 (.q 35 (.q 36 (.l 37 (.q 38 (.q 39 (.q 40 (.q 41 (.q 42 .fin)))))))))))))))))))))))))) (.l 19 (.l 15 (.q 16 (.q 20 (.q 21 (.q 22 (.q 23 (.q 24 (.l 25 (.q 26 (.q 27 (.q 28 (.q 31 (.alt 29 (.q 30 (.l 32 (.q 33 (.q 34 (.q 35 (.q 36 (.l 37 (.q 38 (.q 39 (.q 40 (.q 41 (.q 42 .fin)))))))))))) (.l 32 (.q 33 (.l 29 (.q 30 (.q 34 (.q 35 (.q 36 (.l 37 (.q 38 (.q 39 (.q 40 (.q 41 (.q 42 .fin)))))))))))))))))))))))))))))))))))))))))))))) (some 11) [] [.gd 4003 false,.gd 4008 false,.res (.i_ r0),.gd 4013 false,.both [.gd 4027 false,.both [] []] [.both [.gd 4027 false,.both [] []] [.gd 4027 false,.both [] []]]] [1,46] 1 [(1,.ptr 0 0),(46,.b_ false)] [.box 44 (.dat (aH.lf1 p_e))]] (okc c6 (okc (rf_ ⟨[(1,.ptr 0 0),(46,.b_ false)],[.box 44 (.dat (aH.lf1 p_e))]⟩) (okc (rf_ ⟨[(1,.ptr 0 0),(46,.b_ false)],[.box 44 (.dat (aH.lf1 p_e))]⟩) (okc c6 (okc (rf_ ⟨[(1,.ptr 0 0),(46,.b_ false)],[.box 44 (.dat (aH.lf1 p_e))]⟩) (okc (rf_ ⟨[(1,.ptr 0 0),(46,.b_ false)],[.box 44 (.dat (aH.lf1 p_e))]⟩) (okc c6 (okc (rf_ ⟨[(1,.ptr 0 0),(46,.b_ false)],[.box 44 (.dat (aH.lf1 p_e))]⟩) (ok1 (rf_ ⟨[(1,.ptr 0 0),(46,.b_ false)],[.box 44 (.dat (aH.lf1 p_e))]⟩)))))))))) <|
 .rt [1,46] 1 (false)
def adT (p_e:aH) : Mo (Bool) :=
 .iG 8003 (p_e.fOp == 2) (.cl (Ef p_e.dA) fun r0 _ =>
 .rt [1,55] 1 (!r0)) <|
 .rt [1,55] 1 (false)
def aaN (p_e:aH) (r0:Bool) : Mo (Bool) :=
 .iG 8009 (r0) (.rt [1,72] 1 (true)) <|
 .ite (p_e.fOp == 3) (fun c0 =>
 .say [.gd 8013 true,.num p_e.dA.length] (okc c0 (ok1 (ln_ p_e.dA lfS))) <|
 .iG 8019 (decide ((0:Int) < (p_e.dA.length:Int))) (.cl (Ef p_e.dA) fun r1 _ =>
 .rt [1,72] 1 (!r1)) <|
 .rt [1,72] 1 (false)) fun c0 =>
 .say [.gd 8013 false] (ok1 c0) <|
 .rt [1,72] 1 (false)
def aaO (p_e:aH) : Mo (Bool) :=
 .iG 12003 (p_e.fOp == 3) (.rt [1,80] 1 (true)) <|
 .rt [1,80] 1 (p_e.fOp == 32)
def aaP (p_e:aH) (r0:Bool) : Mo (Bool) :=
 .iG 12008 (r0) (.rt [1,85] 1 (true)) <|
 .rt [1,85] 1 (p_e.fOp == 33)
def aaQ (p_e:aH) (r0:Bool) : Mo (Unit) :=
 .rt [1,3] 1 ()
def aaR (p_e:aH) (r0:Bool) : Mo (Bool) :=
 .iG 14001 (r0) (.cl (vJ p_e.fName) fun r1 _ =>
 .rt [1,3,92] 1 (!r1)) <|
 .rt [1,3,92] 1 (false)
def aaS (p_e:aH) (r0:Bool) (r1:Bool) : Mo (Bool) :=
 .iG 14007 (r1) (.rt [1,3,103] 1 (true)) <|
 .iG 14011 (p_e.fOp == 34) (.cl (akU p_e.bT) fun r2 _ =>
 .rt [1,3,103] 1 (!r2)) <|
 .rt [1,3,103] 1 (false)
def aaT (p_e:aH) (r0:Bool) : Mo (Bool) :=
 .iG 18003 (p_e.fOp == 1) (.cl (oD p_e.fArg) fun r1 _ =>
 .rt [1,3,112] 1 (!r1)) <|
 .rt [1,3,112] 1 (false)
def aaU (p_e:aH) (r0:Bool) : Mo (Bool) :=
 .iG 22003 (p_e.fOp != 2) (.rt [1,3,120] 1 (p_e.fOp != 3)) <|
 .rt [1,3,120] 1 (false)
def aaV (p_e:aH) (r0:Bool) (r1:Bool) : Mo (Bool) :=
 .ite (r1) (fun c0 =>
 .say [.gd 22008 true,.num p_e.dA.length] (okc c0 (ok1 (ln_ p_e.dA lfS))) <|
 .rt [1,3,126] 1 (decide ((0:Int) < (p_e.dA.length:Int)))) fun c0 =>
 .say [.gd 22008 false] (ok1 c0) <|
 .rt [1,3,126] 1 (false)
def aaW (p_e:aH) (r0:Bool) (r1:Bool) : Mo (Bool) :=
 .iG 22014 (r1) (.rt [1,135] 1 (true)) <|
 .iG 22017 (!r0) (.rt [1,135] 1 (!decide ((p_e.fName:ByteArray) = (⟨#[]⟩ : ByteArray)))) <|
 .rt [1,135] 1 (false)
def aaX (p_e:aH) (r0:Bool) : Mo (Bool) :=
 .iG 22023 (r0) (.rt [1,146] 1 (true)) <|
 .ite (p_e.fOp != 34) (fun c0 =>
 .say [.gd 22027 true,.num p_e.bT.length] (okc c0 (ok1 (ln_ p_e.bT lfS))) <|
 .rt [1,146] 1 (decide ((0:Int) < (p_e.bT.length:Int)))) fun c0 =>
 .say [.gd 22027 false] (ok1 c0) <|
 .rt [1,146] 1 (false)
def aaY (p_e:aH) (r0:Bool) : Mo (Bool) :=
 .iG 22034 (r0) (.rt [1,158] 1 (true)) <|
 .iG 22038 (p_e.fOp != 1) (.cl (Zb p_e.fArg (ak.mk 0 0 ⟨#[]⟩ [] [])) fun r1 _ =>
 .rt [1,158] 1 (!r1)) <|
 .rt [1,158] 1 (false)
def aaZ (p_e:aH) (r0:Bool) : Mo (Bool) :=
 .iG 22046 (r0) (.ret ⟨[.kill 0],[163],[],1⟩ (true)) <|
 .ret ⟨[.kill 0],[163],[],1⟩ (p_e.fN != 0)
def ajg (p_e:aH) : Mo (Int) :=
 .jp Tryz.f319 0 [1,0,0] 9 [1] 1 (.normal) (fun r_=>⟨[(1,.ptr 0 0),(46,.b_ r_)],[.box 44 (.dat (aH.lf1 p_e))]⟩) ⟨[(1,.ptr 0 0)],[.box 44 (.dat (aH.lf1 p_e))]⟩ (adS p_e).den (jW (by kernel_rfl)) fun r0 _ =>
 .iB (r0) (.ret (bD 1) (11)) <|
 .sj Tryz.f319 0 [1,1,0,0] [0,1,2,3,4,5,6,7,8] 3 9 [1] 1 (fun r_=>⟨[(1,.ptr 0 0),(55,.b_ r_)],[.box 44 (.dat (aH.lf1 p_e))]⟩) ⟨[(1,.ptr 0 0)],[.box 44 (.dat (aH.lf1 p_e))]⟩ (adT p_e).den (sW (by kernel_rfl)) fun r1 _ =>
 .sj Tryz.f319 0 [1,1,0,0] [9,10,11,12,13,14,15,16,17,18,19,20,21,22,23,24,25] 3 17 [1,55] 1 (fun r_=>⟨[(1,.ptr 0 0),(72,.b_ r_)],[.box 44 (.dat (aH.lf1 p_e))]⟩) ⟨[(1,.ptr 0 0),(55,.b_ r1)],[.box 44 (.dat (aH.lf1 p_e))]⟩ (aaN p_e r1).den (sW (by kernel_rfl)) fun r2 _ =>
 .iB (r2) (.ret (bD 1) (10)) <|
 .sj Tryz.f319 0 [1,1,1,0] [0,1,2,3,4,5,6,7] 5 8 [1] 1 (fun r_=>⟨[(1,.ptr 0 0),(80,.b_ r_)],[.box 44 (.dat (aH.lf1 p_e))]⟩) ⟨[(1,.ptr 0 0)],[.box 44 (.dat (aH.lf1 p_e))]⟩ (aaO p_e).den (sW (by kernel_rfl)) fun r3 _ =>
 .sj Tryz.f319 0 [1,1,1,0] [8,9,10,11,12] 5 5 [1,80] 1 (fun r_=>⟨[(1,.ptr 0 0),(85,.b_ r_)],[.box 44 (.dat (aH.lf1 p_e))]⟩) ⟨[(1,.ptr 0 0),(80,.b_ r3)],[.box 44 (.dat (aH.lf1 p_e))]⟩ (aaP p_e r3).den (sW (by kernel_rfl)) fun r4 _ =>
 .sj Tryz.f319 0 [1,1,1,0] [13] 5 1 [1,85] 1 (fun r_=>⟨[(1,.ptr 0 0),(3,.b_ r4)],[.box 44 (.dat (aH.lf1 p_e))]⟩) ⟨[(1,.ptr 0 0),(85,.b_ r4)],[.box 44 (.dat (aH.lf1 p_e))]⟩ (aaQ p_e r4).den (sW (by kernel_rfl)) fun r5 _ =>
 .sj Tryz.f319 0 [1,1,1,1,0,0] [0,1,2,3,4,5,6] 6 7 [1,3] 1 (fun r_=>⟨[(1,.ptr 0 0),(3,.b_ r4),(92,.b_ r_)],[.box 44 (.dat (aH.lf1 p_e))]⟩) ⟨[(1,.ptr 0 0),(3,.b_ r4)],[.box 44 (.dat (aH.lf1 p_e))]⟩ (aaR p_e r4).den (sW (by kernel_rfl)) fun r6 _ =>
 .sj Tryz.f319 0 [1,1,1,1,0,0] [7,8,9,10,11,12,13,14,15,16,17] 6 11 [1,3,92] 1 (fun r_=>⟨[(1,.ptr 0 0),(3,.b_ r4),(103,.b_ r_)],[.box 44 (.dat (aH.lf1 p_e))]⟩) ⟨[(1,.ptr 0 0),(3,.b_ r4),(92,.b_ r6)],[.box 44 (.dat (aH.lf1 p_e))]⟩ (aaS p_e r4 r6).den (sW (by kernel_rfl)) fun r7 _ =>
 .iB (r7) (.ret (bD 1) (9)) <|
 .jp Tryz.f319 0 [1,1,1,1,1,0,0] 23 [1,3] 1 (.normal) (fun r_=>⟨[(1,.ptr 0 0),(3,.b_ r4),(112,.b_ r_)],[.box 44 (.dat (aH.lf1 p_e))]⟩) ⟨[(1,.ptr 0 0),(3,.b_ r4)],[.box 44 (.dat (aH.lf1 p_e))]⟩ (aaT p_e r4).den (jW (by kernel_rfl)) fun r8 _ =>
 .iB (r8) (.ret (bD 1) (8)) <|
 .sj Tryz.f319 0 [1,1,1,1,1,1,0,0] [0,1,2,3,4,5,6,7] 10 8 [1,3] 1 (fun r_=>⟨[(1,.ptr 0 0),(3,.b_ r4),(120,.b_ r_)],[.box 44 (.dat (aH.lf1 p_e))]⟩) ⟨[(1,.ptr 0 0),(3,.b_ r4)],[.box 44 (.dat (aH.lf1 p_e))]⟩ (aaU p_e r4).den (sW (by kernel_rfl)) fun r9 _ =>
 .sj Tryz.f319 0 [1,1,1,1,1,1,0,0] [8,9,10,11,12,13] 10 6 [1,3,120] 1 (fun r_=>⟨[(1,.ptr 0 0),(3,.b_ r4),(126,.b_ r_)],[.box 44 (.dat (aH.lf1 p_e))]⟩) ⟨[(1,.ptr 0 0),(3,.b_ r4),(120,.b_ r9)],[.box 44 (.dat (aH.lf1 p_e))]⟩ (aaV p_e r4 r9).den (sW (by kernel_rfl)) fun r10 _ =>
 .sj Tryz.f319 0 [1,1,1,1,1,1,0,0] [14,15,16,17,18,19,20,21,22] 10 9 [1,3,126] 1 (fun r_=>⟨[(1,.ptr 0 0),(135,.b_ r_)],[.box 44 (.dat (aH.lf1 p_e))]⟩) ⟨[(1,.ptr 0 0),(3,.b_ r4),(126,.b_ r10)],[.box 44 (.dat (aH.lf1 p_e))]⟩ (aaW p_e r4 r10).den (sW (by kernel_rfl)) fun r11 _ =>
 .sj Tryz.f319 0 [1,1,1,1,1,1,0,0] [23,24,25,26,27,28,29,30,31,32,33] 10 11 [1,135] 1 (fun r_=>⟨[(1,.ptr 0 0),(146,.b_ r_)],[.box 44 (.dat (aH.lf1 p_e))]⟩) ⟨[(1,.ptr 0 0),(135,.b_ r11)],[.box 44 (.dat (aH.lf1 p_e))]⟩ (aaX p_e r11).den (sW (by kernel_rfl)) fun r12 _ =>
 .sj Tryz.f319 0 [1,1,1,1,1,1,0,0] [34,35,36,37,38,39,40,41,42,43,44,45] 10 12 [1,146] 1 (fun r_=>⟨[(1,.ptr 0 0),(158,.b_ r_)],[.box 44 (.dat (aH.lf1 p_e))]⟩) ⟨[(1,.ptr 0 0),(146,.b_ r12)],[.box 44 (.dat (aH.lf1 p_e))]⟩ (aaY p_e r12).den (sW (by kernel_rfl)) fun r13 _ =>
 .sj Tryz.f319 0 [1,1,1,1,1,1,0,0] [46,47,48,49,50] 10 5 [1,158] 1 (fun r_=>⟨[(163,.b_ r_)],[.dead]⟩) ⟨[(1,.ptr 0 0),(158,.b_ r13)],[.box 44 (.dat (aH.lf1 p_e))]⟩ (aaZ p_e r13).den (sW (by kernel_rfl)) fun r14 _ =>
 .iB (r14) (.ret (bD 1) (4)) <|
 .ret (bD 1) (0)
def Q39 (p_e:aH) : Option (Int) := Mo.den (ajg p_e)
theorem akX (p_e:aH) : FV (Q39 p_e) 319 [.dat (aH.lf1 p_e)] (fun r=>.i_ r) := bZ Tryz.func319 (by kernel_rfl) (fun _=>rfl) (by kernel_rfl)
structure SE where
 m1:(p_e:aH) → (p_number:Int) → (p_level:Int) → Option (Int × Int)
 ok1:∀ p_e p_number p_level,FV (m1 p_e p_number p_level) 297 [.dat (aH.lf1 p_e),.i_ p_number,.i_ p_level] (fun r=>.tup [.i_ r.1,.i_ r.2])
def SG (R_:SE) (p_e:aH) (p_level:Int) (p_number:Int) : Mo (Bool) :=
 .iG 4002 (decide ((16:Int) < p_level)) (.rt [1,2,3,17] 1 (true)) <|
 .rt [1,2,3,17] 1 (decide ((256:Int) < p_number))
def EZ (R_:SE) (p_e:aH) (p_level:Int) : (Int × Int) → Mo ((Int × Int) ⊕ (Int × Int) ⊕ (Int)) := fun (v0,v1) =>
 .say [.num p_e.bC.length] (ok1 (ln_ p_e.bC aH.lf)) <|
 .iB (decide ((v1:Int) < (p_e.bC.length:Int))) (.ask (bP p_e.bC v1) fun x0 h0 =>
 .say [.row (aH.lf1 x0)] (ok1 (aX aH.aZ h0)) <|
 .cl (R_.ok1 x0 (IntKind.wrap .i64 (v0 + 1)) (IntKind.wrap .i64 (p_level + 1))) fun r0 _ =>
 .iB (r0.2 != 0) (.ret ⟨[.kill 0],[6,7],[],1⟩ (.inr (.inl (r0.1,r0.2)))) <|
 .rt [1,2,3,9] 1 (.inl (r0.1,IntKind.wrap .i64 (v1 + 1)))) <|
 .ret ⟨[.kill 0],[1],[],1⟩ (.inr (.inr (v0)))
def adU (R_:SE) (p_e:aH) (p_level:Int) (v0:Int) (v1:Int) : Option ((Int × Int) ⊕ (Int)) := bM (fun v_=>(EZ R_ p_e p_level v_).den) FU (v0,v1)
def SH (R_:SE) (p_e:aH) (p_level:Int) : (Int × Int) → St := fun (v0,v1)=>⟨[(1,.i_ v0),(2,.i_ p_level),(3,.ptr 0 0),(9,.i_ v1)],[.box 44 (.dat (aH.lf1 p_e))]⟩
def yF (r_:(Int × Int) ⊕ (Int)) : Exit := match r_ with
 | .inl o_=>.ret
 | .inr (o_)=>.exit 0
def yG  (r_:(Int × Int) ⊕ (Int)) : St := match r_ with
 | .inl o_=>⟨[(6,.i_ o_.1),(7,.i_ o_.2)],[.dead]⟩
 | .inr (o_)=>⟨[(1,.i_ o_)],[.dead]⟩
theorem SK {R_:SE} {p_e:aH} {p_level:Int} {v0:Int} {v1:Int} {r_:(Int × Int) ⊕ (Int)} (h:adU R_ p_e p_level v0 v1 = some r_) : fK Tryz.f297 0 [1,1,1,0,1,0] (yF r_) (yG r_) (SH R_ p_e p_level (v0,v1)) :=
 dO dK (body := (Code.sub (bodyC Tryz.f297) [1,1,1,0,1,0,0])) (by kernel_rfl) (EZ R_ p_e p_level) (SH R_ p_e p_level) yF yG (fun r_=>by rcases r_ with _ | _ <;> rfl) (fun v_=>by kernel_rfl) h
def adV (R_:SE) (p_e:aH) (p_number:Int) (p_level:Int) : Mo (Int × Int) :=
 .jp Tryz.f297 0 [1,0,0] 9 [1,2,3] 1 (.normal) (fun r_=>⟨[(1,.i_ p_number),(2,.i_ p_level),(3,.ptr 0 0),(17,.b_ r_)],[.box 44 (.dat (aH.lf1 p_e))]⟩) ⟨[(1,.i_ p_number),(2,.i_ p_level),(3,.ptr 0 0)],[.box 44 (.dat (aH.lf1 p_e))]⟩ (SG R_ p_e p_level p_number).den (jW (by kernel_rfl)) fun r0 _ =>
 .iB (r0) (.ret (bD 2) (p_number,2)) <|
 .cl (akX p_e) fun r1 _ =>
 .iB (r1 != 0) (.ret (bD 2) (p_number,r1)) <|
 .eU (adU R_ p_e p_level p_number 0) (fun o0 h0 =>
 .say [.pt_ 0 [1,2,3,9] 1 (yF (.inl o0)) (yG (.inl o0))] (ok1 (SK h0)) <|
 .ret (bD 2) (o0.1,o0.2)) fun o1 h0 =>
 .say [.pt_ 0 [1,2,3,9] 1 (yF (.inr (o1))) (yG (.inr (o1)))] (ok1 (SK h0)) <|
 .ret (bD 2) (o1,0)
theorem ahk (R_:SE) (p_e:aH) (p_number:Int) (p_level:Int) : FV (Mo.den (adV R_ p_e p_number p_level)) 297 [.dat (aH.lf1 p_e),.i_ p_number,.i_ p_level] (fun r=>.tup [.i_ r.1,.i_ r.2]) := bZ Tryz.func297 (by kernel_rfl) (fun _=>rfl) (by kernel_rfl)
def qY:Nat → SE
 | 0=>{ m1 := fun p_e p_number p_level=>none,ok1 := fun _ _ _ _ h=>(by cases h) }
 | n_ + 1=>{ m1 := fun p_e p_number p_level=>Mo.den (adV (qY n_) p_e p_number p_level),ok1 := ahk (qY n_) }
def Q43 (p_e:aH) (p_number:Int) (p_level:Int) : Option (Int × Int) := (qY FU).m1 p_e p_number p_level
theorem akY (p_e:aH) (p_number:Int) (p_level:Int) : FV (Q43 p_e p_number p_level) 297 [.dat (aH.lf1 p_e),.i_ p_number,.i_ p_level] (fun r=>.tup [.i_ r.1,.i_ r.2]) := (qY FU).ok1 p_e p_number p_level
def adW (p_e:aH) : Mo (Int) :=
 .cl (akY p_e 1 1) fun r0 _ =>
 .ret (bD 1) (r0.2)
def amX (p_e:aH) : Option (Int) := Mo.den (adW p_e)
theorem ahl (p_e:aH) : FV (amX p_e) 250 [.dat (aH.lf1 p_e)] (fun r=>.i_ r) := bZ Tryz.func250 (by kernel_rfl) (fun _=>rfl) (by kernel_rfl)
structure nN where
 m1:(p_p:aO) → (p_elem:Bool) → Option (Int)
 ok1:∀ p_p p_elem,FV (m1 p_p p_elem) 206 [.dat (aO.lf1 p_p),.b_ p_elem] (fun r=>.i_ r)
def Zc (R_:nN) (p_elem:Bool) (p_p:aO) : Mo (Bool) :=
 .iG 4003 (decide ((p_p.fOp:Int) < 1)) (.rt [1,2,16] 1 (true)) <|
 .rt [1,2,16] 1 (decide ((24:Int) < p_p.fOp))
def Zd (R_:nN) (p_elem:Bool) (p_p:aO) (r0:Bool) : Mo (Bool) :=
 .iG 4008 (r0) (.rt [1,2,21] 1 (true)) <|
 .cl (ahh p_p) fun r1 _ =>
 .rt [1,2,21] 1 (!r1)
def SL (R_:nN) (p_elem:Bool) (p_p:aO) (r0:Bool) : Mo (Bool) :=
 .iG 4013 (r0) (.rt [1,2,32] 1 (true)) <|
 .cl (NC p_p.fOp) fun r1 _ =>
 .ite (r1) (fun c0 =>
 .say [.gd 4017 true,.num p_p.fArgs.length] (okc c0 (ok1 (ln_ p_p.fArgs ak.lf))) <|
 .rt [1,2,32] 1 ((p_p.fArgs.length:Int) == 0)) fun c0 =>
 .say [.gd 4017 false] (ok1 c0) <|
 .rt [1,2,32] 1 (false)
def SN (R_:nN) (p_elem:Bool) (p_p:aO) (r0:Bool) : Mo (Bool) :=
 .iG 4024 (r0) (.rt [1,2,37] 1 (true)) <|
 .cl (akQ p_p) fun r1 _ =>
 .rt [1,2,37] 1 (!r1)
def SQ (R_:nN) (p_elem:Bool) (p_p:aO) : Mo (Bool) :=
 .cl (Y7 p_p.fOp) fun r0 _ =>
 .iG 8003 (r0) (.cl (Ef p_p.dA) fun r1 _ =>
 .rt [1,2,46] 1 (!r1)) <|
 .rt [1,2,46] 1 (false)
def SS (R_:nN) (p_elem:Bool) (p_p:aO) (r0:Bool) : Mo (Bool) :=
 .iG 8009 (r0) (.ite (p_elem) (fun c0 =>
 .say [.gd 8011 true,.num p_p.dA.length] (okc c0 (ok1 (ln_ p_p.dA lfS))) <|
 .rt [1,2,56] 1 (!((p_p.dA.length:Int) == 0))) fun c0 =>
 .say [.gd 8011 false] (ok1 c0) <|
 .rt [1,2,56] 1 (true)) <|
 .rt [1,2,56] 1 (false)
def SV (R_:nN) (p_elem:Bool) (p_p:aO) : Mo (Bool) :=
 .cl (Y8 p_p.fOp) fun r0 _ =>
 .iG 12003 (r0) (.cl (oD p_p.fArg) fun r1 _ =>
 .iG 12008 (!r1) (.rt [1,2,76] 1 (true)) <|
 .cl (ND p_p.fOp) fun r2 _ =>
 .iG 12012 (r2) (.rt [1,2,76] 1 (p_p.fArg.aU != 4)) <|
 .rt [1,2,76] 1 (false)) <|
 .rt [1,2,76] 1 (false)
def SX (R_:nN) (p_elem:Bool) (p_p:aO) (v0:Int) : Mo (Bool) :=
 .say [.num p_p.fArgs.length] (ok1 (ln_ p_p.fArgs ak.lf)) <|
 .iG 18005 (decide ((v0:Int) < (p_p.fArgs.length:Int))) (.cl (NC p_p.fOp) fun r0 _ =>
 .rt [1,2,5,86] 1 (r0)) <|
 .rt [1,2,5,86] 1 (false)
def E5 (R_:nN) (p_elem:Bool) (p_p:aO) : (Int) → Mo ((Int) ⊕ (Unit ⊕ Unit)) := fun (v0) =>
 .jp Tryz.f206 0 [1,1,1,1,0,1,0,0,0,0] 23 [1,2,5] 1 (.normal) (fun r_=>⟨[(1,.b_ p_elem),(2,.ptr 0 0),(5,.i_ v0),(86,.b_ r_)],[.box 47 (.dat (aO.lf1 p_p))]⟩) ⟨[(1,.b_ p_elem),(2,.ptr 0 0),(5,.i_ v0)],[.box 47 (.dat (aO.lf1 p_p))]⟩ (SX R_ p_elem p_p v0).den (jW (by kernel_rfl)) fun r0 _ =>
 .iB (r0) (.ask (bP p_p.fArgs v0) fun x0 h0 =>
 .say [.row (ak.lf1 x0)] (ok1 (aX ak.aZ h0)) <|
 .cl (oD x0) fun r1 _ =>
 .iB (!r1) (.ret ⟨[.kill 0],[4],[],1⟩ (.inr (.inl ()))) <|
 .rt [1,2,5] 1 (.inl (IntKind.wrap .i64 (v0 + 1)))) <|
 .rt [1,2] 1 (.inr (.inr (())))
def adX (R_:nN) (p_elem:Bool) (p_p:aO) (v0:Int) : Option (Unit ⊕ Unit) := bM (fun v_=>(E5 R_ p_elem p_p v_).den) FU (v0)
def SY (R_:nN) (p_elem:Bool) (p_p:aO) : (Int) → St := fun (v0)=>⟨[(1,.b_ p_elem),(2,.ptr 0 0),(5,.i_ v0)],[.box 47 (.dat (aO.lf1 p_p))]⟩
def yH (r_:Unit ⊕ Unit) : Exit := match r_ with
 | .inl o_=>.ret
 | .inr (o_)=>.exit 0
def yI (p_elem:Bool) (p_p:aO) (r_:Unit ⊕ Unit) : St := match r_ with
 | .inl o_=>⟨[(4,.i_ 8)],[.dead]⟩
 | .inr (o_)=>⟨[(1,.b_ p_elem),(2,.ptr 0 0)],[.box 47 (.dat (aO.lf1 p_p))]⟩
theorem S9 {R_:nN} {p_elem:Bool} {p_p:aO} {v0:Int} {r_:Unit ⊕ Unit} (h:adX R_ p_elem p_p v0 = some r_) : fK Tryz.f206 0 [1,1,1,1,0,1,0] (yH r_) (yI p_elem p_p r_) (SY R_ p_elem p_p (v0)) :=
 dO dK (body := (Code.sub (bodyC Tryz.f206) [1,1,1,1,0,1,0,0])) (by kernel_rfl) (E5 R_ p_elem p_p) (SY R_ p_elem p_p) yH (yI p_elem p_p) (fun r_=>by rcases r_ with _ | _ <;> rfl) (fun v_=>by kernel_rfl) h
def E8 (R_:nN) (p_elem:Bool) (p_p:aO) : Mo ((Int) ⊕ Unit) :=
 .iB (p_p.fOp == 18) (.cl (akR p_p.eG) fun r0 _ =>
 .iB (r0 != 0) (.ret ⟨[.kill 0],[4],[],1⟩ (.inl (r0))) <|
 .rt [1,2] 1 (.inr (()))) <|
 .rt [1,2] 1 (.inr (()))
def adY (R_:nN) (p_elem:Bool) (p_p:aO) : Option ((Int) ⊕ Unit) := Mo.den (E8 R_ p_elem p_p)
def yJ (r_:(Int) ⊕ Unit) : Exit := match r_ with
 | .inl o_=>.ret
 | .inr (o_)=>.normal
def yK (p_elem:Bool) (p_p:aO) (r_:(Int) ⊕ Unit) : St := match r_ with
 | .inl o_=>⟨[(4,.i_ o_)],[.dead]⟩
 | .inr (o_)=>⟨[(1,.b_ p_elem),(2,.ptr 0 0)],[.box 47 (.dat (aO.lf1 p_p))]⟩
theorem Tc {R_:nN} {p_elem:Bool} {p_p:aO} {r_:(Int) ⊕ Unit} (h:adY R_ p_elem p_p = some r_) : fK Tryz.f206 0 [1,1,1,1,1,0,1] (yJ r_) (yK p_elem p_p r_) ⟨[(1,.b_ p_elem),(2,.ptr 0 0),(98,.lf (.bool (p_p.fOp == 18)))],[.box 47 (.dat (aO.lf1 p_p))]⟩ :=
 jh dK (E8 R_ p_elem p_p) yJ (yK p_elem p_p) (by kernel_rfl) h
def Td (R_:nN) (p_elem:Bool) (p_p:aO) (v0:Int) : Mo (Int) :=
 .ask (bP p_p.bC v0) fun x0 h0 =>
 .say [] (ok1 (aX aO.aZ h0)) <|
 .ite (p_elem) (fun c0 =>
 .say [] (ok1 c0) <|
 .ask (R_.m1 x0 true) fun r0 h1 =>
 .say [.dL (.q 0 (.q 1 (.q 2 (.q 3 (.q 4 (.q 5 (.q 6 (.q 7 (.q 8 (.q 9 (.q 10 (.l 11 (.q 12 .fin))))))))))))) (some 11) [] [.row (aO.lf1 x0),.gd 48006 true,.res (.i_ r0)] [1,2,7,8] 1 [(1,.b_ p_elem),(2,.ptr 0 0),(7,.i_ v0),(8,.i_ r0)] [.box 47 (.dat (aO.lf1 p_p))]] (okc (R_.ok1 _ _ _ h1) (ok1 (rf_ ⟨[(1,.b_ p_elem),(2,.ptr 0 0),(7,.i_ v0),(8,.i_ r0)],[.box 47 (.dat (aO.lf1 p_p))]⟩))) <|
 .rt [1,2,7,8] 1 (r0)) fun c0 =>
 .say [] (ok1 c0) <|
 .ask (R_.m1 x0 (p_p.fOp == 15)) fun r1 h2 =>
 .say [.dL (.q 0 (.q 1 (.q 2 (.q 3 (.q 4 (.q 5 (.q 6 (.q 7 (.q 8 (.q 9 (.q 10 (.l 11 (.q 12 .fin))))))))))))) (some 11) [] [.row (aO.lf1 x0),.gd 48006 false,.res (.i_ r1)] [1,2,7,8] 1 [(1,.b_ p_elem),(2,.ptr 0 0),(7,.i_ v0),(8,.i_ r1)] [.box 47 (.dat (aO.lf1 p_p))]] (okc (R_.ok1 _ _ _ h2) (ok1 (rf_ ⟨[(1,.b_ p_elem),(2,.ptr 0 0),(7,.i_ v0),(8,.i_ r1)],[.box 47 (.dat (aO.lf1 p_p))]⟩))) <|
 .rt [1,2,7,8] 1 (r1)
def Fa (R_:nN) (p_elem:Bool) (p_p:aO) : (Int) → Mo ((Int) ⊕ (Int) ⊕ Unit) := fun (v0) =>
 .say [.num p_p.bC.length] (ok1 (ln_ p_p.bC aO.lf)) <|
 .iB (decide ((v0:Int) < (p_p.bC.length:Int))) (.jp Tryz.f206 0 [1,1,1,1,1,1,1,1,0,1,0,0,1,0,0,0] 53 [1,2,7] 1 (.normal) (fun r_=>⟨[(1,.b_ p_elem),(2,.ptr 0 0),(7,.i_ v0),(8,.i_ r_)],[.box 47 (.dat (aO.lf1 p_p))]⟩) ⟨[(1,.b_ p_elem),(2,.ptr 0 0),(7,.i_ v0)],[.box 47 (.dat (aO.lf1 p_p))]⟩ (Td R_ p_elem p_p v0).den (jW (by kernel_rfl)) fun r0 _ =>
 .iB (r0 != 0) (.ret ⟨[.kill 0],[4],[],1⟩ (.inr (.inl (r0)))) <|
 .rt [1,2,7] 1 (.inl (IntKind.wrap .i64 (v0 + 1)))) <|
 .ret ⟨[.kill 0],[],[],1⟩ (.inr (.inr (())))
def adZ (R_:nN) (p_elem:Bool) (p_p:aO) (v0:Int) : Option ((Int) ⊕ Unit) := bM (fun v_=>(Fa R_ p_elem p_p v_).den) FU (v0)
def Tf (R_:nN) (p_elem:Bool) (p_p:aO) : (Int) → St := fun (v0)=>⟨[(1,.b_ p_elem),(2,.ptr 0 0),(7,.i_ v0)],[.box 47 (.dat (aO.lf1 p_p))]⟩
def yL (r_:(Int) ⊕ Unit) : Exit := match r_ with
 | .inl o_=>.ret
 | .inr (o_)=>.exit 2
def yM  (r_:(Int) ⊕ Unit) : St := match r_ with
 | .inl o_=>⟨[(4,.i_ o_)],[.dead]⟩
 | .inr (o_)=>⟨[],[.dead]⟩
theorem Ti {R_:nN} {p_elem:Bool} {p_p:aO} {v0:Int} {r_:(Int) ⊕ Unit} (h:adZ R_ p_elem p_p v0 = some r_) : fK Tryz.f206 0 [1,1,1,1,1,1,1,1,0,1,0] (yL r_) (yM r_) (Tf R_ p_elem p_p (v0)) :=
 dO dK (body := (Code.sub (bodyC Tryz.f206) [1,1,1,1,1,1,1,1,0,1,0,0])) (by kernel_rfl) (Fa R_ p_elem p_p) (Tf R_ p_elem p_p) yL yM (fun r_=>by rcases r_ with _ | _ <;> rfl) (fun v_=>by kernel_rfl) h
def akZ (R_:nN) (p_p:aO) (p_elem:Bool) : Mo (Int) :=
 .sj Tryz.f206 0 [1,0,0] [0,1,2,3,4,5,6,7] 1 8 [1,2] 1 (fun r_=>⟨[(1,.b_ p_elem),(2,.ptr 0 0),(16,.b_ r_)],[.box 47 (.dat (aO.lf1 p_p))]⟩) ⟨[(1,.b_ p_elem),(2,.ptr 0 0)],[.box 47 (.dat (aO.lf1 p_p))]⟩ (Zc R_ p_elem p_p).den (sW (by kernel_rfl)) fun r0 _ =>
 .sj Tryz.f206 0 [1,0,0] [8,9,10,11,12] 1 5 [1,2,16] 1 (fun r_=>⟨[(1,.b_ p_elem),(2,.ptr 0 0),(21,.b_ r_)],[.box 47 (.dat (aO.lf1 p_p))]⟩) ⟨[(1,.b_ p_elem),(2,.ptr 0 0),(16,.b_ r0)],[.box 47 (.dat (aO.lf1 p_p))]⟩ (Zd R_ p_elem p_p r0).den (sW (by kernel_rfl)) fun r1 _ =>
 .sj Tryz.f206 0 [1,0,0] [13,14,15,16,17,18,19,20,21,22,23] 1 11 [1,2,21] 1 (fun r_=>⟨[(1,.b_ p_elem),(2,.ptr 0 0),(32,.b_ r_)],[.box 47 (.dat (aO.lf1 p_p))]⟩) ⟨[(1,.b_ p_elem),(2,.ptr 0 0),(21,.b_ r1)],[.box 47 (.dat (aO.lf1 p_p))]⟩ (SL R_ p_elem p_p r1).den (sW (by kernel_rfl)) fun r2 _ =>
 .sj Tryz.f206 0 [1,0,0] [24,25,26,27,28] 1 5 [1,2,32] 1 (fun r_=>⟨[(1,.b_ p_elem),(2,.ptr 0 0),(37,.b_ r_)],[.box 47 (.dat (aO.lf1 p_p))]⟩) ⟨[(1,.b_ p_elem),(2,.ptr 0 0),(32,.b_ r2)],[.box 47 (.dat (aO.lf1 p_p))]⟩ (SN R_ p_elem p_p r2).den (sW (by kernel_rfl)) fun r3 _ =>
 .iB (r3) (.ret (bD 1) (11)) <|
 .sj Tryz.f206 0 [1,1,0,0] [0,1,2,3,4,5,6,7,8] 3 9 [1,2] 1 (fun r_=>⟨[(1,.b_ p_elem),(2,.ptr 0 0),(46,.b_ r_)],[.box 47 (.dat (aO.lf1 p_p))]⟩) ⟨[(1,.b_ p_elem),(2,.ptr 0 0)],[.box 47 (.dat (aO.lf1 p_p))]⟩ (SQ R_ p_elem p_p).den (sW (by kernel_rfl)) fun r4 _ =>
 .sj Tryz.f206 0 [1,1,0,0] [9,10,11,12,13,14,15,16,17,18] 3 10 [1,2,46] 1 (fun r_=>⟨[(1,.b_ p_elem),(2,.ptr 0 0),(56,.b_ r_)],[.box 47 (.dat (aO.lf1 p_p))]⟩) ⟨[(1,.b_ p_elem),(2,.ptr 0 0),(46,.b_ r4)],[.box 47 (.dat (aO.lf1 p_p))]⟩ (SS R_ p_elem p_p r4).den (sW (by kernel_rfl)) fun r5 _ =>
 .iB (r5) (.ret (bD 1) (10)) <|
 .jp Tryz.f206 0 [1,1,1,0,0] 17 [1,2] 1 (.normal) (fun r_=>⟨[(1,.b_ p_elem),(2,.ptr 0 0),(76,.b_ r_)],[.box 47 (.dat (aO.lf1 p_p))]⟩) ⟨[(1,.b_ p_elem),(2,.ptr 0 0)],[.box 47 (.dat (aO.lf1 p_p))]⟩ (SV R_ p_elem p_p).den (jW (by kernel_rfl)) fun r6 _ =>
 .iB (r6) (.ret (bD 1) (8)) <|
 .eU (adX R_ p_elem p_p 0) (fun o0 h0 =>
 .say [.pt_ 0 [1,2,5] 1 (yH (.inl o0)) (yI p_elem p_p (.inl o0))] (ok1 (S9 h0)) <|
 .ret (bD 1) (8)) fun o1 h0 =>
 .say [.pt_ 0 [1,2,5] 1 (yH (.inr (o1))) (yI p_elem p_p (.inr (o1)))] (ok1 (S9 h0)) <|
 .eU (adY R_ p_elem p_p) (fun o2 h1 =>
 .say [.pt_ 1 [1,2,98] 1 (yJ (.inl o2)) (yK p_elem p_p (.inl o2))] (ok1 (Tc h1)) <|
 .ret (bD 1) (o2)) fun o3 h1 =>
 .say [.pt_ 1 [1,2,98] 1 (yJ (.inr (o3))) (yK p_elem p_p (.inr (o3)))] (ok1 (Tc h1)) <|
 .cl (akT p_p) fun r7 _ =>
 .iB (!r7) (.ret (bD 1) (4)) <|
 .iB (p_p.fOp == 24) (.cl (ahl p_p.fExpr) fun r8 _ =>
 .ret (bD 1) (r8)) <|
 .eU (adZ R_ p_elem p_p 0) (fun o4 h2 =>
 .say [.pt_ 0 [1,2,7] 1 (yL (.inl o4)) (yM (.inl o4))] (ok1 (Ti h2)) <|
 .ret (bD 1) (o4)) fun o5 h2 =>
 .say [.pt_ 0 [1,2,7] 1 (yL (.inr (o5))) (yM (.inr (o5)))] (ok1 (Ti h2)) <|
 .ret (bD 1) (0)
theorem ak0 (R_:nN) (p_p:aO) (p_elem:Bool) : FV (Mo.den (akZ R_ p_p p_elem)) 206 [.dat (aO.lf1 p_p),.b_ p_elem] (fun r=>.i_ r) := bZ Tryz.func206 (by kernel_rfl) (fun _=>rfl) (by kernel_rfl)
def jr:Nat → nN
 | 0=>{ m1 := fun p_p p_elem=>none,ok1 := fun _ _ _ h=>(by cases h) }
 | n_ + 1=>{ m1 := fun p_p p_elem=>Mo.den (akZ (jr n_) p_p p_elem),ok1 := ak0 (jr n_) }
def Q0 (p_p:aO) (p_elem:Bool) : Option (Int) := (jr FU).m1 p_p p_elem
theorem amY (p_p:aO) (p_elem:Bool) : FV (Q0 p_p p_elem) 206 [.dat (aO.lf1 p_p),.b_ p_elem] (fun r=>.i_ r) := (jr FU).ok1 p_p p_elem
def ad1 (p_p:aO) : Mo (Int) :=
 .cl (akP p_p 16 256) fun r0 _ =>
 .iB (decide ((r0:Int) < 0)) (.ret (bD 1) (2)) <|
 .cl (amY p_p false) fun r1 _ =>
 .ret (bD 1) (r1)
def amZ (p_p:aO) : Option (Int) := Mo.den (ad1 p_p)
theorem ahm (p_p:aO) : FV (amZ p_p) 160 [.dat (aO.lf1 p_p)] (fun r=>.i_ r) := bZ Tryz.func160 (by kernel_rfl) (fun _=>rfl) (by kernel_rfl)
def Fb (p_a:List ByteArray) (p_b:List ByteArray) : (Int) → Mo ((Int) ⊕ (Unit ⊕ Unit)) := fun (v0) =>
 .say [.num p_a.length] (ok1 (ln_ p_a lfS)) <|
 .ite (decide ((v0:Int) < (p_a.length:Int))) (fun c0 =>
 .say [.br true,.order [(true,0),(true,1),(true,2),(true,3),(true,4),(true,5),(true,6),(true,7),(true,8)] none []] (ok1 c0) <|
 .ask (bP p_a v0) fun x0 h0 =>
 .say [.row (lfS x0)] (ok1 (aX lS_ h0)) <|
 .ask (bP p_b v0) fun x1 h1 =>
 .say [.row (lfS x1)] (ok1 (aX lS_ h1)) <|
 .iB (!decide ((x0:ByteArray) = (x1:ByteArray))) (.rt [4] 0 (.inr (.inl ()))) <|
 .rt [0,1,5] 0 (.inl (IntKind.wrap .i64 (v0 + 1)))) fun c0 =>
 .say [.br false] (ok1 c0) <|
 .rt [] 0 (.inr (.inr (())))
def ad2 (p_a:List ByteArray) (p_b:List ByteArray) (v0:Int) : Option (Unit ⊕ Unit) := bM (fun v_=>(Fb p_a p_b v_).den) FU (v0)
def Tj (p_a:List ByteArray) (p_b:List ByteArray) : (Int) → St := fun (v0)=>⟨[(0,.lf (.rows 1 (p_a.map lfS))),(1,.lf (.rows 1 (p_b.map lfS))),(5,.i_ v0)],[]⟩
def yN (r_:Unit ⊕ Unit) : Exit := match r_ with
 | .inl o_=>.ret
 | .inr (o_)=>.exit 0
def yO  (r_:Unit ⊕ Unit) : St := match r_ with
 | .inl o_=>⟨[(4,.b_ false)],[]⟩
 | .inr (o_)=>⟨[],[]⟩
theorem Tn {p_a:List ByteArray} {p_b:List ByteArray} {v0:Int} {r_:Unit ⊕ Unit} (h:ad2 p_a p_b v0 = some r_) : fK Tryz.f298 0 [1,1,0,1,0] (yN r_) (yO r_) (Tj p_a p_b (v0)) :=
 dO dK (body := (Code.sub (bodyC Tryz.f298) [1,1,0,1,0,0])) (by kernel_rfl) (Fb p_a p_b) (Tj p_a p_b) yN yO (fun r_=>by rcases r_ with _ | _ <;> rfl) (fun v_=>by kernel_rfl) h
def ajh (p_a:List ByteArray) (p_b:List ByteArray) : Mo (Bool) :=
 .say [.num p_a.length,.num p_b.length] (okc (ln_ p_a lfS) (ok1 (ln_ p_b lfS))) <|
 .iB (decide (((p_b.length:Int) : Int) < (p_a.length:Int))) (.ret (bD 1) (false)) <|
 .eU (ad2 p_a p_b 0) (fun o0 h0 =>
 .say [.pt_ 0 [0,1,5] 0 (yN (.inl o0)) (yO (.inl o0))] (ok1 (Tn h0)) <|
 .ret (bD 1) (false)) fun o1 h0 =>
 .say [.pt_ 0 [0,1,5] 0 (yN (.inr (o1))) (yO (.inr (o1)))] (ok1 (Tn h0)) <|
 .ret (bD 1) (true)
def Q55 (p_a:List ByteArray) (p_b:List ByteArray) : Option (Bool) := Mo.den (ajh p_a p_b)
theorem ak1 (p_a:List ByteArray) (p_b:List ByteArray) : FV (Q55 p_a p_b) 298 [.lf (.rows 1 (p_a.map lfS)),.lf (.rows 1 (p_b.map lfS))] (fun r=>.b_ r) := bZ Tryz.func298 (by kernel_rfl) (fun _=>rfl) (by kernel_rfl)
def ad3 (p_a:List ByteArray) (p_b:List ByteArray) : Mo (Bool) :=
 .say [.num p_a.length,.num p_b.length] (okc (ln_ p_a lfS) (ok1 (ln_ p_b lfS))) <|
 .iG 4005 ((p_a.length:Int) == (p_b.length:Int)) (.cl (ak1 p_a p_b) fun r0 _ =>
 .ret (bD 1) (r0)) <|
 .ret (bD 1) (false)
def am0 (p_a:List ByteArray) (p_b:List ByteArray) : Option (Bool) := Mo.den (ad3 p_a p_b)
theorem Ze (p_a:List ByteArray) (p_b:List ByteArray) : FV (am0 p_a p_b) 251 [.lf (.rows 1 (p_a.map lfS)),.lf (.rows 1 (p_b.map lfS))] (fun r=>.b_ r) := bZ Tryz.func251 (by kernel_rfl) (fun _=>rfl) (by kernel_rfl)
structure Bg where
 m1:(p_a:aH) → (p_b:aH) → Option (Bool)
 ok1:∀ p_a p_b,FV (m1 p_a p_b) 208 [.dat (aH.lf1 p_a),.dat (aH.lf1 p_b)] (fun r=>.b_ r)
def Tq (R_:Bg) (p_a:aH) (p_b:aH) : Mo (Bool) :=
 .iG 4005 (p_a.fOp != p_b.fOp) (.rt [2,3,18] 2 (true)) <|
 .cl (Ze p_a.dA p_b.dA) fun r0 _ =>
 .rt [2,3,18] 2 (!r0)
def Tt (R_:Bg) (p_a:aH) (p_b:aH) (r0:Bool) : Mo (Bool) :=
 .iG 4013 (r0) (.rt [2,3,25] 2 (true)) <|
 .rt [2,3,25] 2 (!decide ((p_a.fName:ByteArray) = (p_b.fName:ByteArray)))
def JB (R_:Bg) (p_a:aH) (p_b:aH) (r0:Bool) : Mo (Bool) :=
 .iG 4020 (r0) (.rt [2,3,33] 2 (true)) <|
 .cl (Ze p_a.bT p_b.bT) fun r1 _ =>
 .rt [2,3,33] 2 (!r1)
def JC (R_:Bg) (p_a:aH) (p_b:aH) (r0:Bool) : Mo (Bool) :=
 .iG 4028 (r0) (.rt [2,3,41] 2 (true)) <|
 .cl (Zb p_a.fArg p_b.fArg) fun r1 _ =>
 .rt [2,3,41] 2 (!r1)
def JD (R_:Bg) (p_a:aH) (p_b:aH) (r0:Bool) : Mo (Bool) :=
 .iG 4036 (r0) (.rt [2,3,48] 2 (true)) <|
 .rt [2,3,48] 2 (p_a.fN != p_b.fN)
def JE (R_:Bg) (p_a:aH) (p_b:aH) (r0:Bool) : Mo (Bool) :=
 .ite (r0) (fun c0 =>
 .say [.gd 4043 true] (ok1 c0) <|
 .rt [2,3,57] 2 (true)) fun c0 =>
 .say [.gd 4043 false,.num p_a.bC.length,.num p_b.bC.length] (okc c0 (okc (ln_ p_a.bC aH.lf) (ok1 (ln_ p_b.bC aH.lf)))) <|
 .rt [2,3,57] 2 ((p_a.bC.length:Int) != (p_b.bC.length:Int))
def Bh (R_:Bg) (p_a:aH) (p_b:aH) : (Int) → Mo ((Int) ⊕ (Unit ⊕ Unit)) := fun (v0) =>
 .say [.num p_a.bC.length] (ok1 (ln_ p_a.bC aH.lf)) <|
 .iB (decide ((v0:Int) < (p_a.bC.length:Int))) (.ask (bP p_a.bC v0) fun x0 h0 =>
 .say [] (ok1 (aX aH.aZ h0)) <|
 .ask (bP p_b.bC v0) fun x1 h1 =>
 .say [] (ok1 (aX aH.aZ h1)) <|
 .ask (R_.m1 x0 x1) fun r0 h2 =>
 .say [.dL (.q 0 (.q 1 (.q 2 (.q 3 (.q 4 (.q 5 (.q 6 (.q 7 (.q 8 (.q 9 (.l 10 (.q 11 .fin)))))))))))) (some 10) [] [.row (aH.lf1 x0),.row (aH.lf1 x1),.res (.b_ r0)] [2,3,5,76] 2 [(2,.ptr 0 0),(3,.ptr 1 0),(5,.i_ v0),(76,.lf (.bool (!r0)))] [.box 44 (.dat (aH.lf1 p_a)),.box 44 (.dat (aH.lf1 p_b))]] (okc (R_.ok1 _ _ _ h2) (ok1 (rf_ ⟨[(2,.ptr 0 0),(3,.ptr 1 0),(5,.i_ v0),(76,.lf (.bool (!r0)))],[.box 44 (.dat (aH.lf1 p_a)),.box 44 (.dat (aH.lf1 p_b))]⟩))) <|
 .iB (!r0) (.ret ⟨[.kill 0,.kill 1],[4],[],2⟩ (.inr (.inl ()))) <|
 .rt [2,3,5] 2 (.inl (IntKind.wrap .i64 (v0 + 1)))) <|
 .ret ⟨[.kill 0,.kill 1],[],[],2⟩ (.inr (.inr (())))
def Zf (R_:Bg) (p_a:aH) (p_b:aH) (v0:Int) : Option (Unit ⊕ Unit) := bM (fun v_=>(Bh R_ p_a p_b v_).den) FU (v0)
def JF (R_:Bg) (p_a:aH) (p_b:aH) : (Int) → St := fun (v0)=>⟨[(2,.ptr 0 0),(3,.ptr 1 0),(5,.i_ v0)],[.box 44 (.dat (aH.lf1 p_a)),.box 44 (.dat (aH.lf1 p_b))]⟩
def sV (r_:Unit ⊕ Unit) : Exit := match r_ with
 | .inl o_=>.ret
 | .inr (o_)=>.exit 0
def sZ  (r_:Unit ⊕ Unit) : St := match r_ with
 | .inl o_=>⟨[(4,.b_ false)],[.dead,.dead]⟩
 | .inr (o_)=>⟨[],[.dead,.dead]⟩
theorem JG {R_:Bg} {p_a:aH} {p_b:aH} {v0:Int} {r_:Unit ⊕ Unit} (h:Zf R_ p_a p_b v0 = some r_) : fK Tryz.f208 0 [1,1,0,1,0] (sV r_) (sZ r_) (JF R_ p_a p_b (v0)) :=
 dO dK (body := (Code.sub (bodyC Tryz.f208) [1,1,0,1,0,0])) (by kernel_rfl) (Bh R_ p_a p_b) (JF R_ p_a p_b) sV sZ (fun r_=>by rcases r_ with _ | _ <;> rfl) (fun v_=>by kernel_rfl) h
def ad4 (R_:Bg) (p_a:aH) (p_b:aH) : Mo (Bool) :=
 .sj Tryz.f208 0 [1,0,0] [0,1,2,3,4,5,6,7,8,9,10,11,12] 1 13 [2,3] 2 (fun r_=>⟨[(2,.ptr 0 0),(3,.ptr 1 0),(18,.b_ r_)],[.box 44 (.dat (aH.lf1 p_a)),.box 44 (.dat (aH.lf1 p_b))]⟩) ⟨[(2,.ptr 0 0),(3,.ptr 1 0)],[.box 44 (.dat (aH.lf1 p_a)),.box 44 (.dat (aH.lf1 p_b))]⟩ (Tq R_ p_a p_b).den (sW (by kernel_rfl)) fun r0 _ =>
 .sj Tryz.f208 0 [1,0,0] [13,14,15,16,17,18,19] 1 7 [2,3,18] 2 (fun r_=>⟨[(2,.ptr 0 0),(3,.ptr 1 0),(25,.b_ r_)],[.box 44 (.dat (aH.lf1 p_a)),.box 44 (.dat (aH.lf1 p_b))]⟩) ⟨[(2,.ptr 0 0),(3,.ptr 1 0),(18,.b_ r0)],[.box 44 (.dat (aH.lf1 p_a)),.box 44 (.dat (aH.lf1 p_b))]⟩ (Tt R_ p_a p_b r0).den (sW (by kernel_rfl)) fun r1 _ =>
 .sj Tryz.f208 0 [1,0,0] [20,21,22,23,24,25,26,27] 1 8 [2,3,25] 2 (fun r_=>⟨[(2,.ptr 0 0),(3,.ptr 1 0),(33,.b_ r_)],[.box 44 (.dat (aH.lf1 p_a)),.box 44 (.dat (aH.lf1 p_b))]⟩) ⟨[(2,.ptr 0 0),(3,.ptr 1 0),(25,.b_ r1)],[.box 44 (.dat (aH.lf1 p_a)),.box 44 (.dat (aH.lf1 p_b))]⟩ (JB R_ p_a p_b r1).den (sW (by kernel_rfl)) fun r2 _ =>
 .sj Tryz.f208 0 [1,0,0] [28,29,30,31,32,33,34,35] 1 8 [2,3,33] 2 (fun r_=>⟨[(2,.ptr 0 0),(3,.ptr 1 0),(41,.b_ r_)],[.box 44 (.dat (aH.lf1 p_a)),.box 44 (.dat (aH.lf1 p_b))]⟩) ⟨[(2,.ptr 0 0),(3,.ptr 1 0),(33,.b_ r2)],[.box 44 (.dat (aH.lf1 p_a)),.box 44 (.dat (aH.lf1 p_b))]⟩ (JC R_ p_a p_b r2).den (sW (by kernel_rfl)) fun r3 _ =>
 .sj Tryz.f208 0 [1,0,0] [36,37,38,39,40,41,42] 1 7 [2,3,41] 2 (fun r_=>⟨[(2,.ptr 0 0),(3,.ptr 1 0),(48,.b_ r_)],[.box 44 (.dat (aH.lf1 p_a)),.box 44 (.dat (aH.lf1 p_b))]⟩) ⟨[(2,.ptr 0 0),(3,.ptr 1 0),(41,.b_ r3)],[.box 44 (.dat (aH.lf1 p_a)),.box 44 (.dat (aH.lf1 p_b))]⟩ (JD R_ p_a p_b r3).den (sW (by kernel_rfl)) fun r4 _ =>
 .sj Tryz.f208 0 [1,0,0] [43,44,45,46,47,48,49,50,51] 1 9 [2,3,48] 2 (fun r_=>⟨[(2,.ptr 0 0),(3,.ptr 1 0),(57,.b_ r_)],[.box 44 (.dat (aH.lf1 p_a)),.box 44 (.dat (aH.lf1 p_b))]⟩) ⟨[(2,.ptr 0 0),(3,.ptr 1 0),(48,.b_ r4)],[.box 44 (.dat (aH.lf1 p_a)),.box 44 (.dat (aH.lf1 p_b))]⟩ (JE R_ p_a p_b r4).den (sW (by kernel_rfl)) fun r5 _ =>
 .iB (r5) (.ret (bD 1) (false)) <|
 .eU (Zf R_ p_a p_b 0) (fun o0 h0 =>
 .say [.pt_ 0 [2,3,5] 2 (sV (.inl o0)) (sZ (.inl o0))] (ok1 (JG h0)) <|
 .ret (bD 1) (false)) fun o1 h0 =>
 .say [.pt_ 0 [2,3,5] 2 (sV (.inr (o1))) (sZ (.inr (o1)))] (ok1 (JG h0)) <|
 .ret (bD 1) (true)
theorem ahn (R_:Bg) (p_a:aH) (p_b:aH) : FV (Mo.den (ad4 R_ p_a p_b)) 208 [.dat (aH.lf1 p_a),.dat (aH.lf1 p_b)] (fun r=>.b_ r) := bZ Tryz.func208 (by kernel_rfl) (fun _=>rfl) (by kernel_rfl)
def kW:Nat → Bg
 | 0=>{ m1 := fun p_a p_b=>none,ok1 := fun _ _ _ h=>(by cases h) }
 | n_ + 1=>{ m1 := fun p_a p_b=>Mo.den (ad4 (kW n_) p_a p_b),ok1 := ahn (kW n_) }
def Q19 (p_a:aH) (p_b:aH) : Option (Bool) := (kW FU).m1 p_a p_b
theorem ak2 (p_a:aH) (p_b:aH) : FV (Q19 p_a p_b) 208 [.dat (aH.lf1 p_a),.dat (aH.lf1 p_b)] (fun r=>.b_ r) := (kW FU).ok1 p_a p_b
def ad5 (p_p:aO) : Mo (Bool) :=
 .ite (p_p.fOp == 0) (fun c0 =>
 .say [.gd 4003 true,.num p_p.dA.length] (okc c0 (ok1 (ln_ p_p.dA lfS))) <|
 .rt [1,2,11] 1 ((p_p.dA.length:Int) == 0)) fun c0 =>
 .say [.gd 4003 false] (ok1 c0) <|
 .rt [1,2,11] 1 (false)
def ad6 (p_p:aO) (r0:Bool) : Mo (Bool) :=
 .iG 4009 (r0) (.cl (Zb p_p.fArg (ak.mk 0 0 ⟨#[]⟩ [] [])) fun r1 _ =>
 .rt [1,2,17] 1 (r1)) <|
 .rt [1,2,17] 1 (false)
def aa0 (p_p:aO) (r0:Bool) : Mo (Bool) :=
 .ite (r0) (fun c0 =>
 .say [.gd 4015 true,.num p_p.fArgs.length] (okc c0 (ok1 (ln_ p_p.fArgs ak.lf))) <|
 .rt [1,2,23] 1 ((p_p.fArgs.length:Int) == 0)) fun c0 =>
 .say [.gd 4015 false] (ok1 c0) <|
 .rt [1,2,23] 1 (false)
def aa1 (p_p:aO) (r0:Bool) : Mo (Bool) :=
 .iG 4021 (r0) (.rt [1,2,28] 1 (p_p.fN == 0)) <|
 .rt [1,2,28] 1 (false)
def aa2 (p_p:aO) (r0:Bool) : Mo (Bool) :=
 .iG 4026 (r0) (.rt [1,2,33] 1 (p_p.fM == 0)) <|
 .rt [1,2,33] 1 (false)
def aa3 (p_p:aO) (r0:Bool) : Mo (Bool) :=
 .iG 4031 (r0) (.rt [1,2,39] 1 (p_p.eG.aU == 0)) <|
 .rt [1,2,39] 1 (false)
def aa4 (p_p:aO) (r0:Bool) : Mo (Bool) :=
 .ite (r0) (fun c0 =>
 .say [.gd 4037 true,.num p_p.eG.cu.length] (okc c0 (ok1 (ln_ p_p.eG.cu dH.lf))) <|
 .rt [1,2,46] 1 ((p_p.eG.cu.length:Int) == 0)) fun c0 =>
 .say [.gd 4037 false] (ok1 c0) <|
 .rt [1,2,46] 1 (false)
def aa5 (p_p:aO) (r0:Bool) : Mo (Bool) :=
 .iG 4044 (r0) (.rt [1,2,52] 1 (p_p.eG.fR == 0)) <|
 .rt [1,2,52] 1 (false)
def aa6 (p_p:aO) (r0:Bool) : Mo (Bool) :=
 .iG 4050 (r0) (.cl (ak2 p_p.fExpr aH.z) fun r1 _ =>
 .rt [1,2,58] 1 (r1)) <|
 .rt [1,2,58] 1 (false)
def aa7 (p_p:aO) (r0:Bool) : Mo (Bool) :=
 .ite (r0) (fun c0 =>
 .say [.gd 4056 true,.num p_p.bC.length] (okc c0 (ok1 (ln_ p_p.bC aO.lf))) <|
 .ret ⟨[.kill 0],[2,64],[],1⟩ ((p_p.bC.length:Int) == 0)) fun c0 =>
 .say [.gd 4056 false] (ok1 c0) <|
 .ret ⟨[.kill 0],[2,64],[],1⟩ (false)
def aa8 (r0:Bool) : Mo (Unit) :=
 .rt [2] 1 ()
def aji (p_p:aO) : Mo (Bool) :=
 .sj Tryz.f161 0 [1,0] [0,1,2,3,4,5,6,7,8] 1 9 [1,2] 1 (fun r_=>⟨[(1,.ptr 0 0),(2,.b_ false),(11,.b_ r_)],[.box 47 (.dat (aO.lf1 p_p))]⟩) ⟨[(1,.ptr 0 0),(2,.b_ false)],[.box 47 (.dat (aO.lf1 p_p))]⟩ (ad5 p_p).den (sW (by kernel_rfl)) fun r0 _ =>
 .sj Tryz.f161 0 [1,0] [9,10,11,12,13,14] 1 6 [1,2,11] 1 (fun r_=>⟨[(1,.ptr 0 0),(2,.b_ false),(17,.b_ r_)],[.box 47 (.dat (aO.lf1 p_p))]⟩) ⟨[(1,.ptr 0 0),(2,.b_ false),(11,.b_ r0)],[.box 47 (.dat (aO.lf1 p_p))]⟩ (ad6 p_p r0).den (sW (by kernel_rfl)) fun r1 _ =>
 .sj Tryz.f161 0 [1,0] [15,16,17,18,19,20] 1 6 [1,2,17] 1 (fun r_=>⟨[(1,.ptr 0 0),(2,.b_ false),(23,.b_ r_)],[.box 47 (.dat (aO.lf1 p_p))]⟩) ⟨[(1,.ptr 0 0),(2,.b_ false),(17,.b_ r1)],[.box 47 (.dat (aO.lf1 p_p))]⟩ (aa0 p_p r1).den (sW (by kernel_rfl)) fun r2 _ =>
 .sj Tryz.f161 0 [1,0] [21,22,23,24,25] 1 5 [1,2,23] 1 (fun r_=>⟨[(1,.ptr 0 0),(2,.b_ false),(28,.b_ r_)],[.box 47 (.dat (aO.lf1 p_p))]⟩) ⟨[(1,.ptr 0 0),(2,.b_ false),(23,.b_ r2)],[.box 47 (.dat (aO.lf1 p_p))]⟩ (aa1 p_p r2).den (sW (by kernel_rfl)) fun r3 _ =>
 .sj Tryz.f161 0 [1,0] [26,27,28,29,30] 1 5 [1,2,28] 1 (fun r_=>⟨[(1,.ptr 0 0),(2,.b_ false),(33,.b_ r_)],[.box 47 (.dat (aO.lf1 p_p))]⟩) ⟨[(1,.ptr 0 0),(2,.b_ false),(28,.b_ r3)],[.box 47 (.dat (aO.lf1 p_p))]⟩ (aa2 p_p r3).den (sW (by kernel_rfl)) fun r4 _ =>
 .sj Tryz.f161 0 [1,0] [31,32,33,34,35,36] 1 6 [1,2,33] 1 (fun r_=>⟨[(1,.ptr 0 0),(2,.b_ false),(39,.b_ r_)],[.box 47 (.dat (aO.lf1 p_p))]⟩) ⟨[(1,.ptr 0 0),(2,.b_ false),(33,.b_ r4)],[.box 47 (.dat (aO.lf1 p_p))]⟩ (aa3 p_p r4).den (sW (by kernel_rfl)) fun r5 _ =>
 .sj Tryz.f161 0 [1,0] [37,38,39,40,41,42,43] 1 7 [1,2,39] 1 (fun r_=>⟨[(1,.ptr 0 0),(2,.b_ false),(46,.b_ r_)],[.box 47 (.dat (aO.lf1 p_p))]⟩) ⟨[(1,.ptr 0 0),(2,.b_ false),(39,.b_ r5)],[.box 47 (.dat (aO.lf1 p_p))]⟩ (aa4 p_p r5).den (sW (by kernel_rfl)) fun r6 _ =>
 .sj Tryz.f161 0 [1,0] [44,45,46,47,48,49] 1 6 [1,2,46] 1 (fun r_=>⟨[(1,.ptr 0 0),(2,.b_ false),(52,.b_ r_)],[.box 47 (.dat (aO.lf1 p_p))]⟩) ⟨[(1,.ptr 0 0),(2,.b_ false),(46,.b_ r6)],[.box 47 (.dat (aO.lf1 p_p))]⟩ (aa5 p_p r6).den (sW (by kernel_rfl)) fun r7 _ =>
 .sj Tryz.f161 0 [1,0] [50,51,52,53,54,55] 1 6 [1,2,52] 1 (fun r_=>⟨[(1,.ptr 0 0),(2,.b_ false),(58,.b_ r_)],[.box 47 (.dat (aO.lf1 p_p))]⟩) ⟨[(1,.ptr 0 0),(2,.b_ false),(52,.b_ r7)],[.box 47 (.dat (aO.lf1 p_p))]⟩ (aa6 p_p r7).den (sW (by kernel_rfl)) fun r8 _ =>
 .sj Tryz.f161 0 [1,0] [56,57,58,59,60,61] 1 6 [1,2,58] 1 (fun r_=>⟨[(2,.b_ false),(64,.b_ r_)],[.dead]⟩) ⟨[(1,.ptr 0 0),(2,.b_ false),(58,.b_ r8)],[.box 47 (.dat (aO.lf1 p_p))]⟩ (aa7 p_p r8).den (sW (by kernel_rfl)) fun r9 _ =>
 .sj Tryz.f161 0 [1,0] [62] 1 1 [2,64] 1 (fun r_=>⟨[(2,.b_ r9)],[.dead]⟩) ⟨[(2,.b_ false),(64,.b_ r9)],[.dead]⟩ (aa8 r9).den (sW (by kernel_rfl)) fun r10 _ =>
 .ret (bD 1) (r9)
def Q62 (p_p:aO) : Option (Bool) := Mo.den (aji p_p)
theorem ak3 (p_p:aO) : FV (Q62 p_p) 161 [.dat (aO.lf1 p_p)] (fun r=>.b_ r) := bZ Tryz.func161 (by kernel_rfl) (fun _=>rfl) (by kernel_rfl)
def JH (p_x:aV) : Mo (Bool) :=
 .iG 8003 (decide ((p_x.aU:Int) < 1)) (.rt [1,15] 1 (true)) <|
 .rt [1,15] 1 (decide ((3:Int) < p_x.aU))
def JI (p_x:aV) : Mo (Bool) :=
 .say [.num p_x.gB.length] (ok1 (ln_ p_x.gB bn.lf)) <|
 .iG 18004 ((p_x.gB.length:Int) == 0) (.rt [1,47] 1 (true)) <|
 .ite (p_x.aU != 1) (fun c0 =>
 .say [.gd 18008 true,.num p_x.gB.length] (okc c0 (ok1 (ln_ p_x.gB bn.lf))) <|
 .iG 18013 (decide ((1:Int) < (p_x.gB.length:Int))) (.rt [1,47] 1 (true)) <|
 .ask (bP p_x.gB 0) fun x0 h0 =>
 .say [.row (bn.lf1 x0)] (ok1 (aX bn.aZ h0)) <|
 .iG 18020 (x0.IJ) (.rt [1,47] 1 (true)) <|
 .rt [1,47] 1 (p_x.iW)) fun c0 =>
 .say [.gd 18008 false] (ok1 c0) <|
 .rt [1,47] 1 (false)
def ad7 (p_x:aV) : Mo (Int) :=
 .cl (vJ p_x.fName) fun r0 _ =>
 .iB (!r0) (.ret (bD 1) (9)) <|
 .jp Tryz.f117 0 [1,1,0,0] 13 [1] 1 (.normal) (fun r_=>⟨[(1,.ptr 0 0),(15,.b_ r_)],[.box 49 (.dat (aV.lf1 p_x))]⟩) ⟨[(1,.ptr 0 0)],[.box 49 (.dat (aV.lf1 p_x))]⟩ (JH p_x).den (jW (by kernel_rfl)) fun r1 _ =>
 .iB (r1) (.ret (bD 1) (8)) <|
 .cl (akO p_x.gB) fun r2 _ =>
 .iB (r2 != 0) (.ret (bD 1) (r2)) <|
 .jp Tryz.f117 0 [1,1,1,1,0,0] 23 [1] 1 (.normal) (fun r_=>⟨[(1,.ptr 0 0),(47,.b_ r_)],[.box 49 (.dat (aV.lf1 p_x))]⟩) ⟨[(1,.ptr 0 0)],[.box 49 (.dat (aV.lf1 p_x))]⟩ (JI p_x).den (jW (by kernel_rfl)) fun r3 _ =>
 .iB (r3) (.ret (bD 1) (11)) <|
 .iB (p_x.kF) (.cl (ahm p_x.jc) fun r4 _ =>
 .ret (bD 1) (r4)) <|
 .cl (ak3 p_x.jc) fun r5 _ =>
 .iB (!r5) (.ret (bD 1) (4)) <|
 .ret (bD 1) (0)
def am1 (p_x:aV) : Option (Int) := Mo.den (ad7 p_x)
theorem Zg (p_x:aV) : FV (am1 p_x) 117 [.dat (aV.lf1 p_x)] (fun r=>.i_ r) := bZ Tryz.func117 (by kernel_rfl) (fun _=>rfl) (by kernel_rfl)
def Fe (p_l:List aV) (p_name:ByteArray) : (Int) → Mo ((Int) ⊕ (Int) ⊕ Unit) := fun (v0) =>
 .say [.num p_l.length] (ok1 (ln_ p_l aV.lf)) <|
 .iB (decide ((v0:Int) < (p_l.length:Int))) (.ask (bP p_l v0) fun x0 h0 =>
 .say [.row (aV.lf1 x0)] (ok1 (aX aV.aZ h0)) <|
 .iB (decide ((x0.fName:ByteArray) = (p_name:ByteArray))) (.rt [4] 0 (.inr (.inl (v0)))) <|
 .rt [0,1,5] 0 (.inl (IntKind.wrap .i64 (v0 + 1)))) <|
 .rt [] 0 (.inr (.inr (())))
def ad8 (p_l:List aV) (p_name:ByteArray) (v0:Int) : Option ((Int) ⊕ Unit) := bM (fun v_=>(Fe p_l p_name v_).den) FU (v0)
def Tv (p_l:List aV) (p_name:ByteArray) : (Int) → St := fun (v0)=>⟨[(0,.lf (.rows 31 (p_l.map aV.lf))),(1,.lf (.str p_name)),(5,.i_ v0)],[]⟩
def yP (r_:(Int) ⊕ Unit) : Exit := match r_ with
 | .inl o_=>.ret
 | .inr (o_)=>.exit 0
def yQ  (r_:(Int) ⊕ Unit) : St := match r_ with
 | .inl o_=>⟨[(4,.i_ o_)],[]⟩
 | .inr (o_)=>⟨[],[]⟩
theorem Tz {p_l:List aV} {p_name:ByteArray} {v0:Int} {r_:(Int) ⊕ Unit} (h:ad8 p_l p_name v0 = some r_) : fK Tryz.f157 0 [1,0,1,0] (yP r_) (yQ r_) (Tv p_l p_name (v0)) :=
 dO dK (body := (Code.sub (bodyC Tryz.f157) [1,0,1,0,0])) (by kernel_rfl) (Fe p_l p_name) (Tv p_l p_name) yP yQ (fun r_=>by rcases r_ with _ | _ <;> rfl) (fun v_=>by kernel_rfl) h
def ajj (p_l:List aV) (p_name:ByteArray) : Mo (Int) :=
 .eU (ad8 p_l p_name 0) (fun o0 h0 =>
 .say [.pt_ 0 [0,1,5] 0 (yP (.inl o0)) (yQ (.inl o0))] (ok1 (Tz h0)) <|
 .ret (bD 1) (o0)) fun o1 h0 =>
 .say [.pt_ 0 [0,1,5] 0 (yP (.inr (o1))) (yQ (.inr (o1)))] (ok1 (Tz h0)) <|
 .ret (bD 1) ((-1))
def Q66 (p_l:List aV) (p_name:ByteArray) : Option (Int) := Mo.den (ajj p_l p_name)
theorem ak4 (p_l:List aV) (p_name:ByteArray) : FV (Q66 p_l p_name) 157 [.lf (.rows 31 (p_l.map aV.lf)),.lf (.str p_name)] (fun r=>.i_ r) := bZ Tryz.func157 (by kernel_rfl) (fun _=>rfl) (by kernel_rfl)
def Fg (p_l:List ByteArray) (v0:Int) : (Int) → Mo ((Int) ⊕ (Unit ⊕ Unit)) := fun (v1) =>
 .ite (decide ((v1:Int) < v0)) (fun c0 =>
 .say [.br true,.order [(true,0),(true,1),(true,2),(true,3),(true,4),(true,5),(true,6),(true,7),(true,8)] none []] (ok1 c0) <|
 .ask (bP p_l v1) fun x0 h0 =>
 .say [.row (lfS x0)] (ok1 (aX lS_ h0)) <|
 .ask (bP p_l v0) fun x1 h1 =>
 .say [.row (lfS x1)] (ok1 (aX lS_ h1)) <|
 .iB (decide ((x0:ByteArray) = (x1:ByteArray))) (.rt [2] 0 (.inr (.inl ()))) <|
 .rt [0,3,4] 0 (.inl (IntKind.wrap .i64 (v1 + 1)))) fun c0 =>
 .say [.br false] (ok1 c0) <|
 .rt [0,3] 0 (.inr (.inr (())))
def ad9 (p_l:List ByteArray) (v0:Int) (v1:Int) : Option (Unit ⊕ Unit) := bM (fun v_=>(Fg p_l v0 v_).den) FU (v1)
def TA (p_l:List ByteArray) (v0:Int) : (Int) → St := fun (v1)=>⟨[(0,.lf (.rows 1 (p_l.map lfS))),(3,.i_ v0),(4,.i_ v1)],[]⟩
def yR (r_:Unit ⊕ Unit) : Exit := match r_ with
 | .inl o_=>.ret
 | .inr (o_)=>.exit 2
def yS (p_l:List ByteArray) (v0:Int) (r_:Unit ⊕ Unit) : St := match r_ with
 | .inl o_=>⟨[(2,.b_ false)],[]⟩
 | .inr (o_)=>⟨[(0,.lf (.rows 1 (p_l.map lfS))),(3,.i_ v0)],[]⟩
theorem TB {p_l:List ByteArray} {v0:Int} {v1:Int} {r_:Unit ⊕ Unit} (h:ad9 p_l v0 v1 = some r_) : fK Tryz.f291 0 [1,0,1,0,0,1,0,0,1,1,0] (yR r_) (yS p_l v0 r_) (TA p_l v0 (v1)) :=
 dO dK (body := (Code.sub (bodyC Tryz.f291) [1,0,1,0,0,1,0,0,1,1,0,0])) (by kernel_rfl) (Fg p_l v0) (TA p_l v0) yR (yS p_l v0) (fun r_=>by rcases r_ with _ | _ <;> rfl) (fun v_=>by kernel_rfl) h
def Fh (p_l:List ByteArray) : (Int) → Mo ((Int) ⊕ (Unit ⊕ Unit)) := fun (v0) =>
 .say [.num p_l.length] (ok1 (ln_ p_l lfS)) <|
 .iB (decide ((v0:Int) < (p_l.length:Int))) (.ask (bP p_l v0) fun x0 h0 =>
 .say [.row (lfS x0)] (ok1 (aX lS_ h0)) <|
 .cl (vJ x0) fun r0 _ =>
 .iB (!r0) (.rt [2] 0 (.inr (.inl ()))) <|
 .eU (ad9 p_l v0 0) (fun o0 h1 =>
 .say [.pt_ 0 [0,3,4] 0 (yR (.inl o0)) (yS p_l v0 (.inl o0))] (ok1 (TB h1)) <|
 .rt [2] 0 (.inr (.inl ()))) fun o1 h1 =>
 .say [.pt_ 0 [0,3,4] 0 (yR (.inr (o1))) (yS p_l v0 (.inr (o1)))] (ok1 (TB h1)) <|
 .rt [0,3] 0 (.inl (IntKind.wrap .i64 (v0 + 1)))) <|
 .rt [] 0 (.inr (.inr (())))
def aea (p_l:List ByteArray) (v0:Int) : Option (Unit ⊕ Unit) := bM (fun v_=>(Fh p_l v_).den) FU (v0)
def TF (p_l:List ByteArray) : (Int) → St := fun (v0)=>⟨[(0,.lf (.rows 1 (p_l.map lfS))),(3,.i_ v0)],[]⟩
def yT (r_:Unit ⊕ Unit) : Exit := match r_ with
 | .inl o_=>.ret
 | .inr (o_)=>.exit 0
def yU  (r_:Unit ⊕ Unit) : St := match r_ with
 | .inl o_=>⟨[(2,.b_ false)],[]⟩
 | .inr (o_)=>⟨[],[]⟩
theorem TG {p_l:List ByteArray} {v0:Int} {r_:Unit ⊕ Unit} (h:aea p_l v0 = some r_) : fK Tryz.f291 0 [1,0,1,0] (yT r_) (yU r_) (TF p_l (v0)) :=
 dO dK (body := (Code.sub (bodyC Tryz.f291) [1,0,1,0,0])) (by kernel_rfl) (Fh p_l) (TF p_l) yT yU (fun r_=>by rcases r_ with _ | _ <;> rfl) (fun v_=>by kernel_rfl) h
def ajk (p_l:List ByteArray) : Mo (Bool) :=
 .eU (aea p_l 0) (fun o0 h0 =>
 .say [.pt_ 0 [0,3] 0 (yT (.inl o0)) (yU (.inl o0))] (ok1 (TG h0)) <|
 .ret (bD 1) (false)) fun o1 h0 =>
 .say [.pt_ 0 [0,3] 0 (yT (.inr (o1))) (yU (.inr (o1)))] (ok1 (TG h0)) <|
 .ret (bD 1) (true)
def Q14 (p_l:List ByteArray) : Option (Bool) := Mo.den (ajk p_l)
theorem aeb (p_l:List ByteArray) : FV (Q14 p_l) 291 [.lf (.rows 1 (p_l.map lfS))] (fun r=>.b_ r) := bZ Tryz.func291 (by kernel_rfl) (fun _=>rfl) (by kernel_rfl)
def aa9 (p_has:Bool) (p_v:ak) : Mo (Bool) :=
 .iG 4001 (p_has) (.cl (oD p_v) fun r0 _ =>
 .rt [0,3,4,10] 1 (!r0)) <|
 .rt [0,3,4,10] 1 (false)
def abb (p_has:Bool) (p_v:ak) (r0:Bool) : Mo (Bool) :=
 .iG 4006 (r0) (.ret ⟨[.kill 0],[4,20],[],1⟩ (true)) <|
 .iG 4009 (!p_has) (.cl (Zb p_v (ak.mk 0 0 ⟨#[]⟩ [] [])) fun r1 _ =>
 .ret ⟨[.kill 0],[4,20],[],1⟩ (!r1)) <|
 .ret ⟨[.kill 0],[4,20],[],1⟩ (false)
def Xc (r0:Bool) : Mo (Unit) :=
 .rt [4] 1 ()
def aec (p_has:Bool) (p_v:ak) : Mo (Bool) :=
 .sj Tryz.f292 0 [1,0] [0,1,2,3,4,5] 1 6 [0,3,4] 1 (fun r_=>⟨[(0,.b_ p_has),(3,.ptr 0 0),(4,.b_ false),(10,.b_ r_)],[.box 29 (.dat (ak.lf1 p_v))]⟩) ⟨[(0,.b_ p_has),(3,.ptr 0 0),(4,.b_ false)],[.box 29 (.dat (ak.lf1 p_v))]⟩ (aa9 p_has p_v).den (sW (by kernel_rfl)) fun r0 _ =>
 .sj Tryz.f292 0 [1,0] [6,7,8,9,10,11,12,13,14,15] 1 10 [0,3,4,10] 1 (fun r_=>⟨[(4,.b_ false),(20,.b_ r_)],[.dead]⟩) ⟨[(0,.b_ p_has),(3,.ptr 0 0),(4,.b_ false),(10,.b_ r0)],[.box 29 (.dat (ak.lf1 p_v))]⟩ (abb p_has p_v r0).den (sW (by kernel_rfl)) fun r1 _ =>
 .sj Tryz.f292 0 [1,0] [16] 1 1 [4,20] 1 (fun r_=>⟨[(4,.b_ r1)],[.dead]⟩) ⟨[(4,.b_ false),(20,.b_ r1)],[.dead]⟩ (Xc r1).den (sW (by kernel_rfl)) fun r2 _ =>
 .ret (bD 1) (r1)
def am2 (p_has:Bool) (p_v:ak) : Option (Bool) := Mo.den (aec p_has p_v)
theorem Zh (p_has:Bool) (p_v:ak) : FV (am2 p_has p_v) 292 [.b_ p_has,.dat (ak.lf1 p_v)] (fun r=>.b_ r) := bZ Tryz.func292 (by kernel_rfl) (fun _=>rfl) (by kernel_rfl)
def Dn (p_s:aB) : (Int × (List ByteArray)) → Mo ((Int × (List ByteArray)) ⊕ ((List ByteArray))) := fun (v0,l0) =>
 .say [.num p_s.dP.length] (ok1 (ln_ p_s.dP bH.lf)) <|
 .iB (decide ((v0:Int) < (p_s.dP.length:Int))) (.ask (bP p_s.dP v0) fun x0 h0 =>
 .say [.row (bH.lf1 x0),.rows ((l0 ++ [x0.fName]).map lfS)] (okc (aX bH.aZ h0) (ok1 (by simp [lfS] : (l0 ++ [x0.fName]).map lfS = (l0.map lfS) ++ [(lfS x0.fName)]))) <|
 .grd ((l0.length + [x0.fName].length) * 16 ≤ 140737488355328) fun h1 =>
 .say [] (ok1 (cp_ lfS h1)) <|
 .ret ⟨[],[1,3,4],[(3,1)],2⟩ (.inl (IntKind.wrap .i64 (v0 + 1),l0 ++ [x0.fName]))) <|
 .rt [1,3] 2 (.inr (l0))
def Zi (p_s:aB) (v0:Int) (l0:List ByteArray) : Option (((List ByteArray))) := bM (fun v_=>(Dn p_s v_).den) FU (v0,l0)
def Zj (p_s:aB) : (Int × (List ByteArray)) → St := fun (v0,l0)=>⟨[(1,.ptr 0 0),(3,.own 1),(4,.i_ v0)],[.box 35 (.dat (aB.lf1 p_s)),.row 9 1 (l0.map lfS)]⟩
def Dp (p_s:aB) (r_:((List ByteArray))) : St := ⟨[(1,.ptr 0 0),(3,.own 1)],[.box 35 (.dat (aB.lf1 p_s)),.row 9 1 (r_.map lfS)]⟩
theorem aho {p_s:aB} {v0:Int} {l0:List ByteArray} {r_:((List ByteArray))} (h:Zi p_s v0 l0 = some r_) : fK Tryz.f241 0 [1,1,0,1,0] (.exit 0) (Dp p_s r_) (Zj p_s (v0,l0)) :=
 dO dK (body := (Code.sub (bodyC Tryz.f241) [1,1,0,1,0,0])) (by kernel_rfl) (Dn p_s) (Zj p_s) (fun _=>.exit 0) (Dp p_s) (fun r_=>rfl) (fun v_=>by kernel_rfl) h
def Zk (p_s:aB) (r0:((List ByteArray))) : Mo (Bool) :=
 .cl (aeb p_s.gG) fun r1 _ =>
 .ite (!r1) (fun c0 =>
 .say [.gd 14004 true] (ok1 c0) <|
 .ret ⟨[.kill 1],[1,30],[],2⟩ (true)) fun c0 =>
 .say [.gd 14004 false,.at_ 14 6,.frz 1] (ok1 c0) <|
 .cl (aeb r0) fun r2 _ =>
 .rt [1,30] 2 (!r2)
def TJ (p_s:aB) : Mo (Bool) :=
 .ite (decide ((p_s.kG:Int) < 0)) (fun c0 =>
 .say [.gd 18003 true] (ok1 c0) <|
 .rt [1,39] 2 (true)) fun c0 =>
 .say [.gd 18003 false] (okc c0 (ok1 (by decide:(2:Int) ≠ 0))) <|
 .rt [1,39] 2 ((Int.tmod p_s.kG 2) == 1)
def TK (p_s:aB) (r0:Bool) : Mo (Bool) :=
 .iG 18009 (r0) (.rt [1,44] 2 (true)) <|
 .rt [1,44] 2 (decide ((4096:Int) ≤ p_s.kG))
def TL (p_s:aB) (r0:Bool) : Mo (Bool) :=
 .iG 18014 (r0) (.rt [1,49] 2 (true)) <|
 .rt [1,49] 2 (decide ((p_s.lG:Int) < 0))
def TM (p_s:aB) (r0:Bool) : Mo (Bool) :=
 .iG 18019 (r0) (.rt [1,54] 2 (true)) <|
 .rt [1,54] 2 (decide ((p_s.lH:Int) < (-1)))
def TN (p_s:aB) (r0:Bool) : Mo (Bool) :=
 .ite (r0) (fun c0 =>
 .say [.gd 18024 true] (ok1 c0) <|
 .rt [1,60] 2 (true)) fun c0 =>
 .say [.gd 18024 false,.num p_s.fH.length] (okc c0 (ok1 (ln_ p_s.fH aB.lf))) <|
 .rt [1,60] 2 (decide ((1:Int) < (p_s.fH.length:Int)))
def TP (p_s:aB) : Mo (Bool) :=
 .cl (Zh p_s.lD p_s.uH) fun r0 _ =>
 .iG 22005 (r0) (.rt [1,72] 2 (true)) <|
 .cl (Zh p_s.lF p_s.uI) fun r1 _ =>
 .rt [1,72] 2 (r1)
def Fj (p_s:aB) : (Int) → Mo ((Int) ⊕ (Unit ⊕ Unit)) := fun (v0) =>
 .say [.num p_s.kH.length] (ok1 (ln_ p_s.kH ak.lf)) <|
 .iB (decide ((v0:Int) < (p_s.kH.length:Int))) (.ask (bP p_s.kH v0) fun x0 h0 =>
 .say [.row (ak.lf1 x0)] (ok1 (aX ak.aZ h0)) <|
 .cl (oD x0) fun r0 _ =>
 .iB (!r0) (.ret ⟨[.kill 0],[2],[],2⟩ (.inr (.inl ()))) <|
 .rt [1,5] 2 (.inl (IntKind.wrap .i64 (v0 + 1)))) <|
 .ret ⟨[.kill 0],[],[],2⟩ (.inr (.inr (())))
def aed (p_s:aB) (v0:Int) : Option (Unit ⊕ Unit) := bM (fun v_=>(Fj p_s v_).den) FU (v0)
def TQ (p_s:aB) : (Int) → St := fun (v0)=>⟨[(1,.ptr 0 0),(5,.i_ v0)],[.box 35 (.dat (aB.lf1 p_s)),.dead]⟩
def yV (r_:Unit ⊕ Unit) : Exit := match r_ with
 | .inl o_=>.ret
 | .inr (o_)=>.exit 2
def yX  (r_:Unit ⊕ Unit) : St := match r_ with
 | .inl o_=>⟨[(2,.i_ 8)],[.dead,.dead]⟩
 | .inr (o_)=>⟨[],[.dead,.dead]⟩
theorem TR {p_s:aB} {v0:Int} {r_:Unit ⊕ Unit} (h:aed p_s v0 = some r_) : fK Tryz.f241 0 [1,1,1,1,1,1,0,1,0] (yV r_) (yX r_) (TQ p_s (v0)) :=
 dO dK (body := (Code.sub (bodyC Tryz.f241) [1,1,1,1,1,1,0,1,0,0])) (by kernel_rfl) (Fj p_s) (TQ p_s) yV yX (fun r_=>by rcases r_ with _ | _ <;> rfl) (fun v_=>by kernel_rfl) h
def am3 (p_s:aB) : Mo (Int) :=
 .say [] (ok1 (by simp [lfS] : (([] : List ByteArray).map lfS) = [])) <|
 .ask (Zi p_s 0 ([] : List ByteArray)) fun r0 h0 =>
 .say [.part [.Hr 3 9 1,.kE 1 (([] : List ByteArray).map lfS)] 0 [1,3,4] 2 (.exit 0) (Dp p_s r0).T (Dp p_s r0).H] (ok1 (aho h0)) <|
 .jp Tryz.f241 0 [1,1,1,0,0] 19 [1,3] 2 (.normal) (fun r_=>⟨[(1,.ptr 0 0),(30,.b_ r_)],[.box 35 (.dat (aB.lf1 p_s)),.dead]⟩) ⟨[(1,.ptr 0 0),(3,.own 1)],[.box 35 (.dat (aB.lf1 p_s)),.row 9 1 (r0.map lfS)]⟩ (Zk p_s r0).den (jW (by kernel_rfl)) fun r1 _ =>
 .iB (r1) (.ret (bD 1) (9)) <|
 .sj Tryz.f241 0 [1,1,1,1,0,0] [0,1,2,3,4,5,6,7,8] 8 9 [1] 2 (fun r_=>⟨[(1,.ptr 0 0),(39,.b_ r_)],[.box 35 (.dat (aB.lf1 p_s)),.dead]⟩) ⟨[(1,.ptr 0 0)],[.box 35 (.dat (aB.lf1 p_s)),.dead]⟩ (TJ p_s).den (sW (by kernel_rfl)) fun r2 _ =>
 .sj Tryz.f241 0 [1,1,1,1,0,0] [9,10,11,12,13] 8 5 [1,39] 2 (fun r_=>⟨[(1,.ptr 0 0),(44,.b_ r_)],[.box 35 (.dat (aB.lf1 p_s)),.dead]⟩) ⟨[(1,.ptr 0 0),(39,.b_ r2)],[.box 35 (.dat (aB.lf1 p_s)),.dead]⟩ (TK p_s r2).den (sW (by kernel_rfl)) fun r3 _ =>
 .sj Tryz.f241 0 [1,1,1,1,0,0] [14,15,16,17,18] 8 5 [1,44] 2 (fun r_=>⟨[(1,.ptr 0 0),(49,.b_ r_)],[.box 35 (.dat (aB.lf1 p_s)),.dead]⟩) ⟨[(1,.ptr 0 0),(44,.b_ r3)],[.box 35 (.dat (aB.lf1 p_s)),.dead]⟩ (TL p_s r3).den (sW (by kernel_rfl)) fun r4 _ =>
 .sj Tryz.f241 0 [1,1,1,1,0,0] [19,20,21,22,23] 8 5 [1,49] 2 (fun r_=>⟨[(1,.ptr 0 0),(54,.b_ r_)],[.box 35 (.dat (aB.lf1 p_s)),.dead]⟩) ⟨[(1,.ptr 0 0),(49,.b_ r4)],[.box 35 (.dat (aB.lf1 p_s)),.dead]⟩ (TM p_s r4).den (sW (by kernel_rfl)) fun r5 _ =>
 .sj Tryz.f241 0 [1,1,1,1,0,0] [24,25,26,27,28,29] 8 6 [1,54] 2 (fun r_=>⟨[(1,.ptr 0 0),(60,.b_ r_)],[.box 35 (.dat (aB.lf1 p_s)),.dead]⟩) ⟨[(1,.ptr 0 0),(54,.b_ r5)],[.box 35 (.dat (aB.lf1 p_s)),.dead]⟩ (TN p_s r5).den (sW (by kernel_rfl)) fun r6 _ =>
 .iB (r6) (.ret (bD 1) (1)) <|
 .jp Tryz.f241 0 [1,1,1,1,1,0,0] 27 [1] 2 (.normal) (fun r_=>⟨[(1,.ptr 0 0),(72,.b_ r_)],[.box 35 (.dat (aB.lf1 p_s)),.dead]⟩) ⟨[(1,.ptr 0 0)],[.box 35 (.dat (aB.lf1 p_s)),.dead]⟩ (TP p_s).den (jW (by kernel_rfl)) fun r7 _ =>
 .iB (r7) (.ret (bD 1) (8)) <|
 .eU (aed p_s 0) (fun o0 h1 =>
 .say [.pt_ 0 [1,5] 2 (yV (.inl o0)) (yX (.inl o0))] (ok1 (TR h1)) <|
 .ret (bD 1) (8)) fun o1 h1 =>
 .say [.pt_ 0 [1,5] 2 (yV (.inr (o1))) (yX (.inr (o1)))] (ok1 (TR h1)) <|
 .ret (bD 1) (0)
def Q7 (p_s:aB) : Option (Int) := Mo.den (am3 p_s)
theorem am4 (p_s:aB) : FV (Q7 p_s) 241 [.dat (aB.lf1 p_s)] (fun r=>.i_ r) := bZ Tryz.func241 (by kernel_rfl) (fun _=>rfl) (by kernel_rfl)
structure NH where
 m1:(p_s:aB) → (p_number:Int) → (p_level:Int) → Option (Int × Int)
 ok1:∀ p_s p_number p_level,FV (m1 p_s p_number p_level) 203 [.dat (aB.lf1 p_s),.i_ p_number,.i_ p_level] (fun r=>.tup [.i_ r.1,.i_ r.2])
def TS (R_:NH) (p_level:Int) (p_number:Int) (p_s:aB) : Mo (Bool) :=
 .iG 4002 (decide ((16:Int) < p_level)) (.rt [1,2,3,18] 1 (true)) <|
 .rt [1,2,3,18] 1 (decide ((64:Int) < p_number))
def TU (R_:NH) (p_level:Int) (p_s:aB) (v0:Int) (v1:Int) : Mo (aB) :=
 .ite (decide ((v1:Int) < (p_s.dP.length:Int))) (fun c0 =>
 .say [.br true] (ok1 c0) <|
 .ask (bP p_s.dP v1) fun x0 h0 =>
 .say [.row (bH.lf1 x0)] (ok1 (aX bH.aZ h0)) <|
 .ret ⟨[.norm 1],[1,2,3,9,10],[],2⟩ (x0.fG)) fun c0 =>
 .say [.br false,.num p_s.dP.length] (okc c0 (ok1 (ln_ p_s.dP bH.lf))) <|
 .ask (bP p_s.fH (IntKind.wrap .i64 (v1 - (p_s.dP.length:Int)))) fun x1 h1 =>
 .say [.row (aB.lf1 x1)] (ok1 (aX aB.aZ h1)) <|
 .ret ⟨[.norm 1],[1,2,3,9,10],[],2⟩ (x1)
def Bj (R_:NH) (p_level:Int) (p_s:aB) : (Int × Int) → Mo ((Int × Int) ⊕ (Int × Int) ⊕ (Int)) := fun (v0,v1) =>
 .say [.num p_s.dP.length,.num p_s.fH.length] (okc (ln_ p_s.dP bH.lf) (ok1 (ln_ p_s.fH aB.lf))) <|
 .ite (decide ((v1:Int) < (IntKind.wrap .i64 ((p_s.dP.length:Int) + (p_s.fH.length:Int))))) (fun c0 =>
 .say [.br true,.num p_s.dP.length] (okc c0 (ok1 (ln_ p_s.dP bH.lf))) <|
 .jp Tryz.f203 0 [1,1,1,0,1,0,0,1,0,0,1,0,1] 1 [1,2,3,9,10,41] 2 (.normal) (fun r_=>⟨[(1,.i_ v0),(2,.i_ p_level),(3,.ptr 0 0),(9,.i_ v1),(10,.ptr 1 0)],[.box 35 (.dat (aB.lf1 p_s)),.box 35 (.dat (aB.lf1 r_))]⟩) ⟨[(1,.i_ v0),(2,.i_ p_level),(3,.ptr 0 0),(9,.i_ v1),(10,.ptr 1 0),(41,.lf (.bool (decide ((v1:Int) < (p_s.dP.length:Int)))))],[.box 35 (.dat (aB.lf1 p_s)),.box 35 (Z35)]⟩ (TU R_ p_level p_s v0 v1).den (jW (by kernel_rfl)) fun r0 _ =>
 .cl (R_.ok1 r0 (IntKind.wrap .i64 (v0 + 1)) (IntKind.wrap .i64 (p_level + 1))) fun r1 _ =>
 .iB (r1.2 != 0) (.ret ⟨[.kill 0],[6,7],[],1⟩ (.inr (.inl (r1.1,r1.2)))) <|
 .rt [1,2,3,9] 1 (.inl (r1.1,IntKind.wrap .i64 (v1 + 1)))) fun c0 =>
 .say [.br false] (ok1 c0) <|
 .ret ⟨[.kill 0],[1],[],1⟩ (.inr (.inr (v0)))
def Zl (R_:NH) (p_level:Int) (p_s:aB) (v0:Int) (v1:Int) : Option ((Int × Int) ⊕ (Int)) := bM (fun v_=>(Bj R_ p_level p_s v_).den) FU (v0,v1)
def JJ (R_:NH) (p_level:Int) (p_s:aB) : (Int × Int) → St := fun (v0,v1)=>⟨[(1,.i_ v0),(2,.i_ p_level),(3,.ptr 0 0),(9,.i_ v1)],[.box 35 (.dat (aB.lf1 p_s))]⟩
def tq (r_:(Int × Int) ⊕ (Int)) : Exit := match r_ with
 | .inl o_=>.ret
 | .inr (o_)=>.exit 0
def tu  (r_:(Int × Int) ⊕ (Int)) : St := match r_ with
 | .inl o_=>⟨[(6,.i_ o_.1),(7,.i_ o_.2)],[.dead]⟩
 | .inr (o_)=>⟨[(1,.i_ o_)],[.dead]⟩
theorem JK {R_:NH} {p_level:Int} {p_s:aB} {v0:Int} {v1:Int} {r_:(Int × Int) ⊕ (Int)} (h:Zl R_ p_level p_s v0 v1 = some r_) : fK Tryz.f203 0 [1,1,1,0,1,0] (tq r_) (tu r_) (JJ R_ p_level p_s (v0,v1)) :=
 dO dK (body := (Code.sub (bodyC Tryz.f203) [1,1,1,0,1,0,0])) (by kernel_rfl) (Bj R_ p_level p_s) (JJ R_ p_level p_s) tq tu (fun r_=>by rcases r_ with _ | _ <;> rfl) (fun v_=>by kernel_rfl) h
def aee (R_:NH) (p_s:aB) (p_number:Int) (p_level:Int) : Mo (Int × Int) :=
 .jp Tryz.f203 0 [1,0,0] 9 [1,2,3] 1 (.normal) (fun r_=>⟨[(1,.i_ p_number),(2,.i_ p_level),(3,.ptr 0 0),(18,.b_ r_)],[.box 35 (.dat (aB.lf1 p_s))]⟩) ⟨[(1,.i_ p_number),(2,.i_ p_level),(3,.ptr 0 0)],[.box 35 (.dat (aB.lf1 p_s))]⟩ (TS R_ p_level p_number p_s).den (jW (by kernel_rfl)) fun r0 _ =>
 .iB (r0) (.ret (bD 2) (p_number,2)) <|
 .cl (am4 p_s) fun r1 _ =>
 .iB (r1 != 0) (.ret (bD 2) (p_number,r1)) <|
 .eU (Zl R_ p_level p_s p_number 0) (fun o0 h0 =>
 .say [.pt_ 0 [1,2,3,9] 1 (tq (.inl o0)) (tu (.inl o0))] (ok1 (JK h0)) <|
 .ret (bD 2) (o0.1,o0.2)) fun o1 h0 =>
 .say [.pt_ 0 [1,2,3,9] 1 (tq (.inr (o1))) (tu (.inr (o1)))] (ok1 (JK h0)) <|
 .ret (bD 2) (o1,0)
theorem ahp (R_:NH) (p_s:aB) (p_number:Int) (p_level:Int) : FV (Mo.den (aee R_ p_s p_number p_level)) 203 [.dat (aB.lf1 p_s),.i_ p_number,.i_ p_level] (fun r=>.tup [.i_ r.1,.i_ r.2]) := bZ Tryz.func203 (by kernel_rfl) (fun _=>rfl) (by kernel_rfl)
def pY:Nat → NH
 | 0=>{ m1 := fun p_s p_number p_level=>none,ok1 := fun _ _ _ _ h=>(by cases h) }
 | n_ + 1=>{ m1 := fun p_s p_number p_level=>Mo.den (aee (pY n_) p_s p_number p_level),ok1 := ahp (pY n_) }
def Q34 (p_s:aB) (p_number:Int) (p_level:Int) : Option (Int × Int) := (pY FU).m1 p_s p_number p_level
theorem ak5 (p_s:aB) (p_number:Int) (p_level:Int) : FV (Q34 p_s p_number p_level) 203 [.dat (aB.lf1 p_s),.i_ p_number,.i_ p_level] (fun r=>.tup [.i_ r.1,.i_ r.2]) := (pY FU).ok1 p_s p_number p_level
def aef (p_s:aB) : Mo (Int) :=
 .cl (ak5 p_s 1 1) fun r0 _ =>
 .ret (bD 1) (r0.2)
def am5 (p_s:aB) : Option (Int) := Mo.den (aef p_s)
theorem ahq (p_s:aB) : FV (am5 p_s) 158 [.dat (aB.lf1 p_s)] (fun r=>.i_ r) := bZ Tryz.func158 (by kernel_rfl) (fun _=>rfl) (by kernel_rfl)
def Fp (p_d:bQ) : (Int) → Mo ((Int) ⊕ (Int) ⊕ Unit) := fun (v0) =>
 .say [.num p_d.dJ.length] (ok1 (ln_ p_d.dJ aV.lf)) <|
 .iB (decide ((v0:Int) < (p_d.dJ.length:Int))) (.ask (bP p_d.dJ v0) fun x0 h0 =>
 .say [.row (aV.lf1 x0)] (ok1 (aX aV.aZ h0)) <|
 .cl (Zg x0) fun r0 _ =>
 .ite (r0 != 0) (fun c0 =>
 .say [.br true] (ok1 c0) <|
 .ret ⟨[.kill 0],[2],[],1⟩ (.inr (.inl (r0)))) fun c0 =>
 .say [.br false,.order [(true,0),(true,1),(true,2),(true,3),(true,4),(true,5),(true,6),(true,7),(true,9),(false,8),(true,10)] none []] (ok1 c0) <|
 .ask (bP p_d.dJ v0) fun x1 h1 =>
 .say [.row (aV.lf1 x1)] (ok1 (aX aV.aZ h1)) <|
 .cl (ak4 p_d.dJ x1.fName) fun r1 _ =>
 .iB (r1 != v0) (.ret ⟨[.kill 0],[2],[],1⟩ (.inr (.inl (16)))) <|
 .rt [1,3] 1 (.inl (IntKind.wrap .i64 (v0 + 1)))) <|
 .rt [1] 1 (.inr (.inr (())))
def aeg (p_d:bQ) (v0:Int) : Option ((Int) ⊕ Unit) := bM (fun v_=>(Fp p_d v_).den) FU (v0)
def TV (p_d:bQ) : (Int) → St := fun (v0)=>⟨[(1,.ptr 0 0),(3,.i_ v0)],[.box 37 (.dat (bQ.lf1 p_d))]⟩
def yY (r_:(Int) ⊕ Unit) : Exit := match r_ with
 | .inl o_=>.ret
 | .inr (o_)=>.exit 0
def yZ (p_d:bQ) (r_:(Int) ⊕ Unit) : St := match r_ with
 | .inl o_=>⟨[(2,.i_ o_)],[.dead]⟩
 | .inr (o_)=>⟨[(1,.ptr 0 0)],[.box 37 (.dat (bQ.lf1 p_d))]⟩
theorem TW {p_d:bQ} {v0:Int} {r_:(Int) ⊕ Unit} (h:aeg p_d v0 = some r_) : fK Tryz.f116 0 [1,1,1,0,1,0] (yY r_) (yZ p_d r_) (TV p_d (v0)) :=
 dO dK (body := (Code.sub (bodyC Tryz.f116) [1,1,1,0,1,0,0])) (by kernel_rfl) (Fp p_d) (TV p_d) yY (yZ p_d) (fun r_=>by rcases r_ with _ | _ <;> rfl) (fun v_=>by kernel_rfl) h
def TY (p_d:bQ) : Mo (Bool) :=
 .iG 28003 (decide ((p_d.pK:Int) < 0)) (.rt [1,47] 1 (true)) <|
 .rt [1,47] 1 (decide ((2:Int) < p_d.pK))
def JL (p_d:bQ) (r0:Bool) : Mo (Bool) :=
 .iG 28008 (r0) (.rt [1,57] 1 (true)) <|
 .iG 28012 (p_d.mV != 0) (.rt [1,57] 1 (p_d.mV != 1)) <|
 .rt [1,57] 1 (false)
def ajl (p_d:bQ) : Mo (Int) :=
 .cl (vJ p_d.fName) fun r0 _ =>
 .ite (!r0) (fun c0 =>
 .say [.br true] (ok1 c0) <|
 .ret (bD 1) (9)) fun c0 =>
 .say [.br false,.num p_d.dJ.length] (okc c0 (ok1 (ln_ p_d.dJ aV.lf))) <|
 .iB (decide ((16:Int) < (p_d.dJ.length:Int))) (.ret (bD 1) (2)) <|
 .eU (aeg p_d 0) (fun o0 h0 =>
 .say [.pt_ 0 [1,3] 1 (yY (.inl o0)) (yZ p_d (.inl o0))] (ok1 (TW h0)) <|
 .ret (bD 1) (o0)) fun o1 h0 =>
 .say [.pt_ 0 [1,3] 1 (yY (.inr (o1))) (yZ p_d (.inr (o1)))] (ok1 (TW h0)) <|
 .sj Tryz.f116 0 [1,1,1,1,0,0] [0,1,2,3,4,5,6,7] 13 8 [1] 1 (fun r_=>⟨[(1,.ptr 0 0),(47,.b_ r_)],[.box 37 (.dat (bQ.lf1 p_d))]⟩) ⟨[(1,.ptr 0 0)],[.box 37 (.dat (bQ.lf1 p_d))]⟩ (TY p_d).den (sW (by kernel_rfl)) fun r1 _ =>
 .sj Tryz.f116 0 [1,1,1,1,0,0] [8,9,10,11,12,13,14,15,16,17] 13 10 [1,47] 1 (fun r_=>⟨[(1,.ptr 0 0),(57,.b_ r_)],[.box 37 (.dat (bQ.lf1 p_d))]⟩) ⟨[(1,.ptr 0 0),(47,.b_ r1)],[.box 37 (.dat (bQ.lf1 p_d))]⟩ (JL p_d r1).den (sW (by kernel_rfl)) fun r2 _ =>
 .iB (r2) (.ret (bD 1) (1)) <|
 .cl (ahq p_d.fG) fun r3 _ =>
 .ret (bD 1) (r3)
def Q42 (p_d:bQ) : Option (Int) := Mo.den (ajl p_d)
theorem ak6 (p_d:bQ) : FV (Q42 p_d) 116 [.dat (bQ.lf1 p_d)] (fun r=>.i_ r) := bZ Tryz.func116 (by kernel_rfl) (fun _=>rfl) (by kernel_rfl)
def Zm (p_hi:Int) (p_lo:Int) (p_w:aJ) : Mo (Bool) :=
 .iG 6003 (decide ((p_w.aU:Int) < p_lo)) (.rt [3,7,20] 1 (true)) <|
 .rt [3,7,20] 1 (decide ((p_hi:Int) < p_w.aU))
def Zn (p_w:aJ) (r0:Bool) : Mo (Bool) :=
 .iG 6008 (r0) (.rt [3,7,25] 1 (true)) <|
 .cl (akF p_w) fun r1 _ =>
 .rt [3,7,25] 1 (!r1)
def Ua (p_w:aJ) (r0:Bool) : Mo (Bool) :=
 .iG 6013 (r0) (.rt [3,7,35] 1 (true)) <|
 .cl (Y2 p_w.aU) fun r1 _ =>
 .ite (r1) (fun c0 =>
 .say [.gd 6016 true,.num p_w.dN.length] (okc c0 (ok1 (ln_ p_w.dN aJ.lf))) <|
 .rt [3,7,35] 1 ((p_w.dN.length:Int) == 0)) fun c0 =>
 .say [.gd 6016 false] (ok1 c0) <|
 .rt [3,7,35] 1 (false)
def Ub (p_w:aJ) (r0:Bool) : Mo (Unit) :=
 .rt [3,7,12] 1 ()
def Uc (p_w:aJ) : Mo (Bool) :=
 .cl (YT p_w.aU) fun r0 _ =>
 .iG 14002 (r0) (.cl (Dl p_w.kT) fun r1 _ =>
 .rt [3,7,49] 1 (!r1)) <|
 .rt [3,7,49] 1 (false)
def Ud (p_w:aJ) (r0:Bool) : Mo (Bool) :=
 .iG 14008 (r0) (.rt [3,7,59] 1 (true)) <|
 .cl (Y1 p_w.aU) fun r1 _ =>
 .iG 14011 (r1) (.cl (Dl p_w.Az) fun r2 _ =>
 .rt [3,7,59] 1 (!r2)) <|
 .rt [3,7,59] 1 (false)
def Ue (p_w:aJ) (r0:Bool) : Mo (Bool) :=
 .iG 14018 (r0) (.rt [3,7,70] 1 (true)) <|
 .iG 14021 (p_w.aU == 7) (.cl (Dl p_w.aW.fName) fun r1 _ =>
 .rt [3,7,70] 1 (!r1)) <|
 .rt [3,7,70] 1 (false)
def Uf (p_w:aJ) (r0:Bool) : Mo (Unit) :=
 .rt [3,7,41] 1 ()
def Ug (p_w:aJ) : Mo (Bool) :=
 .iG 18002 (p_w.aU == 10) (.rt [3,7,78] 1 (decide ((p_w.fC:Int) < 1))) <|
 .rt [3,7,78] 1 (false)
def Uh (p_w:aJ) (r0:Bool) : Mo (Bool) :=
 .iG 18007 (r0) (.rt [3,7,83] 1 (true)) <|
 .rt [3,7,83] 1 (decide ((p_w.fC:Int) < 0))
def Ui (p_w:aJ) (r0:Bool) : Mo (Bool) :=
 .iG 18012 (r0) (.rt [3,7,88] 1 (true)) <|
 .rt [3,7,88] 1 (decide ((1099511627776:Int) < p_w.fC))
def Uj (p_w:aJ) (r0:Bool) : Mo (Bool) :=
 .iG 18017 (r0) (.rt [3,7,98] 1 (true)) <|
 .iG 18020 (p_w.aU == 12) (.cl (akG p_w.eF) fun r1 _ =>
 .rt [3,7,98] 1 (!r1)) <|
 .rt [3,7,98] 1 (false)
def Uk (p_w:aJ) (r0:Bool) : Mo (Unit) :=
 .rt [3,7,71] 1 ()
def Ul (p_w:aJ) : Mo (Bool) :=
 .cl (Nc p_w.aU) fun r0 _ =>
 .iG 22002 (r0) (.cl (akH p_w.mW) fun r1 _ =>
 .rt [3,7,99] 1 (!r1)) <|
 .rt [3,7,99] 1 (false)
def Fq (p_w:aJ) : Mo ((Int) ⊕ Unit) :=
 .iB (p_w.aU == 2) (.cl (Y6 p_w.bV p_w.mW) fun r0 _ =>
 .iB (r0 != 0) (.ret ⟨[.kill 0],[6],[],1⟩ (.inl (r0))) <|
 .rt [3,7] 1 (.inr (()))) <|
 .rt [3,7] 1 (.inr (()))
def aeh (p_w:aJ) : Option ((Int) ⊕ Unit) := Mo.den (Fq p_w)
def zf (r_:(Int) ⊕ Unit) : Exit := match r_ with
 | .inl o_=>.ret
 | .inr (o_)=>.normal
def zh (p_w:aJ) (r_:(Int) ⊕ Unit) : St := match r_ with
 | .inl o_=>⟨[(6,.i_ o_)],[.dead]⟩
 | .inr (o_)=>⟨[(3,.ptr 0 0),(7,.i_ p_w.aU)],[.box 52 (.dat (aJ.lf1 p_w))]⟩
theorem Um {p_w:aJ} {r_:(Int) ⊕ Unit} (h:aeh p_w = some r_) : fK Tryz.f78 0 [1,1,1,0,1] (zf r_) (zh p_w r_) ⟨[(3,.ptr 0 0),(7,.i_ p_w.aU),(109,.lf (.bool (p_w.aU == 2)))],[.box 52 (.dat (aJ.lf1 p_w))]⟩ :=
 jh dK (Fq p_w) zf (zh p_w) (by kernel_rfl) h
def Un (p_w:aJ) : Mo (Bool) :=
 .cl (Nc p_w.aU) fun r0 _ =>
 .iG 34002 (r0) (.cl (vK p_w.gY) fun r1 _ =>
 .rt [3,7,125] 1 (!r1)) <|
 .rt [3,7,125] 1 (false)
def Fv (p_w:aJ) (r0:Bool) : Mo ((Int) ⊕ Unit) :=
 .iB (r0) (.cl (Y6 p_w.gY p_w.mW) fun r1 _ =>
 .iB (r1 != 0) (.ret ⟨[.kill 0],[6],[],1⟩ (.inl (r1))) <|
 .rt [3,7] 1 (.inr (()))) <|
 .rt [3,7] 1 (.inr (()))
def aei (p_w:aJ) (r0:Bool) : Option ((Int) ⊕ Unit) := Mo.den (Fv p_w r0)
def zi (r_:(Int) ⊕ Unit) : Exit := match r_ with
 | .inl o_=>.ret
 | .inr (o_)=>.normal
def zk (p_w:aJ) (r_:(Int) ⊕ Unit) : St := match r_ with
 | .inl o_=>⟨[(6,.i_ o_)],[.dead]⟩
 | .inr (o_)=>⟨[(3,.ptr 0 0),(7,.i_ p_w.aU)],[.box 52 (.dat (aJ.lf1 p_w))]⟩
theorem Uo {p_w:aJ} {r0:Bool} {r_:(Int) ⊕ Unit} (h:aei p_w r0 = some r_) : fK Tryz.f78 0 [1,1,1,1,0,1] (zi r_) (zk p_w r_) ⟨[(3,.ptr 0 0),(7,.i_ p_w.aU),(125,.b_ r0)],[.box 52 (.dat (aJ.lf1 p_w))]⟩ :=
 jh dK (Fv p_w r0) zi (zk p_w) (by kernel_rfl) h
def am6 (p_w:aJ) (p_lo:Int) (p_hi:Int) : Mo (Int) :=
 .sj Tryz.f78 0 [1,1,0,0,0] [0,1,2,3,4,5,6,7] 2 8 [1,2,3,7] 1 (fun r_=>⟨[(3,.ptr 0 0),(7,.i_ p_w.aU),(20,.b_ r_)],[.box 52 (.dat (aJ.lf1 p_w))]⟩) ⟨[(1,.i_ p_lo),(2,.i_ p_hi),(3,.ptr 0 0),(7,.i_ p_w.aU)],[.box 52 (.dat (aJ.lf1 p_w))]⟩ (Zm p_hi p_lo p_w).den (sW (by kernel_rfl)) fun r0 _ =>
 .sj Tryz.f78 0 [1,1,0,0,0] [8,9,10,11,12] 2 5 [3,7,20] 1 (fun r_=>⟨[(3,.ptr 0 0),(7,.i_ p_w.aU),(25,.b_ r_)],[.box 52 (.dat (aJ.lf1 p_w))]⟩) ⟨[(3,.ptr 0 0),(7,.i_ p_w.aU),(20,.b_ r0)],[.box 52 (.dat (aJ.lf1 p_w))]⟩ (Zn p_w r0).den (sW (by kernel_rfl)) fun r1 _ =>
 .sj Tryz.f78 0 [1,1,0,0,0] [13,14,15,16,17,18,19,20,21,22] 2 10 [3,7,25] 1 (fun r_=>⟨[(3,.ptr 0 0),(7,.i_ p_w.aU),(35,.b_ r_)],[.box 52 (.dat (aJ.lf1 p_w))]⟩) ⟨[(3,.ptr 0 0),(7,.i_ p_w.aU),(25,.b_ r1)],[.box 52 (.dat (aJ.lf1 p_w))]⟩ (Ua p_w r1).den (sW (by kernel_rfl)) fun r2 _ =>
 .sj Tryz.f78 0 [1,1,0,0,0] [23] 2 1 [3,7,35] 1 (fun r_=>⟨[(3,.ptr 0 0),(7,.i_ p_w.aU),(12,.b_ r2)],[.box 52 (.dat (aJ.lf1 p_w))]⟩) ⟨[(3,.ptr 0 0),(7,.i_ p_w.aU),(35,.b_ r2)],[.box 52 (.dat (aJ.lf1 p_w))]⟩ (Ub p_w r2).den (sW (by kernel_rfl)) fun r3 _ =>
 .ite (r2) (fun c0 =>
 .say [.br true] (ok1 c0) <|
 .ret (bD 1) (11)) fun c0 =>
 .say [.br false,.num p_w.dN.length] (okc c0 (ok1 (ln_ p_w.dN aJ.lf))) <|
 .iB (decide ((256:Int) < (p_w.dN.length:Int))) (.ret (bD 1) (2)) <|
 .sj Tryz.f78 0 [1,1,0,0,1,1,1,1,0] [0,1,2,3,4,5,6,7] 6 8 [3,7] 1 (fun r_=>⟨[(3,.ptr 0 0),(7,.i_ p_w.aU),(49,.b_ r_)],[.box 52 (.dat (aJ.lf1 p_w))]⟩) ⟨[(3,.ptr 0 0),(7,.i_ p_w.aU)],[.box 52 (.dat (aJ.lf1 p_w))]⟩ (Uc p_w).den (sW (by kernel_rfl)) fun r4 _ =>
 .sj Tryz.f78 0 [1,1,0,0,1,1,1,1,0] [8,9,10,11,12,13,14,15,16,17] 6 10 [3,7,49] 1 (fun r_=>⟨[(3,.ptr 0 0),(7,.i_ p_w.aU),(59,.b_ r_)],[.box 52 (.dat (aJ.lf1 p_w))]⟩) ⟨[(3,.ptr 0 0),(7,.i_ p_w.aU),(49,.b_ r4)],[.box 52 (.dat (aJ.lf1 p_w))]⟩ (Ud p_w r4).den (sW (by kernel_rfl)) fun r5 _ =>
 .sj Tryz.f78 0 [1,1,0,0,1,1,1,1,0] [18,19,20,21,22,23,24,25,26,27,28] 6 11 [3,7,59] 1 (fun r_=>⟨[(3,.ptr 0 0),(7,.i_ p_w.aU),(70,.b_ r_)],[.box 52 (.dat (aJ.lf1 p_w))]⟩) ⟨[(3,.ptr 0 0),(7,.i_ p_w.aU),(59,.b_ r5)],[.box 52 (.dat (aJ.lf1 p_w))]⟩ (Ue p_w r5).den (sW (by kernel_rfl)) fun r6 _ =>
 .sj Tryz.f78 0 [1,1,0,0,1,1,1,1,0] [29] 6 1 [3,7,70] 1 (fun r_=>⟨[(3,.ptr 0 0),(7,.i_ p_w.aU),(41,.b_ r6)],[.box 52 (.dat (aJ.lf1 p_w))]⟩) ⟨[(3,.ptr 0 0),(7,.i_ p_w.aU),(70,.b_ r6)],[.box 52 (.dat (aJ.lf1 p_w))]⟩ (Uf p_w r6).den (sW (by kernel_rfl)) fun r7 _ =>
 .iB (r6) (.ret (bD 1) (9)) <|
 .sj Tryz.f78 0 [1,1,0,0,1,1,1,1,1,1,0] [0,1,2,3,4,5,6] 8 7 [3,7] 1 (fun r_=>⟨[(3,.ptr 0 0),(7,.i_ p_w.aU),(78,.b_ r_)],[.box 52 (.dat (aJ.lf1 p_w))]⟩) ⟨[(3,.ptr 0 0),(7,.i_ p_w.aU)],[.box 52 (.dat (aJ.lf1 p_w))]⟩ (Ug p_w).den (sW (by kernel_rfl)) fun r8 _ =>
 .sj Tryz.f78 0 [1,1,0,0,1,1,1,1,1,1,0] [7,8,9,10,11] 8 5 [3,7,78] 1 (fun r_=>⟨[(3,.ptr 0 0),(7,.i_ p_w.aU),(83,.b_ r_)],[.box 52 (.dat (aJ.lf1 p_w))]⟩) ⟨[(3,.ptr 0 0),(7,.i_ p_w.aU),(78,.b_ r8)],[.box 52 (.dat (aJ.lf1 p_w))]⟩ (Uh p_w r8).den (sW (by kernel_rfl)) fun r9 _ =>
 .sj Tryz.f78 0 [1,1,0,0,1,1,1,1,1,1,0] [12,13,14,15,16] 8 5 [3,7,83] 1 (fun r_=>⟨[(3,.ptr 0 0),(7,.i_ p_w.aU),(88,.b_ r_)],[.box 52 (.dat (aJ.lf1 p_w))]⟩) ⟨[(3,.ptr 0 0),(7,.i_ p_w.aU),(83,.b_ r9)],[.box 52 (.dat (aJ.lf1 p_w))]⟩ (Ui p_w r9).den (sW (by kernel_rfl)) fun r10 _ =>
 .sj Tryz.f78 0 [1,1,0,0,1,1,1,1,1,1,0] [17,18,19,20,21,22,23,24,25,26] 8 10 [3,7,88] 1 (fun r_=>⟨[(3,.ptr 0 0),(7,.i_ p_w.aU),(98,.b_ r_)],[.box 52 (.dat (aJ.lf1 p_w))]⟩) ⟨[(3,.ptr 0 0),(7,.i_ p_w.aU),(88,.b_ r10)],[.box 52 (.dat (aJ.lf1 p_w))]⟩ (Uj p_w r10).den (sW (by kernel_rfl)) fun r11 _ =>
 .sj Tryz.f78 0 [1,1,0,0,1,1,1,1,1,1,0] [27] 8 1 [3,7,98] 1 (fun r_=>⟨[(3,.ptr 0 0),(7,.i_ p_w.aU),(71,.b_ r11)],[.box 52 (.dat (aJ.lf1 p_w))]⟩) ⟨[(3,.ptr 0 0),(7,.i_ p_w.aU),(98,.b_ r11)],[.box 52 (.dat (aJ.lf1 p_w))]⟩ (Uk p_w r11).den (sW (by kernel_rfl)) fun r12 _ =>
 .iB (r11) (.ret (bD 1) (1)) <|
 .jp Tryz.f78 0 [1,1,0,0,1,1,1,1,1,1,1,1,0] 27 [3,7] 1 (.normal) (fun r_=>⟨[(3,.ptr 0 0),(7,.i_ p_w.aU),(99,.b_ r_)],[.box 52 (.dat (aJ.lf1 p_w))]⟩) ⟨[(3,.ptr 0 0),(7,.i_ p_w.aU)],[.box 52 (.dat (aJ.lf1 p_w))]⟩ (Ul p_w).den (jW (by kernel_rfl)) fun r13 _ =>
 .iB (r13) (.ret (bD 1) (8)) <|
 .eU (aeh p_w) (fun o0 h0 =>
 .say [.pt_ 1 [3,7,109] 1 (zf (.inl o0)) (zh p_w (.inl o0))] (ok1 (Um h0)) <|
 .ret (bD 1) (o0)) fun o1 h0 =>
 .say [.pt_ 1 [3,7,109] 1 (zf (.inr (o1))) (zh p_w (.inr (o1)))] (ok1 (Um h0)) <|
 .jp Tryz.f78 0 [1,1,1,1,0,0] 39 [3,7] 1 (.normal) (fun r_=>⟨[(3,.ptr 0 0),(7,.i_ p_w.aU),(125,.b_ r_)],[.box 52 (.dat (aJ.lf1 p_w))]⟩) ⟨[(3,.ptr 0 0),(7,.i_ p_w.aU)],[.box 52 (.dat (aJ.lf1 p_w))]⟩ (Un p_w).den (jW (by kernel_rfl)) fun r14 _ =>
 .eU (aei p_w r14) (fun o2 h1 =>
 .say [.pt_ 1 [3,7,125] 1 (zi (.inl o2)) (zk p_w (.inl o2))] (ok1 (Uo h1)) <|
 .ret (bD 1) (o2)) fun o3 h1 =>
 .say [.pt_ 1 [3,7,125] 1 (zi (.inr (o3))) (zk p_w (.inr (o3)))] (ok1 (Uo h1)) <|
 .iB (p_w.aU == 4) (.cl (ak6 p_w.oW) fun r15 _ =>
 .ret (bD 1) (r15)) <|
 .iB (p_w.aU == 6) (.cl (Zg p_w.aW) fun r16 _ =>
 .ret (bD 1) (r16)) <|
 .ret (bD 1) (0)
def Q3 (p_w:aJ) (p_lo:Int) (p_hi:Int) : Option (Int) := Mo.den (am6 p_w p_lo p_hi)
theorem ajm (p_w:aJ) (p_lo:Int) (p_hi:Int) : FV (Q3 p_w p_lo p_hi) 78 [.dat (aJ.lf1 p_w),.i_ p_lo,.i_ p_hi] (fun r=>.i_ r) := bZ Tryz.func78 (by kernel_rfl) (fun _=>rfl) (by kernel_rfl)
def Ur (p_e:ay) : Mo (Bool) :=
 .iG 8003 (decide ((p_e.fC:Int) < 1)) (.rt [1,19] 1 (true)) <|
 .rt [1,19] 1 (decide ((1099511627776:Int) < p_e.fC))
def Us (p_e:ay) (r0:Bool) : Mo (Bool) :=
 .iG 8008 (r0) (.rt [1,24] 1 (true)) <|
 .rt [1,24] 1 (decide ((p_e.pO:Int) < 0))
def JM (p_e:ay) (r0:Bool) : Mo (Unit) :=
 .rt [1,11] 1 ()
def JO (p_e:ay) : Mo (Bool) :=
 .iG 12003 (!decide ((p_e.kJ:ByteArray) = (⟨#[]⟩ : ByteArray))) (.cl (Dl p_e.kJ) fun r0 _ =>
 .rt [1,25] 1 (!r0)) <|
 .rt [1,25] 1 (false)
def JQ (p_e:ay) : Mo (Int) :=
 .iB (p_e.iJ.aU == 9) (.rt [1,4] 1 (3)) <|
 .rt [1,4] 1 (7)
def Bl (p_e:ay) (r0:Int) : (Int) → Mo ((Int) ⊕ (Int) ⊕ Unit) := fun (v0) =>
 .say [.num p_e.iJ.dN.length] (ok1 (ln_ p_e.iJ.dN aJ.lf)) <|
 .iB (decide ((v0:Int) < (p_e.iJ.dN.length:Int))) (.ask (bP p_e.iJ.dN v0) fun x0 h0 =>
 .say [.row (aJ.lf1 x0)] (ok1 (aX aJ.aZ h0)) <|
 .cl (ajm x0 2 r0) fun r1 _ =>
 .iB (r1 != 0) (.ret ⟨[.kill 0],[2],[],1⟩ (.inr (.inl (r1)))) <|
 .rt [1,4,5] 1 (.inl (IntKind.wrap .i64 (v0 + 1)))) <|
 .ret ⟨[.kill 0],[],[],1⟩ (.inr (.inr (())))
def Zo (p_e:ay) (r0:Int) (v0:Int) : Option ((Int) ⊕ Unit) := bM (fun v_=>(Bl p_e r0 v_).den) FU (v0)
def JR (p_e:ay) (r0:Int) : (Int) → St := fun (v0)=>⟨[(1,.ptr 0 0),(4,.i_ r0),(5,.i_ v0)],[.box 54 (.dat (ay.lf1 p_e))]⟩
def tC (r_:(Int) ⊕ Unit) : Exit := match r_ with
 | .inl o_=>.ret
 | .inr (o_)=>.exit 1
def tH  (r_:(Int) ⊕ Unit) : St := match r_ with
 | .inl o_=>⟨[(2,.i_ o_)],[.dead]⟩
 | .inr (o_)=>⟨[],[.dead]⟩
theorem JU {p_e:ay} {r0:Int} {v0:Int} {r_:(Int) ⊕ Unit} (h:Zo p_e r0 v0 = some r_) : fK Tryz.f39 0 [1,1,1,1,1,0,1,0] (tC r_) (tH r_) (JR p_e r0 (v0)) :=
 dO dK (body := (Code.sub (bodyC Tryz.f39) [1,1,1,1,1,0,1,0,0])) (by kernel_rfl) (Bl p_e r0) (JR p_e r0) tC tH (fun r_=>by rcases r_ with _ | _ <;> rfl) (fun v_=>by kernel_rfl) h
def ajn (p_e:ay) : Mo (Int) :=
 .iB (decide ((p_e.bf:Int) < 0)) (.ret (bD 1) (24)) <|
 .sj Tryz.f39 0 [1,0,0,1,1,0] [0,1,2,3,4,5,6,7] 3 8 [1] 1 (fun r_=>⟨[(1,.ptr 0 0),(19,.b_ r_)],[.box 54 (.dat (ay.lf1 p_e))]⟩) ⟨[(1,.ptr 0 0)],[.box 54 (.dat (ay.lf1 p_e))]⟩ (Ur p_e).den (sW (by kernel_rfl)) fun r0 _ =>
 .sj Tryz.f39 0 [1,0,0,1,1,0] [8,9,10,11,12] 3 5 [1,19] 1 (fun r_=>⟨[(1,.ptr 0 0),(24,.b_ r_)],[.box 54 (.dat (ay.lf1 p_e))]⟩) ⟨[(1,.ptr 0 0),(19,.b_ r0)],[.box 54 (.dat (ay.lf1 p_e))]⟩ (Us p_e r0).den (sW (by kernel_rfl)) fun r1 _ =>
 .sj Tryz.f39 0 [1,0,0,1,1,0] [13] 3 1 [1,24] 1 (fun r_=>⟨[(1,.ptr 0 0),(11,.b_ r1)],[.box 54 (.dat (ay.lf1 p_e))]⟩) ⟨[(1,.ptr 0 0),(24,.b_ r1)],[.box 54 (.dat (ay.lf1 p_e))]⟩ (JM p_e r1).den (sW (by kernel_rfl)) fun r2 _ =>
 .iB (r1) (.ret (bD 1) (1)) <|
 .jp Tryz.f39 0 [1,0,0,1,1,1,1,0] 17 [1] 1 (.normal) (fun r_=>⟨[(1,.ptr 0 0),(25,.b_ r_)],[.box 54 (.dat (ay.lf1 p_e))]⟩) ⟨[(1,.ptr 0 0)],[.box 54 (.dat (ay.lf1 p_e))]⟩ (JO p_e).den (jW (by kernel_rfl)) fun r3 _ =>
 .iB (r3) (.ret (bD 1) (9)) <|
 .cl (ajm p_e.iJ 1 12) fun r4 _ =>
 .iB (r4 != 0) (.ret (bD 1) (r4)) <|
 .jp Tryz.f39 0 [1,1,1,1,0,1] 1 [1,4,44] 1 (.normal) (fun r_=>⟨[(1,.ptr 0 0),(4,.i_ r_)],[.box 54 (.dat (ay.lf1 p_e))]⟩) ⟨[(1,.ptr 0 0),(4,.i_ 7),(44,.lf (.bool (p_e.iJ.aU == 9)))],[.box 54 (.dat (ay.lf1 p_e))]⟩ (JQ p_e).den (jW (by kernel_rfl)) fun r5 _ =>
 .eU (Zo p_e r5 0) (fun o0 h0 =>
 .say [.pt_ 0 [1,4,5] 1 (tC (.inl o0)) (tH (.inl o0))] (ok1 (JU h0)) <|
 .ret (bD 1) (o0)) fun o1 h0 =>
 .say [.pt_ 0 [1,4,5] 1 (tC (.inr (o1))) (tH (.inr (o1)))] (ok1 (JU h0)) <|
 .ret (bD 1) (0)
def Q23 (p_e:ay) : Option (Int) := Mo.den (ajn p_e)
theorem ak7 (p_e:ay) : FV (Q23 p_e) 39 [.dat (ay.lf1 p_e)] (fun r=>.i_ r) := bZ Tryz.func39 (by kernel_rfl) (fun _=>rfl) (by kernel_rfl)
end
end Go.Proofs.YtdnafbfmaphhhaaGreatDoor
set_option linter.unusedSimpArgs false
set_option linter.unusedVariables false
namespace Go.Proofs.YtdnafbfmaphhhaaGreatDoor
open Go.RowKit
set_option maxRecDepth 20000
set_option maxHeartbeats 4000000
noncomputable section
def Ut (p_m:aj) (p_x:ah) : Mo (Bool) :=
 .iG 4005 (p_x.fTo != p_m.fID) (.rt [2,3,17] 2 (true)) <|
 .rt [2,3,17] 2 (p_x.bK == p_m.fID)
def Uu (p_m:aj) (p_x:ah) (r0:Bool) : Mo (Bool) :=
 .iG 4012 (r0) (.rt [2,3,22] 2 (true)) <|
 .rt [2,3,22] 2 (decide ((p_x.bK:Int) < 0))
def JV (p_m:aj) (p_x:ah) (r0:Bool) : Mo (Bool) :=
 .iG 4017 (r0) (.ret ⟨[.kill 0],[3,29],[],2⟩ (true)) <|
 .ret ⟨[.kill 0],[3,29],[],2⟩ (decide ((p_m.bW:Int) ≤ p_x.bK))
def JW (p_x:ah) (r0:Bool) : Mo (Bool) :=
 .iG 4024 (r0) (.rt [3,34] 2 (true)) <|
 .rt [3,34] 2 (decide ((p_x.bf:Int) < 0))
def JX (p_x:ah) (r0:Bool) : Mo (Bool) :=
 .iG 4029 (r0) (.rt [3,39] 2 (true)) <|
 .rt [3,39] 2 (decide ((p_x.aW:Int) < 0))
def JY (p_x:ah) (r0:Bool) : Mo (Bool) :=
 .iG 4034 (r0) (.rt [3,44] 2 (true)) <|
 .rt [3,44] 2 (decide ((16384:Int) < p_x.aW))
def JZ (p_x:ah) (r0:Bool) : Mo (Bool) :=
 .iG 4039 (r0) (.rt [3,49] 2 (true)) <|
 .rt [3,49] 2 (decide ((p_x.au:Int) < 0))
def J3 (p_x:ah) (r0:Bool) : Mo (Bool) :=
 .iG 4044 (r0) (.rt [3,54] 2 (true)) <|
 .rt [3,54] 2 (decide ((16384:Int) < p_x.au))
def J4 (p_x:ah) (r0:Bool) : Mo (Bool) :=
 .iG 4049 (r0) (.rt [3,59] 2 (true)) <|
 .rt [3,59] 2 (decide ((p_x.jd:Int) < 0))
def J5 (p_x:ah) (r0:Bool) : Mo (Bool) :=
 .ite (r0) (fun c0 =>
 .say [.gd 4054 true] (ok1 c0) <|
 .rt [3,65] 2 (true)) fun c0 =>
 .say [.gd 4054 false,.num p_x.aN.length] (okc c0 (ok1 (ln_ p_x.aN ay.lf))) <|
 .rt [3,65] 2 (decide ((16:Int) < (p_x.aN.length:Int)))
def J6 (p_x:ah) (v0:Int) : Mo (Bool) :=
 .ask (bP p_x.aN v0) fun x0 h0 =>
 .say [] (ok1 (aX ay.aZ h0)) <|
 .ite (decide ((p_x.bf:Int) < x0.bf)) (fun c0 =>
 .say [.dL (.q 0 (.q 1 (.q 2 (.q 3 (.q 4 (.q 5 (.q 6 (.q 7 (.q 8 (.q 9 (.q 10 (.q 11 (.q 12 (.q 13 (.q 14 (.l 15 (.q 16 (.q 17 .fin)))))))))))))))))) (some 15) [] [.row (ay.lf1 x0),.gd 14009 true] [3,5,90] 2 [(3,.ptr 1 0),(5,.i_ v0),(90,.b_ true)] [.dead,.box 63 (.dat (ah.lf1 p_x))]] (okc c0 (ok1 (rf_ ⟨[(3,.ptr 1 0),(5,.i_ v0),(90,.b_ true)],[.dead,.box 63 (.dat (ah.lf1 p_x))]⟩))) <|
 .rt [3,5,90] 2 (true)) fun c0 =>
 .say [] (ok1 c0) <|
 .ask (bP p_x.aN v0) fun x1 h1 =>
 .say [] (ok1 (aX ay.aZ h1)) <|
 .ask (Q23 x1) fun r0 h2 =>
 .say [.dL (.q 0 (.q 1 (.q 2 (.q 3 (.q 4 (.q 5 (.q 6 (.q 7 (.q 8 (.q 9 (.q 10 (.q 11 (.q 12 (.q 13 (.q 14 (.l 15 (.q 16 (.q 17 .fin)))))))))))))))))) (some 15) [] [.row (ay.lf1 x0),.gd 14009 false,.row (ay.lf1 x1),.res (.i_ r0)] [3,5,90] 2 [(3,.ptr 1 0),(5,.i_ v0),(90,.lf (.bool (r0 != 0)))] [.dead,.box 63 (.dat (ah.lf1 p_x))]] (okc (ak7 _ _ h2) (ok1 (rf_ ⟨[(3,.ptr 1 0),(5,.i_ v0),(90,.lf (.bool (r0 != 0)))],[.dead,.box 63 (.dat (ah.lf1 p_x))]⟩))) <|
 .rt [3,5,90] 2 (r0 != 0)
def Bo (p_x:ah) : (Int) → Mo ((Int) ⊕ (Unit ⊕ Unit)) := fun (v0) =>
 .say [.num p_x.aN.length] (ok1 (ln_ p_x.aN ay.lf)) <|
 .iB (decide ((v0:Int) < (p_x.aN.length:Int))) (.jp Tryz.f15 0 [1,1,0,1,0,0,1,0,0,0] 19 [3,5] 2 (.normal) (fun r_=>⟨[(3,.ptr 1 0),(5,.i_ v0),(90,.b_ r_)],[.dead,.box 63 (.dat (ah.lf1 p_x))]⟩) ⟨[(3,.ptr 1 0),(5,.i_ v0)],[.dead,.box 63 (.dat (ah.lf1 p_x))]⟩ (J6 p_x v0).den (jW (by kernel_rfl)) fun r0 _ =>
 .iB (r0) (.ret ⟨[.kill 1],[4],[],2⟩ (.inr (.inl ()))) <|
 .rt [3,5] 2 (.inl (IntKind.wrap .i64 (v0 + 1)))) <|
 .ret ⟨[.kill 1],[],[],2⟩ (.inr (.inr (())))
def NI (p_x:ah) (v0:Int) : Option (Unit ⊕ Unit) := bM (fun v_=>(Bo p_x v_).den) FU (v0)
def J7 (p_x:ah) : (Int) → St := fun (v0)=>⟨[(3,.ptr 1 0),(5,.i_ v0)],[.dead,.box 63 (.dat (ah.lf1 p_x))]⟩
def tJ (r_:Unit ⊕ Unit) : Exit := match r_ with
 | .inl o_=>.ret
 | .inr (o_)=>.exit 0
def tK  (r_:Unit ⊕ Unit) : St := match r_ with
 | .inl o_=>⟨[(4,.b_ false)],[.dead,.dead]⟩
 | .inr (o_)=>⟨[],[.dead,.dead]⟩
theorem J8 {p_x:ah} {v0:Int} {r_:Unit ⊕ Unit} (h:NI p_x v0 = some r_) : fK Tryz.f15 0 [1,1,0,1,0] (tJ r_) (tK r_) (J7 p_x (v0)) :=
 dO dK (body := (Code.sub (bodyC Tryz.f15) [1,1,0,1,0,0])) (by kernel_rfl) (Bo p_x) (J7 p_x) tJ tK (fun r_=>by rcases r_ with _ | _ <;> rfl) (fun v_=>by kernel_rfl) h
def ajo (p_m:aj) (p_x:ah) : Mo (Bool) :=
 .sj Tryz.f15 0 [1,0,0] [0,1,2,3,4,5,6,7,8,9,10,11] 1 12 [2,3] 2 (fun r_=>⟨[(2,.ptr 0 0),(3,.ptr 1 0),(17,.b_ r_)],[.box 25 (.dat (aj.lf1 p_m)),.box 63 (.dat (ah.lf1 p_x))]⟩) ⟨[(2,.ptr 0 0),(3,.ptr 1 0)],[.box 25 (.dat (aj.lf1 p_m)),.box 63 (.dat (ah.lf1 p_x))]⟩ (Ut p_m p_x).den (sW (by kernel_rfl)) fun r0 _ =>
 .sj Tryz.f15 0 [1,0,0] [12,13,14,15,16] 1 5 [2,3,17] 2 (fun r_=>⟨[(2,.ptr 0 0),(3,.ptr 1 0),(22,.b_ r_)],[.box 25 (.dat (aj.lf1 p_m)),.box 63 (.dat (ah.lf1 p_x))]⟩) ⟨[(2,.ptr 0 0),(3,.ptr 1 0),(17,.b_ r0)],[.box 25 (.dat (aj.lf1 p_m)),.box 63 (.dat (ah.lf1 p_x))]⟩ (Uu p_m p_x r0).den (sW (by kernel_rfl)) fun r1 _ =>
 .sj Tryz.f15 0 [1,0,0] [17,18,19,20,21,22,23] 1 7 [2,3,22] 2 (fun r_=>⟨[(3,.ptr 1 0),(29,.b_ r_)],[.dead,.box 63 (.dat (ah.lf1 p_x))]⟩) ⟨[(2,.ptr 0 0),(3,.ptr 1 0),(22,.b_ r1)],[.box 25 (.dat (aj.lf1 p_m)),.box 63 (.dat (ah.lf1 p_x))]⟩ (JV p_m p_x r1).den (sW (by kernel_rfl)) fun r2 _ =>
 .sj Tryz.f15 0 [1,0,0] [24,25,26,27,28] 1 5 [3,29] 2 (fun r_=>⟨[(3,.ptr 1 0),(34,.b_ r_)],[.dead,.box 63 (.dat (ah.lf1 p_x))]⟩) ⟨[(3,.ptr 1 0),(29,.b_ r2)],[.dead,.box 63 (.dat (ah.lf1 p_x))]⟩ (JW p_x r2).den (sW (by kernel_rfl)) fun r3 _ =>
 .sj Tryz.f15 0 [1,0,0] [29,30,31,32,33] 1 5 [3,34] 2 (fun r_=>⟨[(3,.ptr 1 0),(39,.b_ r_)],[.dead,.box 63 (.dat (ah.lf1 p_x))]⟩) ⟨[(3,.ptr 1 0),(34,.b_ r3)],[.dead,.box 63 (.dat (ah.lf1 p_x))]⟩ (JX p_x r3).den (sW (by kernel_rfl)) fun r4 _ =>
 .sj Tryz.f15 0 [1,0,0] [34,35,36,37,38] 1 5 [3,39] 2 (fun r_=>⟨[(3,.ptr 1 0),(44,.b_ r_)],[.dead,.box 63 (.dat (ah.lf1 p_x))]⟩) ⟨[(3,.ptr 1 0),(39,.b_ r4)],[.dead,.box 63 (.dat (ah.lf1 p_x))]⟩ (JY p_x r4).den (sW (by kernel_rfl)) fun r5 _ =>
 .sj Tryz.f15 0 [1,0,0] [39,40,41,42,43] 1 5 [3,44] 2 (fun r_=>⟨[(3,.ptr 1 0),(49,.b_ r_)],[.dead,.box 63 (.dat (ah.lf1 p_x))]⟩) ⟨[(3,.ptr 1 0),(44,.b_ r5)],[.dead,.box 63 (.dat (ah.lf1 p_x))]⟩ (JZ p_x r5).den (sW (by kernel_rfl)) fun r6 _ =>
 .sj Tryz.f15 0 [1,0,0] [44,45,46,47,48] 1 5 [3,49] 2 (fun r_=>⟨[(3,.ptr 1 0),(54,.b_ r_)],[.dead,.box 63 (.dat (ah.lf1 p_x))]⟩) ⟨[(3,.ptr 1 0),(49,.b_ r6)],[.dead,.box 63 (.dat (ah.lf1 p_x))]⟩ (J3 p_x r6).den (sW (by kernel_rfl)) fun r7 _ =>
 .sj Tryz.f15 0 [1,0,0] [49,50,51,52,53] 1 5 [3,54] 2 (fun r_=>⟨[(3,.ptr 1 0),(59,.b_ r_)],[.dead,.box 63 (.dat (ah.lf1 p_x))]⟩) ⟨[(3,.ptr 1 0),(54,.b_ r7)],[.dead,.box 63 (.dat (ah.lf1 p_x))]⟩ (J4 p_x r7).den (sW (by kernel_rfl)) fun r8 _ =>
 .sj Tryz.f15 0 [1,0,0] [54,55,56,57,58,59] 1 6 [3,59] 2 (fun r_=>⟨[(3,.ptr 1 0),(65,.b_ r_)],[.dead,.box 63 (.dat (ah.lf1 p_x))]⟩) ⟨[(3,.ptr 1 0),(59,.b_ r8)],[.dead,.box 63 (.dat (ah.lf1 p_x))]⟩ (J5 p_x r8).den (sW (by kernel_rfl)) fun r9 _ =>
 .iB (r9) (.ret (bD 1) (false)) <|
 .eU (NI p_x 0) (fun o0 h0 =>
 .say [.pt_ 0 [3,5] 2 (tJ (.inl o0)) (tK (.inl o0))] (ok1 (J8 h0)) <|
 .ret (bD 1) (false)) fun o1 h0 =>
 .say [.pt_ 0 [3,5] 2 (tJ (.inr (o1))) (tK (.inr (o1)))] (ok1 (J8 h0)) <|
 .ret (bD 1) (true)
def Q10 (p_m:aj) (p_x:ah) : Option (Bool) := Mo.den (ajo p_m p_x)
theorem ak8 (p_m:aj) (p_x:ah) : FV (Q10 p_m p_x) 15 [.dat (aj.lf1 p_m),.dat (ah.lf1 p_x)] (fun r=>.b_ r) := bZ Tryz.func15 (by kernel_rfl) (fun _=>rfl) (by kernel_rfl)
def Xd (p_id:Int) : Mo (Int) :=
 .ret (bD 1) (IntKind.wrap .i64 (10 + (IntKind.wrap .i64 (3 * p_id))))
def ak9 (p_id:Int) : Option (Int) := Mo.den (Xd p_id)
theorem NJ (p_id:Int) : FV (ak9 p_id) 69 [.i_ p_id] (fun r=>.i_ r) := bZ Tryz.func69 (by kernel_rfl) (fun _=>rfl) (by kernel_rfl)
def abd (p_id:Int) (p_size:Int) : Mo (Bool) :=
 .iG 4002 (decide ((p_size:Int) < 1)) (.rt [0,1,4,11] 1 (true)) <|
 .rt [0,1,4,11] 1 (decide ((7:Int) < p_size))
def abe (p_id:Int) (p_size:Int) (r0:Bool) : Mo (Bool) :=
 .iG 4006 (r0) (.rt [0,1,4,15] 1 (true)) <|
 .rt [0,1,4,15] 1 (decide ((p_id:Int) < 0))
def Xe (p_id:Int) (p_size:Int) (r0:Bool) : Mo (Bool) :=
 .iG 4010 (r0) (.rt [0,1,4,20] 1 (true)) <|
 .rt [0,1,4,20] 1 (decide ((p_size:Int) ≤ p_id))
def ala (p_id:Int) (p_size:Int) : Mo (aj × Int) :=
 .sj Tryz.f33 0 [1,0,0] [0,1,2,3,4,5] 1 6 [0,1,4] 1 (fun r_=>⟨[(0,.i_ p_id),(1,.i_ p_size),(4,.ptr 0 0),(11,.b_ r_)],[.box 25 (Z25)]⟩) ⟨[(0,.i_ p_id),(1,.i_ p_size),(4,.ptr 0 0)],[.box 25 (Z25)]⟩ (abd p_id p_size).den (sW (by kernel_rfl)) fun r0 _ =>
 .sj Tryz.f33 0 [1,0,0] [6,7,8,9] 1 4 [0,1,4,11] 1 (fun r_=>⟨[(0,.i_ p_id),(1,.i_ p_size),(4,.ptr 0 0),(15,.b_ r_)],[.box 25 (Z25)]⟩) ⟨[(0,.i_ p_id),(1,.i_ p_size),(4,.ptr 0 0),(11,.b_ r0)],[.box 25 (Z25)]⟩ (abe p_id p_size r0).den (sW (by kernel_rfl)) fun r1 _ =>
 .sj Tryz.f33 0 [1,0,0] [10,11,12,13,14] 1 5 [0,1,4,15] 1 (fun r_=>⟨[(0,.i_ p_id),(1,.i_ p_size),(4,.ptr 0 0),(20,.b_ r_)],[.box 25 (Z25)]⟩) ⟨[(0,.i_ p_id),(1,.i_ p_size),(4,.ptr 0 0),(15,.b_ r1)],[.box 25 (Z25)]⟩ (Xe p_id p_size r1).den (sW (by kernel_rfl)) fun r2 _ =>
 .iB (r2) (.ret (bD 2) (aj.z,1)) <|
 .cl (NJ p_id) fun r3 _ =>
 .ret (bD 2) (aj.kU (aj.pR (aj.IK (aj.aiL (aj.sID aj.z p_id) p_size) (-1)) (-1)) r3,0)
def anK (p_id:Int) (p_size:Int) : Option (aj × Int) := Mo.den (ala p_id p_size)
theorem ahr (p_id:Int) (p_size:Int) : FV (anK p_id p_size) 33 [.i_ p_id,.i_ p_size] (fun r=>.tup [.dat (aj.lf1 r.1),.i_ r.2]) := bZ Tryz.func33 (by kernel_rfl) (fun _=>rfl) (by kernel_rfl)
def alb (p_term:Int) (p_stamp:Int) : Mo (ay) :=
 .ret (bD 1) (ay.mk p_term p_stamp ⟨#[]⟩ 0 (aJ.iR aJ.z 1))
def alc (p_term:Int) (p_stamp:Int) : Option (ay) := Mo.den (alb p_term p_stamp)
theorem NK (p_term:Int) (p_stamp:Int) : FV (alc p_term p_stamp) 34 [.i_ p_term,.i_ p_stamp] (fun r=>.dat (ay.lf1 r)) := bZ Tryz.func34 (by kernel_rfl) (fun _=>rfl) (by kernel_rfl)
structure Bq where
 m1:(p_v:ak) → Option (ak)
 ok1:∀ p_v,FV (m1 p_v) 209 [.dat (ak.lf1 p_v)] (fun r=>.dat (ak.lf1 r))
 m2:(p_l:List ak) → Option (List ak)
 ok2:∀ p_l,FH (m2 p_l) 252 [.lf (.rows 5 (p_l.map ak.lf)),.raw (.func (.func 209) #[] #[])] [] (fun r=>.lf (.rows 5 (r.map ak.lf))) (fun _=>[])
 m3:(p_l:List aT) → Option (List aT)
 ok3:∀ p_l,FH (m3 p_l) 253 [.lf (.rows 6 (p_l.map aT.lf)),.raw (.func (.func 254) #[] #[])] [] (fun r=>.lf (.rows 6 (r.map aT.lf))) (fun _=>[])
 m4:(p_f:aT) → Option (aT)
 ok4:∀ p_f,FV (m4 p_f) 254 [.dat (aT.lf1 p_f)] (fun r=>.dat (aT.lf1 r))
def aej (R_:Bq) (p_v:ak) : Mo (ak) :=
 .cH [] (R_.ok2 p_v.bY) fun r0 _ =>
 .cH [] (R_.ok3 p_v.bV) fun r1 _ =>
 .ret (bD 1) (ak.mk p_v.aU p_v.jU p_v.fText r0 r1)
theorem ahs (R_:Bq) (p_v:ak) : FV (Mo.den (aej R_ p_v)) 209 [.dat (ak.lf1 p_v)] (fun r=>.dat (ak.lf1 r)) := bZ Tryz.func209 (by kernel_rfl) (fun _=>rfl) (by kernel_rfl)
def Uw (R_:Bq) (p_l:List ak) : (Int × (List ak)) → Mo ((Int × (List ak)) ⊕ ((List ak))) := fun (v0,l0) =>
 .iB (decide ((v0:Int) < (p_l.length:Int))) (.ask (bP p_l v0) fun x0 h0 =>
 .say [.row (ak.lf1 x0)] (ok1 (aX ak.aZ h0)) <|
 .cl (R_.ok1 x0) fun r0 _ =>
 .ask (bP l0 v0) fun x1 h1 =>
 .say [.row (ak.lf1 x1),.rows ((l0.set v0.toNat r0).map ak.lf)] (okc (cO ak.aZ h1) (okc (st_ ak.aZ l0 v0.toNat r0) (ok1 ((aX ak.aZ h1).2)))) <|
 .rt [1,5,14,15,16] 1 (.inl (IntKind.wrap .i64 (v0 + 1),l0.set v0.toNat r0))) <|
 .rt [5] 1 (.inr (l0))
def aek (R_:Bq) (p_l:List ak) (v0:Int) (l0:List ak) : Option (((List ak))) := bM (fun v_=>(Uw R_ p_l v_).den) FU (v0,l0)
def ael (R_:Bq) (p_l:List ak) : Mo (List ak) :=
 .say [.num p_l.length] (ok1 (ln_ p_l ak.lf)) <|
 .ite ((p_l.length:Int) == 0) (fun c0 =>
 .say [.br true] (ok1 c0) <|
 .ret ⟨[.nil 0 5,.tod 0],[0],[],0⟩ ([])) fun c0 =>
 .say [.br false,.num p_l.length,.rows ((List.replicate (p_l.length:Int).toNat (ak.mk 0 0 ⟨#[]⟩ [] [])).map ak.lf),.num p_l.length] (okc c0 (okc (ln_ p_l ak.lf) (ok1 (rp_ ak.aZ (p_l.length:Int).toNat (ak.mk 0 0 ⟨#[]⟩ [] []))))) <|
 .grd ((0:Int) ≤ (p_l.length:Int) ∧ 80 * (p_l.length:Int).toNat ≤ 281474976710656 ∧ (p_l.length:Int).toNat ≤ maxLen) fun h0 =>
 .say [] (okc (mk_ (p_l.length:Int) h0) (ok1 (ln_ p_l ak.lf))) <|
 .lp Tryz.f252 0 [1,1,1,0,1,0] 0 [1,5,14,15,16] 1 (.exit 0) (fun r_=>⟨[(5,.own 0)],[.row 29 5 (r_.map ak.lf)]⟩) (aek R_ p_l 0 (List.replicate (p_l.length:Int).toNat (ak.mk 0 0 ⟨#[]⟩ [] []))) (lW (fun (v0,l0)=>⟨[(1,.raw (.func (.func 209) #[] #[])),(5,.own 0),(14,.lf (.rows 5 (p_l.map ak.lf))),(15,.i_ (p_l.length:Int)),(16,.i_ v0)],[.row 29 5 (l0.map ak.lf)]⟩) (by kernel_rfl) rfl fun v_=>by kernel_rfl) fun r0 _ =>
 .ret ⟨[.frz 0],[0],[],0⟩ (r0)
theorem aht (R_:Bq) (p_l:List ak) : FH (Mo.den (ael R_ p_l)) 252 [.lf (.rows 5 (p_l.map ak.lf)),.raw (.func (.func 209) #[] #[])] [] (fun r=>.lf (.rows 5 (r.map ak.lf))) (fun _=>[]) := gX Tryz.func252 (by kernel_rfl) (fun _=>rfl) (by kernel_rfl)
def J9 (R_:Bq) (p_l:List aT) : (Int × (List aT)) → Mo ((Int × (List aT)) ⊕ ((List aT))) := fun (v0,l0) =>
 .iB (decide ((v0:Int) < (p_l.length:Int))) (.ask (bP p_l v0) fun x0 h0 =>
 .say [.row (aT.lf1 x0)] (ok1 (aX aT.aZ h0)) <|
 .cl (R_.ok4 x0) fun r0 _ =>
 .ask (bP l0 v0) fun x1 h1 =>
 .say [.row (aT.lf1 x1),.rows ((l0.set v0.toNat r0).map aT.lf)] (okc (cO aT.aZ h1) (okc (st_ aT.aZ l0 v0.toNat r0) (ok1 ((aX aT.aZ h1).2)))) <|
 .rt [1,5,14,15,16] 1 (.inl (IntKind.wrap .i64 (v0 + 1),l0.set v0.toNat r0))) <|
 .rt [5] 1 (.inr (l0))
def Zp (R_:Bq) (p_l:List aT) (v0:Int) (l0:List aT) : Option (((List aT))) := bM (fun v_=>(J9 R_ p_l v_).den) FU (v0,l0)
def Xf (R_:Bq) (p_l:List aT) : Mo (List aT) :=
 .say [.num p_l.length] (ok1 (ln_ p_l aT.lf)) <|
 .ite ((p_l.length:Int) == 0) (fun c0 =>
 .say [.br true] (ok1 c0) <|
 .ret ⟨[.nil 0 6,.tod 0],[0],[],0⟩ ([])) fun c0 =>
 .say [.br false,.num p_l.length,.rows ((List.replicate (p_l.length:Int).toNat (aT.mk ⟨#[]⟩ (ak.mk 0 0 ⟨#[]⟩ [] []))).map aT.lf),.num p_l.length] (okc c0 (okc (ln_ p_l aT.lf) (ok1 (rp_ aT.aZ (p_l.length:Int).toNat (aT.mk ⟨#[]⟩ (ak.mk 0 0 ⟨#[]⟩ [] [])))))) <|
 .grd ((0:Int) ≤ (p_l.length:Int) ∧ 96 * (p_l.length:Int).toNat ≤ 281474976710656 ∧ (p_l.length:Int).toNat ≤ maxLen) fun h0 =>
 .say [] (okc (mk_ (p_l.length:Int) h0) (ok1 (ln_ p_l aT.lf))) <|
 .lp Tryz.f253 0 [1,1,1,0,1,0] 0 [1,5,14,15,16] 1 (.exit 0) (fun r_=>⟨[(5,.own 0)],[.row 174 6 (r_.map aT.lf)]⟩) (Zp R_ p_l 0 (List.replicate (p_l.length:Int).toNat (aT.mk ⟨#[]⟩ (ak.mk 0 0 ⟨#[]⟩ [] [])))) (lW (fun (v0,l0)=>⟨[(1,.raw (.func (.func 254) #[] #[])),(5,.own 0),(14,.lf (.rows 6 (p_l.map aT.lf))),(15,.i_ (p_l.length:Int)),(16,.i_ v0)],[.row 174 6 (l0.map aT.lf)]⟩) (by kernel_rfl) rfl fun v_=>by kernel_rfl) fun r0 _ =>
 .ret ⟨[.frz 0],[0],[],0⟩ (r0)
theorem aem (R_:Bq) (p_l:List aT) : FH (Mo.den (Xf R_ p_l)) 253 [.lf (.rows 6 (p_l.map aT.lf)),.raw (.func (.func 254) #[] #[])] [] (fun r=>.lf (.rows 6 (r.map aT.lf))) (fun _=>[]) := gX Tryz.func253 (by kernel_rfl) (fun _=>rfl) (by kernel_rfl)
def Xg (R_:Bq) (p_f:aT) : Mo (aT) :=
 .say [.order [(true,0),(true,1),(true,2),(true,3),(false,4),(true,5),(false,6)] (some 6) []] ok0 <|
 .cl (R_.ok1 p_f.fValue) fun r0 _ =>
 .ret (bD 1) (aT.mk p_f.fName r0)
theorem aen (R_:Bq) (p_f:aT) : FV (Mo.den (Xg R_ p_f)) 254 [.dat (aT.lf1 p_f)] (fun r=>.dat (aT.lf1 r)) := bZ Tryz.func254 (by kernel_rfl) (fun _=>rfl) (by kernel_rfl)
def iE:Nat → Bq
 | 0=>{ m1 := fun p_v=>none,ok1 := fun _ _ h=>(by cases h),m2 := fun p_l=>none,ok2 := fun _ _ h=>(by cases h),m3 := fun p_l=>none,ok3 := fun _ _ h=>(by cases h),m4 := fun p_f=>none,ok4 := fun _ _ h=>(by cases h) }
 | n_ + 1=>{ m1 := fun p_v=>Mo.den (aej (iE n_) p_v),ok1 := fun p_v r h=>ahs (iE n_) p_v r h,m2 := fun p_l=>Mo.den (ael (iE n_) p_l),ok2 := fun p_l r h=>aht (iE n_) p_l r h,m3 := fun p_l=>Mo.den (Xf (iE n_) p_l),ok3 := fun p_l r h=>aem (iE n_) p_l r h,m4 := fun p_f=>Mo.den (Xg (iE n_) p_f),ok4 := aen (iE n_) }
def Q99 (p_v:ak) : Option (ak) := (iE FU).m1 p_v
theorem vN (p_v:ak) : FV (Q99 p_v) 209 [.dat (ak.lf1 p_v)] (fun r=>.dat (ak.lf1 r)) := (iE FU).ok1 p_v
def Q72 (p_l:List ak) : Option (List ak) := (iE FU).m2 p_l
theorem aeo (p_l:List ak) : FH (Q72 p_l) 252 [.lf (.rows 5 (p_l.map ak.lf)),.raw (.func (.func 209) #[] #[])] [] (fun r=>.lf (.rows 5 (r.map ak.lf))) (fun _=>[]) := (iE FU).ok2 p_l
def aep (p_l:List ByteArray) : Mo (List ByteArray) :=
 .say [.rows (p_l.map lfS),.at_ 0 0,.frz 0] (ok1 (by simp [lfS] : p_l.map lfS = [] ++ (p_l.map lfS))) <|
 .grd ((([] : List ByteArray).length + p_l.length) * 16 ≤ 140737488355328) fun h0 =>
 .say [] (ok1 (cq_ lfS h0)) <|
 .ret (bD 1) (p_l)
def ald (p_l:List ByteArray) : Option (List ByteArray) := Mo.den (aep p_l)
theorem zn (p_l:List ByteArray) : FV (ald p_l) 299 [.lf (.rows 1 (p_l.map lfS))] (fun r=>.lf (.rows 1 (r.map lfS))) := bZ Tryz.func299 (by kernel_rfl) (fun _=>rfl) (by kernel_rfl)
def aer (p_o:bn) : Mo (bn) :=
 .cl (zn p_o.dA) fun r0 _ =>
 .ret (bD 1) (bn.mk r0 p_o.IJ)
def ahu (p_o:bn) : Option (bn) := Mo.den (aer p_o)
theorem ahv (p_o:bn) : FV (ahu p_o) 258 [.dat (bn.lf1 p_o)] (fun r=>.dat (bn.lf1 r)) := bZ Tryz.func258 (by kernel_rfl) (fun _=>rfl) (by kernel_rfl)
def Ux (p_l:List bn) : (Int × (List bn)) → Mo ((Int × (List bn)) ⊕ ((List bn))) := fun (v0,l0) =>
 .iB (decide ((v0:Int) < (p_l.length:Int))) (.ask (bP p_l v0) fun x0 h0 =>
 .say [.row (bn.lf1 x0)] (ok1 (aX bn.aZ h0)) <|
 .cl (ahv x0) fun r0 _ =>
 .ask (bP l0 v0) fun x1 h1 =>
 .say [.row (bn.lf1 x1),.rows ((l0.set v0.toNat r0).map bn.lf)] (okc (cO bn.aZ h1) (okc (st_ bn.aZ l0 v0.toNat r0) (ok1 ((aX bn.aZ h1).2)))) <|
 .rt [1,5,14,15,16] 1 (.inl (IntKind.wrap .i64 (v0 + 1),l0.set v0.toNat r0))) <|
 .rt [5] 1 (.inr (l0))
def aes (p_l:List bn) (v0:Int) (l0:List bn) : Option (((List bn))) := bM (fun v_=>(Ux p_l v_).den) FU (v0,l0)
def ajp (p_l:List bn) : Mo (List bn) :=
 .say [.num p_l.length] (ok1 (ln_ p_l bn.lf)) <|
 .ite ((p_l.length:Int) == 0) (fun c0 =>
 .say [.br true] (okc c0 (ok1 (by simp [bn.aZ] : (([] : List bn).map bn.lf) = []))) <|
 .ret ⟨[.Hr 0 152 2,.kE 0 (([] : List bn).map bn.lf),.mvn 0],[0],[(1,0)],1⟩ (([] : List bn))) fun c0 =>
 .say [.br false,.num p_l.length,.rows ((List.replicate (p_l.length:Int).toNat (bn.mk [] false)).map bn.lf),.num p_l.length] (okc c0 (okc (ln_ p_l bn.lf) (ok1 (rp_ bn.aZ (p_l.length:Int).toNat (bn.mk [] false))))) <|
 .grd ((0:Int) ≤ (p_l.length:Int) ∧ 32 * (p_l.length:Int).toNat ≤ 281474976710656 ∧ (p_l.length:Int).toNat ≤ maxLen) fun h0 =>
 .say [] (okc (mk_ (p_l.length:Int) h0) (ok1 (ln_ p_l bn.lf))) <|
 .lp Tryz.f257 0 [1,1,1,0,1,0] 0 [1,5,14,15,16] 1 (.exit 0) (fun r_=>⟨[(5,.own 0)],[.row 152 2 (r_.map bn.lf)]⟩) (aes p_l 0 (List.replicate (p_l.length:Int).toNat (bn.mk [] false))) (lW (fun (v0,l0)=>⟨[(1,.raw (.func (.func 258) #[] #[])),(5,.own 0),(14,.lf (.rows 2 (p_l.map bn.lf))),(15,.i_ (p_l.length:Int)),(16,.i_ v0)],[.row 152 2 (l0.map bn.lf)]⟩) (by kernel_rfl) rfl fun v_=>by kernel_rfl) fun r0 _ =>
 .ret ⟨[.mvn 0],[0],[(1,0)],1⟩ (r0)
def Q88 (p_l:List bn) : Option (List bn) := Mo.den (ajp p_l)
theorem ale (p_l:List bn) : FH (Q88 p_l) 257 [.lf (.rows 2 (p_l.map bn.lf)),.raw (.func (.func 258) #[] #[])] [] (fun _=>.own 0) (fun r=>[.row 152 2 (r.map bn.lf)]) := gX Tryz.func257 (by kernel_rfl) (fun _=>rfl) (by kernel_rfl)
structure Xh where
 m1:(p_e:aH) → Option (aH)
 ok1:∀ p_e,FV (m1 p_e) 303 [.dat (aH.lf1 p_e)] (fun r=>.dat (aH.lf1 r))
 m2:(p_l:List aH) → Option (List aH)
 ok2:∀ p_l,FH (m2 p_l) 320 [.lf (.rows 11 (p_l.map aH.lf)),.raw (.func (.func 303) #[] #[])] [] (fun r=>.lf (.rows 11 (r.map aH.lf))) (fun _=>[])
def Xi (R_:Xh) (p_e:aH) : Mo (aH) :=
 .cl (zn p_e.dA) fun r0 _ =>
 .cl (zn p_e.bT) fun r1 _ =>
 .cl (vN p_e.fArg) fun r2 _ =>
 .cH [] (R_.ok2 p_e.bC) fun r3 _ =>
 .ret (bD 1) (aH.mk p_e.fOp r0 p_e.fName r1 r2 p_e.fN r3)
theorem aeu (R_:Xh) (p_e:aH) : FV (Mo.den (Xi R_ p_e)) 303 [.dat (aH.lf1 p_e)] (fun r=>.dat (aH.lf1 r)) := bZ Tryz.func303 (by kernel_rfl) (fun _=>rfl) (by kernel_rfl)
def Ko (R_:Xh) (p_l:List aH) : (Int × (List aH)) → Mo ((Int × (List aH)) ⊕ ((List aH))) := fun (v0,l0) =>
 .iB (decide ((v0:Int) < (p_l.length:Int))) (.ask (bP p_l v0) fun x0 h0 =>
 .say [.row (aH.lf1 x0)] (ok1 (aX aH.aZ h0)) <|
 .cl (R_.ok1 x0) fun r0 _ =>
 .ask (bP l0 v0) fun x1 h1 =>
 .say [.row (aH.lf1 x1),.rows ((l0.set v0.toNat r0).map aH.lf)] (okc (cO aH.aZ h1) (okc (st_ aH.aZ l0 v0.toNat r0) (ok1 ((aX aH.aZ h1).2)))) <|
 .rt [1,5,14,15,16] 1 (.inl (IntKind.wrap .i64 (v0 + 1),l0.set v0.toNat r0))) <|
 .rt [5] 1 (.inr (l0))
def Zq (R_:Xh) (p_l:List aH) (v0:Int) (l0:List aH) : Option (((List aH))) := bM (fun v_=>(Ko R_ p_l v_).den) FU (v0,l0)
def Xj (R_:Xh) (p_l:List aH) : Mo (List aH) :=
 .say [.num p_l.length] (ok1 (ln_ p_l aH.lf)) <|
 .ite ((p_l.length:Int) == 0) (fun c0 =>
 .say [.br true] (ok1 c0) <|
 .ret ⟨[.nil 0 11,.tod 0],[0],[],0⟩ ([])) fun c0 =>
 .say [.br false,.num p_l.length,.rows ((List.replicate (p_l.length:Int).toNat aH.z).map aH.lf),.num p_l.length] (okc c0 (okc (ln_ p_l aH.lf) (ok1 (rp_ aH.aZ (p_l.length:Int).toNat aH.z)))) <|
 .grd ((0:Int) ≤ (p_l.length:Int) ∧ 184 * (p_l.length:Int).toNat ≤ 281474976710656 ∧ (p_l.length:Int).toNat ≤ maxLen) fun h0 =>
 .say [] (okc (mk_ (p_l.length:Int) h0) (ok1 (ln_ p_l aH.lf))) <|
 .lp Tryz.f320 0 [1,1,1,0,1,0] 0 [1,5,14,15,16] 1 (.exit 0) (fun r_=>⟨[(5,.own 0)],[.row 44 11 (r_.map aH.lf)]⟩) (Zq R_ p_l 0 (List.replicate (p_l.length:Int).toNat aH.z)) (lW (fun (v0,l0)=>⟨[(1,.raw (.func (.func 303) #[] #[])),(5,.own 0),(14,.lf (.rows 11 (p_l.map aH.lf))),(15,.i_ (p_l.length:Int)),(16,.i_ v0)],[.row 44 11 (l0.map aH.lf)]⟩) (by kernel_rfl) rfl fun v_=>by kernel_rfl) fun r0 _ =>
 .ret ⟨[.frz 0],[0],[],0⟩ (r0)
theorem aev (R_:Xh) (p_l:List aH) : FH (Mo.den (Xj R_ p_l)) 320 [.lf (.rows 11 (p_l.map aH.lf)),.raw (.func (.func 303) #[] #[])] [] (fun r=>.lf (.rows 11 (r.map aH.lf))) (fun _=>[]) := gX Tryz.func320 (by kernel_rfl) (fun _=>rfl) (by kernel_rfl)
def l7:Nat → Xh
 | 0=>{ m1 := fun p_e=>none,ok1 := fun _ _ h=>(by cases h),m2 := fun p_l=>none,ok2 := fun _ _ h=>(by cases h) }
 | n_ + 1=>{ m1 := fun p_e=>Mo.den (Xi (l7 n_) p_e),ok1 := fun p_e r h=>aeu (l7 n_) p_e r h,m2 := fun p_l=>Mo.den (Xj (l7 n_) p_l),ok2 := aev (l7 n_) }
def am7 (p_e:aH) : Option (aH) := (l7 FU).m1 p_e
theorem ahw (p_e:aH) : FV (am7 p_e) 303 [.dat (aH.lf1 p_e)] (fun r=>.dat (aH.lf1 r)) := (l7 FU).ok1 p_e
structure Xk where
 m1:(p_p:aO) → Option (aO)
 ok1:∀ p_p,FV (m1 p_p) 259 [.dat (aO.lf1 p_p)] (fun r=>.dat (aO.lf1 r))
 m2:(p_l:List aO) → Option (List aO)
 ok2:∀ p_l,FH (m2 p_l) 304 [.lf (.rows 25 (p_l.map aO.lf)),.raw (.func (.func 259) #[] #[])] [] (fun r=>.lf (.rows 25 (r.map aO.lf))) (fun _=>[])
def Xl (R_:Xk) (p_p:aO) : Mo (aO) :=
 .cl (zn p_p.dA) fun r0 _ =>
 .cl (vN p_p.fArg) fun r1 _ =>
 .ask (Q72 p_p.fArgs) fun r2 h0 =>
 .say [.ji [] (.lf (.rows 5 (r2.map ak.lf))) [],.rows (p_p.eG.cu.map dH.lf)] (okc (aeo _ _ h0) (ok1 (by simp [dH.aZ] : p_p.eG.cu.map dH.lf = [] ++ (p_p.eG.cu.map dH.lf)))) <|
 .grd ((([] : List dH).length + p_p.eG.cu.length) * 16 ≤ 140737488355328) fun h1 =>
 .say [] (ok1 (cq_ dH.lf h1)) <|
 .cl (ahw p_p.fExpr) fun r3 _ =>
 .ask (R_.m2 p_p.bC) fun r4 h2 =>
 .say [.ji [] (.lf (.rows 25 (r4.map aO.lf))) [],.at_ 0 0,.frz 2] (ok1 (R_.ok2 _ _ h2)) <|
 .ret (bD 1) (aO.mk p_p.fOp r0 r1 r2 p_p.fN p_p.fM p_p.eG r3 r4)
theorem aew (R_:Xk) (p_p:aO) : FV (Mo.den (Xl R_ p_p)) 259 [.dat (aO.lf1 p_p)] (fun r=>.dat (aO.lf1 r)) := bZ Tryz.func259 (by kernel_rfl) (fun _=>rfl) (by kernel_rfl)
def Kq (R_:Xk) (p_l:List aO) : (Int × (List aO)) → Mo ((Int × (List aO)) ⊕ ((List aO))) := fun (v0,l0) =>
 .iB (decide ((v0:Int) < (p_l.length:Int))) (.ask (bP p_l v0) fun x0 h0 =>
 .say [.row (aO.lf1 x0)] (ok1 (aX aO.aZ h0)) <|
 .cl (R_.ok1 x0) fun r0 _ =>
 .ask (bP l0 v0) fun x1 h1 =>
 .say [.row (aO.lf1 x1),.rows ((l0.set v0.toNat r0).map aO.lf)] (okc (cO aO.aZ h1) (okc (st_ aO.aZ l0 v0.toNat r0) (ok1 ((aX aO.aZ h1).2)))) <|
 .rt [1,5,14,15,16] 1 (.inl (IntKind.wrap .i64 (v0 + 1),l0.set v0.toNat r0))) <|
 .rt [5] 1 (.inr (l0))
def Zr (R_:Xk) (p_l:List aO) (v0:Int) (l0:List aO) : Option (((List aO))) := bM (fun v_=>(Kq R_ p_l v_).den) FU (v0,l0)
def Xm (R_:Xk) (p_l:List aO) : Mo (List aO) :=
 .say [.num p_l.length] (ok1 (ln_ p_l aO.lf)) <|
 .ite ((p_l.length:Int) == 0) (fun c0 =>
 .say [.br true] (ok1 c0) <|
 .ret ⟨[.nil 0 25,.tod 0],[0],[],0⟩ ([])) fun c0 =>
 .say [.br false,.num p_l.length,.rows ((List.replicate (p_l.length:Int).toNat aO.z).map aO.lf),.num p_l.length] (okc c0 (okc (ln_ p_l aO.lf) (ok1 (rp_ aO.aZ (p_l.length:Int).toNat aO.z)))) <|
 .grd ((0:Int) ≤ (p_l.length:Int) ∧ 400 * (p_l.length:Int).toNat ≤ 281474976710656 ∧ (p_l.length:Int).toNat ≤ maxLen) fun h0 =>
 .say [] (okc (mk_ (p_l.length:Int) h0) (ok1 (ln_ p_l aO.lf))) <|
 .lp Tryz.f304 0 [1,1,1,0,1,0] 0 [1,5,14,15,16] 1 (.exit 0) (fun r_=>⟨[(5,.own 0)],[.row 47 25 (r_.map aO.lf)]⟩) (Zr R_ p_l 0 (List.replicate (p_l.length:Int).toNat aO.z)) (lW (fun (v0,l0)=>⟨[(1,.raw (.func (.func 259) #[] #[])),(5,.own 0),(14,.lf (.rows 25 (p_l.map aO.lf))),(15,.i_ (p_l.length:Int)),(16,.i_ v0)],[.row 47 25 (l0.map aO.lf)]⟩) (by kernel_rfl) rfl fun v_=>by kernel_rfl) fun r0 _ =>
 .ret ⟨[.frz 0],[0],[],0⟩ (r0)
theorem aex (R_:Xk) (p_l:List aO) : FH (Mo.den (Xm R_ p_l)) 304 [.lf (.rows 25 (p_l.map aO.lf)),.raw (.func (.func 259) #[] #[])] [] (fun r=>.lf (.rows 25 (r.map aO.lf))) (fun _=>[]) := gX Tryz.func304 (by kernel_rfl) (fun _=>rfl) (by kernel_rfl)
def l9:Nat → Xk
 | 0=>{ m1 := fun p_p=>none,ok1 := fun _ _ h=>(by cases h),m2 := fun p_l=>none,ok2 := fun _ _ h=>(by cases h) }
 | n_ + 1=>{ m1 := fun p_p=>Mo.den (Xl (l9 n_) p_p),ok1 := fun p_p r h=>aew (l9 n_) p_p r h,m2 := fun p_l=>Mo.den (Xm (l9 n_) p_l),ok2 := aex (l9 n_) }
def alf (p_p:aO) : Option (aO) := (l9 FU).m1 p_p
theorem ahx (p_p:aO) : FV (alf p_p) 259 [.dat (aO.lf1 p_p)] (fun r=>.dat (aO.lf1 r)) := (l9 FU).ok1 p_p
def aey (p_x:aV) : Mo (aV) :=
 .cH [] (ale p_x.gB) fun r0 _ =>
 .ask (alf p_x.jc) fun r1 h0 =>
 .say [.res (.dat (aO.lf1 r1)),.at_ 0 0,.frz 2] (ok1 (ahx _ _ h0)) <|
 .ret (bD 1) (aV.acs (aV.aiK p_x r0) r1)
def ahy (p_x:aV) : Option (aV) := Mo.den (aey p_x)
theorem Zt (p_x:aV) : FV (ahy p_x) 211 [.dat (aV.lf1 p_x)] (fun r=>.dat (aV.lf1 r)) := bZ Tryz.func211 (by kernel_rfl) (fun _=>rfl) (by kernel_rfl)
def Uy (p_l:List aV) : (Int × (List aV)) → Mo ((Int × (List aV)) ⊕ ((List aV))) := fun (v0,l0) =>
 .iB (decide ((v0:Int) < (p_l.length:Int))) (.ask (bP p_l v0) fun x0 h0 =>
 .say [.row (aV.lf1 x0)] (ok1 (aX aV.aZ h0)) <|
 .cl (Zt x0) fun r0 _ =>
 .ask (bP l0 v0) fun x1 h1 =>
 .say [.row (aV.lf1 x1),.rows ((l0.set v0.toNat r0).map aV.lf)] (okc (cO aV.aZ h1) (okc (st_ aV.aZ l0 v0.toNat r0) (ok1 ((aX aV.aZ h1).2)))) <|
 .rt [1,5,14,15,16] 1 (.inl (IntKind.wrap .i64 (v0 + 1),l0.set v0.toNat r0))) <|
 .rt [5] 1 (.inr (l0))
def aez (p_l:List aV) (v0:Int) (l0:List aV) : Option (((List aV))) := bM (fun v_=>(Uy p_l v_).den) FU (v0,l0)
def ajq (p_l:List aV) : Mo (List aV) :=
 .say [.num p_l.length] (ok1 (ln_ p_l aV.lf)) <|
 .ite ((p_l.length:Int) == 0) (fun c0 =>
 .say [.br true] (okc c0 (ok1 (by simp [aV.aZ] : (([] : List aV).map aV.lf) = []))) <|
 .ret ⟨[.Hr 0 49 31,.kE 0 (([] : List aV).map aV.lf),.mvn 0],[0],[(1,0)],1⟩ (([] : List aV))) fun c0 =>
 .say [.br false,.num p_l.length,.rows ((List.replicate (p_l.length:Int).toNat aV.z).map aV.lf),.num p_l.length] (okc c0 (okc (ln_ p_l aV.lf) (ok1 (rp_ aV.aZ (p_l.length:Int).toNat aV.z)))) <|
 .grd ((0:Int) ≤ (p_l.length:Int) ∧ 456 * (p_l.length:Int).toNat ≤ 281474976710656 ∧ (p_l.length:Int).toNat ≤ maxLen) fun h0 =>
 .say [] (okc (mk_ (p_l.length:Int) h0) (ok1 (ln_ p_l aV.lf))) <|
 .lp Tryz.f255 0 [1,1,1,0,1,0] 0 [1,5,14,15,16] 1 (.exit 0) (fun r_=>⟨[(5,.own 0)],[.row 49 31 (r_.map aV.lf)]⟩) (aez p_l 0 (List.replicate (p_l.length:Int).toNat aV.z)) (lW (fun (v0,l0)=>⟨[(1,.raw (.func (.func 211) #[] #[])),(5,.own 0),(14,.lf (.rows 31 (p_l.map aV.lf))),(15,.i_ (p_l.length:Int)),(16,.i_ v0)],[.row 49 31 (l0.map aV.lf)]⟩) (by kernel_rfl) rfl fun v_=>by kernel_rfl) fun r0 _ =>
 .ret ⟨[.mvn 0],[0],[(1,0)],1⟩ (r0)
def Q89 (p_l:List aV) : Option (List aV) := Mo.den (ajq p_l)
theorem alg (p_l:List aV) : FH (Q89 p_l) 255 [.lf (.rows 31 (p_l.map aV.lf)),.raw (.func (.func 211) #[] #[])] [] (fun _=>.own 0) (fun r=>[.row 49 31 (r.map aV.lf)]) := gX Tryz.func255 (by kernel_rfl) (fun _=>rfl) (by kernel_rfl)
structure Bv where
 m1:(p_s:aB) → Option (aB)
 ok1:∀ p_s,FV (m1 p_s) 256 [.dat (aB.lf1 p_s)] (fun r=>.dat (aB.lf1 r))
 m2:(p_l:List bH) → Option (List bH)
 ok2:∀ p_l,FH (m2 p_l) 300 [.lf (.rows 22 (p_l.map bH.lf)),.raw (.func (.func 301) #[] #[])] [] (fun r=>.lf (.rows 22 (r.map bH.lf))) (fun _=>[])
 m3:(p_l:List aB) → Option (List aB)
 ok3:∀ p_l,FH (m3 p_l) 302 [.lf (.rows 21 (p_l.map aB.lf)),.raw (.func (.func 256) #[] #[])] [] (fun r=>.lf (.rows 21 (r.map aB.lf))) (fun _=>[])
 m4:(p_p:bH) → Option (bH)
 ok4:∀ p_p,FV (m4 p_p) 301 [.dat (bH.lf1 p_p)] (fun r=>.dat (bH.lf1 r))
def Xn (R_:Bv) (p_s:aB) : Mo (aB) :=
 .cl (vN p_s.uH) fun r0 _ =>
 .cl (vN p_s.uI) fun r1 _ =>
 .cH [] (aeo p_s.kH) fun r2 _ =>
 .cl (zn p_s.gG) fun r3 _ =>
 .cH [] (R_.ok2 p_s.dP) fun r4 _ =>
 .cH [] (R_.ok3 p_s.fH) fun r5 _ =>
 .ret (bD 1) (aB.mk p_s.kG p_s.lD r0 p_s.lF r1 r2 p_s.lG p_s.lH r3 r4 p_s.oC r5 p_s.iW)
theorem aeA (R_:Bv) (p_s:aB) : FV (Mo.den (Xn R_ p_s)) 256 [.dat (aB.lf1 p_s)] (fun r=>.dat (aB.lf1 r)) := bZ Tryz.func256 (by kernel_rfl) (fun _=>rfl) (by kernel_rfl)
def Kr (R_:Bv) (p_l:List bH) : (Int × (List bH)) → Mo ((Int × (List bH)) ⊕ ((List bH))) := fun (v0,l0) =>
 .iB (decide ((v0:Int) < (p_l.length:Int))) (.ask (bP p_l v0) fun x0 h0 =>
 .say [.row (bH.lf1 x0)] (ok1 (aX bH.aZ h0)) <|
 .cl (R_.ok4 x0) fun r0 _ =>
 .ask (bP l0 v0) fun x1 h1 =>
 .say [.row (bH.lf1 x1),.rows ((l0.set v0.toNat r0).map bH.lf)] (okc (cO bH.aZ h1) (okc (st_ bH.aZ l0 v0.toNat r0) (ok1 ((aX bH.aZ h1).2)))) <|
 .rt [1,5,14,15,16] 1 (.inl (IntKind.wrap .i64 (v0 + 1),l0.set v0.toNat r0))) <|
 .rt [5] 1 (.inr (l0))
def Zu (R_:Bv) (p_l:List bH) (v0:Int) (l0:List bH) : Option (((List bH))) := bM (fun v_=>(Kr R_ p_l v_).den) FU (v0,l0)
def Xo (R_:Bv) (p_l:List bH) : Mo (List bH) :=
 .say [.num p_l.length] (ok1 (ln_ p_l bH.lf)) <|
 .ite ((p_l.length:Int) == 0) (fun c0 =>
 .say [.br true] (ok1 c0) <|
 .ret ⟨[.nil 0 22,.tod 0],[0],[],0⟩ ([])) fun c0 =>
 .say [.br false,.num p_l.length,.rows ((List.replicate (p_l.length:Int).toNat (bH.mk ⟨#[]⟩ aB.z)).map bH.lf),.num p_l.length] (okc c0 (okc (ln_ p_l bH.lf) (ok1 (rp_ bH.aZ (p_l.length:Int).toNat (bH.mk ⟨#[]⟩ aB.z))))) <|
 .grd ((0:Int) ≤ (p_l.length:Int) ∧ 328 * (p_l.length:Int).toNat ≤ 281474976710656 ∧ (p_l.length:Int).toNat ≤ maxLen) fun h0 =>
 .say [] (okc (mk_ (p_l.length:Int) h0) (ok1 (ln_ p_l bH.lf))) <|
 .lp Tryz.f300 0 [1,1,1,0,1,0] 0 [1,5,14,15,16] 1 (.exit 0) (fun r_=>⟨[(5,.own 0)],[.row 217 22 (r_.map bH.lf)]⟩) (Zu R_ p_l 0 (List.replicate (p_l.length:Int).toNat (bH.mk ⟨#[]⟩ aB.z))) (lW (fun (v0,l0)=>⟨[(1,.raw (.func (.func 301) #[] #[])),(5,.own 0),(14,.lf (.rows 22 (p_l.map bH.lf))),(15,.i_ (p_l.length:Int)),(16,.i_ v0)],[.row 217 22 (l0.map bH.lf)]⟩) (by kernel_rfl) rfl fun v_=>by kernel_rfl) fun r0 _ =>
 .ret ⟨[.frz 0],[0],[],0⟩ (r0)
theorem aeB (R_:Bv) (p_l:List bH) : FH (Mo.den (Xo R_ p_l)) 300 [.lf (.rows 22 (p_l.map bH.lf)),.raw (.func (.func 301) #[] #[])] [] (fun r=>.lf (.rows 22 (r.map bH.lf))) (fun _=>[]) := gX Tryz.func300 (by kernel_rfl) (fun _=>rfl) (by kernel_rfl)
def Uz (R_:Bv) (p_l:List aB) : (Int × (List aB)) → Mo ((Int × (List aB)) ⊕ ((List aB))) := fun (v0,l0) =>
 .iB (decide ((v0:Int) < (p_l.length:Int))) (.ask (bP p_l v0) fun x0 h0 =>
 .say [.row (aB.lf1 x0)] (ok1 (aX aB.aZ h0)) <|
 .cl (R_.ok1 x0) fun r0 _ =>
 .ask (bP l0 v0) fun x1 h1 =>
 .say [.row (aB.lf1 x1),.rows ((l0.set v0.toNat r0).map aB.lf)] (okc (cO aB.aZ h1) (okc (st_ aB.aZ l0 v0.toNat r0) (ok1 ((aX aB.aZ h1).2)))) <|
 .rt [1,5,14,15,16] 1 (.inl (IntKind.wrap .i64 (v0 + 1),l0.set v0.toNat r0))) <|
 .rt [5] 1 (.inr (l0))
def aeC (R_:Bv) (p_l:List aB) (v0:Int) (l0:List aB) : Option (((List aB))) := bM (fun v_=>(Uz R_ p_l v_).den) FU (v0,l0)
def aeD (R_:Bv) (p_l:List aB) : Mo (List aB) :=
 .say [.num p_l.length] (ok1 (ln_ p_l aB.lf)) <|
 .ite ((p_l.length:Int) == 0) (fun c0 =>
 .say [.br true] (ok1 c0) <|
 .ret ⟨[.nil 0 21,.tod 0],[0],[],0⟩ ([])) fun c0 =>
 .say [.br false,.num p_l.length,.rows ((List.replicate (p_l.length:Int).toNat aB.z).map aB.lf),.num p_l.length] (okc c0 (okc (ln_ p_l aB.lf) (ok1 (rp_ aB.aZ (p_l.length:Int).toNat aB.z)))) <|
 .grd ((0:Int) ≤ (p_l.length:Int) ∧ 312 * (p_l.length:Int).toNat ≤ 281474976710656 ∧ (p_l.length:Int).toNat ≤ maxLen) fun h0 =>
 .say [] (okc (mk_ (p_l.length:Int) h0) (ok1 (ln_ p_l aB.lf))) <|
 .lp Tryz.f302 0 [1,1,1,0,1,0] 0 [1,5,14,15,16] 1 (.exit 0) (fun r_=>⟨[(5,.own 0)],[.row 35 21 (r_.map aB.lf)]⟩) (aeC R_ p_l 0 (List.replicate (p_l.length:Int).toNat aB.z)) (lW (fun (v0,l0)=>⟨[(1,.raw (.func (.func 256) #[] #[])),(5,.own 0),(14,.lf (.rows 21 (p_l.map aB.lf))),(15,.i_ (p_l.length:Int)),(16,.i_ v0)],[.row 35 21 (l0.map aB.lf)]⟩) (by kernel_rfl) rfl fun v_=>by kernel_rfl) fun r0 _ =>
 .ret ⟨[.frz 0],[0],[],0⟩ (r0)
theorem ahz (R_:Bv) (p_l:List aB) : FH (Mo.den (aeD R_ p_l)) 302 [.lf (.rows 21 (p_l.map aB.lf)),.raw (.func (.func 256) #[] #[])] [] (fun r=>.lf (.rows 21 (r.map aB.lf))) (fun _=>[]) := gX Tryz.func302 (by kernel_rfl) (fun _=>rfl) (by kernel_rfl)
def Xp (R_:Bv) (p_p:bH) : Mo (bH) :=
 .say [.order [(true,0),(true,1),(true,2),(true,3),(false,4),(true,5),(false,6)] (some 6) []] ok0 <|
 .cl (R_.ok1 p_p.fG) fun r0 _ =>
 .ret (bD 1) (bH.mk p_p.fName r0)
theorem aeE (R_:Bv) (p_p:bH) : FV (Mo.den (Xp R_ p_p)) 301 [.dat (bH.lf1 p_p)] (fun r=>.dat (bH.lf1 r)) := bZ Tryz.func301 (by kernel_rfl) (fun _=>rfl) (by kernel_rfl)
def iM:Nat → Bv
 | 0=>{ m1 := fun p_s=>none,ok1 := fun _ _ h=>(by cases h),m2 := fun p_l=>none,ok2 := fun _ _ h=>(by cases h),m3 := fun p_l=>none,ok3 := fun _ _ h=>(by cases h),m4 := fun p_p=>none,ok4 := fun _ _ h=>(by cases h) }
 | n_ + 1=>{ m1 := fun p_s=>Mo.den (Xn (iM n_) p_s),ok1 := fun p_s r h=>aeA (iM n_) p_s r h,m2 := fun p_l=>Mo.den (Xo (iM n_) p_l),ok2 := fun p_l r h=>aeB (iM n_) p_l r h,m3 := fun p_l=>Mo.den (aeD (iM n_) p_l),ok3 := fun p_l r h=>ahz (iM n_) p_l r h,m4 := fun p_p=>Mo.den (Xp (iM n_) p_p),ok4 := aeE (iM n_) }
def alh (p_s:aB) : Option (aB) := (iM FU).m1 p_s
theorem ahA (p_s:aB) : FV (alh p_s) 256 [.dat (aB.lf1 p_s)] (fun r=>.dat (aB.lf1 r)) := (iM FU).ok1 p_s
def aeF (p_d:bQ) : Mo (bQ) :=
 .cH [] (alg p_d.dJ) fun r0 _ =>
 .ask (alh p_d.fG) fun r1 h0 =>
 .say [.res (.dat (aB.lf1 r1)),.at_ 0 0,.frz 2] (ok1 (ahA _ _ h0)) <|
 .ret (bD 1) (bQ.mk p_d.fName r0 r1 p_d.pK p_d.mV)
def ali (p_d:bQ) : Option (bQ) := Mo.den (aeF p_d)
theorem ahB (p_d:bQ) : FV (ali p_d) 210 [.dat (bQ.lf1 p_d)] (fun r=>.dat (bQ.lf1 r)) := bZ Tryz.func210 (by kernel_rfl) (fun _=>rfl) (by kernel_rfl)
def aeG (p_l:List Int) : Mo (List Int) :=
 .say [.rows (p_l.map lfI)] (ok1 (by simp [lfI,lfK] : p_l.map lfI = [] ++ (p_l.map lfI))) <|
 .grd ((([] : List Int).length + p_l.length) * 8 ≤ 140737488355328) fun h0 =>
 .say [] (ok1 (cq_ lfI h0)) <|
 .ret ⟨[.mvn 0],[0],[(1,0)],1⟩ (p_l)
def ahC (p_l:List Int) : Option (List Int) := Mo.den (aeG p_l)
theorem NM (p_l:List Int) : FH (ahC p_l) 122 [.lf (.rows 1 (p_l.map lfI))] [] (fun _=>.own 0) (fun r=>[.row 3 1 (r.map lfI)]) := gX Tryz.func122 (by kernel_rfl) (fun _=>rfl) (by kernel_rfl)
structure Xq where
 m1:(p_w:aJ) → Option (aJ)
 ok1:∀ p_w,FV (m1 p_w) 165 [.dat (aJ.lf1 p_w)] (fun r=>.dat (aJ.lf1 r))
 m2:(p_l:List aJ) → Option (List aJ)
 ok2:∀ p_l,FH (m2 p_l) 212 [.lf (.rows 78 (p_l.map aJ.lf)),.raw (.func (.func 165) #[] #[])] [] (fun r=>.lf (.rows 78 (r.map aJ.lf))) (fun _=>[])
def Xr (R_:Xq) (p_w:aJ) : Mo (aJ) :=
 .cl (vN p_w.mW) fun r0 _ =>
 .cl (vN p_w.bV) fun r1 _ =>
 .cl (vN p_w.gY) fun r2 _ =>
 .cl (ahB p_w.oW) fun r3 _ =>
 .cl (Zt p_w.aW) fun r4 _ =>
 .cH [] (R_.ok2 p_w.dN) fun r5 _ =>
 .ask (ahC p_w.eF) fun r6 h0 =>
 .say [.ji [] (.own 0) [.row 3 1 (r6.map lfI)],.at_ 0 0,.frz 2] (ok1 (NM _ _ h0)) <|
 .ret (bD 1) (aJ.mk p_w.aU p_w.kT r0 r1 r2 r3 r4 p_w.Az p_w.fC r5 r6 p_w.lI)
theorem aeH (R_:Xq) (p_w:aJ) : FV (Mo.den (Xr R_ p_w)) 165 [.dat (aJ.lf1 p_w)] (fun r=>.dat (aJ.lf1 r)) := bZ Tryz.func165 (by kernel_rfl) (fun _=>rfl) (by kernel_rfl)
def Kt (R_:Xq) (p_l:List aJ) : (Int × (List aJ)) → Mo ((Int × (List aJ)) ⊕ ((List aJ))) := fun (v0,l0) =>
 .iB (decide ((v0:Int) < (p_l.length:Int))) (.ask (bP p_l v0) fun x0 h0 =>
 .say [.row (aJ.lf1 x0)] (ok1 (aX aJ.aZ h0)) <|
 .cl (R_.ok1 x0) fun r0 _ =>
 .ask (bP l0 v0) fun x1 h1 =>
 .say [.row (aJ.lf1 x1),.rows ((l0.set v0.toNat r0).map aJ.lf)] (okc (cO aJ.aZ h1) (okc (st_ aJ.aZ l0 v0.toNat r0) (ok1 ((aX aJ.aZ h1).2)))) <|
 .rt [1,5,14,15,16] 1 (.inl (IntKind.wrap .i64 (v0 + 1),l0.set v0.toNat r0))) <|
 .rt [5] 1 (.inr (l0))
def Zv (R_:Xq) (p_l:List aJ) (v0:Int) (l0:List aJ) : Option (((List aJ))) := bM (fun v_=>(Kt R_ p_l v_).den) FU (v0,l0)
def Xt (R_:Xq) (p_l:List aJ) : Mo (List aJ) :=
 .say [.num p_l.length] (ok1 (ln_ p_l aJ.lf)) <|
 .ite ((p_l.length:Int) == 0) (fun c0 =>
 .say [.br true] (ok1 c0) <|
 .ret ⟨[.nil 0 78,.tod 0],[0],[],0⟩ ([])) fun c0 =>
 .say [.br false,.num p_l.length,.rows ((List.replicate (p_l.length:Int).toNat aJ.z).map aJ.lf),.num p_l.length] (okc c0 (okc (ln_ p_l aJ.lf) (ok1 (rp_ aJ.aZ (p_l.length:Int).toNat aJ.z)))) <|
 .grd ((0:Int) ≤ (p_l.length:Int) ∧ 1168 * (p_l.length:Int).toNat ≤ 281474976710656 ∧ (p_l.length:Int).toNat ≤ maxLen) fun h0 =>
 .say [] (okc (mk_ (p_l.length:Int) h0) (ok1 (ln_ p_l aJ.lf))) <|
 .lp Tryz.f212 0 [1,1,1,0,1,0] 0 [1,5,14,15,16] 1 (.exit 0) (fun r_=>⟨[(5,.own 0)],[.row 52 78 (r_.map aJ.lf)]⟩) (Zv R_ p_l 0 (List.replicate (p_l.length:Int).toNat aJ.z)) (lW (fun (v0,l0)=>⟨[(1,.raw (.func (.func 165) #[] #[])),(5,.own 0),(14,.lf (.rows 78 (p_l.map aJ.lf))),(15,.i_ (p_l.length:Int)),(16,.i_ v0)],[.row 52 78 (l0.map aJ.lf)]⟩) (by kernel_rfl) rfl fun v_=>by kernel_rfl) fun r0 _ =>
 .ret ⟨[.frz 0],[0],[],0⟩ (r0)
theorem aeI (R_:Xq) (p_l:List aJ) : FH (Mo.den (Xt R_ p_l)) 212 [.lf (.rows 78 (p_l.map aJ.lf)),.raw (.func (.func 165) #[] #[])] [] (fun r=>.lf (.rows 78 (r.map aJ.lf))) (fun _=>[]) := gX Tryz.func212 (by kernel_rfl) (fun _=>rfl) (by kernel_rfl)
def mg:Nat → Xq
 | 0=>{ m1 := fun p_w=>none,ok1 := fun _ _ h=>(by cases h),m2 := fun p_l=>none,ok2 := fun _ _ h=>(by cases h) }
 | n_ + 1=>{ m1 := fun p_w=>Mo.den (Xr (mg n_) p_w),ok1 := fun p_w r h=>aeH (mg n_) p_w r h,m2 := fun p_l=>Mo.den (Xt (mg n_) p_l),ok2 := aeI (mg n_) }
def am8 (p_w:aJ) : Option (aJ) := (mg FU).m1 p_w
theorem ahD (p_w:aJ) : FV (am8 p_w) 165 [.dat (aJ.lf1 p_w)] (fun r=>.dat (aJ.lf1 r)) := (mg FU).ok1 p_w
def aeJ (p_e:ay) : Mo (ay) :=
 .cl (ahD p_e.iJ) fun r0 _ =>
 .ret (bD 1) (ay.mk p_e.bf p_e.fC p_e.kJ p_e.pO r0)
def ahE (p_e:ay) : Option (ay) := Mo.den (aeJ p_e)
theorem ahF (p_e:ay) : FV (ahE p_e) 121 [.dat (ay.lf1 p_e)] (fun r=>.dat (ay.lf1 r)) := bZ Tryz.func121 (by kernel_rfl) (fun _=>rfl) (by kernel_rfl)
def UA (p_l:List ay) : (Int × (List ay)) → Mo ((Int × (List ay)) ⊕ ((List ay))) := fun (v0,l0) =>
 .iB (decide ((v0:Int) < (p_l.length:Int))) (.ask (bP p_l v0) fun x0 h0 =>
 .say [.row (ay.lf1 x0)] (ok1 (aX ay.aZ h0)) <|
 .cl (ahF x0) fun r0 _ =>
 .ask (bP l0 v0) fun x1 h1 =>
 .say [.row (ay.lf1 x1),.rows ((l0.set v0.toNat r0).map ay.lf)] (okc (cO ay.aZ h1) (okc (st_ ay.aZ l0 v0.toNat r0) (ok1 ((aX ay.aZ h1).2)))) <|
 .rt [1,5,14,15,16] 1 (.inl (IntKind.wrap .i64 (v0 + 1),l0.set v0.toNat r0))) <|
 .rt [5] 1 (.inr (l0))
def aeK (p_l:List ay) (v0:Int) (l0:List ay) : Option (((List ay))) := bM (fun v_=>(UA p_l v_).den) FU (v0,l0)
def ajr (p_l:List ay) : Mo (List ay) :=
 .say [.num p_l.length] (ok1 (ln_ p_l ay.lf)) <|
 .ite ((p_l.length:Int) == 0) (fun c0 =>
 .say [.br true] (okc c0 (ok1 (by simp [ay.aZ] : (([] : List ay).map ay.lf) = []))) <|
 .ret ⟨[.Hr 0 54 82,.kE 0 (([] : List ay).map ay.lf),.mvn 0],[0],[(1,0)],1⟩ (([] : List ay))) fun c0 =>
 .say [.br false,.num p_l.length,.rows ((List.replicate (p_l.length:Int).toNat (ay.mk 0 0 ⟨#[]⟩ 0 aJ.z)).map ay.lf),.num p_l.length] (okc c0 (okc (ln_ p_l ay.lf) (ok1 (rp_ ay.aZ (p_l.length:Int).toNat (ay.mk 0 0 ⟨#[]⟩ 0 aJ.z))))) <|
 .grd ((0:Int) ≤ (p_l.length:Int) ∧ 1208 * (p_l.length:Int).toNat ≤ 281474976710656 ∧ (p_l.length:Int).toNat ≤ maxLen) fun h0 =>
 .say [] (okc (mk_ (p_l.length:Int) h0) (ok1 (ln_ p_l ay.lf))) <|
 .lp Tryz.f120 0 [1,1,1,0,1,0] 0 [1,5,14,15,16] 1 (.exit 0) (fun r_=>⟨[(5,.own 0)],[.row 54 82 (r_.map ay.lf)]⟩) (aeK p_l 0 (List.replicate (p_l.length:Int).toNat (ay.mk 0 0 ⟨#[]⟩ 0 aJ.z))) (lW (fun (v0,l0)=>⟨[(1,.raw (.func (.func 121) #[] #[])),(5,.own 0),(14,.lf (.rows 82 (p_l.map ay.lf))),(15,.i_ (p_l.length:Int)),(16,.i_ v0)],[.row 54 82 (l0.map ay.lf)]⟩) (by kernel_rfl) rfl fun v_=>by kernel_rfl) fun r0 _ =>
 .ret ⟨[.mvn 0],[0],[(1,0)],1⟩ (r0)
def Q90 (p_l:List ay) : Option (List ay) := Mo.den (ajr p_l)
theorem alj (p_l:List ay) : FH (Q90 p_l) 120 [.lf (.rows 82 (p_l.map ay.lf)),.raw (.func (.func 121) #[] #[])] [] (fun _=>.own 0) (fun r=>[.row 54 82 (r.map ay.lf)]) := gX Tryz.func120 (by kernel_rfl) (fun _=>rfl) (by kernel_rfl)
def aeL (p_m:aj) : Mo (aj) :=
 .cH [] (alj p_m.aP) fun r0 _ =>
 .cH [] (NM p_m.fNext) fun r1 _ =>
 .cH [] (NM p_m.bg) fun r2 _ =>
 .ret ⟨[.kill 0,.kill 1,.mvn 2,.mvn 3,.mvn 4],[0],[(5,0),(6,1),(7,2)],3⟩ (aj.pV (aj.qx (aj.nJ p_m r0) r1) r2)
def alk (p_m:aj) : Option (aj) := Mo.den (aeL p_m)
theorem NP (p_m:aj) : FH (alk p_m) 88 [.dat (aj.lf1 p_m)] [] (fun r=>wF (.agg ((aj.lf1 r).map AV.lf)) [(8,.own 0),(10,.own 1),(11,.own 2)]) (fun r=>[.row 54 82 (r.aP.map ay.lf),.row 3 1 (r.fNext.map lfI),.row 3 1 (r.bg.map lfI)]) := gX Tryz.func88 (by kernel_rfl) (fun _=>rfl) (by kernel_rfl)
def NQ (p_id:Int) : Mo (Int) :=
 .ret (bD 1) (IntKind.wrap .i64 (10 + (IntKind.wrap .i64 (3 * p_id))))
def ahG (p_id:Int) : Option (Int) := Mo.den (NQ p_id)
theorem Zw (p_id:Int) : FV (ahG p_id) 62 [.i_ p_id] (fun r=>.i_ r) := bZ Tryz.func62 (by kernel_rfl) (fun _=>rfl) (by kernel_rfl)
def qZ (p_m:aj) (p_term:Int) : Mo (Int) :=
 .iB (p_m.dh == 2) (.cl (Zw p_m.fID) fun r0 _ =>
 .rt [1,2,4] 5 (r0)) <|
 .rt [1,2,4] 5 (p_m.gu)
def Fz (p_m:aj) (p_term:Int) : Option (Int) := Mo.den (qZ p_m p_term)
def FB (p_m:aj) (p_term:Int) (r_:Int) : St := ⟨[(1,.i_ p_term),(2,.ptr 3 0),(4,.ptr 4 0)],[.row 54 82 (p_m.aP.map ay.lf),.row 3 1 (p_m.fNext.map lfI),.row 3 1 (p_m.bg.map lfI),.box 25 (ag_ (aj.lf1 p_m) [(6,.i_ r_),(8,.own 0),(10,.own 1),(11,.own 2)]),.box 25 (Z25)]⟩
theorem aeM {p_m:aj} {p_term:Int} {r_:Int} (h:Fz p_m p_term = some r_) : fK Tryz.f100 3 [1,1,0,1] (.normal) (FB p_m p_term r_) ⟨[(1,.i_ p_term),(2,.ptr 3 0),(4,.ptr 4 0),(12,.lf (.bool (p_m.dh == 2)))],[.row 54 82 (p_m.aP.map ay.lf),.row 3 1 (p_m.fNext.map lfI),.row 3 1 (p_m.bg.map lfI),.box 25 (ag_ (aj.lf1 p_m) [(8,.own 0),(10,.own 1),(11,.own 2)]),.box 25 (Z25)]⟩ :=
 jh dK (qZ p_m p_term) (fun _=>.normal) (FB p_m p_term) (by kernel_rfl) h
def Zx (p_m:aj) (p_term:Int) : Mo (aj) :=
 .iB (decide ((p_term:Int) ≤ p_m.bf)) (.ret ⟨[.kill 3,.kill 4,.mvn 0,.mvn 1,.mvn 2],[0],[(5,3),(6,4),(7,5)],6⟩ (p_m)) <|
 .ask (Fz p_m p_term) fun r0 h0 =>
 .say [.pt_ 1 [1,2,4,12] 5 (.normal) (FB p_m p_term r0)] (okc (aeM h0) (okc (by simp [lfI,lfK] : (([] : List Int).map lfI) = []) (ok1 (by simp [lfI,lfK] : (([] : List Int).map lfI) = [])))) <|
 .ret ⟨[.agy 0 10 3,.agy 0 11 3,.kill 1,.kill 2,.kill 3,.kill 4,.kE 5 (([] : List Int).map lfI),.kE 6 (([] : List Int).map lfI),.mvn 0,.mvn 5,.mvn 6],[0],[(7,3),(8,4),(9,5)],6⟩ (aj.mk p_m.fID p_m.bW p_term (-1) 0 (-1) r0 0 p_m.aP p_m.au ([] : List Int) ([] : List Int))
def Q65 (p_m:aj) (p_term:Int) : Option (aj) := Mo.den (Zx p_m p_term)
theorem Xu (p_m:aj) (p_term:Int) : FH (Q65 p_m p_term) 100 [wF (.agg ((aj.lf1 p_m).map AV.lf)) [(8,.own 0),(10,.own 1),(11,.own 2)],.i_ p_term] [.row 54 82 (p_m.aP.map ay.lf),.row 3 1 (p_m.fNext.map lfI),.row 3 1 (p_m.bg.map lfI)] (fun r=>wF (.agg ((aj.lf1 r).map AV.lf)) [(8,.own 3),(10,.own 4),(11,.own 5)]) (fun r=>[.dead,.dead,.dead,.row 54 82 (r.aP.map ay.lf),.row 3 1 (r.fNext.map lfI),.row 3 1 (r.bg.map lfI)]) := gX Tryz.func100 (by kernel_rfl) (fun _=>rfl) (by kernel_rfl)
def Xv (p_m:aj) (p_term:Int) : Mo (aj) :=
 .cH [] (NP p_m) fun r0 _ =>
 .cH [2,3,4] (Xu r0 p_term) fun r1 _ =>
 .ret ⟨[.kill 0,.kill 1,.mvn 5,.mvn 6,.mvn 7],[0],[(8,0),(9,1),(10,2)],3⟩ (r1)
def ahH (p_m:aj) (p_term:Int) : Option (aj) := Mo.den (Xv p_m p_term)
theorem NR (p_m:aj) (p_term:Int) : FH (ahH p_m p_term) 72 [.dat (aj.lf1 p_m),.i_ p_term] [] (fun r=>wF (.agg ((aj.lf1 r).map AV.lf)) [(8,.own 0),(10,.own 1),(11,.own 2)]) (fun r=>[.row 54 82 (r.aP.map ay.lf),.row 3 1 (r.fNext.map lfI),.row 3 1 (r.bg.map lfI)]) := gX Tryz.func72 (by kernel_rfl) (fun _=>rfl) (by kernel_rfl)
def aeN (p_m:aj) : Mo (aj) :=
 .cH [] (NR p_m p_m.bf) fun r0 _ =>
 .ret ⟨[.kill 0,.kill 1,.mvn 2,.mvn 3,.mvn 4],[0],[(5,0),(6,1),(7,2)],3⟩ (r0)
def ahI (p_m:aj) : Option (aj) := Mo.den (aeN p_m)
theorem qc (p_m:aj) : FH (ahI p_m) 36 [.dat (aj.lf1 p_m)] [] (fun r=>wF (.agg ((aj.lf1 r).map AV.lf)) [(8,.own 0),(10,.own 1),(11,.own 2)]) (fun r=>[.row 54 82 (r.aP.map ay.lf),.row 3 1 (r.fNext.map lfI),.row 3 1 (r.bg.map lfI)]) := gX Tryz.func36 (by kernel_rfl) (fun _=>rfl) (by kernel_rfl)
def alm  : Mo (bF) :=
 .ret (bD 1) (bF.mk (-1) 0 0 [])
def UC  : Option (bF) := Mo.den (alm )
theorem tN:FV (UC ) 42 [] (fun r=>.dat (bF.lf1 r)) := bZ Tryz.func42 (by kernel_rfl) (fun _=>rfl) (by kernel_rfl)
def aeO (p_l:List ay) : Mo (Int) :=
 .say [.num p_l.length] (ok1 (ln_ p_l ay.lf)) <|
 .ite ((p_l.length:Int) == 0) (fun c0 =>
 .say [.br true] (ok1 c0) <|
 .ret (bD 1) (0)) fun c0 =>
 .say [.br false,.num p_l.length] (okc c0 (ok1 (ln_ p_l ay.lf))) <|
 .ask (bP p_l (IntKind.wrap .i64 ((p_l.length:Int) - 1))) fun x0 h0 =>
 .say [.row (ay.lf1 x0)] (ok1 (aX ay.aZ h0)) <|
 .ret (bD 1) (x0.bf)
def aln (p_l:List ay) : Option (Int) := Mo.den (aeO p_l)
theorem ahJ (p_l:List ay) : FV (aln p_l) 91 [.lf (.rows 82 (p_l.map ay.lf))] (fun r=>.i_ r) := bZ Tryz.func91 (by kernel_rfl) (fun _=>rfl) (by kernel_rfl)
def UD (p_x:ah) (r0:aj) (r1:Int) : Mo (Bool) :=
 .iG 14004 (decide ((r1:Int) < p_x.jd)) (.rt [2,3,4,40] 9 (true)) <|
 .ite (p_x.jd == r1) (fun c0 =>
 .say [.gd 14009 true,.num r0.aP.length] (okc c0 (ok1 (ln_ r0.aP ay.lf))) <|
 .rt [2,3,4,40] 9 (decide (((r0.aP.length:Int) : Int) ≤ p_x.aW))) fun c0 =>
 .say [.gd 14009 false] (ok1 c0) <|
 .rt [2,3,4,40] 9 (false)
def UE (p_x:ah) (r0:aj) (r1:Bool) : Mo (Unit) :=
 .rt [2,3,4,7] 9 ()
def Ku (p_x:ah) (r0:aj) (r1:Bool) : Mo (Bool) :=
 .iG 16005 (p_x.bf == r0.bf) (.iG 16009 (r0.iy == (-1)) (.rt [2,3,4,7,57] 9 (true)) <|
 .rt [2,3,4,7,57] 9 (r0.iy == p_x.bK)) <|
 .rt [2,3,4,7,57] 9 (false)
def Kv (p_x:ah) (r0:aj) (r1:Bool) (r2:Bool) : Mo (Bool) :=
 .iG 16017 (r2) (.rt [2,3,4,60] 9 (r1)) <|
 .rt [2,3,4,60] 9 (false)
def Kw (p_x:ah) (r0:aj) (r1:Bool) : Mo (Unit) :=
 .rt [2,3,4,8] 9 ()
def Bz (p_x:ah) (r0:aj) (r1:Bool) : Mo ((Int × Int)) :=
 .iB (r1) (.cl (Zw r0.fID) fun r2 _ =>
 .rt [2,3,4,8] 9 (p_x.bK,r2)) <|
 .rt [2,3,4,8] 9 (r0.iy,r0.gu)
def NS (p_x:ah) (r0:aj) (r1:Bool) : Option ((Int × Int)) := Mo.den (Bz p_x r0 r1)
def BA (p_x:ah) (r0:aj) (r1:Bool) (r_:(Int × Int)) : St := ⟨[(2,.ptr 0 0),(3,.ptr 1 0),(4,.ptr 2 0),(8,.b_ r1)],[.box 25 (ag_ (aj.lf1 r0) [(3,.i_ r_.1),(6,.i_ r_.2),(10,.own 7),(11,.own 8)]),.box 63 (.dat (ah.lf1 p_x)),.box 25 (Z25),.dead,.dead,.dead,.dead,.row 3 1 (r0.fNext.map lfI),.row 3 1 (r0.bg.map lfI)]⟩
theorem abf {p_x:ah} {r0:aj} {r1:Bool} {r_:(Int × Int)} (h:NS p_x r0 r1 = some r_) : fK Tryz.f79 0 [1,1,1,1,1,1,1,0,1] (.normal) (BA p_x r0 r1 r_) ⟨[(2,.ptr 0 0),(3,.ptr 1 0),(4,.ptr 2 0),(8,.b_ r1),(61,.b_ r1)],[.box 25 (ag_ (aj.lf1 r0) [(10,.own 7),(11,.own 8)]),.box 63 (.dat (ah.lf1 p_x)),.box 25 (Z25),.dead,.dead,.dead,.dead,.row 3 1 (r0.fNext.map lfI),.row 3 1 (r0.bg.map lfI)]⟩ :=
 jh dK (Bz p_x r0 r1) (fun _=>.normal) (BA p_x r0 r1) (by kernel_rfl) h
def ajs (p_m:aj) (p_x:ah) : Mo (aj × List ah) :=
 .cH [] (NP p_m) fun r0 _ =>
 .ite (p_x.aU != 1) (fun c0 =>
 .say [.br true,.at_ 0 0,.frz 3,.frz 4,.frz 5] (ok1 c0) <|
 .ret ⟨[.nil 1 9,.tod 1],[0,1],[],0⟩ (r0,[])) fun c0 =>
 .say [.br false] (ok1 c0) <|
 .ask (Q65 r0 p_x.bf) fun r1 h0 =>
 .say [.ji [3,4,5] (ag_ (aj.lf1 r1) [(8,.own 3),(10,.own 4),(11,.own 5)]) [.dead,.dead,.dead,.row 54 82 (r1.aP.map ay.lf),.row 3 1 (r1.fNext.map lfI),.row 3 1 (r1.bg.map lfI)],.at_ 12 2,.frz 6] (ok1 (Xu _ _ _ h0)) <|
 .cl (ahJ r1.aP) fun r2 _ =>
 .sj Tryz.f79 0 [1,1,1,1,1,0] [0,1,2,3,4,5,6,7,8,9,10,11,12,13,14,15,16,17] 6 18 [2,3,4,6] 9 (fun r_=>⟨[(2,.ptr 0 0),(3,.ptr 1 0),(4,.ptr 2 0),(40,.b_ r_)],[.box 25 (ag_ (aj.lf1 r1) [(10,.own 7),(11,.own 8)]),.box 63 (.dat (ah.lf1 p_x)),.box 25 (Z25),.dead,.dead,.dead,.dead,.row 3 1 (r1.fNext.map lfI),.row 3 1 (r1.bg.map lfI)]⟩) ⟨[(2,.ptr 0 0),(3,.ptr 1 0),(4,.ptr 2 0),(6,.i_ r2)],[.box 25 (ag_ (aj.lf1 r1) [(10,.own 7),(11,.own 8)]),.box 63 (.dat (ah.lf1 p_x)),.box 25 (Z25),.dead,.dead,.dead,.dead,.row 3 1 (r1.fNext.map lfI),.row 3 1 (r1.bg.map lfI)]⟩ (UD p_x r1 r2).den (sW (by kernel_rfl)) fun r3 _ =>
 .sj Tryz.f79 0 [1,1,1,1,1,0] [18] 6 1 [2,3,4,40] 9 (fun r_=>⟨[(2,.ptr 0 0),(3,.ptr 1 0),(4,.ptr 2 0),(7,.b_ r3)],[.box 25 (ag_ (aj.lf1 r1) [(10,.own 7),(11,.own 8)]),.box 63 (.dat (ah.lf1 p_x)),.box 25 (Z25),.dead,.dead,.dead,.dead,.row 3 1 (r1.fNext.map lfI),.row 3 1 (r1.bg.map lfI)]⟩) ⟨[(2,.ptr 0 0),(3,.ptr 1 0),(4,.ptr 2 0),(40,.b_ r3)],[.box 25 (ag_ (aj.lf1 r1) [(10,.own 7),(11,.own 8)]),.box 63 (.dat (ah.lf1 p_x)),.box 25 (Z25),.dead,.dead,.dead,.dead,.row 3 1 (r1.fNext.map lfI),.row 3 1 (r1.bg.map lfI)]⟩ (UE p_x r1 r3).den (sW (by kernel_rfl)) fun r4 _ =>
 .sj Tryz.f79 0 [1,1,1,1,1,1,0] [0,1,2,3,4,5,6,7,8,9,10,11,12,13,14,15,16] 7 17 [2,3,4,7] 9 (fun r_=>⟨[(2,.ptr 0 0),(3,.ptr 1 0),(4,.ptr 2 0),(7,.b_ r3),(57,.b_ r_)],[.box 25 (ag_ (aj.lf1 r1) [(10,.own 7),(11,.own 8)]),.box 63 (.dat (ah.lf1 p_x)),.box 25 (Z25),.dead,.dead,.dead,.dead,.row 3 1 (r1.fNext.map lfI),.row 3 1 (r1.bg.map lfI)]⟩) ⟨[(2,.ptr 0 0),(3,.ptr 1 0),(4,.ptr 2 0),(7,.b_ r3)],[.box 25 (ag_ (aj.lf1 r1) [(10,.own 7),(11,.own 8)]),.box 63 (.dat (ah.lf1 p_x)),.box 25 (Z25),.dead,.dead,.dead,.dead,.row 3 1 (r1.fNext.map lfI),.row 3 1 (r1.bg.map lfI)]⟩ (Ku p_x r1 r3).den (sW (by kernel_rfl)) fun r5 _ =>
 .sj Tryz.f79 0 [1,1,1,1,1,1,0] [17,18,19] 7 3 [2,3,4,7,57] 9 (fun r_=>⟨[(2,.ptr 0 0),(3,.ptr 1 0),(4,.ptr 2 0),(60,.b_ r_)],[.box 25 (ag_ (aj.lf1 r1) [(10,.own 7),(11,.own 8)]),.box 63 (.dat (ah.lf1 p_x)),.box 25 (Z25),.dead,.dead,.dead,.dead,.row 3 1 (r1.fNext.map lfI),.row 3 1 (r1.bg.map lfI)]⟩) ⟨[(2,.ptr 0 0),(3,.ptr 1 0),(4,.ptr 2 0),(7,.b_ r3),(57,.b_ r5)],[.box 25 (ag_ (aj.lf1 r1) [(10,.own 7),(11,.own 8)]),.box 63 (.dat (ah.lf1 p_x)),.box 25 (Z25),.dead,.dead,.dead,.dead,.row 3 1 (r1.fNext.map lfI),.row 3 1 (r1.bg.map lfI)]⟩ (Kv p_x r1 r3 r5).den (sW (by kernel_rfl)) fun r6 _ =>
 .sj Tryz.f79 0 [1,1,1,1,1,1,0] [20] 7 1 [2,3,4,60] 9 (fun r_=>⟨[(2,.ptr 0 0),(3,.ptr 1 0),(4,.ptr 2 0),(8,.b_ r6)],[.box 25 (ag_ (aj.lf1 r1) [(10,.own 7),(11,.own 8)]),.box 63 (.dat (ah.lf1 p_x)),.box 25 (Z25),.dead,.dead,.dead,.dead,.row 3 1 (r1.fNext.map lfI),.row 3 1 (r1.bg.map lfI)]⟩) ⟨[(2,.ptr 0 0),(3,.ptr 1 0),(4,.ptr 2 0),(60,.b_ r6)],[.box 25 (ag_ (aj.lf1 r1) [(10,.own 7),(11,.own 8)]),.box 63 (.dat (ah.lf1 p_x)),.box 25 (Z25),.dead,.dead,.dead,.dead,.row 3 1 (r1.fNext.map lfI),.row 3 1 (r1.bg.map lfI)]⟩ (Kw p_x r1 r6).den (sW (by kernel_rfl)) fun r7 _ =>
 .ask (NS p_x r1 r6) fun r8 h1 =>
 .say [.pt_ 1 [2,3,4,8,61] 9 (.normal) (BA p_x r1 r6 r8),.dL (.q 0 (.q 1 (.alt 2 (.l 3 (.q 4 .fin)) (.l 3 (.l 2 (.q 4 .fin)))))) none [2,10] [.both [.at_ 26 2,.resv 1,.slot 10] [.at_ 26 3,.resv 1,.slot 10]] [4,5] 11 [(4,.ptr 2 0),(5,.own 10)] [.box 25 (ag_ (aj.lf1 r1) [(3,.i_ r8.1),(6,.i_ r8.2),(10,.own 7),(11,.own 8)]),.box 63 (.dat (ah.lf1 p_x)),.box 25 (ag_ (aj.lf1 r1) [(3,.i_ r8.1),(6,.i_ r8.2),(10,.own 7),(11,.own 8)]),.dead,.dead,.dead,.dead,.row 3 1 (r1.fNext.map lfI),.row 3 1 (r1.bg.map lfI),.box 63 (.agg [.i_ r1.fID,.i_ p_x.bK,.i_ 2,.i_ r1.bf,.i_ 0,.i_ 0,.i_ 0,.bI 82,.b_ r6]),.row 63 9 [(ah.lf1 (ah.sOK (ah.iV (ah.iR (ah.sTo (ah.jl ah.z r1.fID) p_x.bK) 2) r1.bf) r6))]],.at_ 0 0,.frz 7,.frz 8,.VK 10 ([ah.sOK (ah.iV (ah.iR (ah.sTo (ah.jl ah.z r1.fID) p_x.bK) 2) r1.bf) r6].map ah.lf)] (okc (abf h1) (okc (rf_ ⟨[(4,.ptr 2 0),(5,.own 10)],[.box 25 (ag_ (aj.lf1 r1) [(3,.i_ r8.1),(6,.i_ r8.2),(10,.own 7),(11,.own 8)]),.box 63 (.dat (ah.lf1 p_x)),.box 25 (ag_ (aj.lf1 r1) [(3,.i_ r8.1),(6,.i_ r8.2),(10,.own 7),(11,.own 8)]),.dead,.dead,.dead,.dead,.row 3 1 (r1.fNext.map lfI),.row 3 1 (r1.bg.map lfI),.box 63 (.agg [.i_ r1.fID,.i_ p_x.bK,.i_ 2,.i_ r1.bf,.i_ 0,.i_ 0,.i_ 0,.bI 82,.b_ r6]),.row 63 9 [(ah.lf1 (ah.sOK (ah.iV (ah.iR (ah.sTo (ah.jl ah.z r1.fID) p_x.bK) 2) r1.bf) r6))]]⟩) (okc (rf_ ⟨[(4,.ptr 2 0),(5,.own 10)],[.box 25 (ag_ (aj.lf1 r1) [(3,.i_ r8.1),(6,.i_ r8.2),(10,.own 7),(11,.own 8)]),.box 63 (.dat (ah.lf1 p_x)),.box 25 (ag_ (aj.lf1 r1) [(3,.i_ r8.1),(6,.i_ r8.2),(10,.own 7),(11,.own 8)]),.dead,.dead,.dead,.dead,.row 3 1 (r1.fNext.map lfI),.row 3 1 (r1.bg.map lfI),.box 63 (.agg [.i_ r1.fID,.i_ p_x.bK,.i_ 2,.i_ r1.bf,.i_ 0,.i_ 0,.i_ 0,.bI 82,.b_ r6]),.row 63 9 [(ah.lf1 (ah.sOK (ah.iV (ah.iR (ah.sTo (ah.jl ah.z r1.fID) p_x.bK) 2) r1.bf) r6))]]⟩) (ok1 (by simp [ah.aZ] : [ah.sOK (ah.iV (ah.iR (ah.sTo (ah.jl ah.z r1.fID) p_x.bK) 2) r1.bf) r6].map ah.lf = [(ah.lf1 (ah.sOK (ah.iV (ah.iR (ah.sTo (ah.jl ah.z r1.fID) p_x.bK) 2) r1.bf) r6))]))))) <|
 .ret (bD 2) (aj.kU (aj.IK r1 r8.1) r8.2,[ah.sOK (ah.iV (ah.iR (ah.sTo (ah.jl ah.z r1.fID) p_x.bK) 2) r1.bf) r6])
def Q60 (p_m:aj) (p_x:ah) : Option (aj × List ah) := Mo.den (ajs p_m p_x)
theorem alo (p_m:aj) (p_x:ah) : FV (Q60 p_m p_x) 79 [.dat (aj.lf1 p_m),.dat (ah.lf1 p_x)] (fun r=>.tup [.dat (aj.lf1 r.1),.lf (.rows 9 (r.2.map ah.lf))]) := bZ Tryz.func79 (by kernel_rfl) (fun _=>rfl) (by kernel_rfl)
def aeP (p_x:ah) (p_b0:aI) : Mo (aI) :=
 .say [.order [(true,0),(true,1),(true,2),(true,3),(true,4),(true,6),(false,5),(false,7),(true,8),(true,9),(true,10),(true,11),(true,12),(false,13),(true,14),(true,15),(false,16)] (some 16) [0,1,2,3],.at_ 4 7,.frz 1,.frz 2,.frz 3] ok0 <|
 .cl (alo p_b0.aQ p_x) fun r0 _ =>
 .ret ⟨[.norm 0,.kill 4,.kill 5],[],[],5⟩ (aI.mk r0.1 r0.2 p_b0.eP)
def alp (p_x:ah) (p_b0:aI) : Option (aI) := Mo.den (aeP p_x p_b0)
theorem ahK (p_x:ah) (p_b0:aI) : FH (alp p_x p_b0) 43 [.ptr 0 0,.dat (ah.lf1 p_x)] [.box 97 (ag_ (aI.lf1 p_b0) [(8,.own 1),(10,.own 2),(11,.own 3),(12,.own 4)]),.row 54 82 (p_b0.aQ.aP.map ay.lf),.row 3 1 (p_b0.aQ.fNext.map lfI),.row 3 1 (p_b0.aQ.bg.map lfI),.row 63 9 (p_b0.dB.map ah.lf)] (fun _=>.tup []) (fun r=>[.box 97 (.dat (aI.lf1 r)),.dead,.dead,.dead,.dead]) := gX Tryz.func43 (by kernel_rfl) (fun _=>rfl) (by kernel_rfl)
def UF (p_m:aj) : Mo (Bool) :=
 .iG 4003 (decide ((1:Int) ≤ p_m.bW)) (.rt [1,2,10] 1 (decide ((p_m.bW:Int) ≤ 7))) <|
 .rt [1,2,10] 1 (false)
def UG (p_m:aj) (r0:Bool) : Mo (Bool) :=
 .iG 4008 (r0) (.rt [1,2,15] 1 (decide ((0:Int) ≤ p_m.fID))) <|
 .rt [1,2,15] 1 (false)
def Ky (p_m:aj) (r0:Bool) : Mo (Bool) :=
 .iG 4013 (r0) (.ret ⟨[.kill 0],[2,22],[],1⟩ (decide ((p_m.fID:Int) < p_m.bW))) <|
 .ret ⟨[.kill 0],[2,22],[],1⟩ (false)
def Kz (r0:Bool) : Mo (Unit) :=
 .rt [2] 1 ()
def ajt (p_m:aj) : Mo (Bool) :=
 .sj Tryz.f89 0 [1,0] [0,1,2,3,4,5,6,7] 1 8 [1,2] 1 (fun r_=>⟨[(1,.ptr 0 0),(2,.b_ false),(10,.b_ r_)],[.box 25 (.dat (aj.lf1 p_m))]⟩) ⟨[(1,.ptr 0 0),(2,.b_ false)],[.box 25 (.dat (aj.lf1 p_m))]⟩ (UF p_m).den (sW (by kernel_rfl)) fun r0 _ =>
 .sj Tryz.f89 0 [1,0] [8,9,10,11,12] 1 5 [1,2,10] 1 (fun r_=>⟨[(1,.ptr 0 0),(2,.b_ false),(15,.b_ r_)],[.box 25 (.dat (aj.lf1 p_m))]⟩) ⟨[(1,.ptr 0 0),(2,.b_ false),(10,.b_ r0)],[.box 25 (.dat (aj.lf1 p_m))]⟩ (UG p_m r0).den (sW (by kernel_rfl)) fun r1 _ =>
 .sj Tryz.f89 0 [1,0] [13,14,15,16,17,18,19] 1 7 [1,2,15] 1 (fun r_=>⟨[(2,.b_ false),(22,.b_ r_)],[.dead]⟩) ⟨[(1,.ptr 0 0),(2,.b_ false),(15,.b_ r1)],[.box 25 (.dat (aj.lf1 p_m))]⟩ (Ky p_m r1).den (sW (by kernel_rfl)) fun r2 _ =>
 .sj Tryz.f89 0 [1,0] [20] 1 1 [2,22] 1 (fun r_=>⟨[(2,.b_ r2)],[.dead]⟩) ⟨[(2,.b_ false),(22,.b_ r2)],[.dead]⟩ (Kz r2).den (sW (by kernel_rfl)) fun r3 _ =>
 .ret (bD 1) (r2)
def Q95 (p_m:aj) : Option (Bool) := Mo.den (ajt p_m)
theorem alq (p_m:aj) : FV (Q95 p_m) 89 [.dat (aj.lf1 p_m)] (fun r=>.b_ r) := bZ Tryz.func89 (by kernel_rfl) (fun _=>rfl) (by kernel_rfl)
def alr (p_x:Int) : Mo (Int) :=
 .say [] (okc (by decide:(0:Int) ≤ 1) (okc (by decide:(0:Int) ≤ 2) (okc (by decide:(0:Int) ≤ 4) (okc (by decide:(0:Int) ≤ 8) (okc (by decide:(0:Int) ≤ 16) (ok1 (by decide:(0:Int) ≤ 32))))))) <|
 .ret (bD 1) (bJ .and .i64 (IntKind.wrap .i64 (IntKind.wrap .u64 ((IntKind.wrap .u64 ((IntKind.wrap .u64 ((bJ .and .u64 (IntKind.wrap .u64 ((fP .u64 (IntKind.wrap .u64 ((bJ .and .u64 (fP .u64 (IntKind.wrap .u64 ((bJ .and .u64 (fP .u64 p_x 1) 6148914691236517205) + (bJ .and .u64 p_x 6148914691236517205))) 2) 3689348814741910323) + (bJ .and .u64 (IntKind.wrap .u64 ((bJ .and .u64 (fP .u64 p_x 1) 6148914691236517205) + (bJ .and .u64 p_x 6148914691236517205))) 3689348814741910323))) 4) + (IntKind.wrap .u64 ((bJ .and .u64 (fP .u64 (IntKind.wrap .u64 ((bJ .and .u64 (fP .u64 p_x 1) 6148914691236517205) + (bJ .and .u64 p_x 6148914691236517205))) 2) 3689348814741910323) + (bJ .and .u64 (IntKind.wrap .u64 ((bJ .and .u64 (fP .u64 p_x 1) 6148914691236517205) + (bJ .and .u64 p_x 6148914691236517205))) 3689348814741910323))))) 1085102592571150095) + (fP .u64 (bJ .and .u64 (IntKind.wrap .u64 ((fP .u64 (IntKind.wrap .u64 ((bJ .and .u64 (fP .u64 (IntKind.wrap .u64 ((bJ .and .u64 (fP .u64 p_x 1) 6148914691236517205) + (bJ .and .u64 p_x 6148914691236517205))) 2) 3689348814741910323) + (bJ .and .u64 (IntKind.wrap .u64 ((bJ .and .u64 (fP .u64 p_x 1) 6148914691236517205) + (bJ .and .u64 p_x 6148914691236517205))) 3689348814741910323))) 4) + (IntKind.wrap .u64 ((bJ .and .u64 (fP .u64 (IntKind.wrap .u64 ((bJ .and .u64 (fP .u64 p_x 1) 6148914691236517205) + (bJ .and .u64 p_x 6148914691236517205))) 2) 3689348814741910323) + (bJ .and .u64 (IntKind.wrap .u64 ((bJ .and .u64 (fP .u64 p_x 1) 6148914691236517205) + (bJ .and .u64 p_x 6148914691236517205))) 3689348814741910323))))) 1085102592571150095) 8))) + (fP .u64 (IntKind.wrap .u64 ((bJ .and .u64 (IntKind.wrap .u64 ((fP .u64 (IntKind.wrap .u64 ((bJ .and .u64 (fP .u64 (IntKind.wrap .u64 ((bJ .and .u64 (fP .u64 p_x 1) 6148914691236517205) + (bJ .and .u64 p_x 6148914691236517205))) 2) 3689348814741910323) + (bJ .and .u64 (IntKind.wrap .u64 ((bJ .and .u64 (fP .u64 p_x 1) 6148914691236517205) + (bJ .and .u64 p_x 6148914691236517205))) 3689348814741910323))) 4) + (IntKind.wrap .u64 ((bJ .and .u64 (fP .u64 (IntKind.wrap .u64 ((bJ .and .u64 (fP .u64 p_x 1) 6148914691236517205) + (bJ .and .u64 p_x 6148914691236517205))) 2) 3689348814741910323) + (bJ .and .u64 (IntKind.wrap .u64 ((bJ .and .u64 (fP .u64 p_x 1) 6148914691236517205) + (bJ .and .u64 p_x 6148914691236517205))) 3689348814741910323))))) 1085102592571150095) + (fP .u64 (bJ .and .u64 (IntKind.wrap .u64 ((fP .u64 (IntKind.wrap .u64 ((bJ .and .u64 (fP .u64 (IntKind.wrap .u64 ((bJ .and .u64 (fP .u64 p_x 1) 6148914691236517205) + (bJ .and .u64 p_x 6148914691236517205))) 2) 3689348814741910323) + (bJ .and .u64 (IntKind.wrap .u64 ((bJ .and .u64 (fP .u64 p_x 1) 6148914691236517205) + (bJ .and .u64 p_x 6148914691236517205))) 3689348814741910323))) 4) + (IntKind.wrap .u64 ((bJ .and .u64 (fP .u64 (IntKind.wrap .u64 ((bJ .and .u64 (fP .u64 p_x 1) 6148914691236517205) + (bJ .and .u64 p_x 6148914691236517205))) 2) 3689348814741910323) + (bJ .and .u64 (IntKind.wrap .u64 ((bJ .and .u64 (fP .u64 p_x 1) 6148914691236517205) + (bJ .and .u64 p_x 6148914691236517205))) 3689348814741910323))))) 1085102592571150095) 8))) 16))) + (fP .u64 (IntKind.wrap .u64 ((IntKind.wrap .u64 ((bJ .and .u64 (IntKind.wrap .u64 ((fP .u64 (IntKind.wrap .u64 ((bJ .and .u64 (fP .u64 (IntKind.wrap .u64 ((bJ .and .u64 (fP .u64 p_x 1) 6148914691236517205) + (bJ .and .u64 p_x 6148914691236517205))) 2) 3689348814741910323) + (bJ .and .u64 (IntKind.wrap .u64 ((bJ .and .u64 (fP .u64 p_x 1) 6148914691236517205) + (bJ .and .u64 p_x 6148914691236517205))) 3689348814741910323))) 4) + (IntKind.wrap .u64 ((bJ .and .u64 (fP .u64 (IntKind.wrap .u64 ((bJ .and .u64 (fP .u64 p_x 1) 6148914691236517205) + (bJ .and .u64 p_x 6148914691236517205))) 2) 3689348814741910323) + (bJ .and .u64 (IntKind.wrap .u64 ((bJ .and .u64 (fP .u64 p_x 1) 6148914691236517205) + (bJ .and .u64 p_x 6148914691236517205))) 3689348814741910323))))) 1085102592571150095) + (fP .u64 (bJ .and .u64 (IntKind.wrap .u64 ((fP .u64 (IntKind.wrap .u64 ((bJ .and .u64 (fP .u64 (IntKind.wrap .u64 ((bJ .and .u64 (fP .u64 p_x 1) 6148914691236517205) + (bJ .and .u64 p_x 6148914691236517205))) 2) 3689348814741910323) + (bJ .and .u64 (IntKind.wrap .u64 ((bJ .and .u64 (fP .u64 p_x 1) 6148914691236517205) + (bJ .and .u64 p_x 6148914691236517205))) 3689348814741910323))) 4) + (IntKind.wrap .u64 ((bJ .and .u64 (fP .u64 (IntKind.wrap .u64 ((bJ .and .u64 (fP .u64 p_x 1) 6148914691236517205) + (bJ .and .u64 p_x 6148914691236517205))) 2) 3689348814741910323) + (bJ .and .u64 (IntKind.wrap .u64 ((bJ .and .u64 (fP .u64 p_x 1) 6148914691236517205) + (bJ .and .u64 p_x 6148914691236517205))) 3689348814741910323))))) 1085102592571150095) 8))) + (fP .u64 (IntKind.wrap .u64 ((bJ .and .u64 (IntKind.wrap .u64 ((fP .u64 (IntKind.wrap .u64 ((bJ .and .u64 (fP .u64 (IntKind.wrap .u64 ((bJ .and .u64 (fP .u64 p_x 1) 6148914691236517205) + (bJ .and .u64 p_x 6148914691236517205))) 2) 3689348814741910323) + (bJ .and .u64 (IntKind.wrap .u64 ((bJ .and .u64 (fP .u64 p_x 1) 6148914691236517205) + (bJ .and .u64 p_x 6148914691236517205))) 3689348814741910323))) 4) + (IntKind.wrap .u64 ((bJ .and .u64 (fP .u64 (IntKind.wrap .u64 ((bJ .and .u64 (fP .u64 p_x 1) 6148914691236517205) + (bJ .and .u64 p_x 6148914691236517205))) 2) 3689348814741910323) + (bJ .and .u64 (IntKind.wrap .u64 ((bJ .and .u64 (fP .u64 p_x 1) 6148914691236517205) + (bJ .and .u64 p_x 6148914691236517205))) 3689348814741910323))))) 1085102592571150095) + (fP .u64 (bJ .and .u64 (IntKind.wrap .u64 ((fP .u64 (IntKind.wrap .u64 ((bJ .and .u64 (fP .u64 (IntKind.wrap .u64 ((bJ .and .u64 (fP .u64 p_x 1) 6148914691236517205) + (bJ .and .u64 p_x 6148914691236517205))) 2) 3689348814741910323) + (bJ .and .u64 (IntKind.wrap .u64 ((bJ .and .u64 (fP .u64 p_x 1) 6148914691236517205) + (bJ .and .u64 p_x 6148914691236517205))) 3689348814741910323))) 4) + (IntKind.wrap .u64 ((bJ .and .u64 (fP .u64 (IntKind.wrap .u64 ((bJ .and .u64 (fP .u64 p_x 1) 6148914691236517205) + (bJ .and .u64 p_x 6148914691236517205))) 2) 3689348814741910323) + (bJ .and .u64 (IntKind.wrap .u64 ((bJ .and .u64 (fP .u64 p_x 1) 6148914691236517205) + (bJ .and .u64 p_x 6148914691236517205))) 3689348814741910323))))) 1085102592571150095) 8))) 16))) 32)))) 127)
def anL (p_x:Int) : Option (Int) := Mo.den (alr p_x)
theorem ahL (p_x:Int) : FV (anL p_x) 163 [.lf (.int .u64 p_x)] (fun r=>.i_ r) := bZ Tryz.func163 (by kernel_rfl) (fun _=>rfl) (by kernel_rfl)
def als (p_x:Int) : Mo (Int) :=
 .say [.br false] (ok1 (rfl:false = false)) <|
 .cl (ahL p_x) fun r0 _ =>
 .ret (bD 1) (r0)
def ahM (p_x:Int) : Option (Int) := Mo.den (als p_x)
theorem ahN (p_x:Int) : FV (ahM p_x) 118 [.lf (.int .u64 p_x)] (fun r=>.i_ r) := bZ Tryz.func118 (by kernel_rfl) (fun _=>rfl) (by kernel_rfl)
def abg (p_size:Int) : Mo (Bool) :=
 .iG 4002 (decide ((p_size:Int) < 1)) (.rt [0,8] 0 (true)) <|
 .rt [0,8] 0 (decide ((7:Int) < p_size))
def alu (p_size:Int) : Mo (Int) :=
 .jp Tryz.f74 0 [1,0,0] 9 [0] 0 (.normal) (fun r_=>⟨[(0,.i_ p_size),(8,.b_ r_)],[]⟩) ⟨[(0,.i_ p_size)],[]⟩ (abg p_size).den (jW (by kernel_rfl)) fun r0 _ =>
 .ite (r0) (fun c0 =>
 .say [.br true] (ok1 c0) <|
 .ret (bD 1) (0)) fun c0 =>
 .say [.br false] (okc c0 (ok1 (by decide:(2:Int) ≠ 0))) <|
 .ret (bD 1) (IntKind.wrap .i64 ((IntKind.wrap .i64 (Int.tdiv p_size 2)) + 1))
def alv (p_size:Int) : Option (Int) := Mo.den (alu p_size)
theorem Zy (p_size:Int) : FV (alv p_size) 74 [.i_ p_size] (fun r=>.i_ r) := bZ Tryz.func74 (by kernel_rfl) (fun _=>rfl) (by kernel_rfl)
def UH (p_m:aj) : (Int × (List Int)) → Mo ((Int × (List Int)) ⊕ ((List Int))) := fun (v0,l0) =>
 .ite (decide ((v0:Int) < ((List.replicate p_m.bW.toNat 0).length:Int))) (fun c0 =>
 .say [.br true,.num p_m.aP.length] (okc c0 (ok1 (ln_ p_m.aP ay.lf))) <|
 .ask (bP l0 v0) fun x0 h0 =>
 .say [.row (lfI x0),.rows ((l0.set v0.toNat (p_m.aP.length:Int)).map lfI)] (okc (cO lI_ h0) (okc (st_ lI_ l0 v0.toNat (p_m.aP.length:Int)) (ok1 ((aX lI_ h0).2)))) <|
 .rt [1,2,19,20] 4 (.inl (IntKind.wrap .i64 (v0 + 1),l0.set v0.toNat (p_m.aP.length:Int)))) fun c0 =>
 .say [.br false] (ok1 c0) <|
 .rt [1,2] 4 (.inr (l0))
def aeQ (p_m:aj) (v0:Int) (l0:List Int) : Option (((List Int))) := bM (fun v_=>(UH p_m v_).den) FU (v0,l0)
def UJ (p_m:aj) : (Int × (List Int)) → St := fun (v0,l0)=>⟨[(1,.ptr 0 0),(2,.ptr 1 0),(19,.i_ ((List.replicate p_m.bW.toNat 0).length:Int)),(20,.i_ v0)],[.box 25 (ag_ (aj.lf1 p_m) [(4,.i_ 2),(5,.i_ p_m.fID),(6,.i_ 1),(10,.own 2),(11,.own 3)]),.box 25 (Z25),.row 3 1 (l0.map lfI),.row 3 1 ((List.replicate p_m.bW.toNat 0).map lfI)]⟩
def FC (p_m:aj) (r_:((List Int))) : St := ⟨[(1,.ptr 0 0),(2,.ptr 1 0)],[.box 25 (ag_ (aj.lf1 p_m) [(4,.i_ 2),(5,.i_ p_m.fID),(6,.i_ 1),(10,.own 2),(11,.own 3)]),.box 25 (Z25),.row 3 1 (r_.map lfI),.row 3 1 ((List.replicate p_m.bW.toNat 0).map lfI)]⟩
theorem aeR {p_m:aj} {v0:Int} {l0:List Int} {r_:((List Int))} (h:aeQ p_m v0 l0 = some r_) : fK Tryz.f90 0 [1,1,1,1,0,1,0] (.exit 0) (FC p_m r_) (UJ p_m (v0,l0)) :=
 dO dK (body := (Code.sub (bodyC Tryz.f90) [1,1,1,1,0,1,0,0])) (by kernel_rfl) (UH p_m) (UJ p_m) (fun _=>.exit 0) (FC p_m) (fun r_=>rfl) (fun v_=>by kernel_rfl) h
def am9 (p_m:aj) : Mo (aj) :=
 .say [.rows ((List.replicate p_m.bW.toNat 0).map lfI),.rows ((List.replicate p_m.bW.toNat 0).map lfI),.num (List.replicate p_m.bW.toNat 0).length] (ok1 (rp_ lI_ p_m.bW.toNat 0)) <|
 .grd ((0:Int) ≤ p_m.bW ∧ 8 * p_m.bW.toNat ≤ 281474976710656 ∧ p_m.bW.toNat ≤ maxLen) fun h0 =>
 .say [] (okc (mk_ p_m.bW h0) (ok1 (rp_ lI_ p_m.bW.toNat 0))) <|
 .grd ((0:Int) ≤ p_m.bW ∧ 8 * p_m.bW.toNat ≤ 281474976710656 ∧ p_m.bW.toNat ≤ maxLen) fun h1 =>
 .say [] (okc (mk_ p_m.bW h1) (ok1 (by simp:(List.replicate p_m.bW.toNat 0).length = ((List.replicate p_m.bW.toNat 0).map lfI).length))) <|
 .ask (aeQ p_m 0 (List.replicate p_m.bW.toNat 0)) fun r0 h2 =>
 .say [.pt_ 0 [1,2,19,20] 4 (.exit 0) (FC p_m r0),.num p_m.aP.length] (okc (aeR h2) (ok1 (ln_ p_m.aP ay.lf))) <|
 .ask (bP (List.replicate p_m.bW.toNat 0) p_m.fID) fun x0 h3 =>
 .say [.row (lfI x0),.rows (((List.replicate p_m.bW.toNat 0).set p_m.fID.toNat (p_m.aP.length:Int)).map lfI),.at_ 0 0,.frz 2,.frz 3] (okc (cO lI_ h3) (okc (st_ lI_ (List.replicate p_m.bW.toNat 0) p_m.fID.toNat (p_m.aP.length:Int)) (ok1 ((aX lI_ h3).2)))) <|
 .ret (bD 1) (aj.pV (aj.qx (aj.kU (aj.pR (aj.Py p_m 2) p_m.fID) 1) r0) ((List.replicate p_m.bW.toNat 0).set p_m.fID.toNat (p_m.aP.length:Int)))
def Q98 (p_m:aj) : Option (aj) := Mo.den (am9 p_m)
theorem alx (p_m:aj) : FV (Q98 p_m) 90 [.dat (aj.lf1 p_m)] (fun r=>.dat (aj.lf1 r)) := bZ Tryz.func90 (by kernel_rfl) (fun _=>rfl) (by kernel_rfl)
def UK (p_x:ah) (r0:aj) : Mo (Bool) :=
 .iG 14003 (r0.dh != 1) (.rt [2,3,4,29] 6 (true)) <|
 .rt [2,3,4,29] 6 (p_x.bf != r0.bf)
def UL (p_x:ah) (r0:aj) (r1:Bool) : Mo (Bool) :=
 .iG 14010 (r1) (.rt [2,3,4,34] 6 (true)) <|
 .rt [2,3,4,34] 6 (!p_x.fOK)
def KA (p_x:ah) (r0:aj) (r1:Bool) : Mo (Bool) :=
 .ite (r1) (fun c0 =>
 .say [.gd 14015 true] (ok1 c0) <|
 .ret ⟨[.frz 3,.frz 4,.frz 5],[2,3,4,39],[],6⟩ (true)) fun c0 =>
 .say [.gd 14015 false,.at_ 14 17,.frz 3,.frz 4,.frz 5] (ok1 c0) <|
 .cl (alq r0) fun r2 _ =>
 .rt [2,3,4,39] 6 (!r2)
def KC (p_x:ah) (r0:aj) (r1:Bool) : Mo (Bool) :=
 .iG 14020 (r1) (.rt [2,3,4,44] 6 (true)) <|
 .rt [2,3,4,44] 6 (decide ((p_x.bK:Int) < 0))
def KD (p_x:ah) (r0:aj) (r1:Bool) : Mo (Bool) :=
 .iG 14025 (r1) (.rt [2,3,4,51] 6 (true)) <|
 .rt [2,3,4,51] 6 (decide ((r0.bW:Int) ≤ p_x.bK))
def aju (p_m:aj) (p_x:ah) : Mo (aj) :=
 .cH [] (NP p_m) fun r0 _ =>
 .ite (p_x.aU != 2) (fun c0 =>
 .say [.br true,.at_ 0 0,.frz 3,.frz 4,.frz 5] (ok1 c0) <|
 .ret (bD 1) (r0)) fun c0 =>
 .say [.br false] (ok1 c0) <|
 .iB (decide ((r0.bf:Int) < p_x.bf)) (.ask (Q65 r0 p_x.bf) fun r1 h0 =>
 .say [.ji [3,4,5] (ag_ (aj.lf1 r1) [(8,.own 3),(10,.own 4),(11,.own 5)]) [.dead,.dead,.dead,.row 54 82 (r1.aP.map ay.lf),.row 3 1 (r1.fNext.map lfI),.row 3 1 (r1.bg.map lfI)],.at_ 0 0,.frz 6,.frz 7,.frz 8] (ok1 (Xu _ _ _ h0)) <|
 .ret (bD 1) (r1)) <|
 .sj Tryz.f80 0 [1,1,1,1,0,0] [0,1,2,3,4,5,6,7,8,9] 6 10 [2,3,4] 6 (fun r_=>⟨[(2,.ptr 0 0),(3,.ptr 1 0),(4,.ptr 2 0),(29,.b_ r_)],[.box 25 (ag_ (aj.lf1 r0) [(8,.own 3),(10,.own 4),(11,.own 5)]),.box 63 (.dat (ah.lf1 p_x)),.box 25 (Z25),.row 54 82 (r0.aP.map ay.lf),.row 3 1 (r0.fNext.map lfI),.row 3 1 (r0.bg.map lfI)]⟩) ⟨[(2,.ptr 0 0),(3,.ptr 1 0),(4,.ptr 2 0)],[.box 25 (ag_ (aj.lf1 r0) [(8,.own 3),(10,.own 4),(11,.own 5)]),.box 63 (.dat (ah.lf1 p_x)),.box 25 (Z25),.row 54 82 (r0.aP.map ay.lf),.row 3 1 (r0.fNext.map lfI),.row 3 1 (r0.bg.map lfI)]⟩ (UK p_x r0).den (sW (by kernel_rfl)) fun r2 _ =>
 .sj Tryz.f80 0 [1,1,1,1,0,0] [10,11,12,13,14] 6 5 [2,3,4,29] 6 (fun r_=>⟨[(2,.ptr 0 0),(3,.ptr 1 0),(4,.ptr 2 0),(34,.b_ r_)],[.box 25 (ag_ (aj.lf1 r0) [(8,.own 3),(10,.own 4),(11,.own 5)]),.box 63 (.dat (ah.lf1 p_x)),.box 25 (Z25),.row 54 82 (r0.aP.map ay.lf),.row 3 1 (r0.fNext.map lfI),.row 3 1 (r0.bg.map lfI)]⟩) ⟨[(2,.ptr 0 0),(3,.ptr 1 0),(4,.ptr 2 0),(29,.b_ r2)],[.box 25 (ag_ (aj.lf1 r0) [(8,.own 3),(10,.own 4),(11,.own 5)]),.box 63 (.dat (ah.lf1 p_x)),.box 25 (Z25),.row 54 82 (r0.aP.map ay.lf),.row 3 1 (r0.fNext.map lfI),.row 3 1 (r0.bg.map lfI)]⟩ (UL p_x r0 r2).den (sW (by kernel_rfl)) fun r3 _ =>
 .sj Tryz.f80 0 [1,1,1,1,0,0] [15,16,17,18,19] 6 5 [2,3,4,34] 6 (fun r_=>⟨[(2,.ptr 0 0),(3,.ptr 1 0),(4,.ptr 2 0),(39,.b_ r_)],[.box 25 (.agg ((aj.lf1 r0).map AV.lf)),.box 63 (.dat (ah.lf1 p_x)),.box 25 (Z25),.dead,.dead,.dead]⟩) ⟨[(2,.ptr 0 0),(3,.ptr 1 0),(4,.ptr 2 0),(34,.b_ r3)],[.box 25 (ag_ (aj.lf1 r0) [(8,.own 3),(10,.own 4),(11,.own 5)]),.box 63 (.dat (ah.lf1 p_x)),.box 25 (Z25),.row 54 82 (r0.aP.map ay.lf),.row 3 1 (r0.fNext.map lfI),.row 3 1 (r0.bg.map lfI)]⟩ (KA p_x r0 r3).den (sW (by kernel_rfl)) fun r4 _ =>
 .sj Tryz.f80 0 [1,1,1,1,0,0] [20,21,22,23,24] 6 5 [2,3,4,39] 6 (fun r_=>⟨[(2,.ptr 0 0),(3,.ptr 1 0),(4,.ptr 2 0),(44,.b_ r_)],[.box 25 (.agg ((aj.lf1 r0).map AV.lf)),.box 63 (.dat (ah.lf1 p_x)),.box 25 (Z25),.dead,.dead,.dead]⟩) ⟨[(2,.ptr 0 0),(3,.ptr 1 0),(4,.ptr 2 0),(39,.b_ r4)],[.box 25 (.agg ((aj.lf1 r0).map AV.lf)),.box 63 (.dat (ah.lf1 p_x)),.box 25 (Z25),.dead,.dead,.dead]⟩ (KC p_x r0 r4).den (sW (by kernel_rfl)) fun r5 _ =>
 .sj Tryz.f80 0 [1,1,1,1,0,0] [25,26,27,28,29,30,31] 6 7 [2,3,4,44] 6 (fun r_=>⟨[(2,.ptr 0 0),(3,.ptr 1 0),(4,.ptr 2 0),(51,.b_ r_)],[.box 25 (.agg ((aj.lf1 r0).map AV.lf)),.box 63 (.dat (ah.lf1 p_x)),.box 25 (Z25),.dead,.dead,.dead]⟩) ⟨[(2,.ptr 0 0),(3,.ptr 1 0),(4,.ptr 2 0),(44,.b_ r5)],[.box 25 (.agg ((aj.lf1 r0).map AV.lf)),.box 63 (.dat (ah.lf1 p_x)),.box 25 (Z25),.dead,.dead,.dead]⟩ (KD p_x r0 r5).den (sW (by kernel_rfl)) fun r6 _ =>
 .ite (r6) (fun c1 =>
 .say [.br true] (ok1 c1) <|
 .ret (bD 1) (r0)) fun c1 =>
 .say [.br false,.order [(true,0),(true,1),(true,2),(true,3),(true,4),(true,5),(true,6),(false,7)] (some 7) []] (ok1 c1) <|
 .grd ((0:Int) ≤ p_x.bK) fun h1 =>
 .say [] (ok1 h1) <|
 .ask (ahM (IntKind.wrap .u64 (bJ .or .i64 r0.dY (nD .i64 1 p_x.bK)))) fun r7 h2 =>
 .say [] (ok1 (ahN _ _ h2)) <|
 .ask (alv r0.bW) fun r8 h3 =>
 .say [.dL (.q 0 (.q 1 (.q 2 (.q 4 (.q 5 (.l 3 (.l 6 (.q 7 .fin)))))))) (some 6) [] [.res (.i_ r7),.res (.i_ r8)] [2,4,67] 6 [(2,.ptr 0 0),(4,.ptr 2 0),(67,.lf (.bool (decide ((r8:Int) ≤ r7))))] [.box 25 (ag_ (aj.lf1 r0) [(7,.i_ (bJ .or .i64 r0.dY (nD .i64 1 p_x.bK)))]),.box 63 (.dat (ah.lf1 p_x)),.box 25 (Z25),.dead,.dead,.dead]] (okc (Zy _ _ h3) (ok1 (rf_ ⟨[(2,.ptr 0 0),(4,.ptr 2 0),(67,.lf (.bool (decide ((r8:Int) ≤ r7))))],[.box 25 (ag_ (aj.lf1 r0) [(7,.i_ (bJ .or .i64 r0.dY (nD .i64 1 p_x.bK)))]),.box 63 (.dat (ah.lf1 p_x)),.box 25 (Z25),.dead,.dead,.dead]⟩))) <|
 .iB (decide ((r8:Int) ≤ r7)) (.cl (alx (aj.pU r0 (bJ .or .i64 r0.dY (nD .i64 1 p_x.bK)))) fun r9 _ =>
 .ret (bD 1) (r9)) <|
 .ret (bD 1) (aj.pU r0 (bJ .or .i64 r0.dY (nD .i64 1 p_x.bK)))
def Q85 (p_m:aj) (p_x:ah) : Option (aj) := Mo.den (aju p_m p_x)
theorem aly (p_m:aj) (p_x:ah) : FV (Q85 p_m p_x) 80 [.dat (aj.lf1 p_m),.dat (ah.lf1 p_x)] (fun r=>.dat (aj.lf1 r)) := bZ Tryz.func80 (by kernel_rfl) (fun _=>rfl) (by kernel_rfl)
def aeS (p_x:ah) (p_b0:aI) : Mo (aI) :=
 .say [.order [(true,0),(true,1),(true,2),(true,3),(true,5),(false,4),(false,6),(true,7),(true,8),(false,9)] (some 9) [0,1,2,3],.at_ 4 6,.frz 1,.frz 2,.frz 3] ok0 <|
 .cl (aly p_b0.aQ p_x) fun r0 _ =>
 .ret ⟨[.kill 5,.mvn 4],[],[(6,5)],6⟩ (aI.mk r0 p_b0.dB p_b0.eP)
def alz (p_x:ah) (p_b0:aI) : Option (aI) := Mo.den (aeS p_x p_b0)
theorem ahO (p_x:ah) (p_b0:aI) : FH (alz p_x p_b0) 44 [.ptr 0 0,.dat (ah.lf1 p_x)] [.box 97 (ag_ (aI.lf1 p_b0) [(8,.own 1),(10,.own 2),(11,.own 3),(12,.own 4)]),.row 54 82 (p_b0.aQ.aP.map ay.lf),.row 3 1 (p_b0.aQ.fNext.map lfI),.row 3 1 (p_b0.aQ.bg.map lfI),.row 63 9 (p_b0.dB.map ah.lf)] (fun _=>.tup []) (fun r=>[.box 97 (ag_ (aI.lf1 r) [(12,.own 5)]),.dead,.dead,.dead,.dead,.row 63 9 (r.dB.map ah.lf)]) := gX Tryz.func44 (by kernel_rfl) (fun _=>rfl) (by kernel_rfl)
def aeT (p_x:ah) (p_ok:Bool) (p_index:Int) (p_b0:aI) : Mo (aI) :=
 .say [.order [(true,0),(true,1),(true,2),(true,3),(true,4),(true,5),(true,6),(true,7),(true,8),(true,9),(true,10),(true,11),(true,12),(true,13),(true,14),(true,15),(true,16),(true,17),(true,18),(true,19),(false,20),(false,21),(true,22),(true,23),(false,24)] (some 24) [4,6,7],.rows ((p_b0.dB ++ [ah.sOK (ah.nI (ah.iV (ah.iR (ah.sTo (ah.jl ah.z p_b0.aQ.fID) p_x.bK) 4) p_b0.aQ.bf) p_index) p_ok]).map ah.lf)] (ok1 (by simp [ah.aZ] : (p_b0.dB ++ [ah.sOK (ah.nI (ah.iV (ah.iR (ah.sTo (ah.jl ah.z p_b0.aQ.fID) p_x.bK) 4) p_b0.aQ.bf) p_index) p_ok]).map ah.lf = (p_b0.dB.map ah.lf) ++ [(ah.lf1 (ah.sOK (ah.nI (ah.iV (ah.iR (ah.sTo (ah.jl ah.z p_b0.aQ.fID) p_x.bK) 4) p_b0.aQ.bf) p_index) p_ok))])) <|
 .grd ((p_b0.dB.length + [ah.sOK (ah.nI (ah.iV (ah.iR (ah.sTo (ah.jl ah.z p_b0.aQ.fID) p_x.bK) 4) p_b0.aQ.bf) p_index) p_ok].length) * 88 ≤ 140737488355328) fun h0 =>
 .say [] (ok1 (cp_ ah.lf h0)) <|
 .ret ⟨[.kill 5,.kill 6,.mvn 1,.mvn 2,.mvn 3,.mvn 7],[],[(8,5),(9,6),(10,7),(11,8)],9⟩ (aI.mk p_b0.aQ (p_b0.dB ++ [ah.sOK (ah.nI (ah.iV (ah.iR (ah.sTo (ah.jl ah.z p_b0.aQ.fID) p_x.bK) 4) p_b0.aQ.bf) p_index) p_ok]) p_b0.eP)
def alA (p_x:ah) (p_ok:Bool) (p_index:Int) (p_b0:aI) : Option (aI) := Mo.den (aeT p_x p_ok p_index p_b0)
theorem NT (p_x:ah) (p_ok:Bool) (p_index:Int) (p_b0:aI) : FH (alA p_x p_ok p_index p_b0) 81 [.ptr 0 0,.dat (ah.lf1 p_x),.b_ p_ok,.i_ p_index] [.box 97 (ag_ (aI.lf1 p_b0) [(8,.own 1),(10,.own 2),(11,.own 3),(12,.own 4)]),.row 54 82 (p_b0.aQ.aP.map ay.lf),.row 3 1 (p_b0.aQ.fNext.map lfI),.row 3 1 (p_b0.aQ.bg.map lfI),.row 63 9 (p_b0.dB.map ah.lf)] (fun _=>.tup []) (fun r=>[.box 97 (ag_ (aI.lf1 r) [(8,.own 5),(10,.own 6),(11,.own 7),(12,.own 8)]),.dead,.dead,.dead,.dead,.row 54 82 (r.aQ.aP.map ay.lf),.row 3 1 (r.aQ.fNext.map lfI),.row 3 1 (r.aQ.bg.map lfI),.row 63 9 (r.dB.map ah.lf)]) := gX Tryz.func81 (by kernel_rfl) (fun _=>rfl) (by kernel_rfl)
def KE (p_n:Int) (p_s0:List ay) : Mo (Bool) :=
 .ite (decide ((p_n:Int) < 1)) (fun c0 =>
 .say [.gd 4002 true] (ok1 c0) <|
 .rt [0,1,12] 1 (true)) fun c0 =>
 .say [.gd 4002 false,.num p_s0.length] (okc c0 (ok1 (ln_ p_s0 ay.lf))) <|
 .rt [0,1,12] 1 (decide (((p_s0.length:Int) : Int) < p_n))
def aeU (p_n:Int) (p_s0:List ay) : Mo (Int) :=
 .jp Tryz.f53 1 [1,0,0] 9 [0,1] 1 (.normal) (fun r_=>⟨[(0,.own 0),(1,.i_ p_n),(12,.b_ r_)],[.row 54 82 (p_s0.map ay.lf)]⟩) ⟨[(0,.own 0),(1,.i_ p_n)],[.row 54 82 (p_s0.map ay.lf)]⟩ (KE p_n p_s0).den (jW (by kernel_rfl)) fun r0 _ =>
 .iB (r0) (.rt [0] 1 (0)) <|
 .ask (bP p_s0 (IntKind.wrap .i64 (p_n - 1))) fun x0 h0 =>
 .say [.row (ay.lf1 x0)] (okc (cO ay.aZ h0) (ok1 ((aX ay.aZ h0).2))) <|
 .rt [0] 1 (x0.bf)
def alB (p_n:Int) (p_s0:List ay) : Option (Int) := Mo.den (aeU p_n p_s0)
theorem ahP (p_n:Int) (p_s0:List ay) : FH (alB p_n p_s0) 53 [.own 0,.i_ p_n] [.row 54 82 (p_s0.map ay.lf)] (fun r=>.i_ r) (fun _=>[.row 54 82 (p_s0.map ay.lf)]) := gX Tryz.func53 (by kernel_rfl) (fun _=>rfl) (by kernel_rfl)
def aeV (p_a:ay) (p_b:ay) : Mo (Bool) :=
 .iG 4005 (p_a.bf == p_b.bf) (.ret (bD 1) (p_a.fC == p_b.fC)) <|
 .ret (bD 1) (false)
def ahQ (p_a:ay) (p_b:ay) : Option (Bool) := Mo.den (aeV p_a p_b)
theorem ahR (p_a:ay) (p_b:ay) : FV (ahQ p_a p_b) 164 [.dat (ay.lf1 p_a),.dat (ay.lf1 p_b)] (fun r=>.b_ r) := bZ Tryz.func164 (by kernel_rfl) (fun _=>rfl) (by kernel_rfl)
def zo (p_b0:aI) (p_x:ah) : (Int) → Mo ((Int) ⊕ (Unit ⊕ (Int))) := fun (v0) =>
 .iB (decide ((v0:Int) < (p_x.aN.length:Int))) (.ask (bP p_x.aN v0) fun x0 h0 =>
 .say [.row (ay.lf1 x0),.num p_b0.aQ.aP.length] (okc (aX ay.aZ h0) (ok1 (ln_ p_b0.aQ.aP ay.lf))) <|
 .iB (decide (((p_b0.aQ.aP.length:Int) : Int) ≤ (IntKind.wrap .i64 (p_x.aW + v0)))) (.ret ⟨[.kill 5],[0],[],6⟩ (.inr (.inl ()))) <|
 .ask (bP p_b0.aQ.aP (IntKind.wrap .i64 (p_x.aW + v0))) fun x1 h1 =>
 .say [] (okc (cO ay.aZ h1) (ok1 ((aX ay.aZ h1).2))) <|
 .ask (ahQ x0 x1) fun r0 h2 =>
 .say [.dL (.q 0 (.q 1 (.q 2 (.q 3 (.q 4 (.q 6 (.l 5 (.q 7 (.q 8 (.l 9 (.q 10 .fin))))))))))) (some 9) [] [.row (ay.lf1 x1),.res (.b_ r0)] [0,3,7,9,10,11,38] 7 [(0,.ptr 0 0),(3,.ptr 5 0),(7,.i_ (IntKind.wrap .i64 (p_x.aW + v0))),(9,.lf (.rows 82 (p_x.aN.map ay.lf))),(10,.i_ (p_x.aN.length:Int)),(11,.i_ v0),(38,.lf (.bool (!r0)))] [.box 97 (ag_ (aI.lf1 p_b0) [(8,.own 1),(10,.own 2),(11,.own 3),(12,.own 4)]),.row 54 82 (p_b0.aQ.aP.map ay.lf),.row 3 1 (p_b0.aQ.fNext.map lfI),.row 3 1 (p_b0.aQ.bg.map lfI),.row 63 9 (p_b0.dB.map ah.lf),.box 63 (.dat (ah.lf1 p_x)),.box 54 (.agg ((ay.lf1 x0).map AV.lf))]] (okc (ahR _ _ _ h2) (ok1 (rf_ ⟨[(0,.ptr 0 0),(3,.ptr 5 0),(7,.i_ (IntKind.wrap .i64 (p_x.aW + v0))),(9,.lf (.rows 82 (p_x.aN.map ay.lf))),(10,.i_ (p_x.aN.length:Int)),(11,.i_ v0),(38,.lf (.bool (!r0)))],[.box 97 (ag_ (aI.lf1 p_b0) [(8,.own 1),(10,.own 2),(11,.own 3),(12,.own 4)]),.row 54 82 (p_b0.aQ.aP.map ay.lf),.row 3 1 (p_b0.aQ.fNext.map lfI),.row 3 1 (p_b0.aQ.bg.map lfI),.row 63 9 (p_b0.dB.map ah.lf),.box 63 (.dat (ah.lf1 p_x)),.box 54 (.agg ((ay.lf1 x0).map AV.lf))]⟩))) <|
 .iB (!r0) (.ret ⟨[.kill 5],[4],[],6⟩ (.inr (.inr ((IntKind.wrap .i64 (p_x.aW + v0)))))) <|
 .rt [0,3,9,10,11] 6 (.inl (IntKind.wrap .i64 (v0 + 1)))) <|
 .ret ⟨[.kill 5],[0],[],6⟩ (.inr (.inl ()))
def Xw (p_b0:aI) (p_x:ah) (v0:Int) : Option (Unit ⊕ (Int)) := bM (fun v_=>(zo p_b0 p_x v_).den) FU (v0)
def UM (p_b0:aI) (p_x:ah) : (Int) → St := fun (v0)=>⟨[(0,.ptr 0 0),(3,.ptr 5 0),(9,.lf (.rows 82 (p_x.aN.map ay.lf))),(10,.i_ (p_x.aN.length:Int)),(11,.i_ v0)],[.box 97 (ag_ (aI.lf1 p_b0) [(8,.own 1),(10,.own 2),(11,.own 3),(12,.own 4)]),.row 54 82 (p_b0.aQ.aP.map ay.lf),.row 3 1 (p_b0.aQ.fNext.map lfI),.row 3 1 (p_b0.aQ.bg.map lfI),.row 63 9 (p_b0.dB.map ah.lf),.box 63 (.dat (ah.lf1 p_x))]⟩
def zq (r_:Unit ⊕ (Int)) : Exit := match r_ with
 | .inl o_=>.exit 0
 | .inr (o_)=>.ret
def zu (p_b0:aI) (r_:Unit ⊕ (Int)) : St := match r_ with
 | .inl o_=>⟨[(0,.ptr 0 0)],[.box 97 (ag_ (aI.lf1 p_b0) [(8,.own 1),(10,.own 2),(11,.own 3),(12,.own 4)]),.row 54 82 (p_b0.aQ.aP.map ay.lf),.row 3 1 (p_b0.aQ.fNext.map lfI),.row 3 1 (p_b0.aQ.bg.map lfI),.row 63 9 (p_b0.dB.map ah.lf),.dead]⟩
 | .inr (o_)=>⟨[(4,.i_ o_)],[.box 97 (ag_ (aI.lf1 p_b0) [(8,.own 1),(10,.own 2),(11,.own 3),(12,.own 4)]),.row 54 82 (p_b0.aQ.aP.map ay.lf),.row 3 1 (p_b0.aQ.fNext.map lfI),.row 3 1 (p_b0.aQ.bg.map lfI),.row 63 9 (p_b0.dB.map ah.lf),.dead]⟩
theorem UN {p_b0:aI} {p_x:ah} {v0:Int} {r_:Unit ⊕ (Int)} (h:Xw p_b0 p_x v0 = some r_) : fK Tryz.f119 5 [1,0,1,0] (zq r_) (zu p_b0 r_) (UM p_b0 p_x (v0)) :=
 dO dK (body := (Code.sub (bodyC Tryz.f119) [1,0,1,0,0])) (by kernel_rfl) (zo p_b0 p_x) (UM p_b0 p_x) zq (zu p_b0) (fun r_=>by rcases r_ with _ | _ <;> rfl) (fun v_=>by kernel_rfl) h
def ajv (p_x:ah) (p_b0:aI) : Mo (Int) :=
 .say [.num p_x.aN.length] (ok1 (ln_ p_x.aN ay.lf)) <|
 .eU (Xw p_b0 p_x 0) (fun o0 h0 =>
 .say [.pt_ 0 [0,3,9,10,11] 6 (zq (.inl o0)) (zu p_b0 (.inl o0)),.num p_b0.aQ.aP.length] (okc (UN h0) (ok1 (ln_ p_b0.aQ.aP ay.lf))) <|
 .ret ⟨[.mvn 1,.mvn 2,.mvn 3,.mvn 4],[0],[(6,5),(7,6),(8,7),(9,8)],9⟩ ((p_b0.aQ.aP.length:Int))) fun o1 h0 =>
 .say [.pt_ 0 [0,3,9,10,11] 6 (zq (.inr (o1))) (zu p_b0 (.inr (o1)))] (ok1 (UN h0)) <|
 .ret ⟨[.mvn 1,.mvn 2,.mvn 3,.mvn 4],[0],[(6,5),(7,6),(8,7),(9,8)],9⟩ (o1)
def Q35 (p_x:ah) (p_b0:aI) : Option (Int) := Mo.den (ajv p_x p_b0)
theorem NU (p_x:ah) (p_b0:aI) : FH (Q35 p_x p_b0) 119 [.ptr 0 0,.dat (ah.lf1 p_x)] [.box 97 (ag_ (aI.lf1 p_b0) [(8,.own 1),(10,.own 2),(11,.own 3),(12,.own 4)]),.row 54 82 (p_b0.aQ.aP.map ay.lf),.row 3 1 (p_b0.aQ.fNext.map lfI),.row 3 1 (p_b0.aQ.bg.map lfI),.row 63 9 (p_b0.dB.map ah.lf)] (fun r=>.i_ r) (fun _=>[.box 97 (ag_ (aI.lf1 p_b0) [(8,.own 5),(10,.own 6),(11,.own 7),(12,.own 8)]),.dead,.dead,.dead,.dead,.row 54 82 (p_b0.aQ.aP.map ay.lf),.row 3 1 (p_b0.aQ.fNext.map lfI),.row 3 1 (p_b0.aQ.bg.map lfI),.row 63 9 (p_b0.dB.map ah.lf)]) := gX Tryz.func119 (by kernel_rfl) (fun _=>rfl) (by kernel_rfl)
def KF (p_b0:aI) (p_x:ah) : Mo (Bool) :=
 .ite (decide ((p_x.aW:Int) < 0)) (fun c0 =>
 .say [.order [(true,0),(true,1),(true,2),(true,3),(true,4),(true,5),(true,6),(true,7),(true,8),(true,9),(false,10),(true,11),(true,12),(true,13),(true,14),(true,15),(true,16),(true,17),(true,18),(true,19),(true,21),(true,22),(false,20),(true,23),(true,24)] none [],.gd 6003 true] (ok1 c0) <|
 .rt [0,3,5,33] 6 (true)) fun c0 =>
 .say [] (okc c0 (ok1 (ln_ p_b0.aQ.aP ay.lf))) <|
 .ite (decide (((p_b0.aQ.aP.length:Int) : Int) < p_x.aW)) (fun c1 =>
 .say [.order [(true,0),(true,1),(true,2),(true,3),(true,4),(true,5),(true,6),(true,7),(true,8),(true,9),(false,10),(true,11),(true,12),(true,13),(true,14),(true,15),(true,16),(true,17),(true,18),(true,19),(true,21),(true,22),(false,20),(true,23),(true,24)] none [],.gd 6003 false,.num p_b0.aQ.aP.length,.gd 6013 true] (ok1 c1) <|
 .rt [0,3,5,33] 6 (true)) fun c1 =>
 .say [.order [(true,0),(true,1),(true,2),(true,3),(true,4),(true,5),(true,6),(true,7),(true,8),(true,9),(false,10),(true,11),(true,12),(true,13),(true,14),(true,15),(true,16),(true,17),(true,18),(true,19),(true,21),(true,22),(false,20),(true,23),(true,24)] none [1],.gd 6003 false,.num p_b0.aQ.aP.length,.gd 6013 false] (ok1 c1) <|
 .cH [1] (ahP p_x.aW p_b0.aQ.aP) fun r0 _ =>
 .rt [0,3,5,33] 6 (r0 != p_x.jd)
def aeW (p_x:ah) (p_b0:aI) : Mo (Bool) :=
 .jp Tryz.f82 5 [1,1,0,0] 11 [0,3,5] 6 (.normal) (fun r_=>⟨[(0,.ptr 0 0),(3,.ptr 5 0),(5,.ptr 0 0),(33,.b_ r_)],[.box 97 (ag_ (aI.lf1 p_b0) [(8,.own 1),(10,.own 2),(11,.own 3),(12,.own 4)]),.row 54 82 (p_b0.aQ.aP.map ay.lf),.row 3 1 (p_b0.aQ.fNext.map lfI),.row 3 1 (p_b0.aQ.bg.map lfI),.row 63 9 (p_b0.dB.map ah.lf),.box 63 (.dat (ah.lf1 p_x))]⟩) ⟨[(0,.ptr 0 0),(3,.ptr 5 0),(5,.ptr 0 0)],[.box 97 (ag_ (aI.lf1 p_b0) [(8,.own 1),(10,.own 2),(11,.own 3),(12,.own 4)]),.row 54 82 (p_b0.aQ.aP.map ay.lf),.row 3 1 (p_b0.aQ.fNext.map lfI),.row 3 1 (p_b0.aQ.bg.map lfI),.row 63 9 (p_b0.dB.map ah.lf),.box 63 (.dat (ah.lf1 p_x))]⟩ (KF p_b0 p_x).den (jW (by kernel_rfl)) fun r0 _ =>
 .iB (r0) (.ret ⟨[.kill 5,.mvn 1,.mvn 2,.mvn 3,.mvn 4],[0],[(6,5),(7,6),(8,7),(9,8)],9⟩ (true)) <|
 .ask (Q35 p_x p_b0) fun r1 h0 =>
 .say [] (ok1 (NU _ _ _ h0)) <|
 .ite (decide ((r1:Int) < p_b0.aQ.au)) (fun c0 =>
 .say [.dL (.q 0 (.q 1 (.q 3 (.q 4 (.q 5 (.alt 2 (.l 6 (.q 7 (.q 8 (.q 9 (.q 11 (.alt 10 (.l 12 (.q 13 (.q 14 (.q 15 (.q 16 (.q 17 .fin)))))) (.l 12 (.q 13 (.l 10 (.q 14 (.q 15 (.q 16 (.q 17 .fin))))))))))))) (.l 6 (.l 2 (.q 7 (.q 8 (.q 9 (.q 11 (.alt 10 (.l 12 (.q 13 (.q 14 (.q 15 (.q 16 (.q 17 .fin)))))) (.l 12 (.q 13 (.l 10 (.q 14 (.q 15 (.q 16 (.q 17 .fin)))))))))))))))))))) none [0,1,2,3,4] [.both [.ji [0,1,2,3,4] (.i_ r1) [.box 97 (ag_ (aI.lf1 p_b0) [(8,.own 5),(10,.own 6),(11,.own 7),(12,.own 8)]),.dead,.dead,.dead,.dead,.row 54 82 (p_b0.aQ.aP.map ay.lf),.row 3 1 (p_b0.aQ.fNext.map lfI),.row 3 1 (p_b0.aQ.bg.map lfI),.row 63 9 (p_b0.dB.map ah.lf)],.gd 10008 true,.both [] []] [.ji [0,1,2,3,4] (.i_ r1) [.box 97 (ag_ (aI.lf1 p_b0) [(8,.own 5),(10,.own 6),(11,.own 7),(12,.own 8)]),.dead,.dead,.dead,.dead,.row 54 82 (p_b0.aQ.aP.map ay.lf),.row 3 1 (p_b0.aQ.fNext.map lfI),.row 3 1 (p_b0.aQ.bg.map lfI),.row 63 9 (p_b0.dB.map ah.lf)],.gd 10008 true,.both [] []]] [4] 10 [(4,.b_ true)] [.box 97 (ag_ (aI.lf1 p_b0) [(8,.own 6),(10,.own 7),(11,.own 8),(12,.own 9)]),.dead,.dead,.dead,.dead,.box 63 (.dat (ah.lf1 p_x)),.row 54 82 (p_b0.aQ.aP.map ay.lf),.row 3 1 (p_b0.aQ.fNext.map lfI),.row 3 1 (p_b0.aQ.bg.map lfI),.row 63 9 (p_b0.dB.map ah.lf)]] (okc c0 (okc (rf_ ⟨[(4,.b_ true)],[.box 97 (ag_ (aI.lf1 p_b0) [(8,.own 6),(10,.own 7),(11,.own 8),(12,.own 9)]),.dead,.dead,.dead,.dead,.box 63 (.dat (ah.lf1 p_x)),.row 54 82 (p_b0.aQ.aP.map ay.lf),.row 3 1 (p_b0.aQ.fNext.map lfI),.row 3 1 (p_b0.aQ.bg.map lfI),.row 63 9 (p_b0.dB.map ah.lf)]⟩) (okc (rf_ ⟨[(4,.b_ true)],[.box 97 (ag_ (aI.lf1 p_b0) [(8,.own 6),(10,.own 7),(11,.own 8),(12,.own 9)]),.dead,.dead,.dead,.dead,.box 63 (.dat (ah.lf1 p_x)),.row 54 82 (p_b0.aQ.aP.map ay.lf),.row 3 1 (p_b0.aQ.fNext.map lfI),.row 3 1 (p_b0.aQ.bg.map lfI),.row 63 9 (p_b0.dB.map ah.lf)]⟩) (okc (NU _ _ _ h0) (okc c0 (okc (rf_ ⟨[(4,.b_ true)],[.box 97 (ag_ (aI.lf1 p_b0) [(8,.own 6),(10,.own 7),(11,.own 8),(12,.own 9)]),.dead,.dead,.dead,.dead,.box 63 (.dat (ah.lf1 p_x)),.row 54 82 (p_b0.aQ.aP.map ay.lf),.row 3 1 (p_b0.aQ.fNext.map lfI),.row 3 1 (p_b0.aQ.bg.map lfI),.row 63 9 (p_b0.dB.map ah.lf)]⟩) (ok1 (rf_ ⟨[(4,.b_ true)],[.box 97 (ag_ (aI.lf1 p_b0) [(8,.own 6),(10,.own 7),(11,.own 8),(12,.own 9)]),.dead,.dead,.dead,.dead,.box 63 (.dat (ah.lf1 p_x)),.row 54 82 (p_b0.aQ.aP.map ay.lf),.row 3 1 (p_b0.aQ.fNext.map lfI),.row 3 1 (p_b0.aQ.bg.map lfI),.row 63 9 (p_b0.dB.map ah.lf)]⟩)))))))) <|
 .ret ⟨[.kill 5,.mvn 6,.mvn 7,.mvn 8,.mvn 9],[0],[(10,5),(11,6),(12,7),(13,8)],9⟩ (true)) fun c0 =>
 .say [.dL (.q 0 (.q 1 (.q 3 (.q 4 (.q 5 (.alt 2 (.l 6 (.q 7 (.q 8 (.q 9 (.q 11 (.alt 10 (.l 12 (.q 13 (.q 14 (.q 15 (.q 16 (.q 17 .fin)))))) (.l 12 (.q 13 (.l 10 (.q 14 (.q 15 (.q 16 (.q 17 .fin))))))))))))) (.l 6 (.l 2 (.q 7 (.q 8 (.q 9 (.q 11 (.alt 10 (.l 12 (.q 13 (.q 14 (.q 15 (.q 16 (.q 17 .fin)))))) (.l 12 (.q 13 (.l 10 (.q 14 (.q 15 (.q 16 (.q 17 .fin)))))))))))))))))))) none [0,1,2,3,4] [.both [.ji [0,1,2,3,4] (.i_ r1) [.box 97 (ag_ (aI.lf1 p_b0) [(8,.own 5),(10,.own 6),(11,.own 7),(12,.own 8)]),.dead,.dead,.dead,.dead,.row 54 82 (p_b0.aQ.aP.map ay.lf),.row 3 1 (p_b0.aQ.fNext.map lfI),.row 3 1 (p_b0.aQ.bg.map lfI),.row 63 9 (p_b0.dB.map ah.lf)],.gd 10008 false,.both [.num p_x.aN.length] [.num p_x.aN.length]] [.ji [0,1,2,3,4] (.i_ r1) [.box 97 (ag_ (aI.lf1 p_b0) [(8,.own 5),(10,.own 6),(11,.own 7),(12,.own 8)]),.dead,.dead,.dead,.dead,.row 54 82 (p_b0.aQ.aP.map ay.lf),.row 3 1 (p_b0.aQ.fNext.map lfI),.row 3 1 (p_b0.aQ.bg.map lfI),.row 63 9 (p_b0.dB.map ah.lf)],.gd 10008 false,.both [.num p_x.aN.length] [.num p_x.aN.length]]] [4] 10 [(4,.lf (.bool (decide ((16384:Int) < (IntKind.wrap .i64 (p_x.aW + (p_x.aN.length:Int)))))))] [.box 97 (ag_ (aI.lf1 p_b0) [(8,.own 6),(10,.own 7),(11,.own 8),(12,.own 9)]),.dead,.dead,.dead,.dead,.box 63 (.dat (ah.lf1 p_x)),.row 54 82 (p_b0.aQ.aP.map ay.lf),.row 3 1 (p_b0.aQ.fNext.map lfI),.row 3 1 (p_b0.aQ.bg.map lfI),.row 63 9 (p_b0.dB.map ah.lf)]] (okc c0 (okc (ln_ p_x.aN ay.lf) (okc (rf_ ⟨[(4,.lf (.bool (decide ((16384:Int) < (IntKind.wrap .i64 (p_x.aW + (p_x.aN.length:Int)))))))],[.box 97 (ag_ (aI.lf1 p_b0) [(8,.own 6),(10,.own 7),(11,.own 8),(12,.own 9)]),.dead,.dead,.dead,.dead,.box 63 (.dat (ah.lf1 p_x)),.row 54 82 (p_b0.aQ.aP.map ay.lf),.row 3 1 (p_b0.aQ.fNext.map lfI),.row 3 1 (p_b0.aQ.bg.map lfI),.row 63 9 (p_b0.dB.map ah.lf)]⟩) (okc (ln_ p_x.aN ay.lf) (okc (rf_ ⟨[(4,.lf (.bool (decide ((16384:Int) < (IntKind.wrap .i64 (p_x.aW + (p_x.aN.length:Int)))))))],[.box 97 (ag_ (aI.lf1 p_b0) [(8,.own 6),(10,.own 7),(11,.own 8),(12,.own 9)]),.dead,.dead,.dead,.dead,.box 63 (.dat (ah.lf1 p_x)),.row 54 82 (p_b0.aQ.aP.map ay.lf),.row 3 1 (p_b0.aQ.fNext.map lfI),.row 3 1 (p_b0.aQ.bg.map lfI),.row 63 9 (p_b0.dB.map ah.lf)]⟩) (okc (NU _ _ _ h0) (okc c0 (okc (ln_ p_x.aN ay.lf) (okc (rf_ ⟨[(4,.lf (.bool (decide ((16384:Int) < (IntKind.wrap .i64 (p_x.aW + (p_x.aN.length:Int)))))))],[.box 97 (ag_ (aI.lf1 p_b0) [(8,.own 6),(10,.own 7),(11,.own 8),(12,.own 9)]),.dead,.dead,.dead,.dead,.box 63 (.dat (ah.lf1 p_x)),.row 54 82 (p_b0.aQ.aP.map ay.lf),.row 3 1 (p_b0.aQ.fNext.map lfI),.row 3 1 (p_b0.aQ.bg.map lfI),.row 63 9 (p_b0.dB.map ah.lf)]⟩) (okc (ln_ p_x.aN ay.lf) (ok1 (rf_ ⟨[(4,.lf (.bool (decide ((16384:Int) < (IntKind.wrap .i64 (p_x.aW + (p_x.aN.length:Int)))))))],[.box 97 (ag_ (aI.lf1 p_b0) [(8,.own 6),(10,.own 7),(11,.own 8),(12,.own 9)]),.dead,.dead,.dead,.dead,.box 63 (.dat (ah.lf1 p_x)),.row 54 82 (p_b0.aQ.aP.map ay.lf),.row 3 1 (p_b0.aQ.fNext.map lfI),.row 3 1 (p_b0.aQ.bg.map lfI),.row 63 9 (p_b0.dB.map ah.lf)]⟩)))))))))))) <|
 .ret ⟨[.kill 5,.mvn 6,.mvn 7,.mvn 8,.mvn 9],[0],[(10,5),(11,6),(12,7),(13,8)],9⟩ (decide ((16384:Int) < (IntKind.wrap .i64 (p_x.aW + (p_x.aN.length:Int)))))
def alC (p_x:ah) (p_b0:aI) : Option (Bool) := Mo.den (aeW p_x p_b0)
theorem ahS (p_x:ah) (p_b0:aI) : FH (alC p_x p_b0) 82 [.ptr 0 0,.dat (ah.lf1 p_x)] [.box 97 (ag_ (aI.lf1 p_b0) [(8,.own 1),(10,.own 2),(11,.own 3),(12,.own 4)]),.row 54 82 (p_b0.aQ.aP.map ay.lf),.row 3 1 (p_b0.aQ.fNext.map lfI),.row 3 1 (p_b0.aQ.bg.map lfI),.row 63 9 (p_b0.dB.map ah.lf)] (fun r=>.b_ r) (fun _=>[.box 97 (ag_ (aI.lf1 p_b0) [(8,.own 5),(10,.own 6),(11,.own 7),(12,.own 8)]),.dead,.dead,.dead,.dead,.row 54 82 (p_b0.aQ.aP.map ay.lf),.row 3 1 (p_b0.aQ.fNext.map lfI),.row 3 1 (p_b0.aQ.bg.map lfI),.row 63 9 (p_b0.dB.map ah.lf)]) := gX Tryz.func82 (by kernel_rfl) (fun _=>rfl) (by kernel_rfl)
structure BD where
 m1:(p_v:ak) → Option (ak)
 ok1:∀ p_v,FV (m1 p_v) 186 [.dat (ak.lf1 p_v)] (fun r=>.dat (ak.lf1 r))
 m2:(p_l:List ak) → Option (List ak)
 ok2:∀ p_l,FH (m2 p_l) 228 [.lf (.rows 5 (p_l.map ak.lf)),.raw (.func (.func 186) #[] #[])] [] (fun r=>.lf (.rows 5 (r.map ak.lf))) (fun _=>[])
 m3:(p_l:List aT) → Option (List aT)
 ok3:∀ p_l,FH (m3 p_l) 229 [.lf (.rows 6 (p_l.map aT.lf)),.raw (.func (.func 230) #[] #[])] [] (fun r=>.lf (.rows 6 (r.map aT.lf))) (fun _=>[])
 m4:(p_f:aT) → Option (aT)
 ok4:∀ p_f,FV (m4 p_f) 230 [.dat (aT.lf1 p_f)] (fun r=>.dat (aT.lf1 r))
def Xx (R_:BD) (p_v:ak) : Mo (ak) :=
 .cH [] (R_.ok2 p_v.bY) fun r0 _ =>
 .cH [] (R_.ok3 p_v.bV) fun r1 _ =>
 .ret (bD 1) (ak.mk p_v.aU p_v.jU p_v.fText r0 r1)
theorem aeX (R_:BD) (p_v:ak) : FV (Mo.den (Xx R_ p_v)) 186 [.dat (ak.lf1 p_v)] (fun r=>.dat (ak.lf1 r)) := bZ Tryz.func186 (by kernel_rfl) (fun _=>rfl) (by kernel_rfl)
def UO (R_:BD) (p_l:List ak) : (Int × (List ak)) → Mo ((Int × (List ak)) ⊕ ((List ak))) := fun (v0,l0) =>
 .iB (decide ((v0:Int) < (p_l.length:Int))) (.ask (bP p_l v0) fun x0 h0 =>
 .say [.row (ak.lf1 x0)] (ok1 (aX ak.aZ h0)) <|
 .cl (R_.ok1 x0) fun r0 _ =>
 .ask (bP l0 v0) fun x1 h1 =>
 .say [.row (ak.lf1 x1),.rows ((l0.set v0.toNat r0).map ak.lf)] (okc (cO ak.aZ h1) (okc (st_ ak.aZ l0 v0.toNat r0) (ok1 ((aX ak.aZ h1).2)))) <|
 .rt [1,5,14,15,16] 1 (.inl (IntKind.wrap .i64 (v0 + 1),l0.set v0.toNat r0))) <|
 .rt [5] 1 (.inr (l0))
def aeY (R_:BD) (p_l:List ak) (v0:Int) (l0:List ak) : Option (((List ak))) := bM (fun v_=>(UO R_ p_l v_).den) FU (v0,l0)
def aeZ (R_:BD) (p_l:List ak) : Mo (List ak) :=
 .say [.num p_l.length] (ok1 (ln_ p_l ak.lf)) <|
 .ite ((p_l.length:Int) == 0) (fun c0 =>
 .say [.br true] (ok1 c0) <|
 .ret ⟨[.nil 0 5,.tod 0],[0],[],0⟩ ([])) fun c0 =>
 .say [.br false,.num p_l.length,.rows ((List.replicate (p_l.length:Int).toNat (ak.mk 0 0 ⟨#[]⟩ [] [])).map ak.lf),.num p_l.length] (okc c0 (okc (ln_ p_l ak.lf) (ok1 (rp_ ak.aZ (p_l.length:Int).toNat (ak.mk 0 0 ⟨#[]⟩ [] []))))) <|
 .grd ((0:Int) ≤ (p_l.length:Int) ∧ 80 * (p_l.length:Int).toNat ≤ 281474976710656 ∧ (p_l.length:Int).toNat ≤ maxLen) fun h0 =>
 .say [] (okc (mk_ (p_l.length:Int) h0) (ok1 (ln_ p_l ak.lf))) <|
 .lp Tryz.f228 0 [1,1,1,0,1,0] 0 [1,5,14,15,16] 1 (.exit 0) (fun r_=>⟨[(5,.own 0)],[.row 29 5 (r_.map ak.lf)]⟩) (aeY R_ p_l 0 (List.replicate (p_l.length:Int).toNat (ak.mk 0 0 ⟨#[]⟩ [] []))) (lW (fun (v0,l0)=>⟨[(1,.raw (.func (.func 186) #[] #[])),(5,.own 0),(14,.lf (.rows 5 (p_l.map ak.lf))),(15,.i_ (p_l.length:Int)),(16,.i_ v0)],[.row 29 5 (l0.map ak.lf)]⟩) (by kernel_rfl) rfl fun v_=>by kernel_rfl) fun r0 _ =>
 .ret ⟨[.frz 0],[0],[],0⟩ (r0)
theorem ahT (R_:BD) (p_l:List ak) : FH (Mo.den (aeZ R_ p_l)) 228 [.lf (.rows 5 (p_l.map ak.lf)),.raw (.func (.func 186) #[] #[])] [] (fun r=>.lf (.rows 5 (r.map ak.lf))) (fun _=>[]) := gX Tryz.func228 (by kernel_rfl) (fun _=>rfl) (by kernel_rfl)
def KG (R_:BD) (p_l:List aT) : (Int × (List aT)) → Mo ((Int × (List aT)) ⊕ ((List aT))) := fun (v0,l0) =>
 .iB (decide ((v0:Int) < (p_l.length:Int))) (.ask (bP p_l v0) fun x0 h0 =>
 .say [.row (aT.lf1 x0)] (ok1 (aX aT.aZ h0)) <|
 .cl (R_.ok4 x0) fun r0 _ =>
 .ask (bP l0 v0) fun x1 h1 =>
 .say [.row (aT.lf1 x1),.rows ((l0.set v0.toNat r0).map aT.lf)] (okc (cO aT.aZ h1) (okc (st_ aT.aZ l0 v0.toNat r0) (ok1 ((aX aT.aZ h1).2)))) <|
 .rt [1,5,14,15,16] 1 (.inl (IntKind.wrap .i64 (v0 + 1),l0.set v0.toNat r0))) <|
 .rt [5] 1 (.inr (l0))
def Zz (R_:BD) (p_l:List aT) (v0:Int) (l0:List aT) : Option (((List aT))) := bM (fun v_=>(KG R_ p_l v_).den) FU (v0,l0)
def Xy (R_:BD) (p_l:List aT) : Mo (List aT) :=
 .say [.num p_l.length] (ok1 (ln_ p_l aT.lf)) <|
 .ite ((p_l.length:Int) == 0) (fun c0 =>
 .say [.br true] (ok1 c0) <|
 .ret ⟨[.nil 0 6,.tod 0],[0],[],0⟩ ([])) fun c0 =>
 .say [.br false,.num p_l.length,.rows ((List.replicate (p_l.length:Int).toNat (aT.mk ⟨#[]⟩ (ak.mk 0 0 ⟨#[]⟩ [] []))).map aT.lf),.num p_l.length] (okc c0 (okc (ln_ p_l aT.lf) (ok1 (rp_ aT.aZ (p_l.length:Int).toNat (aT.mk ⟨#[]⟩ (ak.mk 0 0 ⟨#[]⟩ [] [])))))) <|
 .grd ((0:Int) ≤ (p_l.length:Int) ∧ 96 * (p_l.length:Int).toNat ≤ 281474976710656 ∧ (p_l.length:Int).toNat ≤ maxLen) fun h0 =>
 .say [] (okc (mk_ (p_l.length:Int) h0) (ok1 (ln_ p_l aT.lf))) <|
 .lp Tryz.f229 0 [1,1,1,0,1,0] 0 [1,5,14,15,16] 1 (.exit 0) (fun r_=>⟨[(5,.own 0)],[.row 174 6 (r_.map aT.lf)]⟩) (Zz R_ p_l 0 (List.replicate (p_l.length:Int).toNat (aT.mk ⟨#[]⟩ (ak.mk 0 0 ⟨#[]⟩ [] [])))) (lW (fun (v0,l0)=>⟨[(1,.raw (.func (.func 230) #[] #[])),(5,.own 0),(14,.lf (.rows 6 (p_l.map aT.lf))),(15,.i_ (p_l.length:Int)),(16,.i_ v0)],[.row 174 6 (l0.map aT.lf)]⟩) (by kernel_rfl) rfl fun v_=>by kernel_rfl) fun r0 _ =>
 .ret ⟨[.frz 0],[0],[],0⟩ (r0)
theorem ae0 (R_:BD) (p_l:List aT) : FH (Mo.den (Xy R_ p_l)) 229 [.lf (.rows 6 (p_l.map aT.lf)),.raw (.func (.func 230) #[] #[])] [] (fun r=>.lf (.rows 6 (r.map aT.lf))) (fun _=>[]) := gX Tryz.func229 (by kernel_rfl) (fun _=>rfl) (by kernel_rfl)
def Xz (R_:BD) (p_f:aT) : Mo (aT) :=
 .say [.order [(true,0),(true,1),(true,2),(true,3),(false,4),(true,5),(false,6)] (some 6) []] ok0 <|
 .cl (R_.ok1 p_f.fValue) fun r0 _ =>
 .ret (bD 1) (aT.mk p_f.fName r0)
theorem ae1 (R_:BD) (p_f:aT) : FV (Mo.den (Xz R_ p_f)) 230 [.dat (aT.lf1 p_f)] (fun r=>.dat (aT.lf1 r)) := bZ Tryz.func230 (by kernel_rfl) (fun _=>rfl) (by kernel_rfl)
def iF:Nat → BD
 | 0=>{ m1 := fun p_v=>none,ok1 := fun _ _ h=>(by cases h),m2 := fun p_l=>none,ok2 := fun _ _ h=>(by cases h),m3 := fun p_l=>none,ok3 := fun _ _ h=>(by cases h),m4 := fun p_f=>none,ok4 := fun _ _ h=>(by cases h) }
 | n_ + 1=>{ m1 := fun p_v=>Mo.den (Xx (iF n_) p_v),ok1 := fun p_v r h=>aeX (iF n_) p_v r h,m2 := fun p_l=>Mo.den (aeZ (iF n_) p_l),ok2 := fun p_l r h=>ahT (iF n_) p_l r h,m3 := fun p_l=>Mo.den (Xy (iF n_) p_l),ok3 := fun p_l r h=>ae0 (iF n_) p_l r h,m4 := fun p_f=>Mo.den (Xz (iF n_) p_f),ok4 := ae1 (iF n_) }
def ana (p_v:ak) : Option (ak) := (iF FU).m1 p_v
theorem qg (p_v:ak) : FV (ana p_v) 186 [.dat (ak.lf1 p_v)] (fun r=>.dat (ak.lf1 r)) := (iF FU).ok1 p_v
def Q73 (p_l:List ak) : Option (List ak) := (iF FU).m2 p_l
theorem ae2 (p_l:List ak) : FH (Q73 p_l) 228 [.lf (.rows 5 (p_l.map ak.lf)),.raw (.func (.func 186) #[] #[])] [] (fun r=>.lf (.rows 5 (r.map ak.lf))) (fun _=>[]) := (iF FU).ok2 p_l
def ae3 (p_l:List ByteArray) : Mo (List ByteArray) :=
 .say [.rows (p_l.map lfS),.at_ 0 0,.frz 0] (ok1 (by simp [lfS] : p_l.map lfS = [] ++ (p_l.map lfS))) <|
 .grd ((([] : List ByteArray).length + p_l.length) * 16 ≤ 140737488355328) fun h0 =>
 .say [] (ok1 (cq_ lfS h0)) <|
 .ret (bD 1) (p_l)
def alD (p_l:List ByteArray) : Option (List ByteArray) := Mo.den (ae3 p_l)
theorem zx (p_l:List ByteArray) : FV (alD p_l) 282 [.lf (.rows 1 (p_l.map lfS))] (fun r=>.lf (.rows 1 (r.map lfS))) := bZ Tryz.func282 (by kernel_rfl) (fun _=>rfl) (by kernel_rfl)
def ae4 (p_o:bn) : Mo (bn) :=
 .cl (zx p_o.dA) fun r0 _ =>
 .ret (bD 1) (bn.mk r0 p_o.IJ)
def ahU (p_o:bn) : Option (bn) := Mo.den (ae4 p_o)
theorem ahV (p_o:bn) : FV (ahU p_o) 234 [.dat (bn.lf1 p_o)] (fun r=>.dat (bn.lf1 r)) := bZ Tryz.func234 (by kernel_rfl) (fun _=>rfl) (by kernel_rfl)
def UQ (p_l:List bn) : (Int × (List bn)) → Mo ((Int × (List bn)) ⊕ ((List bn))) := fun (v0,l0) =>
 .iB (decide ((v0:Int) < (p_l.length:Int))) (.ask (bP p_l v0) fun x0 h0 =>
 .say [.row (bn.lf1 x0)] (ok1 (aX bn.aZ h0)) <|
 .cl (ahV x0) fun r0 _ =>
 .ask (bP l0 v0) fun x1 h1 =>
 .say [.row (bn.lf1 x1),.rows ((l0.set v0.toNat r0).map bn.lf)] (okc (cO bn.aZ h1) (okc (st_ bn.aZ l0 v0.toNat r0) (ok1 ((aX bn.aZ h1).2)))) <|
 .rt [1,5,14,15,16] 1 (.inl (IntKind.wrap .i64 (v0 + 1),l0.set v0.toNat r0))) <|
 .rt [5] 1 (.inr (l0))
def ae5 (p_l:List bn) (v0:Int) (l0:List bn) : Option (((List bn))) := bM (fun v_=>(UQ p_l v_).den) FU (v0,l0)
def ajw (p_l:List bn) : Mo (List bn) :=
 .say [.num p_l.length] (ok1 (ln_ p_l bn.lf)) <|
 .ite ((p_l.length:Int) == 0) (fun c0 =>
 .say [.br true] (okc c0 (ok1 (by simp [bn.aZ] : (([] : List bn).map bn.lf) = []))) <|
 .ret ⟨[.Hr 0 152 2,.kE 0 (([] : List bn).map bn.lf),.mvn 0],[0],[(1,0)],1⟩ (([] : List bn))) fun c0 =>
 .say [.br false,.num p_l.length,.rows ((List.replicate (p_l.length:Int).toNat (bn.mk [] false)).map bn.lf),.num p_l.length] (okc c0 (okc (ln_ p_l bn.lf) (ok1 (rp_ bn.aZ (p_l.length:Int).toNat (bn.mk [] false))))) <|
 .grd ((0:Int) ≤ (p_l.length:Int) ∧ 32 * (p_l.length:Int).toNat ≤ 281474976710656 ∧ (p_l.length:Int).toNat ≤ maxLen) fun h0 =>
 .say [] (okc (mk_ (p_l.length:Int) h0) (ok1 (ln_ p_l bn.lf))) <|
 .lp Tryz.f233 0 [1,1,1,0,1,0] 0 [1,5,14,15,16] 1 (.exit 0) (fun r_=>⟨[(5,.own 0)],[.row 152 2 (r_.map bn.lf)]⟩) (ae5 p_l 0 (List.replicate (p_l.length:Int).toNat (bn.mk [] false))) (lW (fun (v0,l0)=>⟨[(1,.raw (.func (.func 234) #[] #[])),(5,.own 0),(14,.lf (.rows 2 (p_l.map bn.lf))),(15,.i_ (p_l.length:Int)),(16,.i_ v0)],[.row 152 2 (l0.map bn.lf)]⟩) (by kernel_rfl) rfl fun v_=>by kernel_rfl) fun r0 _ =>
 .ret ⟨[.mvn 0],[0],[(1,0)],1⟩ (r0)
def Q91 (p_l:List bn) : Option (List bn) := Mo.den (ajw p_l)
theorem alE (p_l:List bn) : FH (Q91 p_l) 233 [.lf (.rows 2 (p_l.map bn.lf)),.raw (.func (.func 234) #[] #[])] [] (fun _=>.own 0) (fun r=>[.row 152 2 (r.map bn.lf)]) := gX Tryz.func233 (by kernel_rfl) (fun _=>rfl) (by kernel_rfl)
structure XA where
 m1:(p_e:aH) → Option (aH)
 ok1:∀ p_e,FV (m1 p_e) 286 [.dat (aH.lf1 p_e)] (fun r=>.dat (aH.lf1 r))
 m2:(p_l:List aH) → Option (List aH)
 ok2:∀ p_l,FH (m2 p_l) 318 [.lf (.rows 11 (p_l.map aH.lf)),.raw (.func (.func 286) #[] #[])] [] (fun r=>.lf (.rows 11 (r.map aH.lf))) (fun _=>[])
def XB (R_:XA) (p_e:aH) : Mo (aH) :=
 .cl (zx p_e.dA) fun r0 _ =>
 .cl (zx p_e.bT) fun r1 _ =>
 .cl (qg p_e.fArg) fun r2 _ =>
 .cH [] (R_.ok2 p_e.bC) fun r3 _ =>
 .ret (bD 1) (aH.mk p_e.fOp r0 p_e.fName r1 r2 p_e.fN r3)
theorem ae6 (R_:XA) (p_e:aH) : FV (Mo.den (XB R_ p_e)) 286 [.dat (aH.lf1 p_e)] (fun r=>.dat (aH.lf1 r)) := bZ Tryz.func286 (by kernel_rfl) (fun _=>rfl) (by kernel_rfl)
def KH (R_:XA) (p_l:List aH) : (Int × (List aH)) → Mo ((Int × (List aH)) ⊕ ((List aH))) := fun (v0,l0) =>
 .iB (decide ((v0:Int) < (p_l.length:Int))) (.ask (bP p_l v0) fun x0 h0 =>
 .say [.row (aH.lf1 x0)] (ok1 (aX aH.aZ h0)) <|
 .cl (R_.ok1 x0) fun r0 _ =>
 .ask (bP l0 v0) fun x1 h1 =>
 .say [.row (aH.lf1 x1),.rows ((l0.set v0.toNat r0).map aH.lf)] (okc (cO aH.aZ h1) (okc (st_ aH.aZ l0 v0.toNat r0) (ok1 ((aX aH.aZ h1).2)))) <|
 .rt [1,5,14,15,16] 1 (.inl (IntKind.wrap .i64 (v0 + 1),l0.set v0.toNat r0))) <|
 .rt [5] 1 (.inr (l0))
def ZA (R_:XA) (p_l:List aH) (v0:Int) (l0:List aH) : Option (((List aH))) := bM (fun v_=>(KH R_ p_l v_).den) FU (v0,l0)
def XC (R_:XA) (p_l:List aH) : Mo (List aH) :=
 .say [.num p_l.length] (ok1 (ln_ p_l aH.lf)) <|
 .ite ((p_l.length:Int) == 0) (fun c0 =>
 .say [.br true] (ok1 c0) <|
 .ret ⟨[.nil 0 11,.tod 0],[0],[],0⟩ ([])) fun c0 =>
 .say [.br false,.num p_l.length,.rows ((List.replicate (p_l.length:Int).toNat aH.z).map aH.lf),.num p_l.length] (okc c0 (okc (ln_ p_l aH.lf) (ok1 (rp_ aH.aZ (p_l.length:Int).toNat aH.z)))) <|
 .grd ((0:Int) ≤ (p_l.length:Int) ∧ 184 * (p_l.length:Int).toNat ≤ 281474976710656 ∧ (p_l.length:Int).toNat ≤ maxLen) fun h0 =>
 .say [] (okc (mk_ (p_l.length:Int) h0) (ok1 (ln_ p_l aH.lf))) <|
 .lp Tryz.f318 0 [1,1,1,0,1,0] 0 [1,5,14,15,16] 1 (.exit 0) (fun r_=>⟨[(5,.own 0)],[.row 44 11 (r_.map aH.lf)]⟩) (ZA R_ p_l 0 (List.replicate (p_l.length:Int).toNat aH.z)) (lW (fun (v0,l0)=>⟨[(1,.raw (.func (.func 286) #[] #[])),(5,.own 0),(14,.lf (.rows 11 (p_l.map aH.lf))),(15,.i_ (p_l.length:Int)),(16,.i_ v0)],[.row 44 11 (l0.map aH.lf)]⟩) (by kernel_rfl) rfl fun v_=>by kernel_rfl) fun r0 _ =>
 .ret ⟨[.frz 0],[0],[],0⟩ (r0)
theorem ae7 (R_:XA) (p_l:List aH) : FH (Mo.den (XC R_ p_l)) 318 [.lf (.rows 11 (p_l.map aH.lf)),.raw (.func (.func 286) #[] #[])] [] (fun r=>.lf (.rows 11 (r.map aH.lf))) (fun _=>[]) := gX Tryz.func318 (by kernel_rfl) (fun _=>rfl) (by kernel_rfl)
def mD:Nat → XA
 | 0=>{ m1 := fun p_e=>none,ok1 := fun _ _ h=>(by cases h),m2 := fun p_l=>none,ok2 := fun _ _ h=>(by cases h) }
 | n_ + 1=>{ m1 := fun p_e=>Mo.den (XB (mD n_) p_e),ok1 := fun p_e r h=>ae6 (mD n_) p_e r h,m2 := fun p_l=>Mo.den (XC (mD n_) p_l),ok2 := ae7 (mD n_) }
def anb (p_e:aH) : Option (aH) := (mD FU).m1 p_e
theorem ahW (p_e:aH) : FV (anb p_e) 286 [.dat (aH.lf1 p_e)] (fun r=>.dat (aH.lf1 r)) := (mD FU).ok1 p_e
end
end Go.Proofs.YtdnafbfmaphhhaaGreatDoor
