/- The effects of the program's dialects in plain words: what each does to a cell's working out. No program in sight. -/
import Derived.Test.YtappnglfmidjoaaGreatSt
set_option linter.unusedVariables false
namespace Go.Proofs.YtappnglfmidjoaaGreat.DB
open Go Go.RowKit
namespace St
def fParam (kind : Int) (S : St) : St := S.ask kind S.p 0
def fBoth (kind : Int) (S : St) : St := S.ask kind S.h S.l
def fWave (kind : Int) (S : St) : St := S.ask kind (S.l.tmod 4) 0
def fLowHalf (kind : Int) (S : St) : St := S.ask kind S.l 0
def fDoubled (kind most : Int) (S : St) : St := S.ask kind (wrap64 (2 * min S.p most)) 0
def fUnless0 (E : St → St) (S : St) : St := if S.p = 0 then S else E S
def fWholly (k : Int) (E : St → St) (S : St) : St := E (S.whole k)
def fHalved (k : Int) (E : St → St) (S : St) : St := E (S.halves k)
def fLowly (k : Int) (E : St → St) (S : St) : St := E (S.low k)
def fUpTo (most : Int) (E : St → St) (S : St) : St := if S.p ≤ most then E S else S
def fExtra (k kind : Int) (S : St) : St := (S.low k).ask kind (S.low k).l 0
def fByHigh (M : Int → Option (St → St)) (S : St) : St := match M S.h with | some E => E S | none => S
def fRecalled (k : Int) (S : St) : St := S.ask 9 (wrap64 ((S.slot k).tdiv 16)) ((S.slot k).tmod 16)
def fRetrig (S : St) : St := S.ask 19 S.l S.h
def fPanSlide (S : St) : St := S.ask 17 S.l S.h
def fFive (S : St) : St := (S.ask 8 (S.slot 1) 0).ask 12 S.h S.l
def fSix (S : St) : St := (S.fRecalled 2).ask 12 S.h S.l
def fPanOf (x : Int) (S : St) : St := S.ask 16 (wrap64 (x + wrap64 (x.tdiv 128))) 0
def fPan (S : St) : St := S.fPanOf S.p
def fPanLow (S : St) : St := S.fPanOf (wrap64 (17 * S.l))
def fOffset (S : St) : St := S.ask 18 (wrap64 (256 * S.p)) 0
def fVolume (S : St) : St := S.ask 15 (min S.p 64) 0
def fGliss (S : St) : St := S.ask 24 (min S.l 1) 0
def fDecimal (S : St) : St := S.ask 33 (wrap64 (wrap64 (10 * S.h) + S.l)) 0
def fSpeedOrTempo (S : St) : St := if S.p < 32 then S.ask 36 S.p 0 else S.ask 37 S.p 0
def fScreamFine (S : St) : St := S.ask 27 (wrap64 (8 * wrap64 (S.l - 8))) 0
def fDown (S : St) : St := S.bend 5 7 3
def fUp (S : St) : St := S.bend 4 6 2
def fTremor (S : St) : St := S.ask 20 (wrap64 (S.h + 1)) (wrap64 (S.l + 1))
def fVibratoSlide (S : St) : St := (S.fRecalled 3).slide
def fToneSlide (S : St) : St := (S.ask 8 (S.slot 2) 0).slide
def fTempoFrom32 (S : St) : St := if S.p < 32 then S else S.ask 37 S.p 0
def fTempo (S : St) : St := if S.p < 16 then S.ask 38 (wrap64 (-S.l)) 0 else if S.p < 32 then S.ask 38 S.l 0 else S.ask 37 S.p 0
def fFilter (S : St) : St := if S.p < 128 then S.ask 42 S.p 0 else if S.p < 144 then S.ask 43 (8 * (S.p - 128)) 0 else S
def fNoise (S : St) : St := S.ask 47 (S.p.tmod 32) 0
def fShape (S : St) : St := S.ask 48 (S.p.tmod 16) 0
def fFine (S : St) : St := if S.l < 8 then S.ask 27 (wrap64 (8 * S.l)) 0 else S.ask 27 (wrap64 (8 * wrap64 (S.l - 16))) 0
def fPast (S : St) : St := if S.l ≤ 2 then S.ask 41 S.l 0 else if S.l ≤ 6 then S.ask 40 (S.l - 3) 0 else S
def fSurround (S : St) : St := if S.l ≤ 1 then S.ask 44 S.l 0 else if S.l = 15 then S.ask 45 1 0 else S
end St
end Go.Proofs.YtappnglfmidjoaaGreat.DB
