/- PRINTED BY plain.py (mine): what the law's own helpers compute. -/
import Derived.Test.YtniibgdokfnomaaGreatAvPl
import Derived.Test.YtniibgdokfnomaaGreatAvShIsRecorded
namespace Go.Proofs
open Go Go.Av
set_option maxRecDepth 100000
set_option maxHeartbeats 40000000
set_option linter.unusedVariables false
set_option linter.unusedSimpArgs false
namespace Lw
theorem p_szGrid {N:Nat} (hN:67108864<N) (x:Gx.Grid) (hok:x.ok) {left:Int} (h0:0≤left) (h1:left≤1048576):l_szGrid N x left=some (szF x.size left):=by
 unfold l_szGrid Gx.Grid.size
 unfold Gx.Grid.ok at hok
 obtain ⟨q0,q1,q2⟩:=hok
 exact sz_len h0 h1 q2

theorem p_toGrid {N:Nat} (hN:67108864<N) (x:Gx.Grid) (h:x.size≤1048576):l_toGrid N x=some x:=by
 unfold l_toGrid
 all_goals rfl

theorem p_eqGrid {N:Nat} (hN:67108864<N) (x y:Gx.Grid) (h:x.size≤4194304):l_eqGrid N x y=some (decide (x=y)):=by
 unfold l_eqGrid
 unfold Gx.Grid.size at h
 refine eq_fld (fun h e=>h (by rw [e])) (fun e0=>?_)
 refine eq_fld (fun h e=>h (by rw [e])) (fun e1=>?_)
 refine eq_fld (fun h e=>h (by rw [e])) (fun e2=>?_)
 have:x=y:=by cases x;cases y;simp_all
 rw [decide_eq_true this]

theorem p_szStep {N:Nat} (hN:67108864<N) (x:Gx.Step) (hok:x.ok) {left:Int} (h0:0≤left) (h1:left≤1048576):l_szStep N x left=some (szF x.size left):=by
 unfold l_szStep Gx.Step.size
 unfold Gx.Step.ok at hok
 obtain ⟨q0,q1,q2,q3⟩:=hok
 exact sz_len h0 h1 q1

theorem p_szStepS {N:Nat} (hN:67108864<N) (l:List (Gx.Step)) (hl:l.length≤9223372036854775807) (hok:∀e∈l,e.ok) {left:Int} (h0:0≤left) (h1:left≤1048576):l_szStepS N l left=some (szF (l.length+(l.map (fun e:Gx.Step=>e.size)).sum) left):=by
 unfold l_szStepS
 refine sz_seq2 h0 h1 hl fun d g e w=>?_
 rw [w]
 have f:=szF_nn e g h1
 refine sz_loop (l:=l) (N:=N) (f:=(fun e:Gx.Step=>e.size)) (fun p=>rfl) (fun x hx c c0 c1=>?_) g f.1 (by omega) (by omega)
 rw [p_szStep hN x (hok x hx) c0 c1]
 exact sz_ok

theorem p_szClue {N:Nat} (hN:67108864<N) (x:Gx.Clue) (hok:x.ok) {left:Int} (h0:0≤left) (h1:left≤1048576):l_szClue N x left=some (szF x.size left):=by
 unfold l_szClue Gx.Clue.size
 unfold Gx.Clue.ok at hok
 obtain ⟨q0,q1,q2⟩:=hok
 (repeat rw [Nat.add_assoc])
 rw [p_szStepS hN x.mPlay q1 q2 h0 h1]
 exact sz_end

theorem p_szClueS {N:Nat} (hN:67108864<N) (l:List (Gx.Clue)) (hl:l.length≤9223372036854775807) (hok:∀e∈l,e.ok) {left:Int} (h0:0≤left) (h1:left≤1048576):l_szClueS N l left=some (szF (l.length+(l.map (fun e:Gx.Clue=>e.size)).sum) left):=by
 unfold l_szClueS
 refine sz_seq2 h0 h1 hl fun d g e w=>?_
 rw [w]
 have f:=szF_nn e g h1
 refine sz_loop (l:=l) (N:=N) (f:=(fun e:Gx.Clue=>e.size)) (fun p=>rfl) (fun x hx c c0 c1=>?_) g f.1 (by omega) (by omega)
 rw [p_szClue hN x (hok x hx) c0 c1]
 exact sz_ok

theorem p_szDraft {N:Nat} (hN:67108864<N) (x:Gx.Draft) (hok:x.ok) {left:Int} (h0:0≤left) (h1:left≤1048576):l_szDraft N x left=some (szF x.size left):=by
 unfold l_szDraft Gx.Draft.size
 unfold Gx.Draft.ok at hok
 obtain ⟨q0,q1,q2,q3,q4⟩:=hok
 (repeat rw [Nat.add_assoc])
 rw [p_szGrid hN x.mGrid q0 h0 h1]
 refine sz_seq h0 fun d0 g0 e0=>?_
 have f0:=(szF_nn e0 g0 h1).1
 refine sz_seq2 g0 f0 q1 fun d1 g1 e1 w1=>?_
 rw [w1]
 have f1:=(szF_nn e1 g1 f0).1
 rw [p_szClueS hN x.mClues q2 q3 g1 f1]
 exact sz_end

theorem p_toStep {N:Nat} (hN:67108864<N) (x:Gx.Step) (h:x.size≤1048576):l_toStep N x=some x:=by
 unfold l_toStep
 all_goals rfl

theorem p_toStepS {N:Nat} (hN:67108864<N) (l:List (Gx.Step)) (h:l.length+(l.map (fun e:Gx.Step=>e.size)).sum≤1048576):l_toStepS N l=some l:=by
 unfold l_toStepS
 rw [chk_pos ⟨by omega,by omega⟩,copy_loop (l:=l) (N:=N) (step:=l_toStepS_L1 N l) (to:=l_toStep N) (fun p=>rfl) (fun x hx=>p_toStep hN x (by have:=mem_sum (fun e:Gx.Step=>e.size) hx;(try dsimp only at this);omega)) (by omega) (by omega)]
 rfl

theorem p_toClue {N:Nat} (hN:67108864<N) (x:Gx.Clue) (h:x.size≤1048576):l_toClue N x=some x:=by
 unfold l_toClue
 unfold Gx.Clue.size at h
 rw [p_toStepS hN x.mPlay (by omega),bnd_mk]
 all_goals rfl

theorem p_toClueS {N:Nat} (hN:67108864<N) (l:List (Gx.Clue)) (h:l.length+(l.map (fun e:Gx.Clue=>e.size)).sum≤1048576):l_toClueS N l=some l:=by
 unfold l_toClueS
 rw [chk_pos ⟨by omega,by omega⟩,copy_loop (l:=l) (N:=N) (step:=l_toClueS_L1 N l) (to:=l_toClue N) (fun p=>rfl) (fun x hx=>p_toClue hN x (by have:=mem_sum (fun e:Gx.Clue=>e.size) hx;(try dsimp only at this);omega)) (by omega) (by omega)]
 rfl

theorem p_toDraft {N:Nat} (hN:67108864<N) (x:Gx.Draft) (h:x.size≤1048576):l_toDraft N x=some x:=by
 unfold l_toDraft
 unfold Gx.Draft.size at h
 rw [p_toGrid hN x.mGrid (by omega),bnd_mk]
 rw [p_toClueS hN x.mClues (by omega),bnd_mk]
 all_goals rfl

theorem p_eqStep {N:Nat} (hN:67108864<N) (x y:Gx.Step) (h:x.size≤4194304):l_eqStep N x y=some (decide (x=y)):=by
 unfold l_eqStep
 unfold Gx.Step.size at h
 refine eq_fld (fun h e=>h (by rw [e])) (fun e0=>?_)
 refine eq_fld (fun h e=>h (by rw [e])) (fun e1=>?_)
 refine eq_fld (fun h e=>h (by rw [e])) (fun e2=>?_)
 refine eq_fld (fun h e=>h (by rw [e])) (fun e3=>?_)
 have:x=y:=by cases x;cases y;simp_all
 rw [decide_eq_true this]

theorem p_eqStepS {N:Nat} (hN:67108864<N) (l m:List (Gx.Step)) (h:l.length+(l.map (fun e:Gx.Step=>e.size)).sum≤4194304):l_eqStepS N l m=some (decide (l=m)):=by
 unfold l_eqStepS
 refine eq_fld (fun h e=>h (by rw [e])) (fun e=>?_)
 exact eq_loop (eq:=fun x y=>l_eqStep N x y) (fun p=>rfl) (fun x hx y=>p_eqStep hN x y (by have:=mem_sum (fun e:Gx.Step=>e.size) hx;(try dsimp only at this);omega)) (by omega) (by omega) (by omega)

theorem p_eqClue {N:Nat} (hN:67108864<N) (x y:Gx.Clue) (h:x.size≤4194304):l_eqClue N x y=some (decide (x=y)):=by
 unfold l_eqClue
 unfold Gx.Clue.size at h
 refine eq_fld (fun h e=>h (by rw [e])) (fun e0=>?_)
 rw [p_eqStepS hN x.mPlay y.mPlay (by omega)]
 refine eq_sub (fun h e=>h (by rw [e])) (fun e1=>?_)
 have:x=y:=by cases x;cases y;simp_all
 rw [decide_eq_true this]

theorem p_eqClueS {N:Nat} (hN:67108864<N) (l m:List (Gx.Clue)) (h:l.length+(l.map (fun e:Gx.Clue=>e.size)).sum≤4194304):l_eqClueS N l m=some (decide (l=m)):=by
 unfold l_eqClueS
 refine eq_fld (fun h e=>h (by rw [e])) (fun e=>?_)
 exact eq_loop (eq:=fun x y=>l_eqClue N x y) (fun p=>rfl) (fun x hx y=>p_eqClue hN x y (by have:=mem_sum (fun e:Gx.Clue=>e.size) hx;(try dsimp only at this);omega)) (by omega) (by omega) (by omega)

theorem p_eqDraft {N:Nat} (hN:67108864<N) (x y:Gx.Draft) (h:x.size≤4194304):l_eqDraft N x y=some (decide (x=y)):=by
 unfold l_eqDraft
 unfold Gx.Draft.size at h
 rw [p_eqGrid hN x.mGrid y.mGrid (by omega)]
 refine eq_sub (fun h e=>h (by rw [e])) (fun e0=>?_)
 refine eq_fld (fun h e=>h (by rw [e])) (fun e1=>?_)
 rw [p_eqClueS hN x.mClues y.mClues (by omega)]
 refine eq_sub (fun h e=>h (by rw [e])) (fun e2=>?_)
 refine eq_fld (fun h e=>h (by rw [e])) (fun e3=>?_)
 have:x=y:=by cases x;cases y;simp_all
 rw [decide_eq_true this]

theorem p_szListed {N:Nat} (hN:67108864<N) (x:Gx.Listed) (hok:x.ok) {left:Int} (h0:0≤left) (h1:left≤1048576):l_szListed N x left=some (szF x.size left):=by
 unfold l_szListed Gx.Listed.size
 unfold Gx.Listed.ok at hok
 obtain ⟨q0,q1,q2,q3⟩:=hok
 exact sz_len h0 h1 q0

theorem p_szListedS {N:Nat} (hN:67108864<N) (l:List (Gx.Listed)) (hl:l.length≤9223372036854775807) (hok:∀e∈l,e.ok) {left:Int} (h0:0≤left) (h1:left≤1048576):l_szListedS N l left=some (szF (l.length+(l.map (fun e:Gx.Listed=>e.size)).sum) left):=by
 unfold l_szListedS
 refine sz_seq2 h0 h1 hl fun d g e w=>?_
 rw [w]
 have f:=szF_nn e g h1
 refine sz_loop (l:=l) (N:=N) (f:=(fun e:Gx.Listed=>e.size)) (fun p=>rfl) (fun x hx c c0 c1=>?_) g f.1 (by omega) (by omega)
 rw [p_szListed hN x (hok x hx) c0 c1]
 exact sz_ok

theorem p_szMeaning {N:Nat} (hN:67108864<N) (x:Gx.Meaning) (hok:x.ok) {left:Int} (h0:0≤left) (h1:left≤1048576):l_szMeaning N x left=some (szF x.size left):=by
 unfold l_szMeaning Gx.Meaning.size
 unfold Gx.Meaning.ok at hok
 obtain ⟨q0,q1⟩:=hok
 exact sz_len h0 h1 q0

theorem p_szMeaningS {N:Nat} (hN:67108864<N) (l:List (Gx.Meaning)) (hl:l.length≤9223372036854775807) (hok:∀e∈l,e.ok) {left:Int} (h0:0≤left) (h1:left≤1048576):l_szMeaningS N l left=some (szF (l.length+(l.map (fun e:Gx.Meaning=>e.size)).sum) left):=by
 unfold l_szMeaningS
 refine sz_seq2 h0 h1 hl fun d g e w=>?_
 rw [w]
 have f:=szF_nn e g h1
 refine sz_loop (l:=l) (N:=N) (f:=(fun e:Gx.Meaning=>e.size)) (fun p=>rfl) (fun x hx c c0 c1=>?_) g f.1 (by omega) (by omega)
 rw [p_szMeaning hN x (hok x hx) c0 c1]
 exact sz_ok

theorem p_szIntS {N:Nat} (hN:67108864<N) (l:List (Int)) (hl:l.length≤9223372036854775807) (hok:∀e∈l,Gx.inR e) {left:Int} (h0:0≤left) (h1:left≤1048576):l_szIntS N l left=some (szF (l.length) left):=by
 unfold l_szIntS
 exact sz_len h0 h1 hl

theorem p_szPuzzle {N:Nat} (hN:67108864<N) (x:Gx.Puzzle) (hok:x.ok) {left:Int} (h0:0≤left) (h1:left≤1048576):l_szPuzzle N x left=some (szF x.size left):=by
 unfold l_szPuzzle Gx.Puzzle.size
 unfold Gx.Puzzle.ok at hok
 obtain ⟨q0,q1,q2,q3,q4,q5⟩:=hok
 (repeat rw [Nat.add_assoc])
 rw [p_szGrid hN x.mGrid q0 h0 h1]
 refine sz_seq h0 fun d0 g0 e0=>?_
 have f0:=(szF_nn e0 g0 h1).1
 rw [← Nat.add_assoc]
 rw [p_szClueS hN x.mClues q1 q2 g0 f0]
 refine sz_seq g0 fun d1 g1 e1=>?_
 have f1:=(szF_nn e1 g1 f0).1
 rw [p_szIntS hN x.mSeals q3 q4 g1 f1]
 exact sz_end

theorem p_szIssue {N:Nat} (hN:67108864<N) (x:Gx.Issue) (hok:x.ok) {left:Int} (h0:0≤left) (h1:left≤1048576):l_szIssue N x left=some (szF x.size left):=by
 unfold l_szIssue Gx.Issue.size
 unfold Gx.Issue.ok at hok
 obtain ⟨q0,q1,q2,q3,q4⟩:=hok
 (repeat rw [Nat.add_assoc])
 rw [p_szPuzzle hN x.mPuzzle q1 h0 h1]
 refine sz_seq h0 fun d0 g0 e0=>?_
 have f0:=(szF_nn e0 g0 h1).1
 exact sz_len g0 f0 q2

theorem p_szIssueS {N:Nat} (hN:67108864<N) (l:List (Gx.Issue)) (hl:l.length≤9223372036854775807) (hok:∀e∈l,e.ok) {left:Int} (h0:0≤left) (h1:left≤1048576):l_szIssueS N l left=some (szF (l.length+(l.map (fun e:Gx.Issue=>e.size)).sum) left):=by
 unfold l_szIssueS
 refine sz_seq2 h0 h1 hl fun d g e w=>?_
 rw [w]
 have f:=szF_nn e g h1
 refine sz_loop (l:=l) (N:=N) (f:=(fun e:Gx.Issue=>e.size)) (fun p=>rfl) (fun x hx c c0 c1=>?_) g f.1 (by omega) (by omega)
 rw [p_szIssue hN x (hok x hx) c0 c1]
 exact sz_ok

theorem p_szUsed {N:Nat} (hN:67108864<N) (x:Gx.Used) (hok:x.ok) {left:Int} (h0:0≤left) (h1:left≤1048576):l_szUsed N x left=some (szF x.size left):=by
 unfold l_szUsed Gx.Used.size
 unfold Gx.Used.ok at hok
 obtain ⟨q0,q1⟩:=hok
 exact sz_len h0 h1 q0

theorem p_szUsedS {N:Nat} (hN:67108864<N) (l:List (Gx.Used)) (hl:l.length≤9223372036854775807) (hok:∀e∈l,e.ok) {left:Int} (h0:0≤left) (h1:left≤1048576):l_szUsedS N l left=some (szF (l.length+(l.map (fun e:Gx.Used=>e.size)).sum) left):=by
 unfold l_szUsedS
 refine sz_seq2 h0 h1 hl fun d g e w=>?_
 rw [w]
 have f:=szF_nn e g h1
 refine sz_loop (l:=l) (N:=N) (f:=(fun e:Gx.Used=>e.size)) (fun p=>rfl) (fun x hx c c0 c1=>?_) g f.1 (by omega) (by omega)
 rw [p_szUsed hN x (hok x hx) c0 c1]
 exact sz_ok

theorem p_szCorrection {N:Nat} (hN:67108864<N) (x:Gx.Correction) (hok:x.ok) {left:Int} (h0:0≤left) (h1:left≤1048576):l_szCorrection N x left=some (szF x.size left):=by
 unfold l_szCorrection Gx.Correction.size
 unfold Gx.Correction.ok at hok
 obtain ⟨q0,q1,q2,q3⟩:=hok
 rw [p_szClue hN x.mClue q2 h0 h1]
 exact sz_end

theorem p_szCorrectionS {N:Nat} (hN:67108864<N) (l:List (Gx.Correction)) (hl:l.length≤9223372036854775807) (hok:∀e∈l,e.ok) {left:Int} (h0:0≤left) (h1:left≤1048576):l_szCorrectionS N l left=some (szF (l.length+(l.map (fun e:Gx.Correction=>e.size)).sum) left):=by
 unfold l_szCorrectionS
 refine sz_seq2 h0 h1 hl fun d g e w=>?_
 rw [w]
 have f:=szF_nn e g h1
 refine sz_loop (l:=l) (N:=N) (f:=(fun e:Gx.Correction=>e.size)) (fun p=>rfl) (fun x hx c c0 c1=>?_) g f.1 (by omega) (by omega)
 rw [p_szCorrection hN x (hok x hx) c0 c1]
 exact sz_ok

theorem p_szEntry {N:Nat} (hN:67108864<N) (x:Gx.Entry) (hok:x.ok) {left:Int} (h0:0≤left) (h1:left≤1048576):l_szEntry N x left=some (szF x.size left):=by
 unfold l_szEntry Gx.Entry.size
 unfold Gx.Entry.ok at hok
 obtain ⟨q0,q1,q2,q3⟩:=hok
 exact sz_len h0 h1 q3

theorem p_szEntryS {N:Nat} (hN:67108864<N) (l:List (Gx.Entry)) (hl:l.length≤9223372036854775807) (hok:∀e∈l,e.ok) {left:Int} (h0:0≤left) (h1:left≤1048576):l_szEntryS N l left=some (szF (l.length+(l.map (fun e:Gx.Entry=>e.size)).sum) left):=by
 unfold l_szEntryS
 refine sz_seq2 h0 h1 hl fun d g e w=>?_
 rw [w]
 have f:=szF_nn e g h1
 refine sz_loop (l:=l) (N:=N) (f:=(fun e:Gx.Entry=>e.size)) (fun p=>rfl) (fun x hx c c0 c1=>?_) g f.1 (by omega) (by omega)
 rw [p_szEntry hN x (hok x hx) c0 c1]
 exact sz_ok

theorem p_szHouse {N:Nat} (hN:67108864<N) (x:Gx.House) (hok:x.ok) {left:Int} (h0:0≤left) (h1:left≤1048576):l_szHouse N x left=some (szF x.size left):=by
 unfold l_szHouse Gx.House.size
 unfold Gx.House.ok at hok
 obtain ⟨q0,q1,q2,q3,q4,q5,q6,q7,q8,q9,q10,q11,q12,q13⟩:=hok
 (repeat rw [Nat.add_assoc])
 rw [← Nat.add_assoc]
 rw [p_szListedS hN x.mList q0 q1 h0 h1]
 refine sz_seq h0 fun d0 g0 e0=>?_
 have f0:=(szF_nn e0 g0 h1).1
 rw [← Nat.add_assoc]
 rw [p_szMeaningS hN x.mDict q2 q3 g0 f0]
 refine sz_seq g0 fun d1 g1 e1=>?_
 have f1:=(szF_nn e1 g1 f0).1
 rw [p_szDraft hN x.mDesk q4 g1 f1]
 refine sz_seq g1 fun d2 g2 e2=>?_
 have f2:=(szF_nn e2 g2 f1).1
 rw [← Nat.add_assoc]
 rw [p_szIssueS hN x.mIssues q5 q6 g2 f2]
 refine sz_seq g2 fun d3 g3 e3=>?_
 have f3:=(szF_nn e3 g3 f2).1
 rw [← Nat.add_assoc]
 rw [p_szUsedS hN x.mUses q7 q8 g3 f3]
 refine sz_seq g3 fun d4 g4 e4=>?_
 have f4:=(szF_nn e4 g4 f3).1
 rw [← Nat.add_assoc]
 rw [p_szCorrectionS hN x.mCorrections q9 q10 g4 f4]
 refine sz_seq g4 fun d5 g5 e5=>?_
 have f5:=(szF_nn e5 g5 f4).1
 rw [p_szEntryS hN x.mEntries q11 q12 g5 f5]
 exact sz_end

theorem p_toListed {N:Nat} (hN:67108864<N) (x:Gx.Listed) (h:x.size≤1048576):l_toListed N x=some x:=by
 unfold l_toListed
 all_goals rfl

theorem p_toListedS {N:Nat} (hN:67108864<N) (l:List (Gx.Listed)) (h:l.length+(l.map (fun e:Gx.Listed=>e.size)).sum≤1048576):l_toListedS N l=some l:=by
 unfold l_toListedS
 rw [chk_pos ⟨by omega,by omega⟩,copy_loop (l:=l) (N:=N) (step:=l_toListedS_L1 N l) (to:=l_toListed N) (fun p=>rfl) (fun x hx=>p_toListed hN x (by have:=mem_sum (fun e:Gx.Listed=>e.size) hx;(try dsimp only at this);omega)) (by omega) (by omega)]
 rfl

theorem p_toMeaning {N:Nat} (hN:67108864<N) (x:Gx.Meaning) (h:x.size≤1048576):l_toMeaning N x=some x:=by
 unfold l_toMeaning
 all_goals rfl

theorem p_toMeaningS {N:Nat} (hN:67108864<N) (l:List (Gx.Meaning)) (h:l.length+(l.map (fun e:Gx.Meaning=>e.size)).sum≤1048576):l_toMeaningS N l=some l:=by
 unfold l_toMeaningS
 rw [chk_pos ⟨by omega,by omega⟩,copy_loop (l:=l) (N:=N) (step:=l_toMeaningS_L1 N l) (to:=l_toMeaning N) (fun p=>rfl) (fun x hx=>p_toMeaning hN x (by have:=mem_sum (fun e:Gx.Meaning=>e.size) hx;(try dsimp only at this);omega)) (by omega) (by omega)]
 rfl

theorem p_toIntS {N:Nat} (hN:67108864<N) (l:List (Int)) (h:l.length≤1048576):l_toIntS N l=some l:=by
 unfold l_toIntS
 rw [chk_pos ⟨by omega,by omega⟩,copy_loop (l:=l) (N:=N) (step:=l_toIntS_L1 N l) (to:=some) (fun p=>rfl) (fun x hx=>rfl) (by omega) (by omega)]
 rfl

theorem p_toPuzzle {N:Nat} (hN:67108864<N) (x:Gx.Puzzle) (h:x.size≤1048576):l_toPuzzle N x=some x:=by
 unfold l_toPuzzle
 unfold Gx.Puzzle.size at h
 rw [p_toGrid hN x.mGrid (by omega),bnd_mk]
 rw [p_toClueS hN x.mClues (by omega),bnd_mk]
 rw [p_toIntS hN x.mSeals (by omega),bnd_mk]
 all_goals rfl

theorem p_toIssue {N:Nat} (hN:67108864<N) (x:Gx.Issue) (h:x.size≤1048576):l_toIssue N x=some x:=by
 unfold l_toIssue
 unfold Gx.Issue.size at h
 rw [p_toPuzzle hN x.mPuzzle (by omega),bnd_mk]
 all_goals rfl

theorem p_toIssueS {N:Nat} (hN:67108864<N) (l:List (Gx.Issue)) (h:l.length+(l.map (fun e:Gx.Issue=>e.size)).sum≤1048576):l_toIssueS N l=some l:=by
 unfold l_toIssueS
 rw [chk_pos ⟨by omega,by omega⟩,copy_loop (l:=l) (N:=N) (step:=l_toIssueS_L1 N l) (to:=l_toIssue N) (fun p=>rfl) (fun x hx=>p_toIssue hN x (by have:=mem_sum (fun e:Gx.Issue=>e.size) hx;(try dsimp only at this);omega)) (by omega) (by omega)]
 rfl

theorem p_toUsed {N:Nat} (hN:67108864<N) (x:Gx.Used) (h:x.size≤1048576):l_toUsed N x=some x:=by
 unfold l_toUsed
 all_goals rfl

theorem p_toUsedS {N:Nat} (hN:67108864<N) (l:List (Gx.Used)) (h:l.length+(l.map (fun e:Gx.Used=>e.size)).sum≤1048576):l_toUsedS N l=some l:=by
 unfold l_toUsedS
 rw [chk_pos ⟨by omega,by omega⟩,copy_loop (l:=l) (N:=N) (step:=l_toUsedS_L1 N l) (to:=l_toUsed N) (fun p=>rfl) (fun x hx=>p_toUsed hN x (by have:=mem_sum (fun e:Gx.Used=>e.size) hx;(try dsimp only at this);omega)) (by omega) (by omega)]
 rfl

theorem p_toCorrection {N:Nat} (hN:67108864<N) (x:Gx.Correction) (h:x.size≤1048576):l_toCorrection N x=some x:=by
 unfold l_toCorrection
 unfold Gx.Correction.size at h
 rw [p_toClue hN x.mClue (by omega),bnd_mk]
 all_goals rfl

theorem p_toCorrectionS {N:Nat} (hN:67108864<N) (l:List (Gx.Correction)) (h:l.length+(l.map (fun e:Gx.Correction=>e.size)).sum≤1048576):l_toCorrectionS N l=some l:=by
 unfold l_toCorrectionS
 rw [chk_pos ⟨by omega,by omega⟩,copy_loop (l:=l) (N:=N) (step:=l_toCorrectionS_L1 N l) (to:=l_toCorrection N) (fun p=>rfl) (fun x hx=>p_toCorrection hN x (by have:=mem_sum (fun e:Gx.Correction=>e.size) hx;(try dsimp only at this);omega)) (by omega) (by omega)]
 rfl

theorem p_toEntry {N:Nat} (hN:67108864<N) (x:Gx.Entry) (h:x.size≤1048576):l_toEntry N x=some x:=by
 unfold l_toEntry
 all_goals rfl

theorem p_toEntryS {N:Nat} (hN:67108864<N) (l:List (Gx.Entry)) (h:l.length+(l.map (fun e:Gx.Entry=>e.size)).sum≤1048576):l_toEntryS N l=some l:=by
 unfold l_toEntryS
 rw [chk_pos ⟨by omega,by omega⟩,copy_loop (l:=l) (N:=N) (step:=l_toEntryS_L1 N l) (to:=l_toEntry N) (fun p=>rfl) (fun x hx=>p_toEntry hN x (by have:=mem_sum (fun e:Gx.Entry=>e.size) hx;(try dsimp only at this);omega)) (by omega) (by omega)]
 rfl

theorem p_toHouse {N:Nat} (hN:67108864<N) (x:Gx.House) (h:x.size≤1048576):l_toHouse N x=some x:=by
 unfold l_toHouse
 unfold Gx.House.size at h
 rw [p_toListedS hN x.mList (by omega),bnd_mk]
 rw [p_toMeaningS hN x.mDict (by omega),bnd_mk]
 rw [p_toDraft hN x.mDesk (by omega),bnd_mk]
 rw [p_toIssueS hN x.mIssues (by omega),bnd_mk]
 rw [p_toUsedS hN x.mUses (by omega),bnd_mk]
 rw [p_toCorrectionS hN x.mCorrections (by omega),bnd_mk]
 rw [p_toEntryS hN x.mEntries (by omega),bnd_mk]
 all_goals rfl

theorem p_eqListed {N:Nat} (hN:67108864<N) (x y:Gx.Listed) (h:x.size≤4194304):l_eqListed N x y=some (decide (x=y)):=by
 unfold l_eqListed
 unfold Gx.Listed.size at h
 refine eq_fld (fun h e=>h (by rw [e])) (fun e0=>?_)
 refine eq_fld (fun h e=>h (by rw [e])) (fun e1=>?_)
 refine eq_fld (fun h e=>h (by rw [e])) (fun e2=>?_)
 refine eq_fld (fun h e=>h (by rw [e])) (fun e3=>?_)
 have:x=y:=by cases x;cases y;simp_all
 rw [decide_eq_true this]

theorem p_eqListedS {N:Nat} (hN:67108864<N) (l m:List (Gx.Listed)) (h:l.length+(l.map (fun e:Gx.Listed=>e.size)).sum≤4194304):l_eqListedS N l m=some (decide (l=m)):=by
 unfold l_eqListedS
 refine eq_fld (fun h e=>h (by rw [e])) (fun e=>?_)
 exact eq_loop (eq:=fun x y=>l_eqListed N x y) (fun p=>rfl) (fun x hx y=>p_eqListed hN x y (by have:=mem_sum (fun e:Gx.Listed=>e.size) hx;(try dsimp only at this);omega)) (by omega) (by omega) (by omega)

theorem p_eqMeaning {N:Nat} (hN:67108864<N) (x y:Gx.Meaning) (h:x.size≤4194304):l_eqMeaning N x y=some (decide (x=y)):=by
 unfold l_eqMeaning
 unfold Gx.Meaning.size at h
 refine eq_fld (fun h e=>h (by rw [e])) (fun e0=>?_)
 refine eq_fld (fun h e=>h (by rw [e])) (fun e1=>?_)
 have:x=y:=by cases x;cases y;simp_all
 rw [decide_eq_true this]

theorem p_eqMeaningS {N:Nat} (hN:67108864<N) (l m:List (Gx.Meaning)) (h:l.length+(l.map (fun e:Gx.Meaning=>e.size)).sum≤4194304):l_eqMeaningS N l m=some (decide (l=m)):=by
 unfold l_eqMeaningS
 refine eq_fld (fun h e=>h (by rw [e])) (fun e=>?_)
 exact eq_loop (eq:=fun x y=>l_eqMeaning N x y) (fun p=>rfl) (fun x hx y=>p_eqMeaning hN x y (by have:=mem_sum (fun e:Gx.Meaning=>e.size) hx;(try dsimp only at this);omega)) (by omega) (by omega) (by omega)

theorem p_eqIntS {N:Nat} (hN:67108864<N) (l m:List (Int)) (h:l.length≤4194304):l_eqIntS N l m=some (decide (l=m)):=by
 unfold l_eqIntS
 refine eq_fld (fun h e=>h (by rw [e])) (fun e=>?_)
 exact eq_loop (eq:=fun x y=>some (x == y)) (fun p=>rfl) (fun x hx y=>congrArg some (Bool.eq_iff_iff.2 (by simp))) (by omega) (by omega) (by omega)

theorem p_eqPuzzle {N:Nat} (hN:67108864<N) (x y:Gx.Puzzle) (h:x.size≤4194304):l_eqPuzzle N x y=some (decide (x=y)):=by
 unfold l_eqPuzzle
 unfold Gx.Puzzle.size at h
 rw [p_eqGrid hN x.mGrid y.mGrid (by omega)]
 refine eq_sub (fun h e=>h (by rw [e])) (fun e0=>?_)
 rw [p_eqClueS hN x.mClues y.mClues (by omega)]
 refine eq_sub (fun h e=>h (by rw [e])) (fun e1=>?_)
 rw [p_eqIntS hN x.mSeals y.mSeals (by omega)]
 refine eq_sub (fun h e=>h (by rw [e])) (fun e2=>?_)
 refine eq_fld (fun h e=>h (by rw [e])) (fun e3=>?_)
 have:x=y:=by cases x;cases y;simp_all
 rw [decide_eq_true this]

theorem p_eqIssue {N:Nat} (hN:67108864<N) (x y:Gx.Issue) (h:x.size≤4194304):l_eqIssue N x y=some (decide (x=y)):=by
 unfold l_eqIssue
 unfold Gx.Issue.size at h
 refine eq_fld (fun h e=>h (by rw [e])) (fun e0=>?_)
 rw [p_eqPuzzle hN x.mPuzzle y.mPuzzle (by omega)]
 refine eq_sub (fun h e=>h (by rw [e])) (fun e1=>?_)
 refine eq_fld (fun h e=>h (by rw [e])) (fun e2=>?_)
 refine eq_fld (fun h e=>h (by rw [e])) (fun e3=>?_)
 refine eq_fld (fun h e=>h (by rw [e])) (fun e4=>?_)
 have:x=y:=by cases x;cases y;simp_all
 rw [decide_eq_true this]

theorem p_eqIssueS {N:Nat} (hN:67108864<N) (l m:List (Gx.Issue)) (h:l.length+(l.map (fun e:Gx.Issue=>e.size)).sum≤4194304):l_eqIssueS N l m=some (decide (l=m)):=by
 unfold l_eqIssueS
 refine eq_fld (fun h e=>h (by rw [e])) (fun e=>?_)
 exact eq_loop (eq:=fun x y=>l_eqIssue N x y) (fun p=>rfl) (fun x hx y=>p_eqIssue hN x y (by have:=mem_sum (fun e:Gx.Issue=>e.size) hx;(try dsimp only at this);omega)) (by omega) (by omega) (by omega)

theorem p_eqUsed {N:Nat} (hN:67108864<N) (x y:Gx.Used) (h:x.size≤4194304):l_eqUsed N x y=some (decide (x=y)):=by
 unfold l_eqUsed
 unfold Gx.Used.size at h
 refine eq_fld (fun h e=>h (by rw [e])) (fun e0=>?_)
 refine eq_fld (fun h e=>h (by rw [e])) (fun e1=>?_)
 have:x=y:=by cases x;cases y;simp_all
 rw [decide_eq_true this]

theorem p_eqUsedS {N:Nat} (hN:67108864<N) (l m:List (Gx.Used)) (h:l.length+(l.map (fun e:Gx.Used=>e.size)).sum≤4194304):l_eqUsedS N l m=some (decide (l=m)):=by
 unfold l_eqUsedS
 refine eq_fld (fun h e=>h (by rw [e])) (fun e=>?_)
 exact eq_loop (eq:=fun x y=>l_eqUsed N x y) (fun p=>rfl) (fun x hx y=>p_eqUsed hN x y (by have:=mem_sum (fun e:Gx.Used=>e.size) hx;(try dsimp only at this);omega)) (by omega) (by omega) (by omega)

theorem p_eqCorrection {N:Nat} (hN:67108864<N) (x y:Gx.Correction) (h:x.size≤4194304):l_eqCorrection N x y=some (decide (x=y)):=by
 unfold l_eqCorrection
 unfold Gx.Correction.size at h
 refine eq_fld (fun h e=>h (by rw [e])) (fun e0=>?_)
 refine eq_fld (fun h e=>h (by rw [e])) (fun e1=>?_)
 rw [p_eqClue hN x.mClue y.mClue (by omega)]
 refine eq_sub (fun h e=>h (by rw [e])) (fun e2=>?_)
 refine eq_fld (fun h e=>h (by rw [e])) (fun e3=>?_)
 have:x=y:=by cases x;cases y;simp_all
 rw [decide_eq_true this]

theorem p_eqCorrectionS {N:Nat} (hN:67108864<N) (l m:List (Gx.Correction)) (h:l.length+(l.map (fun e:Gx.Correction=>e.size)).sum≤4194304):l_eqCorrectionS N l m=some (decide (l=m)):=by
 unfold l_eqCorrectionS
 refine eq_fld (fun h e=>h (by rw [e])) (fun e=>?_)
 exact eq_loop (eq:=fun x y=>l_eqCorrection N x y) (fun p=>rfl) (fun x hx y=>p_eqCorrection hN x y (by have:=mem_sum (fun e:Gx.Correction=>e.size) hx;(try dsimp only at this);omega)) (by omega) (by omega) (by omega)

theorem p_eqEntry {N:Nat} (hN:67108864<N) (x y:Gx.Entry) (h:x.size≤4194304):l_eqEntry N x y=some (decide (x=y)):=by
 unfold l_eqEntry
 unfold Gx.Entry.size at h
 refine eq_fld (fun h e=>h (by rw [e])) (fun e0=>?_)
 refine eq_fld (fun h e=>h (by rw [e])) (fun e1=>?_)
 refine eq_fld (fun h e=>h (by rw [e])) (fun e2=>?_)
 refine eq_fld (fun h e=>h (by rw [e])) (fun e3=>?_)
 have:x=y:=by cases x;cases y;simp_all
 rw [decide_eq_true this]

theorem p_eqEntryS {N:Nat} (hN:67108864<N) (l m:List (Gx.Entry)) (h:l.length+(l.map (fun e:Gx.Entry=>e.size)).sum≤4194304):l_eqEntryS N l m=some (decide (l=m)):=by
 unfold l_eqEntryS
 refine eq_fld (fun h e=>h (by rw [e])) (fun e=>?_)
 exact eq_loop (eq:=fun x y=>l_eqEntry N x y) (fun p=>rfl) (fun x hx y=>p_eqEntry hN x y (by have:=mem_sum (fun e:Gx.Entry=>e.size) hx;(try dsimp only at this);omega)) (by omega) (by omega) (by omega)

theorem p_eqHouse {N:Nat} (hN:67108864<N) (x y:Gx.House) (h:x.size≤4194304):l_eqHouse N x y=some (decide (x=y)):=by
 unfold l_eqHouse
 unfold Gx.House.size at h
 rw [p_eqListedS hN x.mList y.mList (by omega)]
 refine eq_sub (fun h e=>h (by rw [e])) (fun e0=>?_)
 rw [p_eqMeaningS hN x.mDict y.mDict (by omega)]
 refine eq_sub (fun h e=>h (by rw [e])) (fun e1=>?_)
 rw [p_eqDraft hN x.mDesk y.mDesk (by omega)]
 refine eq_sub (fun h e=>h (by rw [e])) (fun e2=>?_)
 rw [p_eqIssueS hN x.mIssues y.mIssues (by omega)]
 refine eq_sub (fun h e=>h (by rw [e])) (fun e3=>?_)
 rw [p_eqUsedS hN x.mUses y.mUses (by omega)]
 refine eq_sub (fun h e=>h (by rw [e])) (fun e4=>?_)
 rw [p_eqCorrectionS hN x.mCorrections y.mCorrections (by omega)]
 refine eq_sub (fun h e=>h (by rw [e])) (fun e5=>?_)
 rw [p_eqEntryS hN x.mEntries y.mEntries (by omega)]
 refine eq_sub (fun h e=>h (by rw [e])) (fun e6=>?_)
 refine eq_fld (fun h e=>h (by rw [e])) (fun e7=>?_)
 have:x=y:=by cases x;cases y;simp_all
 rw [decide_eq_true this]

end Lw
end Go.Proofs
