/- PRINTED BY types.py (mine): the program's struct types as Lean structures. -/
import Derived.Test.YtniibgdokfnomaaGreatAvBb
namespace Go.Gx
open Go Go.Av
set_option linter.unusedVariables false

abbrev encI:Int→List D:=fun n=>[D.i n]
abbrev encB:Bool→List D:=fun b=>[D.b b]
abbrev encS:List UInt8→List D:=fun l=>[D.s l]
abbrev encL {α:Type} (k:Nat) (e:α→List D):List α→List D:=fun x=>[D.sl k (x.map e)]
def inR (n:Int):Prop:=-9223372036854775808≤n∧n≤9223372036854775807

theorem list_dec {α:Type} {e:α→List D} {ok:α→Prop}:∀{rows:List (List D)},(∀r∈rows,∃x,r=e x∧ok x)→∃l:List α,rows=l.map e∧∀x∈l,ok x
 | [],_=>⟨[],rfl,by simp⟩
 | r::rows,h=>by
  obtain ⟨x,rfl,hx⟩:=h r (by simp)
  obtain ⟨l,rfl,hl⟩:=list_dec fun r hr=>h r (List.mem_cons_of_mem _ hr)
  exact ⟨x::l,rfl,by simpa using ⟨hx,hl⟩⟩

theorem WfR_cons {t:Ty} {ts:List Ty} {ds:List D} (h:WfR (t::ts) ds):∃d r,ds=d::r∧Wf t d∧WfR ts r:=by unfold WfR at h;exact h
theorem WfR_nil {ds:List D} (h:WfR [] ds):ds=[]:=by unfold WfR at h;exact h
theorem Wf_int {k:IntKind} {d:D} (h:Wf (.int k) d):∃n,d=.v (.int k n)∧k.min≤n∧n≤k.max:=by unfold Wf at h;exact h
theorem Wf_bool {d:D} (h:Wf .bool d):∃b,d=.b b:=by unfold Wf at h;exact h
theorem Wf_str {d:D} (h:Wf .str d):∃l:List UInt8,d=.s l∧l.length≤9223372036854775807:=by unfold Wf at h;exact h
theorem Wf_sl {row:List Ty} {d:D} (h:Wf (.sl row) d):∃rows:List (List D),d=.sl row.length rows∧rows.length≤9223372036854775807∧∀r∈rows,WfR row r:=by unfold Wf at h;exact h

theorem dec_I {r:List D} (h:WfR [.int .i64] r):∃x:Int,r=encI x∧inR x:=by
 obtain ⟨_,_,rfl,h0,t0⟩:=WfR_cons h
 obtain ⟨n,rfl,h1,h2⟩:=Wf_int h0
 have t0:=WfR_nil t0
 subst t0
 exact ⟨n,rfl,h1,h2⟩
theorem dec_B {r:List D} (h:WfR [.bool] r):∃x:Bool,r=encB x∧True:=by
 obtain ⟨_,_,rfl,h0,t0⟩:=WfR_cons h
 obtain ⟨n,rfl⟩:=Wf_bool h0
 have t0:=WfR_nil t0
 subst t0
 exact ⟨n,rfl,trivial⟩
theorem dec_S {r:List D} (h:WfR [.str] r):∃x:List UInt8,r=encS x∧x.length≤9223372036854775807:=by
 obtain ⟨_,_,rfl,h0,t0⟩:=WfR_cons h
 obtain ⟨n,rfl,h1⟩:=Wf_str h0
 have t0:=WfR_nil t0
 subst t0
 exact ⟨n,rfl,h1⟩
theorem dec_L {α:Type} {ts:List Ty} {e:α→List D} {ok:α→Prop} (hd:∀{r:List D},WfR ts r→∃x:α,r=e x∧ok x) {r:List D} (h:WfR [.sl ts] r):
  ∃x:List α,r=[D.sl ts.length (x.map e)]∧x.length≤9223372036854775807∧∀y∈x,ok y:=by
 obtain ⟨_,_,rfl,h0,t0⟩:=WfR_cons h
 obtain ⟨rows,rfl,h1,h2⟩:=Wf_sl h0
 have t0:=WfR_nil t0
 subst t0
 obtain ⟨l,rfl,hl⟩:=list_dec fun r hr=>hd (h2 r hr)
 exact ⟨l,rfl,by simpa using h1,hl⟩

structure Step where
 mKind:Int
 mWord:List UInt8
 mA:Int
 mB:Int
instance:DecidableEq Step:=fun a b=>decidable_of_iff (a.mKind=b.mKind∧a.mWord=b.mWord∧a.mA=b.mA∧a.mB=b.mB) ⟨fun h=>by cases a;cases b;simp_all,fun h=>by subst h;simp⟩
def Step.enc (x:Step):List D:=[D.i x.mKind,D.s x.mWord,D.i x.mA,D.i x.mB]
def Step.tys:List Ty:=[.int .i64,.str,.int .i64,.int .i64]
def Step.size (x:Step):Nat:=x.mWord.length
def Step.ok (x:Step):Prop:=inR x.mKind∧x.mWord.length≤9223372036854775807∧inR x.mA∧inR x.mB
theorem Step.dec {r:List D} (h:WfR Step.tys r):∃x:Step,r=x.enc∧x.ok:=by
 unfold Step.tys at h
 obtain ⟨_,r0',rfl,h0,t0⟩:=WfR_cons h
 obtain ⟨v0,rfl,p0,q0⟩:=Wf_int h0
 obtain ⟨_,r1',rfl,h1,t1⟩:=WfR_cons t0
 obtain ⟨v1,rfl,p1⟩:=Wf_str h1
 obtain ⟨_,r2',rfl,h2,t2⟩:=WfR_cons t1
 obtain ⟨v2,rfl,p2,q2⟩:=Wf_int h2
 obtain ⟨_,r3',rfl,h3,t3⟩:=WfR_cons t2
 obtain ⟨v3,rfl,p3,q3⟩:=Wf_int h3
 have t3:=WfR_nil t3
 subst t3
 exact ⟨⟨v0,v1,v2,v3⟩,rfl,by repeat' (first | assumption | exact trivial | apply And.intro)⟩

structure Clue where
 mSense:Int
 mPlay:List (Step)
instance:DecidableEq Clue:=fun a b=>decidable_of_iff (a.mSense=b.mSense∧a.mPlay=b.mPlay) ⟨fun h=>by cases a;cases b;simp_all,fun h=>by subst h;simp⟩
def Clue.enc (x:Clue):List D:=[D.i x.mSense,D.sl 4 (x.mPlay.map Step.enc)]
def Clue.tys:List Ty:=[.int .i64,.sl [.int .i64,.str,.int .i64,.int .i64]]
def Clue.size (x:Clue):Nat:=x.mPlay.length+(x.mPlay.map fun e=>e.size).sum
def Clue.ok (x:Clue):Prop:=inR x.mSense∧x.mPlay.length≤9223372036854775807∧(∀e∈x.mPlay,e.ok)
theorem Clue.dec {r:List D} (h:WfR Clue.tys r):∃x:Clue,r=x.enc∧x.ok:=by
 unfold Clue.tys at h
 obtain ⟨_,r0',rfl,h0,t0⟩:=WfR_cons h
 obtain ⟨v0,rfl,p0,q0⟩:=Wf_int h0
 obtain ⟨_,r1',rfl,h1,t1⟩:=WfR_cons t0
 obtain ⟨w1,rfl,p1,q1⟩:=Wf_sl h1
 have t1:=WfR_nil t1
 subst t1
 obtain ⟨v1,rfl,r1⟩:=list_dec fun r hr=>Step.dec (q1 r hr)
 simp only [List.length_map] at p1
 exact ⟨⟨v0,v1⟩,rfl,by repeat' (first | assumption | exact trivial | apply And.intro)⟩

structure Correction where
 mIssue:Int
 mSlot:Int
 mClue:Clue
 mTick:Int
instance:DecidableEq Correction:=fun a b=>decidable_of_iff (a.mIssue=b.mIssue∧a.mSlot=b.mSlot∧a.mClue=b.mClue∧a.mTick=b.mTick) ⟨fun h=>by cases a;cases b;simp_all,fun h=>by subst h;simp⟩
def Correction.enc (x:Correction):List D:=[D.i x.mIssue,D.i x.mSlot,D.i x.mClue.mSense,D.sl 4 (x.mClue.mPlay.map Step.enc),D.i x.mTick]
def Correction.tys:List Ty:=[.int .i64,.int .i64,.int .i64,.sl [.int .i64,.str,.int .i64,.int .i64],.int .i64]
def Correction.size (x:Correction):Nat:=x.mClue.size
def Correction.ok (x:Correction):Prop:=inR x.mIssue∧inR x.mSlot∧x.mClue.ok∧inR x.mTick
theorem Correction.dec {r:List D} (h:WfR Correction.tys r):∃x:Correction,r=x.enc∧x.ok:=by
 unfold Correction.tys at h
 obtain ⟨_,r0',rfl,h0,t0⟩:=WfR_cons h
 obtain ⟨v0,rfl,p0,q0⟩:=Wf_int h0
 obtain ⟨_,r1',rfl,h1,t1⟩:=WfR_cons t0
 obtain ⟨v1,rfl,p1,q1⟩:=Wf_int h1
 obtain ⟨_,r2',rfl,h2,t2⟩:=WfR_cons t1
 obtain ⟨v2,rfl,p2,q2⟩:=Wf_int h2
 obtain ⟨_,r3',rfl,h3,t3⟩:=WfR_cons t2
 obtain ⟨w3,rfl,p3,q3⟩:=Wf_sl h3
 obtain ⟨_,r4',rfl,h4,t4⟩:=WfR_cons t3
 obtain ⟨v4,rfl,p4,q4⟩:=Wf_int h4
 have t4:=WfR_nil t4
 subst t4
 obtain ⟨v3,rfl,r3⟩:=list_dec fun r hr=>Step.dec (q3 r hr)
 simp only [List.length_map] at p3
 exact ⟨⟨v0,v1,⟨v2,v3⟩,v4⟩,rfl,by repeat' (first | assumption | exact trivial | apply And.intro)⟩

structure Crossing where
 mA:Int
 mB:Int
 mAtA:Int
 mAtB:Int
 mCell:Int
instance:DecidableEq Crossing:=fun a b=>decidable_of_iff (a.mA=b.mA∧a.mB=b.mB∧a.mAtA=b.mAtA∧a.mAtB=b.mAtB∧a.mCell=b.mCell) ⟨fun h=>by cases a;cases b;simp_all,fun h=>by subst h;simp⟩
def Crossing.enc (x:Crossing):List D:=[D.i x.mA,D.i x.mB,D.i x.mAtA,D.i x.mAtB,D.i x.mCell]
def Crossing.tys:List Ty:=[.int .i64,.int .i64,.int .i64,.int .i64,.int .i64]
def Crossing.size (x:Crossing):Nat:=0
def Crossing.ok (x:Crossing):Prop:=inR x.mA∧inR x.mB∧inR x.mAtA∧inR x.mAtB∧inR x.mCell
theorem Crossing.dec {r:List D} (h:WfR Crossing.tys r):∃x:Crossing,r=x.enc∧x.ok:=by
 unfold Crossing.tys at h
 obtain ⟨_,r0',rfl,h0,t0⟩:=WfR_cons h
 obtain ⟨v0,rfl,p0,q0⟩:=Wf_int h0
 obtain ⟨_,r1',rfl,h1,t1⟩:=WfR_cons t0
 obtain ⟨v1,rfl,p1,q1⟩:=Wf_int h1
 obtain ⟨_,r2',rfl,h2,t2⟩:=WfR_cons t1
 obtain ⟨v2,rfl,p2,q2⟩:=Wf_int h2
 obtain ⟨_,r3',rfl,h3,t3⟩:=WfR_cons t2
 obtain ⟨v3,rfl,p3,q3⟩:=Wf_int h3
 obtain ⟨_,r4',rfl,h4,t4⟩:=WfR_cons t3
 obtain ⟨v4,rfl,p4,q4⟩:=Wf_int h4
 have t4:=WfR_nil t4
 subst t4
 exact ⟨⟨v0,v1,v2,v3,v4⟩,rfl,by repeat' (first | assumption | exact trivial | apply And.intro)⟩

structure Grid where
 mRows:Int
 mCols:Int
 mCells:List UInt8
instance:DecidableEq Grid:=fun a b=>decidable_of_iff (a.mRows=b.mRows∧a.mCols=b.mCols∧a.mCells=b.mCells) ⟨fun h=>by cases a;cases b;simp_all,fun h=>by subst h;simp⟩
def Grid.enc (x:Grid):List D:=[D.i x.mRows,D.i x.mCols,D.s x.mCells]
def Grid.tys:List Ty:=[.int .i64,.int .i64,.str]
def Grid.size (x:Grid):Nat:=x.mCells.length
def Grid.ok (x:Grid):Prop:=inR x.mRows∧inR x.mCols∧x.mCells.length≤9223372036854775807
theorem Grid.dec {r:List D} (h:WfR Grid.tys r):∃x:Grid,r=x.enc∧x.ok:=by
 unfold Grid.tys at h
 obtain ⟨_,r0',rfl,h0,t0⟩:=WfR_cons h
 obtain ⟨v0,rfl,p0,q0⟩:=Wf_int h0
 obtain ⟨_,r1',rfl,h1,t1⟩:=WfR_cons t0
 obtain ⟨v1,rfl,p1,q1⟩:=Wf_int h1
 obtain ⟨_,r2',rfl,h2,t2⟩:=WfR_cons t1
 obtain ⟨v2,rfl,p2⟩:=Wf_str h2
 have t2:=WfR_nil t2
 subst t2
 exact ⟨⟨v0,v1,v2⟩,rfl,by repeat' (first | assumption | exact trivial | apply And.intro)⟩

structure Draft where
 mGrid:Grid
 mFill:List UInt8
 mClues:List (Clue)
 mVersion:Int
instance:DecidableEq Draft:=fun a b=>decidable_of_iff (a.mGrid=b.mGrid∧a.mFill=b.mFill∧a.mClues=b.mClues∧a.mVersion=b.mVersion) ⟨fun h=>by cases a;cases b;simp_all,fun h=>by subst h;simp⟩
def Draft.enc (x:Draft):List D:=[D.i x.mGrid.mRows,D.i x.mGrid.mCols,D.s x.mGrid.mCells,D.s x.mFill,D.sl 2 (x.mClues.map Clue.enc),D.i x.mVersion]
def Draft.tys:List Ty:=[.int .i64,.int .i64,.str,.str,.sl [.int .i64,.sl [.int .i64,.str,.int .i64,.int .i64]],.int .i64]
def Draft.size (x:Draft):Nat:=x.mGrid.size+x.mFill.length+x.mClues.length+(x.mClues.map fun e=>e.size).sum
def Draft.ok (x:Draft):Prop:=x.mGrid.ok∧x.mFill.length≤9223372036854775807∧x.mClues.length≤9223372036854775807∧(∀e∈x.mClues,e.ok)∧inR x.mVersion
theorem Draft.dec {r:List D} (h:WfR Draft.tys r):∃x:Draft,r=x.enc∧x.ok:=by
 unfold Draft.tys at h
 obtain ⟨_,r0',rfl,h0,t0⟩:=WfR_cons h
 obtain ⟨v0,rfl,p0,q0⟩:=Wf_int h0
 obtain ⟨_,r1',rfl,h1,t1⟩:=WfR_cons t0
 obtain ⟨v1,rfl,p1,q1⟩:=Wf_int h1
 obtain ⟨_,r2',rfl,h2,t2⟩:=WfR_cons t1
 obtain ⟨v2,rfl,p2⟩:=Wf_str h2
 obtain ⟨_,r3',rfl,h3,t3⟩:=WfR_cons t2
 obtain ⟨v3,rfl,p3⟩:=Wf_str h3
 obtain ⟨_,r4',rfl,h4,t4⟩:=WfR_cons t3
 obtain ⟨w4,rfl,p4,q4⟩:=Wf_sl h4
 obtain ⟨_,r5',rfl,h5,t5⟩:=WfR_cons t4
 obtain ⟨v5,rfl,p5,q5⟩:=Wf_int h5
 have t5:=WfR_nil t5
 subst t5
 obtain ⟨v4,rfl,r4⟩:=list_dec fun r hr=>Clue.dec (q4 r hr)
 simp only [List.length_map] at p4
 exact ⟨⟨⟨v0,v1,v2⟩,v3,v4,v5⟩,rfl,by repeat' (first | assumption | exact trivial | apply And.intro)⟩

structure Entry where
 mPlayer:Int
 mIssue:Int
 mTick:Int
 mFill:List UInt8
instance:DecidableEq Entry:=fun a b=>decidable_of_iff (a.mPlayer=b.mPlayer∧a.mIssue=b.mIssue∧a.mTick=b.mTick∧a.mFill=b.mFill) ⟨fun h=>by cases a;cases b;simp_all,fun h=>by subst h;simp⟩
def Entry.enc (x:Entry):List D:=[D.i x.mPlayer,D.i x.mIssue,D.i x.mTick,D.s x.mFill]
def Entry.tys:List Ty:=[.int .i64,.int .i64,.int .i64,.str]
def Entry.size (x:Entry):Nat:=x.mFill.length
def Entry.ok (x:Entry):Prop:=inR x.mPlayer∧inR x.mIssue∧inR x.mTick∧x.mFill.length≤9223372036854775807
theorem Entry.dec {r:List D} (h:WfR Entry.tys r):∃x:Entry,r=x.enc∧x.ok:=by
 unfold Entry.tys at h
 obtain ⟨_,r0',rfl,h0,t0⟩:=WfR_cons h
 obtain ⟨v0,rfl,p0,q0⟩:=Wf_int h0
 obtain ⟨_,r1',rfl,h1,t1⟩:=WfR_cons t0
 obtain ⟨v1,rfl,p1,q1⟩:=Wf_int h1
 obtain ⟨_,r2',rfl,h2,t2⟩:=WfR_cons t1
 obtain ⟨v2,rfl,p2,q2⟩:=Wf_int h2
 obtain ⟨_,r3',rfl,h3,t3⟩:=WfR_cons t2
 obtain ⟨v3,rfl,p3⟩:=Wf_str h3
 have t3:=WfR_nil t3
 subst t3
 exact ⟨⟨v0,v1,v2,v3⟩,rfl,by repeat' (first | assumption | exact trivial | apply And.intro)⟩

structure Listed where
 mWord:List UInt8
 mFrom:Int
 mUntil:Int
 mScore:Int
instance:DecidableEq Listed:=fun a b=>decidable_of_iff (a.mWord=b.mWord∧a.mFrom=b.mFrom∧a.mUntil=b.mUntil∧a.mScore=b.mScore) ⟨fun h=>by cases a;cases b;simp_all,fun h=>by subst h;simp⟩
def Listed.enc (x:Listed):List D:=[D.s x.mWord,D.i x.mFrom,D.i x.mUntil,D.i x.mScore]
def Listed.tys:List Ty:=[.str,.int .i64,.int .i64,.int .i64]
def Listed.size (x:Listed):Nat:=x.mWord.length
def Listed.ok (x:Listed):Prop:=x.mWord.length≤9223372036854775807∧inR x.mFrom∧inR x.mUntil∧inR x.mScore
theorem Listed.dec {r:List D} (h:WfR Listed.tys r):∃x:Listed,r=x.enc∧x.ok:=by
 unfold Listed.tys at h
 obtain ⟨_,r0',rfl,h0,t0⟩:=WfR_cons h
 obtain ⟨v0,rfl,p0⟩:=Wf_str h0
 obtain ⟨_,r1',rfl,h1,t1⟩:=WfR_cons t0
 obtain ⟨v1,rfl,p1,q1⟩:=Wf_int h1
 obtain ⟨_,r2',rfl,h2,t2⟩:=WfR_cons t1
 obtain ⟨v2,rfl,p2,q2⟩:=Wf_int h2
 obtain ⟨_,r3',rfl,h3,t3⟩:=WfR_cons t2
 obtain ⟨v3,rfl,p3,q3⟩:=Wf_int h3
 have t3:=WfR_nil t3
 subst t3
 exact ⟨⟨v0,v1,v2,v3⟩,rfl,by repeat' (first | assumption | exact trivial | apply And.intro)⟩

structure Meaning where
 mWord:List UInt8
 mSense:Int
instance:DecidableEq Meaning:=fun a b=>decidable_of_iff (a.mWord=b.mWord∧a.mSense=b.mSense) ⟨fun h=>by cases a;cases b;simp_all,fun h=>by subst h;simp⟩
def Meaning.enc (x:Meaning):List D:=[D.s x.mWord,D.i x.mSense]
def Meaning.tys:List Ty:=[.str,.int .i64]
def Meaning.size (x:Meaning):Nat:=x.mWord.length
def Meaning.ok (x:Meaning):Prop:=x.mWord.length≤9223372036854775807∧inR x.mSense
theorem Meaning.dec {r:List D} (h:WfR Meaning.tys r):∃x:Meaning,r=x.enc∧x.ok:=by
 unfold Meaning.tys at h
 obtain ⟨_,r0',rfl,h0,t0⟩:=WfR_cons h
 obtain ⟨v0,rfl,p0⟩:=Wf_str h0
 obtain ⟨_,r1',rfl,h1,t1⟩:=WfR_cons t0
 obtain ⟨v1,rfl,p1,q1⟩:=Wf_int h1
 have t1:=WfR_nil t1
 subst t1
 exact ⟨⟨v0,v1⟩,rfl,by repeat' (first | assumption | exact trivial | apply And.intro)⟩

structure Event where
 mKind:Int
 mA:Int
 mB:Int
 mC:Int
 mText:List UInt8
 mGrid:Grid
 mClue:Clue
 mListed:Listed
 mMeaning:Meaning
instance:DecidableEq Event:=fun a b=>decidable_of_iff (a.mKind=b.mKind∧a.mA=b.mA∧a.mB=b.mB∧a.mC=b.mC∧a.mText=b.mText∧a.mGrid=b.mGrid∧a.mClue=b.mClue∧a.mListed=b.mListed∧a.mMeaning=b.mMeaning) ⟨fun h=>by cases a;cases b;simp_all,fun h=>by subst h;simp⟩
def Event.enc (x:Event):List D:=[D.i x.mKind,D.i x.mA,D.i x.mB,D.i x.mC,D.s x.mText,D.i x.mGrid.mRows,D.i x.mGrid.mCols,D.s x.mGrid.mCells,D.i x.mClue.mSense,D.sl 4 (x.mClue.mPlay.map Step.enc),D.s x.mListed.mWord,D.i x.mListed.mFrom,D.i x.mListed.mUntil,D.i x.mListed.mScore,D.s x.mMeaning.mWord,D.i x.mMeaning.mSense]
def Event.tys:List Ty:=[.int .i64,.int .i64,.int .i64,.int .i64,.str,.int .i64,.int .i64,.str,.int .i64,.sl [.int .i64,.str,.int .i64,.int .i64],.str,.int .i64,.int .i64,.int .i64,.str,.int .i64]
def Event.size (x:Event):Nat:=x.mText.length+x.mGrid.size+x.mClue.size+x.mListed.size+x.mMeaning.size
def Event.ok (x:Event):Prop:=inR x.mKind∧inR x.mA∧inR x.mB∧inR x.mC∧x.mText.length≤9223372036854775807∧x.mGrid.ok∧x.mClue.ok∧x.mListed.ok∧x.mMeaning.ok
theorem Event.dec {r:List D} (h:WfR Event.tys r):∃x:Event,r=x.enc∧x.ok:=by
 unfold Event.tys at h
 obtain ⟨_,r0',rfl,h0,t0⟩:=WfR_cons h
 obtain ⟨v0,rfl,p0,q0⟩:=Wf_int h0
 obtain ⟨_,r1',rfl,h1,t1⟩:=WfR_cons t0
 obtain ⟨v1,rfl,p1,q1⟩:=Wf_int h1
 obtain ⟨_,r2',rfl,h2,t2⟩:=WfR_cons t1
 obtain ⟨v2,rfl,p2,q2⟩:=Wf_int h2
 obtain ⟨_,r3',rfl,h3,t3⟩:=WfR_cons t2
 obtain ⟨v3,rfl,p3,q3⟩:=Wf_int h3
 obtain ⟨_,r4',rfl,h4,t4⟩:=WfR_cons t3
 obtain ⟨v4,rfl,p4⟩:=Wf_str h4
 obtain ⟨_,r5',rfl,h5,t5⟩:=WfR_cons t4
 obtain ⟨v5,rfl,p5,q5⟩:=Wf_int h5
 obtain ⟨_,r6',rfl,h6,t6⟩:=WfR_cons t5
 obtain ⟨v6,rfl,p6,q6⟩:=Wf_int h6
 obtain ⟨_,r7',rfl,h7,t7⟩:=WfR_cons t6
 obtain ⟨v7,rfl,p7⟩:=Wf_str h7
 obtain ⟨_,r8',rfl,h8,t8⟩:=WfR_cons t7
 obtain ⟨v8,rfl,p8,q8⟩:=Wf_int h8
 obtain ⟨_,r9',rfl,h9,t9⟩:=WfR_cons t8
 obtain ⟨w9,rfl,p9,q9⟩:=Wf_sl h9
 obtain ⟨_,r10',rfl,h10,t10⟩:=WfR_cons t9
 obtain ⟨v10,rfl,p10⟩:=Wf_str h10
 obtain ⟨_,r11',rfl,h11,t11⟩:=WfR_cons t10
 obtain ⟨v11,rfl,p11,q11⟩:=Wf_int h11
 obtain ⟨_,r12',rfl,h12,t12⟩:=WfR_cons t11
 obtain ⟨v12,rfl,p12,q12⟩:=Wf_int h12
 obtain ⟨_,r13',rfl,h13,t13⟩:=WfR_cons t12
 obtain ⟨v13,rfl,p13,q13⟩:=Wf_int h13
 obtain ⟨_,r14',rfl,h14,t14⟩:=WfR_cons t13
 obtain ⟨v14,rfl,p14⟩:=Wf_str h14
 obtain ⟨_,r15',rfl,h15,t15⟩:=WfR_cons t14
 obtain ⟨v15,rfl,p15,q15⟩:=Wf_int h15
 have t15:=WfR_nil t15
 subst t15
 obtain ⟨v9,rfl,r9⟩:=list_dec fun r hr=>Step.dec (q9 r hr)
 simp only [List.length_map] at p9
 exact ⟨⟨v0,v1,v2,v3,v4,⟨v5,v6,v7⟩,⟨v8,v9⟩,⟨v10,v11,v12,v13⟩,⟨v14,v15⟩⟩,rfl,by repeat' (first | assumption | exact trivial | apply And.intro)⟩

structure Puzzle where
 mGrid:Grid
 mClues:List (Clue)
 mSeals:List (Int)
 mSalt:Int
instance:DecidableEq Puzzle:=fun a b=>decidable_of_iff (a.mGrid=b.mGrid∧a.mClues=b.mClues∧a.mSeals=b.mSeals∧a.mSalt=b.mSalt) ⟨fun h=>by cases a;cases b;simp_all,fun h=>by subst h;simp⟩
def Puzzle.enc (x:Puzzle):List D:=[D.i x.mGrid.mRows,D.i x.mGrid.mCols,D.s x.mGrid.mCells,D.sl 2 (x.mClues.map Clue.enc),D.sl 1 (x.mSeals.map encI),D.i x.mSalt]
def Puzzle.tys:List Ty:=[.int .i64,.int .i64,.str,.sl [.int .i64,.sl [.int .i64,.str,.int .i64,.int .i64]],.sl [.int .i64],.int .i64]
def Puzzle.size (x:Puzzle):Nat:=x.mGrid.size+x.mClues.length+(x.mClues.map fun e=>e.size).sum+x.mSeals.length
def Puzzle.ok (x:Puzzle):Prop:=x.mGrid.ok∧x.mClues.length≤9223372036854775807∧(∀e∈x.mClues,e.ok)∧x.mSeals.length≤9223372036854775807∧(∀e∈x.mSeals,inR e)∧inR x.mSalt
theorem Puzzle.dec {r:List D} (h:WfR Puzzle.tys r):∃x:Puzzle,r=x.enc∧x.ok:=by
 unfold Puzzle.tys at h
 obtain ⟨_,r0',rfl,h0,t0⟩:=WfR_cons h
 obtain ⟨v0,rfl,p0,q0⟩:=Wf_int h0
 obtain ⟨_,r1',rfl,h1,t1⟩:=WfR_cons t0
 obtain ⟨v1,rfl,p1,q1⟩:=Wf_int h1
 obtain ⟨_,r2',rfl,h2,t2⟩:=WfR_cons t1
 obtain ⟨v2,rfl,p2⟩:=Wf_str h2
 obtain ⟨_,r3',rfl,h3,t3⟩:=WfR_cons t2
 obtain ⟨w3,rfl,p3,q3⟩:=Wf_sl h3
 obtain ⟨_,r4',rfl,h4,t4⟩:=WfR_cons t3
 obtain ⟨w4,rfl,p4,q4⟩:=Wf_sl h4
 obtain ⟨_,r5',rfl,h5,t5⟩:=WfR_cons t4
 obtain ⟨v5,rfl,p5,q5⟩:=Wf_int h5
 have t5:=WfR_nil t5
 subst t5
 obtain ⟨v3,rfl,r3⟩:=list_dec fun r hr=>Clue.dec (q3 r hr)
 simp only [List.length_map] at p3
 obtain ⟨v4,rfl,r4⟩:=list_dec fun r hr=>dec_I (q4 r hr)
 simp only [List.length_map] at p4
 exact ⟨⟨⟨v0,v1,v2⟩,v3,v4,v5⟩,rfl,by repeat' (first | assumption | exact trivial | apply And.intro)⟩

structure Issue where
 mNumber:Int
 mPuzzle:Puzzle
 mFill:List UInt8
 mOpen:Int
 mClose:Int
instance:DecidableEq Issue:=fun a b=>decidable_of_iff (a.mNumber=b.mNumber∧a.mPuzzle=b.mPuzzle∧a.mFill=b.mFill∧a.mOpen=b.mOpen∧a.mClose=b.mClose) ⟨fun h=>by cases a;cases b;simp_all,fun h=>by subst h;simp⟩
def Issue.enc (x:Issue):List D:=[D.i x.mNumber,D.i x.mPuzzle.mGrid.mRows,D.i x.mPuzzle.mGrid.mCols,D.s x.mPuzzle.mGrid.mCells,D.sl 2 (x.mPuzzle.mClues.map Clue.enc),D.sl 1 (x.mPuzzle.mSeals.map encI),D.i x.mPuzzle.mSalt,D.s x.mFill,D.i x.mOpen,D.i x.mClose]
def Issue.tys:List Ty:=[.int .i64,.int .i64,.int .i64,.str,.sl [.int .i64,.sl [.int .i64,.str,.int .i64,.int .i64]],.sl [.int .i64],.int .i64,.str,.int .i64,.int .i64]
def Issue.size (x:Issue):Nat:=x.mPuzzle.size+x.mFill.length
def Issue.ok (x:Issue):Prop:=inR x.mNumber∧x.mPuzzle.ok∧x.mFill.length≤9223372036854775807∧inR x.mOpen∧inR x.mClose
theorem Issue.dec {r:List D} (h:WfR Issue.tys r):∃x:Issue,r=x.enc∧x.ok:=by
 unfold Issue.tys at h
 obtain ⟨_,r0',rfl,h0,t0⟩:=WfR_cons h
 obtain ⟨v0,rfl,p0,q0⟩:=Wf_int h0
 obtain ⟨_,r1',rfl,h1,t1⟩:=WfR_cons t0
 obtain ⟨v1,rfl,p1,q1⟩:=Wf_int h1
 obtain ⟨_,r2',rfl,h2,t2⟩:=WfR_cons t1
 obtain ⟨v2,rfl,p2,q2⟩:=Wf_int h2
 obtain ⟨_,r3',rfl,h3,t3⟩:=WfR_cons t2
 obtain ⟨v3,rfl,p3⟩:=Wf_str h3
 obtain ⟨_,r4',rfl,h4,t4⟩:=WfR_cons t3
 obtain ⟨w4,rfl,p4,q4⟩:=Wf_sl h4
 obtain ⟨_,r5',rfl,h5,t5⟩:=WfR_cons t4
 obtain ⟨w5,rfl,p5,q5⟩:=Wf_sl h5
 obtain ⟨_,r6',rfl,h6,t6⟩:=WfR_cons t5
 obtain ⟨v6,rfl,p6,q6⟩:=Wf_int h6
 obtain ⟨_,r7',rfl,h7,t7⟩:=WfR_cons t6
 obtain ⟨v7,rfl,p7⟩:=Wf_str h7
 obtain ⟨_,r8',rfl,h8,t8⟩:=WfR_cons t7
 obtain ⟨v8,rfl,p8,q8⟩:=Wf_int h8
 obtain ⟨_,r9',rfl,h9,t9⟩:=WfR_cons t8
 obtain ⟨v9,rfl,p9,q9⟩:=Wf_int h9
 have t9:=WfR_nil t9
 subst t9
 obtain ⟨v4,rfl,r4⟩:=list_dec fun r hr=>Clue.dec (q4 r hr)
 simp only [List.length_map] at p4
 obtain ⟨v5,rfl,r5⟩:=list_dec fun r hr=>dec_I (q5 r hr)
 simp only [List.length_map] at p5
 exact ⟨⟨v0,⟨⟨v1,v2,v3⟩,v4,v5,v6⟩,v7,v8,v9⟩,rfl,by repeat' (first | assumption | exact trivial | apply And.intro)⟩

structure Used where
 mWord:List UInt8
 mIssue:Int
instance:DecidableEq Used:=fun a b=>decidable_of_iff (a.mWord=b.mWord∧a.mIssue=b.mIssue) ⟨fun h=>by cases a;cases b;simp_all,fun h=>by subst h;simp⟩
def Used.enc (x:Used):List D:=[D.s x.mWord,D.i x.mIssue]
def Used.tys:List Ty:=[.str,.int .i64]
def Used.size (x:Used):Nat:=x.mWord.length
def Used.ok (x:Used):Prop:=x.mWord.length≤9223372036854775807∧inR x.mIssue
theorem Used.dec {r:List D} (h:WfR Used.tys r):∃x:Used,r=x.enc∧x.ok:=by
 unfold Used.tys at h
 obtain ⟨_,r0',rfl,h0,t0⟩:=WfR_cons h
 obtain ⟨v0,rfl,p0⟩:=Wf_str h0
 obtain ⟨_,r1',rfl,h1,t1⟩:=WfR_cons t0
 obtain ⟨v1,rfl,p1,q1⟩:=Wf_int h1
 have t1:=WfR_nil t1
 subst t1
 exact ⟨⟨v0,v1⟩,rfl,by repeat' (first | assumption | exact trivial | apply And.intro)⟩

structure House where
 mList:List (Listed)
 mDict:List (Meaning)
 mDesk:Draft
 mIssues:List (Issue)
 mUses:List (Used)
 mCorrections:List (Correction)
 mEntries:List (Entry)
 mNow:Int
instance:DecidableEq House:=fun a b=>decidable_of_iff (a.mList=b.mList∧a.mDict=b.mDict∧a.mDesk=b.mDesk∧a.mIssues=b.mIssues∧a.mUses=b.mUses∧a.mCorrections=b.mCorrections∧a.mEntries=b.mEntries∧a.mNow=b.mNow) ⟨fun h=>by cases a;cases b;simp_all,fun h=>by subst h;simp⟩
def House.enc (x:House):List D:=[D.sl 4 (x.mList.map Listed.enc),D.sl 2 (x.mDict.map Meaning.enc),D.i x.mDesk.mGrid.mRows,D.i x.mDesk.mGrid.mCols,D.s x.mDesk.mGrid.mCells,D.s x.mDesk.mFill,D.sl 2 (x.mDesk.mClues.map Clue.enc),D.i x.mDesk.mVersion,D.sl 10 (x.mIssues.map Issue.enc),D.sl 2 (x.mUses.map Used.enc),D.sl 5 (x.mCorrections.map Correction.enc),D.sl 4 (x.mEntries.map Entry.enc),D.i x.mNow]
def House.tys:List Ty:=[.sl [.str,.int .i64,.int .i64,.int .i64],.sl [.str,.int .i64],.int .i64,.int .i64,.str,.str,.sl [.int .i64,.sl [.int .i64,.str,.int .i64,.int .i64]],.int .i64,.sl [.int .i64,.int .i64,.int .i64,.str,.sl [.int .i64,.sl [.int .i64,.str,.int .i64,.int .i64]],.sl [.int .i64],.int .i64,.str,.int .i64,.int .i64],.sl [.str,.int .i64],.sl [.int .i64,.int .i64,.int .i64,.sl [.int .i64,.str,.int .i64,.int .i64],.int .i64],.sl [.int .i64,.int .i64,.int .i64,.str],.int .i64]
def House.size (x:House):Nat:=x.mList.length+(x.mList.map fun e=>e.size).sum+x.mDict.length+(x.mDict.map fun e=>e.size).sum+x.mDesk.size+x.mIssues.length+(x.mIssues.map fun e=>e.size).sum+x.mUses.length+(x.mUses.map fun e=>e.size).sum+x.mCorrections.length+(x.mCorrections.map fun e=>e.size).sum+x.mEntries.length+(x.mEntries.map fun e=>e.size).sum
def House.ok (x:House):Prop:=x.mList.length≤9223372036854775807∧(∀e∈x.mList,e.ok)∧x.mDict.length≤9223372036854775807∧(∀e∈x.mDict,e.ok)∧x.mDesk.ok∧x.mIssues.length≤9223372036854775807∧(∀e∈x.mIssues,e.ok)∧x.mUses.length≤9223372036854775807∧(∀e∈x.mUses,e.ok)∧x.mCorrections.length≤9223372036854775807∧(∀e∈x.mCorrections,e.ok)∧x.mEntries.length≤9223372036854775807∧(∀e∈x.mEntries,e.ok)∧inR x.mNow
theorem House.dec {r:List D} (h:WfR House.tys r):∃x:House,r=x.enc∧x.ok:=by
 unfold House.tys at h
 obtain ⟨_,r0',rfl,h0,t0⟩:=WfR_cons h
 obtain ⟨w0,rfl,p0,q0⟩:=Wf_sl h0
 obtain ⟨_,r1',rfl,h1,t1⟩:=WfR_cons t0
 obtain ⟨w1,rfl,p1,q1⟩:=Wf_sl h1
 obtain ⟨_,r2',rfl,h2,t2⟩:=WfR_cons t1
 obtain ⟨v2,rfl,p2,q2⟩:=Wf_int h2
 obtain ⟨_,r3',rfl,h3,t3⟩:=WfR_cons t2
 obtain ⟨v3,rfl,p3,q3⟩:=Wf_int h3
 obtain ⟨_,r4',rfl,h4,t4⟩:=WfR_cons t3
 obtain ⟨v4,rfl,p4⟩:=Wf_str h4
 obtain ⟨_,r5',rfl,h5,t5⟩:=WfR_cons t4
 obtain ⟨v5,rfl,p5⟩:=Wf_str h5
 obtain ⟨_,r6',rfl,h6,t6⟩:=WfR_cons t5
 obtain ⟨w6,rfl,p6,q6⟩:=Wf_sl h6
 obtain ⟨_,r7',rfl,h7,t7⟩:=WfR_cons t6
 obtain ⟨v7,rfl,p7,q7⟩:=Wf_int h7
 obtain ⟨_,r8',rfl,h8,t8⟩:=WfR_cons t7
 obtain ⟨w8,rfl,p8,q8⟩:=Wf_sl h8
 obtain ⟨_,r9',rfl,h9,t9⟩:=WfR_cons t8
 obtain ⟨w9,rfl,p9,q9⟩:=Wf_sl h9
 obtain ⟨_,r10',rfl,h10,t10⟩:=WfR_cons t9
 obtain ⟨w10,rfl,p10,q10⟩:=Wf_sl h10
 obtain ⟨_,r11',rfl,h11,t11⟩:=WfR_cons t10
 obtain ⟨w11,rfl,p11,q11⟩:=Wf_sl h11
 obtain ⟨_,r12',rfl,h12,t12⟩:=WfR_cons t11
 obtain ⟨v12,rfl,p12,q12⟩:=Wf_int h12
 have t12:=WfR_nil t12
 subst t12
 obtain ⟨v0,rfl,r0⟩:=list_dec fun r hr=>Listed.dec (q0 r hr)
 simp only [List.length_map] at p0
 obtain ⟨v1,rfl,r1⟩:=list_dec fun r hr=>Meaning.dec (q1 r hr)
 simp only [List.length_map] at p1
 obtain ⟨v6,rfl,r6⟩:=list_dec fun r hr=>Clue.dec (q6 r hr)
 simp only [List.length_map] at p6
 obtain ⟨v8,rfl,r8⟩:=list_dec fun r hr=>Issue.dec (q8 r hr)
 simp only [List.length_map] at p8
 obtain ⟨v9,rfl,r9⟩:=list_dec fun r hr=>Used.dec (q9 r hr)
 simp only [List.length_map] at p9
 obtain ⟨v10,rfl,r10⟩:=list_dec fun r hr=>Correction.dec (q10 r hr)
 simp only [List.length_map] at p10
 obtain ⟨v11,rfl,r11⟩:=list_dec fun r hr=>Entry.dec (q11 r hr)
 simp only [List.length_map] at p11
 exact ⟨⟨v0,v1,⟨⟨v2,v3,v4⟩,v5,v6,v7⟩,v8,v9,v10,v11,v12⟩,rfl,by repeat' (first | assumption | exact trivial | apply And.intro)⟩

structure Slot where
 mNumber:Int
 mDown:Bool
 mCell:Int
 mLength:Int
instance:DecidableEq Slot:=fun a b=>decidable_of_iff (a.mNumber=b.mNumber∧a.mDown=b.mDown∧a.mCell=b.mCell∧a.mLength=b.mLength) ⟨fun h=>by cases a;cases b;simp_all,fun h=>by subst h;simp⟩
def Slot.enc (x:Slot):List D:=[D.i x.mNumber,D.b x.mDown,D.i x.mCell,D.i x.mLength]
def Slot.tys:List Ty:=[.int .i64,.bool,.int .i64,.int .i64]
def Slot.size (x:Slot):Nat:=0
def Slot.ok (x:Slot):Prop:=inR x.mNumber∧inR x.mCell∧inR x.mLength
theorem Slot.dec {r:List D} (h:WfR Slot.tys r):∃x:Slot,r=x.enc∧x.ok:=by
 unfold Slot.tys at h
 obtain ⟨_,r0',rfl,h0,t0⟩:=WfR_cons h
 obtain ⟨v0,rfl,p0,q0⟩:=Wf_int h0
 obtain ⟨_,r1',rfl,h1,t1⟩:=WfR_cons t0
 obtain ⟨v1,rfl⟩:=Wf_bool h1
 obtain ⟨_,r2',rfl,h2,t2⟩:=WfR_cons t1
 obtain ⟨v2,rfl,p2,q2⟩:=Wf_int h2
 obtain ⟨_,r3',rfl,h3,t3⟩:=WfR_cons t2
 obtain ⟨v3,rfl,p3,q3⟩:=Wf_int h3
 have t3:=WfR_nil t3
 subst t3
 exact ⟨⟨v0,v1,v2,v3⟩,rfl,by repeat' (first | assumption | exact trivial | apply And.intro)⟩

structure Asked where
 mNumbers:List (Int)
 mGrid:Grid
 mText:List UInt8
 mSlot:Int
 mPlay:List (Step)
instance:DecidableEq Asked:=fun a b=>decidable_of_iff (a.mNumbers=b.mNumbers∧a.mGrid=b.mGrid∧a.mText=b.mText∧a.mSlot=b.mSlot∧a.mPlay=b.mPlay) ⟨fun h=>by cases a;cases b;simp_all,fun h=>by subst h;simp⟩
def Asked.enc (x:Asked):List D:=[D.sl 1 (x.mNumbers.map encI),D.i x.mGrid.mRows,D.i x.mGrid.mCols,D.s x.mGrid.mCells,D.s x.mText,D.i x.mSlot,D.sl 4 (x.mPlay.map Step.enc)]
def Asked.tys:List Ty:=[.sl [.int .i64],.int .i64,.int .i64,.str,.str,.int .i64,.sl [.int .i64,.str,.int .i64,.int .i64]]
def Asked.size (x:Asked):Nat:=x.mNumbers.length+x.mGrid.size+x.mText.length+x.mPlay.length+(x.mPlay.map fun e=>e.size).sum
def Asked.ok (x:Asked):Prop:=x.mNumbers.length≤9223372036854775807∧(∀e∈x.mNumbers,inR e)∧x.mGrid.ok∧x.mText.length≤9223372036854775807∧inR x.mSlot∧x.mPlay.length≤9223372036854775807∧(∀e∈x.mPlay,e.ok)
theorem Asked.dec {r:List D} (h:WfR Asked.tys r):∃x:Asked,r=x.enc∧x.ok:=by
 unfold Asked.tys at h
 obtain ⟨_,r0',rfl,h0,t0⟩:=WfR_cons h
 obtain ⟨w0,rfl,p0,q0⟩:=Wf_sl h0
 obtain ⟨_,r1',rfl,h1,t1⟩:=WfR_cons t0
 obtain ⟨v1,rfl,p1,q1⟩:=Wf_int h1
 obtain ⟨_,r2',rfl,h2,t2⟩:=WfR_cons t1
 obtain ⟨v2,rfl,p2,q2⟩:=Wf_int h2
 obtain ⟨_,r3',rfl,h3,t3⟩:=WfR_cons t2
 obtain ⟨v3,rfl,p3⟩:=Wf_str h3
 obtain ⟨_,r4',rfl,h4,t4⟩:=WfR_cons t3
 obtain ⟨v4,rfl,p4⟩:=Wf_str h4
 obtain ⟨_,r5',rfl,h5,t5⟩:=WfR_cons t4
 obtain ⟨v5,rfl,p5,q5⟩:=Wf_int h5
 obtain ⟨_,r6',rfl,h6,t6⟩:=WfR_cons t5
 obtain ⟨w6,rfl,p6,q6⟩:=Wf_sl h6
 have t6:=WfR_nil t6
 subst t6
 obtain ⟨v0,rfl,r0⟩:=list_dec fun r hr=>dec_I (q0 r hr)
 simp only [List.length_map] at p0
 obtain ⟨v6,rfl,r6⟩:=list_dec fun r hr=>Step.dec (q6 r hr)
 simp only [List.length_map] at p6
 exact ⟨⟨v0,⟨v1,v2,v3⟩,v4,v5,v6⟩,rfl,by repeat' (first | assumption | exact trivial | apply And.intro)⟩

structure Filler where
 mSlots:List (List (Int))
 mDomains:List (List (List UInt8))
 mApart:Bool
 mMost:Int
 mFound:List (List UInt8)
instance:DecidableEq Filler:=fun a b=>decidable_of_iff (a.mSlots=b.mSlots∧a.mDomains=b.mDomains∧a.mApart=b.mApart∧a.mMost=b.mMost∧a.mFound=b.mFound) ⟨fun h=>by cases a;cases b;simp_all,fun h=>by subst h;simp⟩
def Filler.enc (x:Filler):List D:=[D.sl 1 (x.mSlots.map (fun x=>[D.sl 1 (x.map encI)])),D.sl 1 (x.mDomains.map (fun x=>[D.sl 1 (x.map encS)])),D.b x.mApart,D.i x.mMost,D.sl 1 (x.mFound.map encS)]
def Filler.tys:List Ty:=[.sl [.sl [.int .i64]],.sl [.sl [.str]],.bool,.int .i64,.sl [.str]]
def Filler.size (x:Filler):Nat:=x.mSlots.length+(x.mSlots.map fun e=>e.length).sum+x.mDomains.length+(x.mDomains.map fun e=>e.length+(e.map fun ee=>ee.length).sum).sum+x.mFound.length+(x.mFound.map fun e=>e.length).sum
def Filler.ok (x:Filler):Prop:=x.mSlots.length≤9223372036854775807∧(∀e∈x.mSlots,e.length≤9223372036854775807∧(∀ee∈e,inR ee))∧x.mDomains.length≤9223372036854775807∧(∀e∈x.mDomains,e.length≤9223372036854775807∧(∀ee∈e,ee.length≤9223372036854775807))∧inR x.mMost∧x.mFound.length≤9223372036854775807∧(∀e∈x.mFound,e.length≤9223372036854775807)
theorem Filler.dec {r:List D} (h:WfR Filler.tys r):∃x:Filler,r=x.enc∧x.ok:=by
 unfold Filler.tys at h
 obtain ⟨_,r0',rfl,h0,t0⟩:=WfR_cons h
 obtain ⟨w0,rfl,p0,q0⟩:=Wf_sl h0
 obtain ⟨_,r1',rfl,h1,t1⟩:=WfR_cons t0
 obtain ⟨w1,rfl,p1,q1⟩:=Wf_sl h1
 obtain ⟨_,r2',rfl,h2,t2⟩:=WfR_cons t1
 obtain ⟨v2,rfl⟩:=Wf_bool h2
 obtain ⟨_,r3',rfl,h3,t3⟩:=WfR_cons t2
 obtain ⟨v3,rfl,p3,q3⟩:=Wf_int h3
 obtain ⟨_,r4',rfl,h4,t4⟩:=WfR_cons t3
 obtain ⟨w4,rfl,p4,q4⟩:=Wf_sl h4
 have t4:=WfR_nil t4
 subst t4
 obtain ⟨v0,rfl,r0⟩:=list_dec fun r hr=>(dec_L dec_I) (q0 r hr)
 simp only [List.length_map] at p0
 obtain ⟨v1,rfl,r1⟩:=list_dec fun r hr=>(dec_L dec_S) (q1 r hr)
 simp only [List.length_map] at p1
 obtain ⟨v4,rfl,r4⟩:=list_dec fun r hr=>dec_S (q4 r hr)
 simp only [List.length_map] at p4
 exact ⟨⟨v0,v1,v2,v3,v4⟩,rfl,by repeat' (first | assumption | exact trivial | apply And.intro)⟩

structure Reader where
 mRest:List UInt8
 mSteps:List (Step)
instance:DecidableEq Reader:=fun a b=>decidable_of_iff (a.mRest=b.mRest∧a.mSteps=b.mSteps) ⟨fun h=>by cases a;cases b;simp_all,fun h=>by subst h;simp⟩
def Reader.enc (x:Reader):List D:=[D.s x.mRest,D.sl 4 (x.mSteps.map Step.enc)]
def Reader.tys:List Ty:=[.str,.sl [.int .i64,.str,.int .i64,.int .i64]]
def Reader.size (x:Reader):Nat:=x.mRest.length+x.mSteps.length+(x.mSteps.map fun e=>e.size).sum
def Reader.ok (x:Reader):Prop:=x.mRest.length≤9223372036854775807∧x.mSteps.length≤9223372036854775807∧(∀e∈x.mSteps,e.ok)
theorem Reader.dec {r:List D} (h:WfR Reader.tys r):∃x:Reader,r=x.enc∧x.ok:=by
 unfold Reader.tys at h
 obtain ⟨_,r0',rfl,h0,t0⟩:=WfR_cons h
 obtain ⟨v0,rfl,p0⟩:=Wf_str h0
 obtain ⟨_,r1',rfl,h1,t1⟩:=WfR_cons t0
 obtain ⟨w1,rfl,p1,q1⟩:=Wf_sl h1
 have t1:=WfR_nil t1
 subst t1
 obtain ⟨v1,rfl,r1⟩:=list_dec fun r hr=>Step.dec (q1 r hr)
 simp only [List.length_map] at p1
 exact ⟨⟨v0,v1⟩,rfl,by repeat' (first | assumption | exact trivial | apply And.intro)⟩

end Go.Gx
