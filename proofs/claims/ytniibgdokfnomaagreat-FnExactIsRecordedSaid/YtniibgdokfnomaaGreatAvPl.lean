/- PLAIN LAWS: loops and checks of printed functions, in plain Lean. -/
import Derived.Test.YtniibgdokfnomaaGreatAvLp
namespace Go.Av
open Go Go.Gx
set_option linter.unusedVariables false

@[simp] theorem sel_true {α:Type} (x y:α):sel true x y=x:=rfl
@[simp] theorem sel_false {α:Type} (x y:α):sel false x y=y:=rfl
@[simp] theorem bnd_mk {α β:Type} (a:α) (k:α→Option β):bnd (some a) k=k a:=rfl
@[simp] theorem bnd_none {α β:Type} (k:α→Option β):bnd none k=none:=rfl
@[simp] theorem cutb_nx {α β:Type} (a:α) (k:α→Option β):cutb (some (.nx a)) k=k a:=rfl
@[simp] theorem cutb_rt {α β:Type} (b:β) (k:α→Option β):cutb (some (.rt b)) k=some b:=rfl
theorem chk_pos {α:Type} {p:Prop} [Decidable p] (h:p) (x:Option α):chk p x=x:=by unfold chk;rw [if_pos h]
theorem sel_pos {α:Type} {p:Prop} [Decidable p] (h:p) (x y:α):sel (decide p) x y=x:=by rw [decide_eq_true h];rfl
theorem sel_neg {α:Type} {p:Prop} [Decidable p] (h:¬ p) (x y:α):sel (decide p) x y=y:=by rw [decide_eq_false h];rfl
theorem sel_not {α:Type} (b:Bool) (x y:α):sel (!b) x y=sel b y x:=by cases b <;> rfl
theorem sel_ite {α:Type} (p:Prop) [Decidable p] (x y:α):sel (decide p) x y=if p then x else y:=sel_dec p x y
theorem w64_in {n:Int} (h1:-9223372036854775808≤n) (h2:n≤9223372036854775807):w64 n=n:=wrap_in h1 h2
theorem w64_nat {i:Nat} (h:i≤4611686018427387904):w64 ((i:Int)+1)=((i+1:Nat):Int):=by rw [w64_in (by omega) (by omega)];rfl
theorem getI_nat {α:Type} {l:List α} {i:Nat} {x:α} (h:l[i]?=some x):getI l (i:Int)=some x:=by
 unfold getI;rw [if_pos (by omega)];simpa using h

/-- a loop told by its states -/
theorem loopN_inv {σ β:Type} {step:σ→Option (Sum σ β)} (inv:Nat→σ) {n:Nat} {b:β} (h1:∀i,i<n→step (inv i)=some (.inl (inv (i+1)))) (h2:step (inv n)=some (.inr b)) {N:Nat} (hN:n<N):
  loopN step N (inv 0)=some b:=by
 have key:∀k i,i+k=n→∀M,k<M→loopN step M (inv i)=some b:=by
  intro k
  induction k with
  | zero=>
   intro i hi M hM
   obtain ⟨M,rfl⟩:∃m,M=m+1:=⟨M - 1,by omega⟩
   have:i=n:=by omega
   subst this
   simp only [loopN,h2]
  | succ k ih=>
   intro i hi M hM
   obtain ⟨M,rfl⟩:∃m,M=m+1:=⟨M - 1,by omega⟩
   simp only [loopN,h1 i (by omega)]
   exact ih (i+1) (by omega) M (by omega)
 exact key n 0 (by omega) N hN

/-- a loop over a list, told by what it makes of the rest of it -/
theorem loopN_list {α A σ β:Type} (mk:Nat→A→σ) {step:σ→Option (Sum σ β)} (l:List α) (R:List α→A→β) (inv:Nat→A→Prop) {a:A} (ha:inv 0 a)
  (h0:∀a,inv l.length a→step (mk l.length a)=some (.inr (R [] a)))
  (h1:∀i a x r,inv i a→l[i]?=some x→l.drop (i+1)=r→i<l.length→(∃a',step (mk i a)=some (.inl (mk (i+1) a'))∧inv (i+1) a'∧R (x::r) a=R r a')∨step (mk i a)=some (.inr (R (x::r) a)))
  {N:Nat} (hN:l.length<N):loopN step N (mk 0 a)=some (R l a):=by
 have key:∀k i a,i+k=l.length→inv i a→∀M,k<M→loopN step M (mk i a)=some (R (l.drop i) a):=by
  intro k
  induction k with
  | zero=>
   intro i a hi hv M hM
   obtain ⟨M,rfl⟩:∃m,M=m+1:=⟨M - 1,by omega⟩
   have:i=l.length:=by omega
   subst this
   simp only [loopN,h0 a hv,List.drop_length]
  | succ k ih=>
   intro i a hi hv M hM
   obtain ⟨M,rfl⟩:∃m,M=m+1:=⟨M - 1,by omega⟩
   have hlt:i<l.length:=by omega
   have hx:l[i]?=some l[i]:=List.getElem?_eq_getElem hlt
   have hd:l.drop i=l[i]::l.drop (i+1):=List.drop_eq_getElem_cons hlt
   rw [hd]
   rcases h1 i a l[i] _ hv hx rfl hlt with ⟨a',e,hv',er⟩ | e
   ·simp only [loopN,e,er]
    exact ih (i+1) a' (by omega) hv' M (by omega)
   ·simp only [loopN,e]
 have:=key l.length 0 a (by omega) ha N hN
 simpa using this

/-! ### The laws' own helpers -/
theorem copy_loop {α:Type} {l:List α} {to:α→Option α} {step:List α×Int→Option (Sum (List α×Int) (List α))} {z:α} {N:Nat}
  (hs:∀p,step p=sel (decide (p.2<(l.length:Int))) (bnd (getI l p.2) fun x=>bnd (to x) fun y=>bnd (getI p.1 p.2) fun _=>some (.inl (List.set p.1 (Int.toNat p.2) y,w64 (p.2+1)))) (some (.inr p.1)))
  (hto:∀x∈l,to x=some x) (hl:l.length≤274877906944) (hN:l.length<N):loopN step N (List.replicate (Int.toNat (l.length:Int)) z,0)=some l:=by
 have:=loopN_inv (step:=step) (fun i=>(l.take i++List.replicate (l.length - i) z,(i:Int))) (n:=l.length) (b:=l) (fun i hi=>by
  have hx:l[i]?=some l[i]:=List.getElem?_eq_getElem hi
  rw [hs]
  simp only
  rw [sel_pos (by omega),getI_nat hx,bnd_mk,hto _ (List.getElem_mem hi),bnd_mk]
  have h2:(l.take i++List.replicate (l.length - i) z)[i]?=some z:=by
   rw [List.getElem?_append_right (by simp;omega),List.getElem?_replicate]
   simp;omega
  rw [getI_nat h2,bnd_mk,w64_nat (by omega)]
  have e:List.set (l.take i++List.replicate (l.length - i) z) (Int.toNat (i:Int)) l[i]=l.take (i+1)++List.replicate (l.length - (i+1)) z:=by
   have e1:l.length - i=(l.length - (i+1))+1:=by omega
   rw [Int.toNat_natCast,e1,List.replicate_succ,List.set_append_right _ _ (by simp;omega)]
   have e2:i - (l.take i).length=0:=by simp;omega
   have e3:l.take (i+1)=l.take i++[l[i]]:=by rw [List.take_add_one,hx];rfl
   rw [e2,List.set_cons_zero,e3,List.append_assoc]
   rfl
  rw [e]) (by
  rw [hs]
  simp only
  rw [sel_neg (by omega)]
  simp) hN
 simpa using this

theorem eq_loop {α:Type} [DecidableEq α] {l m:List α} {eq:α→α→Option Bool} {step:Int→Option (Sum Int (Cut Unit Bool))} {N:Nat}
  (hs:∀p,step p=sel (decide (p<(l.length:Int))) (bnd (getI l p) fun x=>bnd (getI m p) fun y=>bnd (eq x y) fun b=>sel (!b) (some (.inr (.rt false))) (some (.inl (w64 (p+1))))) (some (.inr (.nx ()))))
  (heq:∀x∈l,∀y,eq x y=some (decide (x=y))) (hlm:l.length=m.length) (hl:l.length≤274877906944) (hN:l.length<N):cutb (loopN step N 0) (fun _=>some true)=some (decide (l=m)):=by
 by_cases h:l=m
 ·subst h
  have:=loopN_inv (step:=step) (fun i=>(i:Int)) (n:=l.length) (b:=.nx ()) (fun i hi=>by
   have hx:l[i]?=some l[i]:=List.getElem?_eq_getElem hi
   rw [hs,sel_pos (by omega),getI_nat hx,bnd_mk,bnd_mk,heq _ (List.getElem_mem hi),bnd_mk,w64_nat (by omega)]
   simp) (by rw [hs,sel_neg (by omega)]) hN
  rw [show (0:Int)=((0:Nat):Int) from rfl,this]
  simp
 ·-- the first place at which they differ
  have hex:∃i,i<l.length∧l[i]?≠m[i]?:=by
   refine Classical.byContradiction fun hn=>h ?_
   apply List.ext_getElem? fun i=>?_
   by_cases hi:i<l.length
   ·exact Classical.byContradiction fun hne=>hn ⟨i,hi,hne⟩
   ·rw [List.getElem?_eq_none (by omega),List.getElem?_eq_none (by omega)]
  have hmin:∃i,(i<l.length∧l[i]?≠m[i]?)∧∀j,j<i→¬ (j<l.length∧l[j]?≠m[j]?):=by
   obtain ⟨i,hi⟩:=hex
   induction i using Nat.strongRecOn with
   | _ i ih=>
    by_cases hj:∃j,j<i∧(j<l.length∧l[j]?≠m[j]?)
    ·obtain ⟨j,hj1,hj2⟩:=hj;exact ih j hj1 hj2
    ·exact ⟨i,hi,fun j hj1 hj2=>hj ⟨j,hj1,hj2⟩⟩
  obtain ⟨i,⟨hi,hne⟩,hj⟩:=hmin
  have hx:∀j,(hj:j<l.length)→l[j]?=some l[j]:=fun j hj=>List.getElem?_eq_getElem hj
  have hy:∀j,(hj:j<l.length)→m[j]?=some (m[j]'(by omega)):=fun j hj=>List.getElem?_eq_getElem (by omega)
  have:=loopN_inv (N:=N) (step:=step) (fun i=>(i:Int)) (n:=i) (b:=.rt false) (fun j hji=>by
   have hjl:j<l.length:=by omega
   have e:l[j]?=m[j]?:=Classical.byContradiction fun hne=>hj j hji ⟨hjl,hne⟩
   rw [hs,sel_pos (by omega),getI_nat (hx j hjl),bnd_mk,getI_nat (e.symm.trans (hx j hjl)),bnd_mk,heq _ (List.getElem_mem hjl),bnd_mk,w64_nat (by omega)]
   simp) (by
   rw [hs,sel_pos (by omega),getI_nat (hx i hi),bnd_mk,getI_nat (hy i hi),bnd_mk,heq _ (List.getElem_mem hi),bnd_mk]
   have:¬ l[i]=m[i]'(by omega):=fun e=>hne (by rw [hx i hi,hy i hi,e])
   simp [this]) (by omega)
  rw [show (0:Int)=((0:Nat):Int) from rfl,this]
  simp [h]

theorem szF_add {a b:Nat} {left:Int} (h0:0≤left):szF (a+b) left=if szF a left<0 then -1 else szF b (szF a left):=by
 unfold szF;push_cast;split <;> split <;> (try split) <;> (try split) <;> omega
theorem szF_bound {a:Nat} {left:Int} (h:left≤1048576):szF a left≤1048576:=by unfold szF;split <;> omega
theorem sz_len {n:Nat} {left:Int} (h0:0≤left) (h1:left≤1048576) (hn:n≤9223372036854775807):sel (decide (w64 (left - (n:Int))<0)) (some (-1)) (some (w64 (left - (n:Int))))=some (szF n left):=by
 rw [w64_in (by omega) (by omega),sel_ite]
 unfold szF
 split <;> split <;> first | rfl | omega
/-- a size's loop; sz: of an element -/
theorem sz_loop {α:Type} {l:List α} {f:α→Nat} {sz:α→Int→Option Int} {step:Int×Int→Option (Sum (Int×Int) (Cut Int Int))} {N:Nat} {left:Int}
  (hs:∀p,step p=sel (decide (p.2<(l.length:Int))) (bnd (getI l p.2) fun x=>bnd (sz x p.1) fun y=>sel (decide (y<0)) (some (.inr (.rt (-1)))) (some (.inl (y,w64 (p.2+1))))) (some (.inr (.nx p.1))))
  (hsz:∀x∈l,∀c,0≤c→c≤1048576→∃y,sz x c=some y∧(szF (f x) c<0→y<0)∧(¬ szF (f x) c<0→y=szF (f x) c)) (h0:0≤left) (h1:left≤1048576) (hl:l.length≤1048576) (hN:l.length<N):
  cutb (loopN step N (left,0)) (fun t=>some t)=some (szF (l.map f).sum left):=by
 have:=loopN_list (step:=step) (fun i c=>(c,(i:Int))) l (fun r c=>if szF (r.map f).sum c<0 then Cut.rt (-1) else Cut.nx (szF (r.map f).sum c)) (fun i c=>0≤c∧c≤1048576) (a:=left) ⟨h0,h1⟩
  (fun c hc=>by
   rw [hs]
   simp only
   rw [sel_neg (by omega)]
   have:szF (List.map f []).sum c=c:=by simp [szF,hc.1]
   rw [this,if_neg (by omega)])
  (fun i c x r hc hx hr hi=>by
   rw [hs]
   simp only
   have hm:x∈l:=List.mem_of_getElem? hx
   obtain ⟨y,e,e1,e2⟩:=hsz x hm c hc.1 hc.2
   rw [sel_pos (by omega),getI_nat hx,bnd_mk,e,bnd_mk,w64_nat (by omega)]
   have ea:szF (List.map f (x::r)).sum c=if szF (f x) c<0 then -1 else szF (r.map f).sum (szF (f x) c):=by
    rw [List.map_cons,List.sum_cons];exact szF_add hc.1
   by_cases hy:szF (f x) c<0
   ·right
    rw [sel_pos (e1 hy),ea,if_pos hy,if_pos (by omega)]
   ·left
    have ey:=e2 hy
    rw [sel_neg (by omega)]
    refine ⟨y,rfl,⟨by omega,by rw [ey];exact szF_bound hc.2⟩,?_⟩
    rw [ea,if_neg hy,ey]) hN
 rw [show (left,(0:Int))=(left,((0:Nat):Int)) from rfl,this]
 have:szF (l.map f).sum left<0→szF (l.map f).sum left=-1:=by unfold szF;split <;> omega
 split
 ·rename_i h;rw [cutb_rt,this h]
 ·rw [cutb_nx]
theorem sz_ok {n:Nat} {c:Int}:∃y,some (szF n c)=some y∧(szF n c<0→y<0)∧(¬ szF n c<0→y=szF n c):=⟨_,rfl,fun h=>h,fun _=>rfl⟩
theorem sz_ok' {n:Nat} {c:Int} (h0:0≤c) (h1:c≤1048576) (hn:n≤9223372036854775807):∃y,some (w64 (c - (n:Int)))=some y∧(szF n c<0→y<0)∧(¬ szF n c<0→y=szF n c):=by
 refine ⟨_,rfl,?_,?_⟩ <;> rw [w64_in (by omega) (by omega)] <;> unfold szF <;> split <;> omega
/-- two sizes, one behind the other -/
theorem sz_seq {a b:Nat} {left:Int} (h0:0≤left) {k:Int→Option Int} (hk:∀c,0≤c→c=szF a left→k c=some (szF b c)):bnd (some (szF a left)) (fun x=>sel (decide (x<0)) (some (-1)) (k x))=some (szF (a+b) left):=by
 rw [bnd_mk,szF_add h0,sel_ite]
 split
 ·rfl
 ·rw [hk _ (by omega) rfl]
theorem sz_seq' {a b:Nat} {c:Int} (h0:0≤c) (h1:c≤1048576) (hn:a≤9223372036854775807) {k:Int→Option Int} (hk:∀d,0≤d→d=szF a c→k d=some (szF b d)):
  sel (decide (w64 (c - (a:Int))<0)) (some (-1)) (k (w64 (c - (a:Int))))=some (szF (a+b) c):=by
 rw [w64_in (by omega) (by omega),szF_add h0,sel_ite]
 have e:szF a c=if c - (a:Int)<0 then -1 else c - a:=by unfold szF;split <;> split <;> omega
 split
 ·rename_i h;rw [e,if_pos h,if_pos (by omega)]
 ·rename_i h
  rw [e,if_neg h,if_neg h]
  exact hk _ (by omega) (by rw [e,if_neg h])
theorem sz_end {b:Nat} {c:Int}:bnd (some (szF b c)) (fun x=>sel (decide (x<0)) (some (-1)) (some x))=some (szF b c):=by
 rw [bnd_mk,sel_ite]
 split
 ·rename_i h;unfold szF at h ⊢;split at h <;> first | omega | (rename_i h';rw [if_neg h'])
 ·rfl
theorem szF_nn {a:Nat} {c d:Int} (h:d=szF a c) (h0:0≤d) (h1:c≤1048576):d≤1048576∧(a:Int)≤c:=by unfold szF at h;split at h <;> omega
theorem eq_fld {α:Type} [BEq α] [LawfulBEq α] {a b:α} {p:Prop} [Decidable p] {R:Option Bool} (h1:¬ a=b→¬ p) (h2:a=b→R=some (decide p)):sel (a != b) (some false) R=some (decide p):=by
 by_cases h:a=b
 ·rw [← h2 h];subst h;simp
 ·have:(a != b)=true:=by simp [h]
  rw [this,decide_eq_false (h1 h)];rfl
theorem eq_sub {q p:Prop} [Decidable q] [Decidable p] {R:Option Bool} (h1:¬ q→¬ p) (h2:q→R=some (decide p)):bnd (some (decide q)) (fun b=>sel (!b) (some false) R)=some (decide p):=by
 rw [bnd_mk,sel_not,sel_ite]
 split
 ·rename_i h;exact h2 h
 ·rename_i h;rw [decide_eq_false (h1 h)]
theorem sz_seq2 {a b:Nat} {c:Int} (h0:0≤c) (h1:c≤1048576) (hn:a≤9223372036854775807) {R:Option Int} (hk:∀d,0≤d→d=szF a c→w64 (c - (a:Int))=d→R=some (szF b d)):
  sel (decide (w64 (c - (a:Int))<0)) (some (-1)) R=some (szF (a+b) c):=by
 have hw:w64 (c - (a:Int))=c - a:=w64_in (by omega) (by omega)
 rw [hw,szF_add h0,sel_ite]
 have e:szF a c=if c - (a:Int)<0 then -1 else c - a:=by unfold szF;split <;> split <;> omega
 split
 ·rename_i h;rw [e,if_pos h,if_pos (by omega)]
 ·rename_i h
  rw [e,if_neg h,if_neg h]
  exact hk _ (by omega) (by rw [e,if_neg h]) hw

/-! ### Loops of the usual kinds -/
theorem byteI_nat {s:List UInt8} {i:Nat} {c:UInt8} (h:s[i]?=some c):byteI s (i:Int)=(c.toNat:Int):=by
 unfold byteI;rw [Int.toNat_natCast,List.getD_eq_getElem?_getD,h];rfl
theorem getD_nat {s:List UInt8} {i:Nat} {c:UInt8} (h:s[i]?=some c):List.getD s (Int.toNat (i:Int)) 0=c:=by
 rw [Int.toNat_natCast,List.getD_eq_getElem?_getD,h];rfl
theorem u8_eq {c:UInt8} {n:Nat} (h:n<256):(((c.toNat:Int) == (n:Int))=(c == UInt8.ofNat n)):=by
 rw [Bool.eq_iff_iff];simp only [beq_iff_eq]
 constructor
 ·intro e
  have:c.toNat=n:=by omega
  rw [← this,UInt8.ofNat_toNat]
 ·intro e
  subst e;simp only [UInt8.toNat_ofNat'];omega
def allI {α:Type} (p:Nat→α→Bool):List α→Nat→Bool
 | [],_=>true
 | x::r,i=>p i x && allI p r (i+1)
theorem allI_all {α:Type} (p:α→Bool):∀(l:List α) (i:Nat),allI (fun _=>p) l i=l.all p
 | [],_=>rfl
 | x::r,i=>by simp only [allI,List.all_cons,allI_all p r]
/-- every element, or out -/
theorem loop_allI {α β γ:Type} {l:List α} {step:Int→Option (Sum Int (Cut Unit β))} (p:Nat→α→Bool) {b:β} {k:Unit→Option β} {N:Nat}
  (hs:∀i x,l[i]?=some x→i<l.length→step (i:Int)=if p i x=true then some (.inl (w64 ((i:Int)+1))) else some (.inr (.rt b))) (he:step (l.length:Int)=some (.inr (.nx ())))
  (hl:l.length≤4611686018427387904) (hN:l.length<N):cutb (loopN step N 0) k=if allI p l 0=true then k () else some b:=by
 have key:=loopN_list (N:=N) (step:=step) (fun i (a:Nat)=>(i:Int)) l (fun r a=>if allI p r a=true then Cut.nx () else Cut.rt b) (fun i a=>a=i) (a:=0) rfl
  (fun a ha=>by rw [he];rfl)
  (fun i a x r ha hx hr hi=>by
   subst ha
   rw [hs a x hx hi]
   by_cases h:p a x=true
   ·left;rw [if_pos h,w64_nat (by omega)]
    exact ⟨a+1,rfl,rfl,by simp only [allI,h,Bool.true_and]⟩
   ·right;rw [if_neg h]
    have:p a x=false:=by simpa using h
    simp only [allI,this,Bool.false_and,Bool.false_eq_true,if_false]) hN
 rw [show (0:Int)=((0:Nat):Int) from rfl,key]
 split
 ·rfl
 ·rfl
theorem loop_all {α β:Type} {l:List α} {step:Int→Option (Sum Int (Cut Unit β))} (p:α→Bool) {b:β} {k:Unit→Option β} {N:Nat}
  (hs:∀i x,l[i]?=some x→i<l.length→step (i:Int)=if p x=true then some (.inl (w64 ((i:Int)+1))) else some (.inr (.rt b))) (he:step (l.length:Int)=some (.inr (.nx ())))
  (hl:l.length≤4611686018427387904) (hN:l.length<N):cutb (loopN step N 0) k=if l.all p=true then k () else some b:=by
 have:=loop_allI (γ:=Unit) (k:=k) (fun _=>p) hs he hl hN
 rw [this,allI_all]
/-- rounds that go on -/
theorem loop_fold {α A σ β:Type} (mk:Nat→A→σ) {step:σ→Option (Sum σ β)} (l:List α) (g:A→α→A) (fi:A→β) (inv:Nat→A→Prop) {a:A} (ha:inv 0 a)
  (h0:∀a,inv l.length a→step (mk l.length a)=some (.inr (fi a)))
  (h1:∀i a x,inv i a→l[i]?=some x→i<l.length→step (mk i a)=some (.inl (mk (i+1) (g a x)))∧inv (i+1) (g a x))
  {N:Nat} (hN:l.length<N):loopN step N (mk 0 a)=some (fi (l.foldl g a)):=
 loopN_list mk l (fun r a=>fi (r.foldl g a)) inv ha h0 (fun i a x r hv hx _ hi=>by
  obtain ⟨e,e'⟩:=h1 i a x hv hx hi
  exact .inl ⟨_,e,e',rfl⟩) hN
theorem foldl_snoc {α β:Type} (f:α→β):∀(l:List α) (a:List β),l.foldl (fun a x=>a++[f x]) a=a++l.map f
 | [],a=>by simp
 | x::r,a=>by simp [foldl_snoc f r]
theorem foldl_filter {α:Type} (p:α→Bool):∀(l a:List α),l.foldl (fun a x=>if p x=true then a++[x] else a) a=a++l.filter p
 | [],a=>by simp
 | x::r,a=>by
  simp only [List.foldl_cons,foldl_filter p r,List.filter_cons]
  split <;> simp
theorem foldl_filterMap {α β:Type} (f:α→Option β):∀(l:List α) (a:List β),l.foldl (fun a x=>match f x with | some y=>a++[y] | none=>a) a=a++l.filterMap f
 | [],a=>by simp
 | x::r,a=>by
  simp only [List.foldl_cons,foldl_filterMap f r,List.filterMap_cons]
  cases f x <;> simp
/-- a list made by appending -/
theorem loop_map {α β γ:Type} {l:List α} {step:List β×Int→Option (Sum (List β×Int) γ)} (f:α→β) {fi:List β→γ} {N:Nat}
  (hs:∀i x a,l[i]?=some x→i<l.length→a.length=i→step (a,(i:Int))=some (.inl (a++[f x],w64 ((i:Int)+1)))) (he:∀a,step (a,(l.length:Int))=some (.inr (fi a)))
  (hl:l.length≤4611686018427387904) (hN:l.length<N):loopN step N ([],0)=some (fi (l.map f)):=by
 have:=loop_fold (N:=N) (step:=step) (fun i a=>(a,(i:Int))) l (fun a x=>a++[f x]) fi (fun i a=>a.length=i) (a:=[]) rfl (fun a _=>he a)
  (fun i a x ha hx hi=>⟨by rw [hs i x a hx hi ha,w64_nat (by omega)],by simp [ha]⟩) hN
 rw [show ([],(0:Int))=(([]:List β),((0:Nat):Int)) from rfl,this,foldl_snoc]
 rfl
theorem len_if {α:Type} {a:List α} {x:α} {i:Nat} {b:Bool} (h:a.length≤i):(if b=true then a++[x] else a).length≤i+1:=by
 cases b
 ·simp;omega
 ·simp;omega
theorem loop_filter {α γ:Type} {l:List α} {step:List α×Int→Option (Sum (List α×Int) γ)} (p:α→Bool) {fi:List α→γ} {N:Nat}
  (hs:∀i x a,l[i]?=some x→i<l.length→a.length≤i→step (a,(i:Int))=some (.inl (if p x=true then a++[x] else a,w64 ((i:Int)+1)))) (he:∀a,step (a,(l.length:Int))=some (.inr (fi a)))
  (hl:l.length≤4611686018427387904) (hN:l.length<N):loopN step N ([],0)=some (fi (l.filter p)):=by
 have:=loop_fold (N:=N) (step:=step) (fun i a=>(a,(i:Int))) l (fun a x=>if p x=true then a++[x] else a) fi (fun i a=>a.length≤i) (a:=[]) (Nat.le_refl _) (fun a _=>he a)
  (fun i a x ha hx hi=>⟨by rw [hs i x a hx hi ha,w64_nat (by omega)],len_if ha⟩) hN
 rw [show ([],(0:Int))=(([]:List α),((0:Nat):Int)) from rfl,this,foldl_filter]
 rfl
end Go.Av
