/- ABSTRACT VALUES: a weaker state; a body's walk. -/
import Derived.Test.YtniibgdokfnomaaGreatAvW
namespace Go.Av
open Go Go.RowKit
set_option linter.unusedSimpArgs false
set_option linter.unusedVariables false

def thin:Bool→OG→OG
 | false,G=>{ G with foot:=G.foot.take 1 }
 | true,G=>G

section
variable {P:Program} {T:Tab} {C:Contract} {B:Fr} {N:Nat} {L:Nat→Prop} {w₀ w:World} {s:St} {a:Act} {S:Nat→Prop} {g:Nat→OG} {Q:Exit→Act→World→Prop}

theorem Rel.weak (R:Rel B N w₀ L s a w S g []) {s':St} (W:Weak s s'):∃S' g' L',Rel B N w₀ L' s' a w S' g' []∧∀x,L' x→x<s'.next:=by
 obtain ⟨ρ,henv,hobj,hinj,hlive⟩:=W.ex
 let S':Nat→Prop:=fun b=>S b∨∃o k rows own,find s.mem o=some (.arr k rows own)∧(∀o',ρ o'≠some o)∧b∈(g o).foot
 let g':Nat→OG:=fun o'=>match ρ o' with
  | some o=>(match find s'.mem o' with | some (.arr _ _ false)=>{ g o with foot:=(g o).foot.take 1 } | _=>g o)
  | none=>(match find s'.mem o' with | some (.arr k _ _)=>⟨.slice none 0 0,0,k,[],0,noHd⟩ | _=>⟨undef,0,0,[],0,noHd⟩)
 let L':Nat→Prop:=fun o'=>find s'.mem o'≠none
 have hS:∀b,S b→S' b:=fun _ h=>.inl h
 have gs:∀o' o,ρ o'=some o→(g' o').v=(g o).v∧(g' o').b=(g o).b∧(g' o').k=(g o).k∧(g' o').len=(g o).len∧(g' o').hd=(g o).hd:=by
  intro o' o h
  simp only [g',h]
  split <;> exact ⟨rfl,rfl,rfl,rfl,rfl⟩
 have live:∀o' o,ρ o'=some o→find s.mem o≠none:=by
  intro o' o h
  cases hc:find s'.mem o' with
  | none=>exact absurd hc (hlive o' o h)
  | some ao=>
   rcases (hobj o' ao hc).2 with ⟨o1,ao1,h1,h2,_⟩ | ⟨h1,_⟩
   ·rw [h] at h1;simp only [Option.some.injEq] at h1;subst h1;rw [h2];simp
   ·rw [h] at h1;simp at h1
 have rvw:∀{x x':AV},WV ρ (find s.mem) (find s'.mem) x x'→∀{v:Value},RV S (hp w) g (find s.mem) L x v→RV S' (hp w) g' (find s'.mem) L' x' v:=by
  intro x x' H
  induction H with
  | any a=>intro v hv;exact .any v
  | d x=>intro v hv;cases hv with | d _ _ hd=>exact .d _ _ (hd.mono hS fun _ _=>rfl)
  | nil k=>intro v hv;cases hv;exact .nil k
  | nild k=>intro v hv;cases hv;exact .d _ _ (.nil k none 0)
  | dp row j=>intro v hv;cases hv with | dp _ _ b off cs e fr h1 h2 h3 h4=>exact .dp row j b off cs e fr (hS _ h1) h2 h3 fun i hi=>(h4 i hi).mono hS fun _ _=>rfl
  | ptr o o' i j h=>
   intro v hv
   cases hv with
   | ptr _ _ _ _ ho h1 hv=>
    obtain ⟨q1,q2,q3,q4,_⟩:=gs o' o h
    exact .ptr o' i j v (hlive o' o h) h1 fun _=>by rw [q2,q3,q4];exact hv (live o' o h)
  | sl o o' h=>
   intro v hv
   cases hv with
   | sl _ _ ho h1 hv=>exact .sl o' v (hlive o' o h) h1 fun _=>by rw [(gs o' o h).1];exact hv (live o' o h)
  | slnew k o' own h hm=>
   intro v hv
   cases hv
   exact .sl o' _ (by show find s'.mem o'≠none;rw [hm];simp) rfl fun _=>by simp only [g',h,hm]
  | sub o o' lo n h=>
   intro v hv
   cases hv with
   | sub _ _ _ _ ho h1 hv=>
    obtain ⟨q1,q2,q3,q4,_⟩:=gs o' o h
    exact .sub o' lo n v (hlive o' o h) h1 fun _=>by rw [q2,q3,q4];exact hv (live o' o h)
  | frz o k rows own h hn=>
   intro v hv
   cases hv with
   | sl _ _ ho h1 hv=>
    rw [hv (by rw [h];simp)]
    have hro:=R.obj o _ h
    have hf:∀b∈(g o).foot,S' b:=fun b hb=>.inr ⟨o,k,rows,own,h,hn,hb⟩
    generalize g o=G at hro hf
    cases hro with
    | nil=>exact .d _ _ (.nil k _ 0)
    | arr k rows own b cap cs e fr fps hb hfr hk hrow hcap hmax hsz hin hown hno hB hS0=>
     refine .d _ _ (.sl k rows b 0 cap cs e fr (hf b (by simp)) hb hk hrow hcap ?_ fun i hi=>?_)
     ·rw [hsz,Nat.zero_add];exact Nat.mul_le_mul_right _ hcap
     ·rw [Nat.zero_add];exact (hin i hi).mono hS fun _ _=>rfl
  | fro o k rows h=>
   intro v hv
   cases hv with
   | sl _ _ ho h1 hv=>
    rw [hv (by rw [h];simp)]
    exact .d _ _ ((R.fro_data h).1.mono hS fun _ _=>rfl)
  | agg cs cs' hl h ih=>
   intro v hv
   cases hv with
   | agg _ vs hl' h1 hin=>exact .agg _ _ (by omega) h1 fun i hi=>ih i (by omega) (hin i (by omega))
  | fn f cs cs' hl h ih=>
   intro v hv
   cases hv with
   | fn _ _ vs hl' hin=>exact .fn _ _ _ (by omega) fun i hi=>ih i (by omega) (hin i (by omega))
 have nS:∀o' o b,ρ o'=some o→b∈(g o).foot→¬ S b→¬ S' b:=by
  intro o' o b h hb hs
  rintro (h1 | ⟨o2,k,rows,own,h1,h2,h3⟩)
  ·exact hs h1
  ·have e:o2≠o:=by intro e;subst e;exact h2 o' h
   exact R.apart o2 o e (by rw [h1];simp) (live o' o h) b h3 hb
 have foot:∀o',find s'.mem o'≠none→∀b∈(g' o').foot,∃o,ρ o'=some o∧b∈(g o).foot:=by
  intro o' hm b hb
  cases hc:ρ o' with
  | some o=>
   refine ⟨o,rfl,?_⟩
   simp only [g',hc] at hb
   split at hb
   ·exact List.mem_of_mem_take hb
   ·exact hb
  | none=>
   simp only [g',hc] at hb
   split at hb <;> simp at hb
 have still:∀b,S' b→b<w.heap.size:=by
  rintro b (h | ⟨o,k,rows,own,h1,h2,h3⟩)
  ·exact R.still b h
  ·exact (R.bound o (by rw [h1];simp) b h3).2
 have sub:∀b,S' b→B.U b→B.S0 b:=by
  rintro b (h | ⟨o,k,rows,own,h1,h2,h3⟩) hu
  ·exact R.sub b h hu
  ·exact absurd hu (R.bound o (by rw [h1];simp) b h3).1
 refine ⟨S',g',L',?_,fun x hx=>?_⟩
 ·refine { below:=R.below,hB:=R.hB,hH:=R.hH,inv:=R.inv,defers:=R.defers,size:=R.size,env:=fun t=>rvw (henv t) (R.env t),obj:=fun o' ao' hm=>?_,new:=fun o' h=>Classical.byContradiction fun hn=>h hn,nodup:=fun o' hm=>?_,bound:=fun o' hm b hb=>?_,apart:=fun o1 o2 hne h1 h2 b hb1 hb2=>?_,still:=still,sub:=sub,xs:=⟨by simp,by simp,by simp⟩ }
  ·rcases (hobj o' ao' hm).2 with ⟨o,ao,h1,h2,hw⟩ | ⟨h1,k,own,hk,rfl⟩
   ·have hro:=R.obj o ao h2
    have hns:=nS o'
    cases hw with
    | box cs cs' hl h=>
     have eg:g' o'=g o:=by simp only [g',h1,hm]
     rw [eg]
     have hn:=nS o' o
     generalize g o=G at hro hn
     cases hro with
     | box _ b vs e fr hb hfr hl' h1' hin hB hS0=>exact .box cs' b vs e fr hb hfr (by omega) h1' (fun i hi=>rvw (h i (by omega)) (hin i (by omega))) hB (hn b h1 (by simp) hS0)
    | arr k rows own=>
     have hn:=nS o' o
     have eg:g' o'=thin own (g o):=by
      simp only [g',h1,hm];cases own <;> rfl
     rw [eg]
     generalize g o=G at hro hn
     cases hro with
     | nil _ b own oa hk=>cases own <;> exact .nil k b _ oa hk
     | arr _ _ own b cap cs e fr fps hb hfr hk hrow hcap hmax hsz hin hown hno hB hS0=>
      have mk:=RO.arr (S:=S') (h:=hp w) (g:=g') (m:=find s'.mem) (L:=L') (B:=B) k rows own b cap cs e fr fps hb hfr hk hrow hcap hmax hsz (fun i hi=>(hin i hi).mono hS fun _ _=>rfl)
       (fun ho=>⟨(hown ho).1,(hown ho).2.1,fun x hx=>hS x ((hown ho).2.2 x hx)⟩) hno hB (hn b h1 (by simp) hS0)
      cases own with
      | true=>exact mk
      | false=>
       have:fps=[]:=hno rfl
       subst this
       simpa [thin] using mk
    | disown k rows own=>
     have hn:=nS o' o
     have eg:g' o'={ g o with foot:=(g o).foot.take 1 }:=by simp only [g',h1,hm]
     rw [eg]
     generalize g o=G at hro hn
     cases hro with
     | nil _ b own oa hk=>exact .nil k b _ oa hk
     | arr _ _ own b cap cs e fr fps hb hfr hk hrow hcap hmax hsz hin hown hno hB hS0=>
      have mk:=RO.arr (S:=S') (h:=hp w) (g:=g') (m:=find s'.mem) (L:=L') (B:=B) k rows false b cap cs e fr [] hb hfr hk hrow hcap hmax hsz (fun i hi=>(hin i hi).mono hS fun _ _=>rfl)
       (fun ho=>by simp at ho) (fun _=>rfl) hB (hn b h1 (by simp) hS0)
      simpa using mk
    | fro k rows=>
     have eg:g' o'=g o:=by simp only [g',h1,hm]
     rw [eg]
     generalize g o=G at hro
     cases hro with
     | fro _ _ v b hd hv=>exact .fro k rows v b (hd.mono hS fun _ _=>rfl) hv
    | mp l=>
     have eg:g' o'=g o:=by simp only [g',h1,hm]
     rw [eg]
     have hn:=nS o' o
     generalize g o=G at hro hn
     cases hro with
     | mp _ b es clock hb he hB hS0=>exact .mp l b es clock hb he hB (hn b h1 (by simp) hS0)
    | deep k rows=>
     have eg:g' o'=g o:=by simp only [g',h1,hm]
     rw [eg]
     have hn:=nS o' o
     generalize g o=G at hro hn
     cases hro with
     | dnil _ b oa hk=>exact .dnil k b oa hk
     | deep _ _ b cap cs e fr fps hb hfr hk hrow hcap hmax hsz hfl hin hhd hB hH=>exact .deep k rows b cap cs e fr fps hb hfr hk hrow hcap hmax hsz hfl hin hhd (fun x hx=>⟨(hB x hx).1,hn x h1 hx (hB x hx).2⟩) hH
    | pin cs cs' hl h=>
     have eg:g' o'=g o:=by simp only [g',h1,hm]
     rw [eg]
     generalize g o=G at hro
     cases hro with
     | pin _ _ hf hl' hin=>exact .pin cs' _ hf (by omega) (fun i hi=>rvw (h i (by omega)) (hin i (by omega)))
   ·have eg:g' o'=⟨.slice none 0 0,0,k,[],0,noHd⟩:=by simp only [g',h1,hm]
    rw [eg]
    exact .nil k 0 own none hk
  ·replace hm:find s'.mem o'≠none:=hm
   cases hc:ρ o' with
   | some o=>
    have hnd:=R.nodup o (live o' o hc)
    have:List.Sublist (g' o').foot (g o).foot:=by
     simp only [g',hc]
     split
     ·exact List.take_sublist _ _
     ·exact List.Sublist.refl _
    exact this.nodup hnd
   | none=>
    have:(g' o').foot=[]:=by
     simp only [g',hc]
     split <;> rfl
    rw [this];simp
  ·obtain ⟨o,h1,h2⟩:=foot o' hm b hb
   exact R.bound o (live o' o h1) b h2
  ·obtain ⟨p1,q1,q2⟩:=foot o1 h1 b hb1
   obtain ⟨p2,q3,q4⟩:=foot o2 h2 b hb2
   by_cases e:p1=p2
   ·subst e;exact hne (hinj o1 o2 p1 q1 q3)
   ·exact R.apart p1 p2 e (live _ _ q1) (live _ _ q3) b q2 q4
 ·cases hc:find s'.mem x with
  | none=>exact absurd hc hx
  | some ao=>exact (hobj x ao hc).1

def exOf:Ex→Exit
 | .normal=>.normal
 | .exit i=>.exit i
 | .ret=>.ret

def codeOk (N:Nat):Code→Bool
 | .region _ ⟨ops⟩ _=>ops.all (dstOk N)
 | .seq a b=>codeOk N a && codeOk N b
 | .cond _ a b=>codeOk N a && codeOk N b
 | .block _ c=>codeOk N c
 | .loop c=>codeOk N c
 | _=>true

/-- a loop whose rounds are numbered downward -/
theorem wp_loopN {c:Code} (J:Nat→Act→World→Prop) {n₀:Nat} (h₀:J n₀ a w) (round:∀n a w,J n a w→c.wp P (Exit.then (fun a' w'=>∃n',n'<n∧J n' a' w') Q) a w):(Code.loop c).wp P Q a w:=by
 intro b k cs
 have key:∀n a w,J n a w→∃e a' w',Q e a' w'∧Arrives P (lone (b.at a (.code c::.inLoop c::k)) cs w) b k cs e a' w':=by
  intro n
  induction n using Nat.strongRecOn with
  | _ n ih=>
   intro a w hI
   obtain ⟨e,a₁,w₁,hq,harr⟩:=round n a w hI b (.inLoop c::k) cs
   cases e with
   | normal=>
    obtain ⟨n',hlt,hI₁⟩:=hq
    obtain ⟨e₂,a₂,w₂,hq₂,harr₂⟩:=ih n' hlt a₁ w₁ hI₁
    exact ⟨e₂,a₂,w₂,hq₂,.of_steps (Steps.trans harr (.one step_inLoop)) harr₂⟩
   | exit id=>exact ⟨_,a₁,w₁,hq,.pass (x:=.inLoop c) rfl (fun _ _=>.inl (by simp)) harr⟩
   | goto l=>exact ⟨_,a₁,w₁,hq,.pass (x:=.inLoop c) rfl (fun _ _=>.inl (by simp)) harr⟩
   | ret=>exact ⟨_,a₁,w₁,hq,.pass (x:=.inLoop c) rfl (fun _ _=>.inl (by simp)) harr⟩
   | panic ch=>exact ⟨_,a₁,w₁,hq,.pass (x:=.inLoop c) rfl (fun _ _=>.inl (by simp)) harr⟩
   | outgrown=>exact ⟨_,a₁,w₁,hq,.pass (x:=.inLoop c) rfl (fun _ _=>.inl (by simp)) harr⟩
 obtain ⟨e,a',w',hq,harr⟩:=key _ a w h₀
 exact ⟨e,a',w',hq,.of_steps (.one step_loop) harr⟩

theorem run_sound (hT:TOk P T) (hP:B.I P) (hm:P.follows .mixedOrders=true):∀(c:Code),codeOk N c=true→∀{K:Ex→St→Prop} {Q:Exit→Act→World→Prop},
  (∀{e s a w S g L},Rel B N w₀ L s a w S g []→(∀x,L x→x<s.next)→K e s→Q (exOf e) a w)→
  ∀{s a w S g L},Rel B N w₀ L s a w S g []→(∀x,L x→x<s.next)→run (Con P) T (draw (Con P) T) c K s→c.wp P Q a w:=by
 intro c
 induction c with
 | skip=>intro _ K Q hQ s a w S g L R hL h;rw [run] at h;exact wp_skip (hQ R hL h)
 | region id ops drw=>
  intro hc K Q hQ s a w S g L R hL h
  obtain ⟨ops⟩:=ops
  have hd:∀o∈ops,dstOk N o=true:=by simpa [codeOk] using hc
  cases drw with
  | false=>
   simp only [run] at h
   refine wp_region (runOps_sound (ops:=⟨ops⟩) hT hP (K:=K .normal) (fun R hL h=>hQ R hL h) ops _ (fun i hi=>?_) (by simp) hd R hL h)
   have:i<ops.length:=by simpa using hi
   simp [List.getD_eq_getElem?_getD,this]
  | true=>simp only [run] at h;exact draw_sound (ops:=⟨ops⟩) hT hP hm (by simpa using hd) R hL h (fun R hL h=>hQ R hL h) id
 | seq x y ihx ihy=>
  intro hc K Q hQ s a w S g L R hL h
  simp only [codeOk,Bool.and_eq_true] at hc
  rw [run] at h
  obtain ⟨M,h,hM⟩:=h
  refine wp_seq (ihx hc.1 (K:=fun e s=>match e with | .normal=>∃s₁,Wk s s₁∧M s₁ | .exit i=>K (.exit i) s | .ret=>K .ret s) ?_ R hL h)
  intro e s a w S g L R hL h
  cases e with
  | normal=>
   obtain ⟨s₁,hw,h⟩:=h
   rcases hw with rfl | hw
   ·exact ihy hc.2 hQ R hL (hM _ h)
   ·obtain ⟨S1,g1,L1,R1,hL1⟩:=R.weak hw
    exact ihy hc.2 hQ R1 hL1 (hM _ h)
  | exit i=>exact hQ (e:=.exit i) R hL h
  | ret=>exact hQ (e:=.ret) R hL h
 | cond c x y ihx ihy=>
  intro hc K Q hQ s a w S g L R hL h
  simp only [codeOk,Bool.and_eq_true] at hc
  unfold run at h
  split at h
  ·rename_i t
   obtain ⟨env,mem,next⟩:=s
   simp only at h
   split at h
   ·rename_i b hl
    have e:=R.env t
    simp only [hl] at e
    have e:=(rv_v e).1
    have hk:∀b',b=b'→Rel B N w₀ L ⟨(t,.d (.v (.bool b')))::env,mem,next⟩ a w S g []:=by
     intro b' hb;subst hb
     exact R.know (by rw [e];exact rv_mk rfl)
    unfold br at h
    cases b with
    | true=>exact wp_cond_true e (ihx hc.1 hQ (hk _ rfl) hL h)
    | false=>exact wp_cond_false e (ihy hc.2 hQ (hk _ rfl) hL h)
   ·exact h.elim
  ·exact h.elim
 | block id c ih=>
  intro hc K Q hQ s a w S g L R hL h
  rw [run] at h
  refine wp_block (ih (by simpa [codeOk] using hc) (K:=fun e s=>match e with | .normal=>K .normal s | .ret=>K .ret s | .exit i=>match Nat.beq i id with | true=>K .normal s | false=>K (.exit i) s) ?_ R hL h)
  intro e s a w S g L R hL h
  cases e with
  | normal=>exact hQ (e:=.normal) R hL h
  | ret=>exact hQ (e:=.ret) R hL h
  | exit i=>
   show if i=id then Q .normal a w else Q (.exit i) a w
   simp only at h
   split at h
   ·rename_i e;rw [if_pos (Nat.eq_of_beq_eq_true e)];exact hQ (e:=.normal) R hL h
   ·rename_i e
    have:i≠id:=by intro e';subst e';simp at e
    rw [if_neg this];exact hQ (e:=.exit i) R hL h
 | loop c ih=>
  intro hc K Q hQ s a w S g L R hL h
  unfold run at h
  obtain ⟨I,⟨n,s₀,hw,hI⟩,hround⟩:=h
  let J:Nat→Act→World→Prop:=fun n a w=>∃s₀ S g L,Rel B N w₀ L s₀ a w S g []∧(∀x,L x→x<s₀.next)∧I n s₀
  obtain ⟨S0,g0,L0,R0,hL0⟩:=R.weak hw
  refine wp_loopN J (n₀:=n) ⟨s₀,S0,g0,L0,R0,hL0,hI⟩ ?_
  rintro n a w ⟨s1,S1,g1,L1,R1,hL1,hI1⟩
  refine ih (by simpa [codeOk] using hc) ?_ R1 hL1 (hround n s1 hI1)
  intro e s a w S g L R hL h
  cases e with
  | normal=>
   obtain ⟨n',s2,hlt,hw2,hI2⟩:=h
   obtain ⟨S2,g2,L2,R2,hL2⟩:=R.weak hw2
   exact ⟨n',hlt,s2,S2,g2,L2,R2,hL2,hI2⟩
  | exit i=>exact hQ (e:=.exit i) R hL h
  | ret=>exact hQ (e:=.ret) R hL h
 | exit id=>intro _ K Q hQ s a w S g L R hL h;rw [run] at h;exact wp_exit (hQ (e:=.exit id) R hL h)
 | ret=>intro _ K Q hQ s a w S g L R hL h;rw [run] at h;exact wp_ret (hQ (e:=.ret) R hL h)
 | rangeFunc=>intro _ K Q hQ s a w S g L R hL h;simp only [run] at h
 | scope=>intro _ K Q hQ s a w S g L R hL h;simp only [run] at h
 | label=>intro _ K Q hQ s a w S g L R hL h;simp only [run] at h
 | goto=>intro _ K Q hQ s a w S g L R hL h;simp only [run] at h
 | refuse=>intro _ K Q hQ s a w S g L R hL h;simp only [run] at h

end

end Go.Av
