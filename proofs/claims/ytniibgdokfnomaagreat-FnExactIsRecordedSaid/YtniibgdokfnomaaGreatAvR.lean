/- ABSTRACT VALUES: an operation, a guard, a region in text order. -/
import Derived.Test.YtniibgdokfnomaaGreatAvQ
namespace Go.Av
open Go Go.RowKit
set_option linter.unusedSimpArgs false
set_option linter.unusedVariables false

/-- slots within the frame -/
def dstOk (N:Nat) (o:Oper):Bool:=match o.dst with | some d=>Nat.blt d N | none=>true

theorem dstOk.lt {N:Nat} {o:Oper} (h:dstOk N o=true) {d:Nat} (hd:o.dst=some d):d<N:=by
 unfold dstOk at h;rw [hd] at h;simp only [Nat.blt_eq] at h;exact h

section
variable {P:Program} {T:Tab} {C:Contract} {B:Fr} {N:Nat} {L:Nat→Prop} {w₀ w:World} {s:St} {a:Act} {S:Nat→Prop} {g:Nat→OG} {id:Nat} {K:St→Prop} {o:Oper} {Q:Exit→Act→World→Prop} {X:List Nat}

theorem wp_skip' {w':World} {next:Act→World→Prop} (h:(execOp a.eval o).run P w=.ok .skip w') (hn:next (a.put o.dst undef) w'):o.wp P a w next Q:=by
 unfold Oper.wp;rw [h];exact hn

/-- a slot that is known to hold -/
theorem Rel.know (R:Rel B N w₀ L s a w S g X) {t:Nat} {v:AV} (h:RV S (hp w) g (find s.mem) L v (a.tmps.getD t undef)):Rel B N w₀ L ⟨(t,v)::s.env,s.mem,s.next⟩ a w S g X:=by
 have h2:∀u,RV S (hp w) g (find s.mem) L (look ((t,v)::s.env) u) (a.tmps.getD u undef):=by
  intro u
  rw [look_cons]
  split
  ·rename_i e;subst e;exact h
  ·exact R.env u
 exact { R with env:=h2 }

theorem sound_store (hT:TOk P T) (R:Rel B N w₀ L s a w S g []) {K:AV→Ups→Prop} (h:stepW T o (evA T s) (find s.mem) K):Goal P B N w₀ L s a w id K o Q:=by
 unfold stepW at h
 split at h
 ·rename_i t y x ho hd
  split at h
  ·rename_i i ob r j new hi ha hc
   have H:=hT t i hi
   split at h
   ·rename_i hlen
    have hlen:=Nat.eq_of_beq_eq_true hlen
    obtain ⟨nv,e1,e2,e3,e4⟩:=rv_cells (R.ev t x) hc
    have hpos:=H.pos
    have hnv:nv≠[]:=by intro e;rw [e] at e2;simp at e2;omega
    have ea:=R.ev (T:=T) 0 y
    rw [ha] at ea
    have run:∀{b off:Nat} {cs0:Array Value} {e:TypeId} {fr:Nat×Nat},a.eval y=.pointer (some ⟨b,off,none⟩)→hp w b=some (.cells cs0 e fr)→free fr cs0.size→off+nv.length≤cs0.size→
      (execOp a.eval o).run P w=.ok .skip (w.setRow b (written cs0 off nv)):=by
     intro b off cs0 e fr hy hb hfr hle
     have hst:=run_storeCells_free (P:=P) nv 0 cs0 w off hb hfr (by simpa using hle) e3
     simp only [Nat.add_zero] at hst
     rw [if_neg hnv] at hst
     have hcells:(a.eval x).cells.toList=nv:=by rw [e1]
     have hsize:(a.eval x).cells.size=i.size:=by rw [e1];show nv.length=i.size;omega
     simp [execOp,ho,hy,Instr.storeAt,Instr.sureAddr,storeVar,H.run_size,hsize,hcells,hst]
    split at h
    ·rename_i cs hm
     split at h
     ·rename_i hr hj
      have hr:=Nat.eq_of_beq_eq_true hr
      have hj:=Nat.le_of_ble_eq_true hj
      subst hr
      obtain ⟨cs0,e,fr,g',hb,hfr,hle,R'⟩:=R.writeBox hm hnv e2 hj e3 e4
      cases hea:a.eval y with
      | _=>
       rw [hea] at ea
       cases ea with
       | ptr _ _ _ v hLo h1 hv=>
        obtain ⟨ev,_⟩:=hv (by rw [hm];simp)
        rw [ev] at hea
        simp only [Nat.zero_mul,Nat.zero_add] at hea
        refine wp_skip' (run hea hb hfr hle) ?_
        exact ⟨undef,rfl,_,_,S,g',L,h,.refl _ _,R',.any _⟩
     ·exact h.elim
    ·rename_i k0 rows0 own0 hm0
     split at h
     ·rename_i ds u o' hmv
      obtain ⟨S1,g1,fps,R1,st1,l1,d1,o1⟩:=R.moveRow (by omega) e4 hmv
      split at h
      ·rename_i k rows own hm
       rw [← find_append'] at hm
       have ea1:=ea.step st1
       have hrow:rows[r]?=some rows[r]:=List.getElem?_eq_getElem h.1
       have h:=h.2 _ hrow
       split at h
       ·rename_i hj
        have hj:=Nat.le_of_ble_eq_true hj
        obtain ⟨cs0,e,fr,g',hb,hfr,hk,hle,R'⟩:=R1.writeArr hm hrow (nv:=nv) (by omega) hj (fun i hi=>d1 i (by omega)) (fun ho=>by
         obtain ⟨q1,q2⟩:=o1 ho
         exact ⟨by omega,fun i hi=>q2 i (by omega)⟩)
        generalize hya:a.eval y=yv at ea1
        cases ea1 with
        | ptr _ _ _ v hLo h1 hv=>
         obtain ⟨ev,_⟩:=hv (by show find (u++s.mem) ob≠none;rw [hm];simp)
         rw [ev,hk] at hya
         refine wp_skip' (run hya hb hfr hle) ?_
         exact ⟨undef,rfl,_,_,S1,g',L,h,.refl _ _,by simpa [List.append_assoc] using R',.any _⟩
       ·exact h.elim
      ·exact h.elim
     ·exact h.elim
    ·rename_i k rows hm
     have hrow:rows[r]?=some rows[r]:=List.getElem?_eq_getElem h.1
     have h:=h.2 _ hrow
     split at h
     ·rename_i ds hds
      split at h
      ·rename_i hj hav
       have hj:=Nat.le_of_ble_eq_true hj
       obtain ⟨q1,q2⟩:=scalD_get hds e2 e4
       have hrl:(rows[r]).length=k:=(R.deep_data hm).2.2.2.2.1 _ (List.getElem_mem _)
       obtain ⟨cs0,e,fr,g',hb,hfr,hk,hle,R'⟩:=R.writeDeep hm hrow (by omega) hj q2 (fun i hi=>by
        obtain ⟨y,hy⟩:=allV_get hav i (by simp;omega)
        refine ⟨y,?_⟩
        rw [getD_take _ _ _ _ hi,getD_drop] at hy
        exact hy)
       generalize hya:a.eval y=yv at ea
       cases ea with
       | ptr _ _ _ v hLo h1 hv=>
        obtain ⟨ev,_⟩:=hv (by rw [hm];simp)
        rw [ev,hk] at hya
        refine wp_skip' (run hya hb hfr hle) ?_
        exact ⟨undef,rfl,_,_,S,g',L,h,.refl _ _,R',.any _⟩
      ·exact h.elim
     ·exact h.elim
    ·exact h.elim
   ·exact h.elim
  ·exact h.elim
 ·exact h.elim

theorem stepX_sound (hT:TOk P T) (hP:B.I P) (R:Rel B N w₀ L s a w S g []) (hF:Fresh L id) {K:AV→Ups→Prop} (h:stepX (Con P) T o (evA T s) (find s.mem) id K):Goal P B N w₀ L s a w id K o Q:=by
 unfold stepX at h
 split at h
 ·exact sound_store hT R h
 ·exact stepR_sound hT hP R hF h

theorem stepA_sound (hT:TOk P T) (hP:B.I P) (R:Rel B N w₀ L s a w S g []) (hL:∀x,L x→x<s.next) (hd:dstOk N o=true) (h:stepA (Con P) T o s K):GoalS P B N w₀ a w K o Q:=by
 unfold stepA at h
 have hF:Fresh L s.next:=fun x h1 _ hx=>absurd (hL x hx) (by omega)
 have:=stepX_sound (Q:=Q) hT hP R hF h
 refine Oper.wp_mono (fun a' w' hp'=>?_) this
 obtain ⟨val,ea,v,u,S',g',L',hk,hn,R',hv⟩:=hp'
 subst ea
 rw [put_eq] at hk
 refine ⟨_,S',g',L',hk,?_,fun x hx=>?_⟩
 ·cases hdst:o.dst with
  | none=>exact R'.next _
  | some d=>exact (R'.put (dstOk.lt hd hdst) hv).next _
 ·rcases hn.2 x hx with h | h
  ·have:=hL x h;show x<s.next+stride;omega
  ·exact h.2

/-- an operation that is passed over -/
theorem pass_sound (R:Rel B N w₀ L s a w S g []) (hL:∀x,L x→x<s.next) (hd:dstOk N o=true) (h:s.put o.dst (.tup []) [] K):
  ∃s' S' g' L',K s'∧Rel B N w₀ L' s' (a.put o.dst undef) w S' g' []∧∀x,L' x→x<s'.next:=by
 rw [put_eq] at h
 refine ⟨_,S,g,L,h,?_,fun x hx=>Nat.lt_of_lt_of_le (hL x hx) (Nat.le_add_right _ _)⟩
 cases hdst:o.dst with
 | none=>exact R.next _
 | some d=>exact (R.put (dstOk.lt hd hdst) (v:=.tup []) (.tup [] [] rfl (by simp))).next _

theorem guard_sound (R:Rel B N w₀ L s a w S g X) {ops:Array Oper} {yes no:St→Prop} (h:guardA ops.toList s o yes no):
  ∃s',Rel B N w₀ L s' a w S g X∧s'.next=s.next∧((Region.wanted o (yielded ops a.tmps)=true∧yes s')∨(Region.wanted o (yielded ops a.tmps)=false∧no s')):=by
 unfold guardA at h
 split at h
 ·rename_i hg
  exact ⟨s,R,rfl,.inl ⟨by simp [Region.wanted,hg],h⟩⟩
 ·rename_i j want hg
  split at h
  ·rename_i oj hj
   have hj:ops[j]?=some oj:=by rw [← Array.getElem?_toList];exact hj
   split at h
   ·rename_i t ht
    obtain ⟨env,mem,next⟩:=s
    simp only at h
    split at h
    ·rename_i b hl
     have e:=R.env t
     simp only [hl] at e
     have e:=(rv_v e).1
     have hy:yielded ops a.tmps j=some b:=by
      simp only [Array.getD_eq_getD_getElem?] at e
      unfold yielded
      simp only [hj,Option.bind_some,ht]
      cases hc:a.tmps[t]? with
      | none=>rw [hc] at e;simp [undef] at e
      | some v=>rw [hc] at e;simp only [Option.getD_some] at e;subst e;rfl
     have hk:∀b',b=b'→Rel B N w₀ L ⟨(t,.d (.v (.bool b')))::env,mem,next⟩ a w S g X:=by
      intro b' hb;subst hb
      exact R.know (by rw [e];exact rv_mk rfl)
     unfold br at h
     cases b <;> cases want <;> simp only at h
     ·exact ⟨_,hk _ rfl,rfl,.inl ⟨by simp [Region.wanted,hg,hy],h⟩⟩
     ·exact ⟨_,hk _ rfl,rfl,.inr ⟨by simp [Region.wanted,hg,hy],h⟩⟩
     ·exact ⟨_,hk _ rfl,rfl,.inr ⟨by simp [Region.wanted,hg,hy],h⟩⟩
     ·exact ⟨_,hk _ rfl,rfl,.inl ⟨by simp [Region.wanted,hg,hy],h⟩⟩
    ·rename_i hl
     have e:=R.env t
     simp only [hl] at e
     have e:a.tmps.getD t undef=undef:=by
      generalize a.tmps.getD t undef=v at e
      cases e with
      | tup cs vs hl hin=>
       have:vs=[]:=List.eq_nil_of_length_eq_zero (by simpa using hl)
       subst this;rfl
     have hy:yielded ops a.tmps j=none:=by
      simp only [Array.getD_eq_getD_getElem?] at e
      unfold yielded
      simp only [hj,Option.bind_some,ht]
      cases hc:a.tmps[t]? with
      | none=>rfl
      | some v=>rw [hc] at e;simp only [Option.getD_some] at e;subst e;rfl
     exact ⟨_,R,rfl,.inr ⟨by simp [Region.wanted,hg,hy],h⟩⟩
    ·exact h.elim
   ·exact h.elim
  ·exact h.elim

/-- the operations, one behind another -/
theorem runOps_sound (hT:TOk P T) (hP:B.I P) {ops:Array Oper} {K:St→Prop} (hK:∀{s a w S g L},Rel B N w₀ L s a w S g []→(∀x,L x→x<s.next)→K s→Q .normal a w):
  ∀(l:List Oper) (js:List Nat),(∀i,i<js.length→ops[js.getD i 0]?=l[i]?)→js.length=l.length→(∀o∈l,dstOk N o=true)→∀{s a w S g L},Rel B N w₀ L s a w S g []→(∀x,L x→x<s.next)→runOps (Con P) T ops.toList l K s→wpOps P ops Q js a w
 | [],[],_,_,_,s,a,w,S,g,L,R,hL,h=>hK R hL (by rw [runOps] at h;exact h)
 | [],j::js,_,hl,_,_,_,_,_,_,_,_,_,_=>by simp at hl
 | o::l,[],_,hl,_,_,_,_,_,_,_,_,_,_=>by simp at hl
 | o::l,j::js,hjs,hl,hd,s,a,w,S,g,L,R,hL,h=>by
  have h0:=hjs 0 (by simp)
  simp only [List.getD_cons_zero,List.getElem?_cons_zero] at h0
  have recu:=fun {s a w S g L}=>runOps_sound hT hP hK l js (fun i hi=>by simpa using hjs (i+1) (by simpa using hi)) (by simpa using hl) (fun o ho=>hd o (List.mem_cons_of_mem _ ho)) (s:=s) (a:=a) (w:=w) (S:=S) (g:=g) (L:=L)
  simp only [runOps] at h
  simp only [wpOps,h0]
  obtain ⟨s',R',hn,hw⟩:=guard_sound R h
  have hL':∀x,L x→x<s'.next:=fun x hx=>by rw [hn];exact hL x hx
  rcases hw with ⟨hw,hy⟩ | ⟨hw,hno⟩
  ·rw [if_pos hw]
   refine .inl (Oper.wp_mono (fun a' w' h'=>?_) (stepA_sound hT hP R' hL' (hd o (by simp)) hy))
   obtain ⟨s2,S2,g2,L2,hk,R2,hL2⟩:=h'
   exact recu R2 hL2 hk
  ·rw [if_neg (by rw [hw];simp)]
   obtain ⟨s2,S2,g2,L2,hk,R2,hL2⟩:=pass_sound R' hL' (hd o (by simp)) hno
   exact recu R2 hL2 hk

end

end Go.Av
