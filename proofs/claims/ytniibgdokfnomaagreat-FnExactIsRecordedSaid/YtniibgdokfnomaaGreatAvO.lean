/- ABSTRACT VALUES: calls. -/
import Derived.Test.YtniibgdokfnomaaGreatAvN
namespace Go.Av
open Go Go.RowKit
set_option linter.unusedSimpArgs false
set_option linter.unusedVariables false

def noG:Nat→OG:=fun _=>⟨undef,0,0,[],0,noHd⟩

/-- an argument in memory -/
def DataV (S:Nat→Prop) (h:Nat→Option Obj) (d:DV) (v:Value):Prop:=RV S h noG (fun _=>none) (fun _=>False) (paramA d) v

def ArgsV (S:Nat→Prop) (h:Nat→Option Obj) (ds:List DV) (vs:List Value):Prop:=vs.length=ds.length∧∀i,i<ds.length→DataV S h (ds.getD i default) (vs.getD i undef)

theorem DataV.rv {S S':Nat→Prop} {h h':Nat→Option Obj} {g:Nat→OG} {m:Nat→Option AO} {L:Nat→Prop} {d:DV} {v:Value} (H:DataV S h d v) (hs:∀b,S b→S' b) (hh:∀b,S b→h' b=h b):RV S' h' g m L (paramA d) v:=
 RV.step (S':=S') (h':=h') (g':=g) (m':=m) (L':=L) ⟨hs,hh,fun _ h=>h.elim,fun _ h=>h.elim,fun _ h=>h.elim⟩ H

/-- what comes back: owned -/
inductive OwnV (h:Nat→Option Obj):DV→Value→List Nat→Prop
 | one (d:D) (v:Value) (fp:List Nat) (H:Own h d v fp):OwnV h (.one d) v fp
 | agg (ds:List D) (vs:List Value) (fps:List (List Nat)) (hl:vs.length=ds.length) (hf:fps.length=ds.length) (hin:∀i,i<ds.length→Own h (ds.getD i default) (vs.getD i undef) (fps.getD i [])):OwnV h (.agg ds) (.agg ⟨vs⟩) fps.flatten
 | tup (ds:List DV) (vs:List Value) (fps:List (List Nat)) (hl:vs.length=ds.length) (hf:fps.length=ds.length) (hin:∀i,i<ds.length→OwnV h (ds.getD i default) (vs.getD i undef) (fps.getD i [])):OwnV h (.tup ds) (.tuple ⟨vs⟩) fps.flatten

/-- WHAT A FUNCTION DOES, at data: it comes back with the result, laid in blocks that are its own and new, and touches nothing that was. -/
structure Pure (P:Program) (F:FuncId) (ds:List DV) (res:DV):Prop where
 fn:∃fn,P.funcs[F]?=some fn∧(fn.name == "runtime.NumGoroutine")=false∧fn.body.isNone=false
 calls:∀(w:World) (vs:List Value),Inv P w (fun _=>True)→ArgsV (·<w.heap.size) (hp w) ds vs→Calls P F ⟨vs⟩ w fun
  | .returned v,w'=>Below w.heap.size w w'∧∃fp,OwnV (hp w') res v fp∧fp.Nodup∧∀b∈fp,w.heap.size≤b∧b<w'.heap.size
  | _,_=>False

section
variable {P:Program} {T:Tab} {C:Contract} {dp:Bool} {B:Fr} {N:Nat} {L:Nat→Prop} {w₀ w:World} {s:St} {a:Act} {S:Nat→Prop} {g:Nat→OG} {id:Nat} {K:AV→Ups→Prop} {o:Oper} {Q:Exit→Act→World→Prop} {X:List Nat}

theorem Rel.readCaps (R:Rel B N w₀ L s a w S g X):∀{cs:List AV} {vs:List Value} {ds:List (List D)},vs.length=cs.length→(∀i,i<cs.length→RV S (hp w) g (find s.mem) L (cs.getD i .any) (vs.getD i undef))→
  Av.readCaps (find s.mem) cs=some ds→ds.length=cs.length∧∀i,i<cs.length→RV (·<w.heap.size) (hp w) noG (fun _=>none) (fun _=>False) (.dp (ds.getD i default) 0) (vs.getD i undef)
 | [],vs,ds,_,_,h=>by simp [Av.readCaps] at h;subst h;simp
 | c::cs,[],ds,hl,_,_=>by simp at hl
 | c::cs,v::vs,ds,hl,hin,h=>by
  have fin:∀{row:List D} {rs:List (List D)},RV (·<w.heap.size) (hp w) noG (fun _=>none) (fun _=>False) (.dp row 0) v→Av.readCaps (find s.mem) cs=some rs→ds=row::rs→
    ds.length=(c::cs).length∧∀i,i<(c::cs).length→RV (·<w.heap.size) (hp w) noG (fun _=>none) (fun _=>False) (.dp (ds.getD i default) 0) ((v::vs).getD i undef):=by
   intro row rs h0 hr he
   subst he
   obtain ⟨e1,e2⟩:=Rel.readCaps R (cs:=cs) (vs:=vs) (by simpa using hl) (fun i hi=>by simpa using hin (i+1) (by simpa using hi)) hr
   refine ⟨by simp [e1],fun i hi=>?_⟩
   cases i with
   | zero=>simpa using h0
   | succ i=>simpa using e2 i (by simpa using hi)
  have hc:=hin 0 (by simp)
  simp only [List.getD_cons_zero] at hc
  unfold Av.readCaps at h
  split at h
  ·rename_i e;simp at e
  ·rename_i row r e
   simp only [List.cons.injEq] at e
   obtain ⟨rfl,rfl⟩:=e
   split at h
   ·rename_i rs hrs
    simp only [Option.some.injEq] at h
    refine fin (row:=row) ?_ hrs h.symm
    cases hc with
    | dp row j b off cs e fr hS hb hfit hin2=>exact .dp row 0 b off cs e fr (R.still b hS) hb hfit fun i hi=>(hin2 i hi).mono R.still fun _ _=>rfl
   ·simp at h
  ·rename_i o r e
   simp only [List.cons.injEq] at e
   obtain ⟨rfl,rfl⟩:=e
   split at h
   ·rename_i bs hm
    split at h
    ·rename_i ds' hds
     split at h
     ·rename_i rs hrs
      simp only [Option.some.injEq] at h
      refine fin (row:=ds') ?_ hrs h.symm
      have hro:=R.obj o _ hm
      have hbd:=R.bound o (by rw [hm];simp)
      cases hc with
      | ptr o i j v ho h1 hv=>
       obtain ⟨e1,_⟩:=hv (by rw [hm];simp)
       generalize hG:g o=G at hro e1 hbd
       cases hro with
       | box cs b vs' e fr hb hfr hl' h1' hin' hB hS=>
        obtain ⟨q1,q2⟩:=R.readRow hl' hin' hds
        rw [e1]
        have:=RV.dp (S:=(·<w.heap.size)) (h:=hp w) (g:=noG) (m:=fun _=>none) (L:=fun _=>False) ds' 0 b 0 ⟨vs'⟩ e fr (hbd b (by simp)).2 hb (by simp;omega) (fun i hi=>by
         rw [arr_getD,Nat.zero_add];exact q2 i (by omega))
        simpa using this
     ·simp at h
    ·simp at h
   ·simp at h
  ·simp at h

theorem Rel.readA (R:Rel B N w₀ L s a w S g X) {c:AV} {v:Value} (hv:RV S (hp w) g (find s.mem) L c v) {d:DV} (h:Av.readA (find s.mem) c=some d):DataV (·<w.heap.size) (hp w) d v:=by
 unfold Av.readA at h
 split at h
 ·rename_i cs
  split at h
  ·rename_i ds hds
   simp only [Option.some.injEq] at h;subst h
   cases hv with
   | agg cs vs hl h1 hin=>
    obtain ⟨q1,q2⟩:=R.readRow hl hin hds
    refine .agg _ _ (by simp [q1,hl]) h1 fun i hi=>?_
    simp only [List.length_map] at hi
    have e:(ds.map AV.d).getD i .any=.d (ds.getD i default):=by
     simp [List.getD_eq_getElem?_getD,List.getElem?_eq_getElem hi]
    rw [e];exact .d _ _ (q2 i (by omega))
  ·simp at h
 ·rename_i row
  simp only [Option.some.injEq] at h;subst h
  have:=R.readCaps (cs:=[.dp row 0]) (vs:=[v]) (ds:=[row]) rfl (fun i hi=>by
   have:i=0:=by simpa using hi
   subst this;simpa using hv) rfl
  simpa [DataV,paramA] using this.2 0 (by simp)
 ·rename_i o
  split at h
  ·rename_i bs hm
   split at h
   ·rename_i ds hds
    simp only [Option.some.injEq] at h;subst h
    have:=R.readCaps (cs:=[.ptr o 0 0]) (vs:=[v]) (ds:=[ds]) rfl (fun i hi=>by
     have:i=0:=by simpa using hi
     subst this;simpa using hv) (by simp [Av.readCaps,hm,hds])
    simpa [DataV,paramA] using this.2 0 (by simp)
   ·simp at h
  ·simp at h
 ·rename_i f caps
  split at h
  ·rename_i r hr
   simp only [Option.some.injEq] at h;subst h
   cases hv with
   | fn f cs vs hl hin=>
    obtain ⟨q1,q2⟩:=R.readCaps hl hin hr
    refine .fn _ _ _ (by simp [q1,hl]) fun i hi=>?_
    simp only [List.length_map] at hi
    have e:(r.map (AV.dp · 0)).getD i .any=.dp (r.getD i default) 0:=by
     simp [List.getD_eq_getElem?_getD,List.getElem?_eq_getElem hi]
    rw [e];exact q2 i (by omega)
  ·simp at h
 ·split at h
  ·rename_i d' hd
   simp only [Option.some.injEq] at h;subst h
   exact .d _ _ (R.readC hv hd)
  ·simp at h

theorem Rel.readArgs (R:Rel B N w₀ L s a w S g X):∀{cs:List AV} {vs:List Value} {ds:List DV},vs.length=cs.length→(∀i,i<cs.length→RV S (hp w) g (find s.mem) L (cs.getD i .any) (vs.getD i undef))→
  Av.readArgs (find s.mem) cs=some ds→ArgsV (·<w.heap.size) (hp w) ds vs
 | [],vs,ds,hl,_,h=>by simp [Av.readArgs] at h;subst h;exact ⟨by simpa using hl,by simp⟩
 | c::cs,[],ds,hl,_,_=>by simp at hl
 | c::cs,v::vs,ds,hl,hin,h=>by
  simp only [Av.readArgs] at h
  split at h
  ·rename_i d hd
   split at h
   ·rename_i ds' hds
    simp only [Option.some.injEq] at h;subst h
    have h0:=R.readA (hin 0 (by simp)) hd
    obtain ⟨e1,e2⟩:=Rel.readArgs R (cs:=cs) (vs:=vs) (by simpa using hl) (fun i hi=>by simpa using hin (i+1) (by simpa using hi)) hds
    refine ⟨by simp [e1],fun i hi=>?_⟩
    cases i with
    | zero=>simpa using h0
    | succ i=>simpa using e2 i (by simpa using hi)
   ·simp at h
  ·simp at h

/-- blocks that nothing names -/
def Out (B:Fr) (w:World) (S:Nat→Prop) (g:Nat→OG) (m:Nat→Option AO) (fp:List Nat):Prop:=∀b∈fp,¬ B.U b∧b<w.heap.size∧(¬ S b∧B.H b=none)∧∀o,m o≠none→b∉(g o).foot

def Import (B:Fr) (N:Nat) (w₀:World) (L L':Nat→Prop) (s:St) (a:Act) (w:World) (S:Nat→Prop) (g:Nat→OG) (u:Ups) (fp:List Nat) (Z:(Nat→Prop)→(Nat→OG)→Prop):Prop:=
 ∃S' g',Rel B N w₀ L' ⟨s.env,u++s.mem,s.next⟩ a w S' g' []∧Step S S' (hp w) (hp w) g g' (find s.mem) (find (u++s.mem)) L L'∧Z S' g'∧
  ∀rest,Out B w S g (find s.mem) rest→(∀b∈rest,b∉fp)→Out B w S' g' (find (u++s.mem)) rest

theorem Rel.importC (R:Rel B N w₀ L s a w S g []) {d:D} {v:Value} {fp:List Nat} (H:Own (hp w) d v fp) (hn:fp.Nodup) (hO:Out B w S g (find s.mem) fp) {id:Nat} (hid:¬ L id):
  Import B N w₀ L (fun o=>L o∨o=id) s a w S g (Av.importC dp id d).2 fp fun S' g'=>RV S' (hp w) g' (find ((Av.importC dp id d).2++s.mem)) (fun o=>L o∨o=id) (Av.importC dp id d).1 v:=by
 have keep:∀{av:AV},RV S (hp w) g (find s.mem) (fun o=>L o∨o=id) av v→Import B N w₀ L (fun o=>L o∨o=id) s a w S g [] fp fun S' g'=>RV S' (hp w) g' (find ([]++s.mem)) (fun o=>L o∨o=id) av v:=by
  intro av hv
  exact ⟨S,g,R.more fun _ h=>.inl h,⟨fun _ h=>h,fun _ _=>rfl,fun _ _ _=>⟨rfl,fun _=>rfl,rfl,rfl,fun _=>rfl⟩,fun _ _ h=>h,fun _ h=>.inl h⟩,hv,fun rest hr _=>hr⟩
 cases d with
 | v x=>exact keep (.d _ _ (H.data (S:=S) (by cases H;simp)))
 | sl k rows=>
  simp only [Av.importC]
  split
  ·rename_i hk
   have hk:=Nat.le_of_ble_eq_true hk
   cases H with
   | nil k oa=>
    have R':=R.turn (S':=S) (X':=[]) (L':=fun o=>L o∨o=id) id ⟨.slice oa 0 0,0,k,[],0,noHd⟩ (some (impO dp k [])) (fun _ h=>h) (fun _ h=>.inl h) (fun _ h=>.inl h) (fun _=>.inr rfl)
     (fun _ h _=>absurd h hid) (fun _ h=>absurd h hid) (fun _ _ _ b _ hs=>hs)
     (fun ao hao=>by simp only [Option.some.injEq] at hao;subst hao;cases dp;exact .nil k 0 true oa hk;exact .dnil k 0 oa hk)
     (fun _=>⟨by simp,by simp⟩) (fun _ _ _ _ b hb=>by simp at hb) ⟨by simp,by simp,by simp,by simp⟩
    refine ⟨_,_,R',step_new (fun _ h=>h) hid (fun _ h=>.inl h),.sl id _ (.inr rfl) rfl (fun _=>by rw [setG_same]),fun rest hr hrest b hb=>?_⟩
    obtain ⟨q1,q2,q3,q4⟩:=hr b hb
    refine ⟨q1,q2,q3,fun o' ho' hb'=>?_⟩
    by_cases e:o'=id
    ·subst e;rw [setG_same] at hb';simp at hb'
    ·rw [setG_ne e] at hb'
     refine q4 o' ?_ hb'
     intro h;apply ho'
     show find ((id,_)::s.mem) o'=none
     rw [find_cons,if_neg (fun x=>e x.symm)];exact h
   | sl k rows b cap cs e fr fps hb hfr hk hrow hcap hmax hsz hfl hin=>
    rw [List.nodup_cons] at hn
    have inner:∀b'∈fps.flatten,¬ B.U b'∧b'<w.heap.size∧(¬ S b'∧B.H b'=none)∧∀o,find s.mem o≠none→b'∉(g o).foot:=fun b' hb'=>hO b' (List.mem_cons_of_mem _ hb')
    obtain ⟨o1,o2,o3,o4⟩:=hO b (by simp)
    cases dp with
    | false=>
     have R':=R.turn (S':=fun x=>S x∨x∈fps.flatten) (X':=[]) (L':=fun o=>L o∨o=id) id ⟨.slice (some ⟨b,0,none⟩) rows.length cap,b,k,b::fps.flatten,rows.length,noHd⟩ (some (.arr k rows true))
      (fun _ h=>.inl h) (fun x hx=>hx.elim .inl fun hx=>.inr ⟨(inner x hx).1,(inner x hx).2.1⟩) (fun _ h=>.inl h) (fun _=>.inr rfl)
      (fun _ h _=>absurd h hid) (fun _ h=>absurd h hid) (fun o' _ ho' x hx hs hs'=>hs'.elim hs fun hf=>(inner x hf).2.2.2 o' ho' hx)
      (fun ao hao=>by
       simp only [Option.some.injEq] at hao;subst hao
       exact .arr k rows true b cap cs e fr fps hb hfr hk hrow hcap hmax hsz
        (fun i hi=>(hin i hi).data fun x hx=>.inr (mem_flatten_of_getD hx)) (fun _=>⟨hfl,hin,fun x hx=>.inr hx⟩) (fun h=>by simp at h) o1 (fun h=>h.elim o3.1 hn.1))
      (fun _=>⟨by rw [List.nodup_cons];exact hn,fun x hx=>by
       rcases List.mem_cons.1 hx with rfl | hx
       ·exact ⟨o1,o2⟩
       ·exact ⟨(inner x hx).1,(inner x hx).2.1⟩⟩)
      (fun _ o' _ ho' x hx hx'=>by
       rcases List.mem_cons.1 hx with rfl | hx
       ·exact o4 o' ho' hx'
       ·exact (inner x hx).2.2.2 o' ho' hx')
      ⟨by simp,by simp,by simp,by simp⟩
     refine ⟨_,_,R',step_new (fun _ h=>.inl h) hid (fun _ h=>.inl h),.sl id _ (.inr rfl) rfl (fun _=>by rw [setG_same]),fun rest hr hrest x hx=>?_⟩
     obtain ⟨q1,q2,q3,q4⟩:=hr x hx
     refine ⟨q1,q2,⟨fun h=>h.elim q3.1 fun h=>hrest x hx (List.mem_cons_of_mem _ h),q3.2⟩,fun o' ho' hb'=>?_⟩
     by_cases e:o'=id
     ·subst e;rw [setG_same] at hb';exact hrest x hx hb'
     ·rw [setG_ne e] at hb'
      refine q4 o' ?_ hb'
      intro h;apply ho'
      show find ((id,_)::s.mem) o'=none
      rw [find_cons,if_neg (fun x=>e x.symm)];exact h
    | true=>
     have R':=R.turn (S':=S) (X':=[]) (L':=fun o=>L o∨o=id) id ⟨.slice (some ⟨b,0,none⟩) rows.length cap,b,k,b::fps.flatten,rows.length,fun i=>cs.getD i undef⟩ (some (.deep k rows))
      (fun _ h=>h) (fun _ h=>.inl h) (fun _ h=>.inl h) (fun _=>.inr rfl)
      (fun _ h _=>absurd h hid) (fun _ h=>absurd h hid) (fun _ _ _ _ _ hs=>hs)
      (fun ao hao=>by
       simp only [Option.some.injEq] at hao;subst hao
       exact .deep k rows b cap cs e fr fps hb hfr hk hrow hcap hmax hsz hfl hin (fun _ _ _ _ _=>rfl)
        (fun x hx=>⟨(hO x hx).1,(hO x hx).2.2.1.1⟩) (fun _ f hf=>by rw [o3.2] at hf;simp at hf))
      (fun _=>⟨by rw [List.nodup_cons];exact hn,fun x hx=>by
       rcases List.mem_cons.1 hx with rfl | hx
       ·exact ⟨o1,o2⟩
       ·exact ⟨(inner x hx).1,(inner x hx).2.1⟩⟩)
      (fun _ o' _ ho' x hx hx'=>by
       rcases List.mem_cons.1 hx with rfl | hx
       ·exact o4 o' ho' hx'
       ·exact (inner x hx).2.2.2 o' ho' hx')
      ⟨by simp,by simp,by simp,by simp⟩
     refine ⟨_,_,R',step_new (fun _ h=>h) hid (fun _ h=>.inl h),.sl id _ (.inr rfl) rfl (fun _=>by rw [setG_same]),fun rest hr hrest x hx=>?_⟩
     obtain ⟨q1,q2,q3,q4⟩:=hr x hx
     refine ⟨q1,q2,q3,fun o' ho' hb'=>?_⟩
     by_cases e:o'=id
     ·subst e;rw [setG_same] at hb';exact hrest x hx hb'
     ·rw [setG_ne e] at hb'
      refine q4 o' ?_ hb'
      intro h;apply ho'
      show find ((id,_)::s.mem) o'=none
      rw [find_cons,if_neg (fun x=>e x.symm)];exact h
  ·exact keep (.any _)

/-- one import behind another -/
theorem Import.then {L1 L2:Nat→Prop} {u1 u2:Ups} {fp1 fp2:List Nat} {Z1 Z2 Z:(Nat→Prop)→(Nat→OG)→Prop} (h1:Import B N w₀ L L1 s a w S g u1 fp1 Z1) (hO:Out B w S g (find s.mem) fp2) (hd:∀b∈fp2,b∉fp1)
  (h2:∀S1 g1,Rel B N w₀ L1 ⟨s.env,u1++s.mem,s.next⟩ a w S1 g1 []→Out B w S1 g1 (find (u1++s.mem)) fp2→Import B N w₀ L1 L2 ⟨s.env,u1++s.mem,s.next⟩ a w S1 g1 u2 fp2 Z2)
  (hz:∀S1 g1 S2 g2,Step S1 S2 (hp w) (hp w) g1 g2 (find (u1++s.mem)) (find (u2++(u1++s.mem))) L1 L2→Z1 S1 g1→Z2 S2 g2→Z S2 g2):
  Import B N w₀ L L2 s a w S g (u2++u1) (fp1++fp2) Z:=by
 obtain ⟨S1,g1,R1,st1,z1,k1⟩:=h1
 obtain ⟨S2,g2,R2,st2,z2,k2⟩:=h2 S1 g1 R1 (k1 fp2 hO hd)
 refine ⟨S2,g2,by simpa [List.append_assoc] using R2,?_,hz S1 g1 S2 g2 st2 z1 z2,fun rest hr hd'=>?_⟩
 ·have:=st1.trans st2
  simpa [List.append_assoc] using this
 ·have:=k2 rest (k1 rest hr fun b hb hb'=>hd' b hb (List.mem_append_left _ hb')) fun b hb hb'=>hd' b hb (List.mem_append_right _ hb')
  simpa [List.append_assoc] using this

def upTo (L:Nat→Prop) (id n:Nat):Nat→Prop:=fun o=>L o∨(id≤o∧o<id+n)
theorem upTo_zero (L:Nat→Prop) (id:Nat):upTo L id 0=L:=by
 funext o;simp only [upTo,eq_iff_iff];constructor
 ·rintro (h | h);exact h;omega
 ·exact .inl
theorem upTo_one (L:Nat→Prop) (id:Nat):(fun o=>L o∨o=id)=upTo L id 1:=by
 funext o;simp only [upTo,eq_iff_iff];constructor
 ·rintro (h | h);exact .inl h;exact .inr (by omega)
 ·rintro (h | h);exact .inl h;exact .inr (by omega)
theorem upTo_add (L:Nat→Prop) (id n n':Nat):upTo (upTo L id n) (id+n) n'=upTo L id (n+n'):=by
 funext o;simp only [upTo,eq_iff_iff];constructor
 ·rintro ((h | h) | h);exact .inl h;exact .inr (by omega);exact .inr (by omega)
 ·rintro (h | h);exact .inl (.inl h)
  by_cases h':o<id+n
  ·exact .inl (.inr (by omega))
  ·exact .inr (by omega)

theorem Out.sub {w:World} {m:Nat→Option AO} {fp fp':List Nat} (h:Out B w S g m fp) (hs:∀b∈fp',b∈fp):Out B w S g m fp':=fun b hb=>h b (hs b hb)

theorem Import.none (R:Rel B N w₀ L s a w S g []) {fp:List Nat} {Z:(Nat→Prop)→(Nat→OG)→Prop} (hz:Z S g):Import B N w₀ L L s a w S g [] fp Z:=
 ⟨S,g,R,.refl,hz,fun _ hr _=>hr⟩

theorem Rel.importR:∀{ds:List D} {vs:List Value} {fps:List (List Nat)} {id:Nat} {L:Nat→Prop} {s:St} {S:Nat→Prop} {g:Nat→OG},Rel B N w₀ L s a w S g []→vs.length=ds.length→fps.length=ds.length→
  (∀i,i<ds.length→Own (hp w) (ds.getD i default) (vs.getD i undef) (fps.getD i []))→fps.flatten.Nodup→Out B w S g (find s.mem) fps.flatten→(∀o,id≤o→o<id+ds.length→¬ L o)→
  (Av.importR dp id ds).1.length=ds.length∧Import B N w₀ L (upTo L id ds.length) s a w S g (Av.importR dp id ds).2 fps.flatten fun S' g'=>∀i,i<ds.length→RV S' (hp w) g' (find ((Av.importR dp id ds).2++s.mem)) (upTo L id ds.length) ((Av.importR dp id ds).1.getD i .any) (vs.getD i undef)
 | [],vs,fps,id,L,s,S,g,R,hl,hf,hin,hn,hO,hid=>by
  refine ⟨rfl,?_⟩
  simp only [List.length_nil,upTo_zero,Av.importR]
  exact Import.none R (by simp)
 | d::ds,[],_,_,_,_,_,_,_,hl,_,_,_,_,_=>by simp at hl
 | d::ds,v::vs,[],_,_,_,_,_,_,_,hf,_,_,_,_=>by simp at hf
 | d::ds,v::vs,fp::fps,id,L,s,S,g,R,hl,hf,hin,hn,hO,hid=>by
  simp only [List.flatten_cons] at hn hO ⊢
  rw [List.nodup_append] at hn
  obtain ⟨n1,n2,n3⟩:=hn
  have h0:=hin 0 (by simp)
  simp only [List.getD_cons_zero] at h0
  have i1:=R.importC (dp:=dp) h0 n1 (hO.sub fun b hb=>List.mem_append_left _ hb) (id:=id) (hid id (Nat.le_refl _) (by simp))
  rw [upTo_one] at i1
  have recu:=fun (S1:Nat→Prop) (g1:Nat→OG) (R1:Rel B N w₀ (upTo L id 1) ⟨s.env,(Av.importC dp id d).2++s.mem,s.next⟩ a w S1 g1 []) (O1:Out B w S1 g1 (find ((Av.importC dp id d).2++s.mem)) fps.flatten)=>
   Rel.importR (ds:=ds) (vs:=vs) (fps:=fps) (id:=id+1) R1 (by simpa using hl) (by simpa using hf) (fun i hi=>by simpa using hin (i+1) (by simpa using hi)) n2 O1 (fun o h1 h2 h=>by
    rcases h with h | h
    ·exact hid o (by omega) (by simp;omega) h
    ·omega)
  have len:(Av.importR dp (id+1) ds).1.length=ds.length:=by
   obtain ⟨S1,g1,R1,_,_,k1⟩:=i1
   exact (recu S1 g1 R1 (k1 _ (hO.sub fun b hb=>List.mem_append_right _ hb) fun b hb hb'=>n3 b hb' b hb rfl)).1
  refine ⟨by simp [Av.importR,len],?_⟩
  have e2:(Av.importR dp id (d::ds)).2=(Av.importR dp (id+1) ds).2++(Av.importC dp id d).2:=rfl
  have e1:(Av.importR dp id (d::ds)).1=(Av.importC dp id d).1::(Av.importR dp (id+1) ds).1:=rfl
  have eL:upTo L id (d::ds).length=upTo (upTo L id 1) (id+1) ds.length:=by rw [upTo_add];simp [Nat.add_comm]
  rw [e1,e2,eL]
  refine Import.then i1 (hO.sub fun b hb=>List.mem_append_right _ hb) (fun b hb hb'=>n3 b hb' b hb rfl) (fun S1 g1 R1 O1=>(recu S1 g1 R1 O1).2) ?_
  intro S1 g1 S2 g2 st z1 z2 i hi
  cases i with
  | zero=>
   have:=z1.step st
   simpa [List.append_assoc] using this
  | succ i=>
   have:=z2 i (by simpa using hi)
   simpa [List.append_assoc] using this

theorem all_one {vs:List Value} {ds:List D} {fps:List (List Nat)} {h:Nat→Option Obj} (hl:vs.length=ds.length) (hin:∀i,i<ds.length→Own h (ds.getD i default) (vs.getD i undef) (fps.getD i [])):∀v∈vs,v.oneCell'=true:=by
 intro v hv
 obtain ⟨i,hi,rfl⟩:=List.mem_iff_getElem.1 hv
 have:=(hin i (by omega)).one
 rwa [List.getD_eq_getElem?_getD,List.getElem?_eq_getElem hi] at this

theorem Rel.importA (R:Rel B N w₀ L s a w S g []) {ds:List D} {v:Value} {fp:List Nat} (H:OwnV (hp w) (.agg ds) v fp) (hn:fp.Nodup) (hO:Out B w S g (find s.mem) fp) {id:Nat} (hid:∀o,id≤o→o<id+ds.length→¬ L o):
  Import B N w₀ L (upTo L id ds.length) s a w S g (Av.importR dp id ds).2 fp fun S' g'=>RV S' (hp w) g' (find ((Av.importR dp id ds).2++s.mem)) (upTo L id ds.length) (.agg (Av.importR dp id ds).1) v:=by
 cases H with
 | agg _ vs fps hl hf hin=>
  obtain ⟨e1,S',g',R',st,z,k⟩:=R.importR (dp:=dp) hl hf hin hn hO hid
  exact ⟨S',g',R',st,.agg _ _ (by rw [e1,hl]) (all_one hl hin) (fun i hi=>z i (by omega)),k⟩

theorem Rel.importT:∀{rs:List DV} {vs:List Value} {fps:List (List Nat)} {id:Nat} {L:Nat→Prop} {s:St} {S:Nat→Prop} {g:Nat→OG} {as:List AV} {u:Ups},Rel B N w₀ L s a w S g []→vs.length=rs.length→fps.length=rs.length→
  (∀i,i<rs.length→OwnV (hp w) (rs.getD i default) (vs.getD i undef) (fps.getD i []))→fps.flatten.Nodup→Out B w S g (find s.mem) fps.flatten→(∀o,id≤o→o<id+DV.count.go rs→¬ L o)→Av.importT dp id rs=some (as,u)→
  as.length=rs.length∧Import B N w₀ L (upTo L id (DV.count.go rs)) s a w S g u fps.flatten fun S' g'=>∀i,i<rs.length→RV S' (hp w) g' (find (u++s.mem)) (upTo L id (DV.count.go rs)) (as.getD i .any) (vs.getD i undef)
 | [],vs,fps,id,L,s,S,g,as,u,R,hl,hf,hin,hn,hO,hid,h=>by
  simp only [Av.importT,Option.some.injEq,Prod.mk.injEq] at h
  obtain ⟨rfl,rfl⟩:=h
  refine ⟨rfl,?_⟩
  simp only [DV.count.go,upTo_zero]
  exact Import.none R (by simp)
 | d::ds,[],_,_,_,_,_,_,_,_,_,hl,_,_,_,_,_,_=>by simp at hl
 | d::ds,v::vs,[],_,_,_,_,_,_,_,_,_,hf,_,_,_,_,_=>by simp at hf
 | d::ds,v::vs,fp::fps,id,L,s,S,g,as,u,R,hl,hf,hin,hn,hO,hid,h=>by
  simp only [List.flatten_cons] at hn hO ⊢
  rw [List.nodup_append] at hn
  obtain ⟨n1,n2,n3⟩:=hn
  have h0:=hin 0 (by simp)
  simp only [List.getD_cons_zero] at h0
  have O1':=hO.sub (fp':=fp) fun b hb=>List.mem_append_left _ hb
  have O2':=hO.sub (fp':=fps.flatten) fun b hb=>List.mem_append_right _ hb
  have step:∀{n:Nat} {a1:AV} {u1:Ups} {as':List AV} {us:Ups},DV.count.go (d::ds)=n+DV.count.go ds→
    (Import B N w₀ L (upTo L id n) s a w S g u1 fp fun S' g'=>RV S' (hp w) g' (find (u1++s.mem)) (upTo L id n) a1 v)→Av.importT dp (id+n) ds=some (as',us)→as=a1::as'→u=us++u1→
    as.length=(d::ds).length∧Import B N w₀ L (upTo L id (DV.count.go (d::ds))) s a w S g u (fp++fps.flatten) fun S' g'=>∀i,i<(d::ds).length→RV S' (hp w) g' (find (u++s.mem)) (upTo L id (DV.count.go (d::ds))) (as.getD i .any) ((v::vs).getD i undef):=by
   intro n a1 u1 as' us hcount i1 ht ha hu
   subst ha;subst hu
   have recu:=fun (S1:Nat→Prop) (g1:Nat→OG) (R1:Rel B N w₀ (upTo L id n) ⟨s.env,u1++s.mem,s.next⟩ a w S1 g1 []) (O1:Out B w S1 g1 (find (u1++s.mem)) fps.flatten)=>
    Rel.importT (rs:=ds) (vs:=vs) (fps:=fps) (id:=id+n) R1 (by simpa using hl) (by simpa using hf) (fun i hi=>by simpa using hin (i+1) (by simpa using hi)) n2 O1 (fun o h1 h2 h=>by
     rcases h with h | h
     ·exact hid o (by omega) (by omega) h
     ·omega) ht
   have len:as'.length=ds.length:=by
    obtain ⟨S1,g1,R1,_,_,k1⟩:=i1
    exact (recu S1 g1 R1 (k1 _ O2' fun b hb hb'=>n3 b hb' b hb rfl)).1
   refine ⟨by simp [len],?_⟩
   have eL:upTo L id (DV.count.go (d::ds))=upTo (upTo L id n) (id+n) (DV.count.go ds):=by rw [upTo_add,hcount]
   rw [eL]
   refine Import.then i1 O2' (fun b hb hb'=>n3 b hb' b hb rfl) (fun S1 g1 R1 O1=>(recu S1 g1 R1 O1).2) ?_
   intro S1 g1 S2 g2 st z1 z2 i hi
   cases i with
   | zero=>
    have:=z1.step st
    simpa [List.append_assoc] using this
   | succ i=>
    have:=z2 i (by simpa using hi)
    simpa [List.append_assoc] using this
  unfold Av.importT at h
  split at h
  ·rename_i e;simp at e
  ·rename_i d' r e
   simp only [List.cons.injEq] at e
   obtain ⟨rfl,rfl⟩:=e
   split at h
   ·rename_i a1 u1 as' us e1 ht
    simp only [Option.some.injEq,Prod.mk.injEq] at h
    cases h0 with
    | one _ _ _ H=>
     have i1:=R.importC (dp:=dp) H n1 O1' (id:=id) (hid id (Nat.le_refl _) (by simp only [DV.count.go];omega))
     rw [upTo_one,e1] at i1
     exact step (by simp only [DV.count.go]) i1 ht h.1.symm h.2.symm
   ·simp at h
  ·rename_i d' r e
   simp only [List.cons.injEq] at e
   obtain ⟨rfl,rfl⟩:=e
   split at h
   ·rename_i a1 u1 as' us e1 ht
    simp only [Option.some.injEq,Prod.mk.injEq] at h
    have i1:=R.importA (dp:=dp) h0 n1 O1' (id:=id) (fun o h1 h2=>hid o h1 (by simp only [DV.count.go];omega))
    rw [e1] at i1
    exact step (by simp only [DV.count.go]) i1 ht h.1.symm h.2.symm
   ·simp at h
  ·simp at h

theorem names_upTo (L:Nat→Prop) (id n:Nat) (h:n≤stride):Names L (upTo L id n) id:=⟨fun _ h=>.inl h,fun o ho=>ho.elim .inl fun ho=>.inr ⟨ho.1,by omega⟩⟩

theorem Rel.importV (R:Rel B N w₀ L s a w S g []) {res:DV} {v:Value} {fp:List Nat} (H:OwnV (hp w) res v fp) (hn:fp.Nodup) (hO:Out B w S g (find s.mem) fp) {id:Nat} (hF:Fresh L id) {av:AV} {u:Ups}
  (h:Av.importV dp id res=some (av,u)):∃S' g' L',Names L L' id∧Rel B N w₀ L' ⟨s.env,u++s.mem,s.next⟩ a w S' g' []∧RV S' (hp w) g' (find (u++s.mem)) L' av v:=by
 unfold Av.importV at h
 split at h
 ·rename_i hc
  have hc:=Nat.le_of_ble_eq_true hc
  split at h
  ·rename_i d
   simp only [Option.some.injEq,Prod.mk.injEq] at h
   cases H with
   | one _ _ _ H=>
    obtain ⟨S',g',R',st,z,k⟩:=R.importC (dp:=dp) H hn hO hF.id
    rw [h] at R' z
    exact ⟨S',g',_,Names.one L id,R',z⟩
  ·rename_i ds _
   have hc':ds.length≤stride:=hc
   obtain ⟨S',g',R',st,z,k⟩:=R.importA (dp:=dp) H hn hO (id:=id) (fun o h1 h2=>hF o h1 (by omega))
   split at h
   rename_i as' u' e
   rw [e] at R' z
   simp only [Option.some.injEq,Prod.mk.injEq] at h
   obtain ⟨rfl,rfl⟩:=h
   exact ⟨S',g',_,names_upTo L id _ hc',R',z⟩
  ·rename_i vs' _
   have hc':DV.count.go vs'≤stride:=hc
   split at h
   ·rename_i as' u' e
    simp only [Option.some.injEq,Prod.mk.injEq] at h
    obtain ⟨rfl,rfl⟩:=h
    cases H with
    | tup _ vs fps hl hf hin=>
     obtain ⟨e1,S',g',R',st,z,k⟩:=R.importT (dp:=dp) hl hf hin hn hO (id:=id) (fun o h1 h2=>hF o h1 (by omega)) e
     exact ⟨S',g',_,names_upTo L id _ hc',R',.tup _ _ (by rw [hl,e1]) fun i hi=>z i (by omega)⟩
   ·simp at h
  ·simp at h
 ·simp at h

theorem rv_mapT (R:Rel B N w₀ L s a w S g X):∀(ts:List TypeId) (xs:List Operand),(mapT (evA T s) ts xs).length=xs.length∧∀i,i<xs.length→RV S (hp w) g (find s.mem) L ((mapT (evA T s) ts xs).getD i .any) ((xs.map a.eval).getD i undef)
 | _,[]=>by
  refine ⟨?_,by simp⟩
  unfold mapT;split <;> simp_all
 | [],x::xs=>by
  obtain ⟨e1,e2⟩:=rv_mapT R [] xs
  refine ⟨by simp [mapT,e1],fun i hi=>?_⟩
  cases i with
  | zero=>simpa [mapT] using R.ev 0 x
  | succ i=>simpa [mapT] using e2 i (by simpa using hi)
 | t::ts,x::xs=>by
  obtain ⟨e1,e2⟩:=rv_mapT R ts xs
  refine ⟨by simp [mapT,e1],fun i hi=>?_⟩
  cases i with
  | zero=>simpa [mapT] using R.ev t x
  | succ i=>simpa [mapT] using e2 i (by simpa using hi)

theorem sound_call (hP:B.I P) (R:Rel B N w₀ L s a w S g []) (hF:Fresh L id) {f:Operand} {xs:List Operand} {ts:List TypeId} (ho:o.op=.call { callee:=.value f,args:=⟨xs⟩,argTypes:=⟨ts⟩ }) {gf:FuncId} {caps:List AV} (hf:evA T s 0 f=.fn gf caps) (hC:∀g ds res,C.p g ds res→Pure P g ds res) (h:pureA C dp (find s.mem) id gf (mapT (evA T s) ts xs++caps) K):
  Goal P B N w₀ L s a w id K o Q:=by
 unfold pureA at h
 ·split at h
  ·rename_i ds hds
   obtain ⟨res,hp',h⟩:=h
   have hp':=hC _ _ _ hp'
   split at h
   ·rename_i v u hv
    have ef:=R.ev (T:=T) 0 f
    rw [hf] at ef
    generalize hfv:a.eval f=fv at ef
    cases ef with
    | fn _ _ vcaps hl hin=>
     obtain ⟨l1,r1⟩:=rv_mapT (T:=T) R ts xs
     have hargs:=R.readArgs (cs:=mapT (evA T s) ts xs++caps) (vs:=xs.map a.eval++vcaps) (by simp [l1,hl]) (fun i hi=>by
      rw [getD_append,getD_append,l1,List.length_map]
      split
      ·rename_i hlt;exact r1 i hlt
      ·exact hin _ (by simp [l1] at hi;omega)) hds
     obtain ⟨fn,hfn,hname,hbody⟩:=hp'.fn
     have hrun:(execOp a.eval o).run P w=.ok (.enter gf ⟨xs.map a.eval++vcaps⟩) w:=by
      have hname':¬ (fn.name = "runtime.NumGoroutine"):=by simpa using hname
      have hbody':¬ (fn.body=none):=by intro e;rw [e] at hbody;simp at hbody
      simp [execOp,ho,resolve,invoke,Deferred.ofValue,hfv,callFunc,hfn,hname',hbody']
     unfold Goal Oper.wp
     rw [hrun,Oper.upon_enter]
     refine Calls.mono (hp'.calls w _ ((R.now hP).mono fun _ _ _=>trivial) hargs) fun e w' he=>?_
     cases e with
     | returned val=>
      obtain ⟨hb,fp,hO,hnd,hfp⟩:=he
      have R':=R.world hb
      have hout:Out B w' S g (find s.mem) fp:=fun b hb'=>by
       obtain ⟨p1,p2⟩:=hfp b hb'
       refine ⟨fun hu=>absurd (R.hB b hu) (by omega),p2,⟨fun hs=>?_,Classical.byContradiction fun hc=>absurd (R.hH b hc) (by omega)⟩,fun o' ho' hf'=>?_⟩
       ·exact absurd (R.still b hs) (by omega)
       ·exact absurd (R.bound o' ho' b hf').2 (by omega)
      obtain ⟨S',g',L',n1,R2,z⟩:=R'.importV hO hnd hout hF hv
      exact ⟨val,rfl,v,u,S',g',L',h,n1,R2,z⟩
     | panicked c=>exact he.elim
     | outgrown=>exact he.elim
   ·exact h.elim
  ·exact h.elim

end

end Go.Av
