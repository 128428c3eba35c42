/- ABSTRACT VALUES: what is given away; new blocks. -/
import Derived.Test.YtniibgdokfnomaaGreatAvC
namespace Go.Av
open Go Go.RowKit
set_option linter.unusedSimpArgs false
set_option linter.unusedVariables false

theorem find_append' (u m:List (Nat×Option AO)):find (u++m)=ovr u (find m):=funext fun x=>find_append u m x

section
variable {B:Fr} {N:Nat} {L:Nat→Prop} {w₀ w:World} {s:St} {a:Act} {S:Nat→Prop} {g:Nat→OG} {X:List Nat}

theorem Rel.xsub (R:Rel B N w₀ L s a w S g X) {X':List Nat} (h1:X'.Nodup) (h2:∀b∈X',b∈X):Rel B N w₀ L s a w S g X':=
 { R with xs:=⟨h1,fun b hb=>R.xs.2.1 b (h2 b hb),fun o ho b hb hb'=>R.xs.2.2 o ho b hb (h2 b hb')⟩ }

theorem names (R:Rel B N w₀ L s a w S g X) {o:Nat} (h:find s.mem o≠none):L o:=Classical.byContradiction fun hn=>h (R.new o hn)

/-- an array object is read from now on alone -/
theorem Rel.freeze (R:Rel B N w₀ L s a w S g X) {o k:Nat} {rows:List (List D)} {own:Bool} (h:find s.mem o=some (.arr k rows own)):
  ∃S' g' fp,Rel B N w₀ L ⟨s.env,(o,some (.fro k rows))::s.mem,s.next⟩ a w S' g' (fp++X)∧
   Step S S' (hp w) (hp w) g g' (find s.mem) (find ((o,some (.fro k rows))::s.mem)) L L∧(g' o).v=(g o).v∧
   Data S' (hp w) (.sl k rows) (g o).v∧(own=true→Own (hp w) (.sl k rows) (g o).v fp):=by
 have hne:find s.mem o≠none:=by rw [h];simp
 have hL:=names R hne
 have hro:=R.obj o _ h
 have hnd:=R.nodup o hne
 have hbd:=R.bound o hne
 have hx:=R.xs.2.2 o hne
 have hap:=fun o' (e:o'≠o) (h':find s.mem o'≠none)=>R.apart o o' (fun x=>e x.symm) hne h'
 let S':Nat→Prop:=fun b=>S b∨b∈(g o).foot
 have hbdS:∀b,S' b→S b∨(¬ B.U b∧b<w.heap.size):=fun b hb=>hb.elim .inl fun hb=>.inr (hbd b hb)
 -- what is known of the array itself
 have key:Data S' (hp w) (.sl k rows) (g o).v∧(∃fp,(own=true→Own (hp w) (.sl k rows) (g o).v fp)∧fp.Nodup∧(∀b∈fp,b∈(g o).foot) )∧
   (rows=[]∨∃cap,(g o).v=.slice (some ⟨(g o).b,0,none⟩) rows.length cap)∧(g o).k=k∧(g o).len=rows.length∧(g o).hd=noHd:=by
  obtain ⟨_,e1,e2,_,_,e3⟩:=R.arr_data h
  refine ⟨?_,?_,e3,e2,e1,by generalize hG:g o=G at hro;cases hro <;> rfl⟩
  ·show Data (fun b=>S b∨b∈(g o).foot) (hp w) (.sl k rows) (g o).v
   generalize hG:g o=G at hro ⊢
   cases hro with
   | nil k b own oa hk=>exact .nil k oa 0
   | arr k rows own b cap cs e fr fps hb hfr hk hrow hcap hmax hsz hin hown hno hB hS=>
    exact .sl k rows b 0 cap cs e fr (.inr (by simp)) hb hk hrow hcap (by rw [hsz,Nat.zero_add];exact Nat.mul_le_mul_right _ hcap)
     fun i hi=>by rw [Nat.zero_add];exact (hin i hi).mono (fun b hb=>.inl hb) fun _ _=>rfl
  ·generalize hG:g o=G at hro hnd ⊢
   cases hro with
   | nil k b own oa hk=>exact ⟨[],fun _=>.nil k oa,by simp,by simp⟩
   | arr k rows own b cap cs e fr fps hb hfr hk hrow hcap hmax hsz hin hown hno hB hS=>
    refine ⟨b::fps.flatten,fun ho=>?_,hnd,fun _ h=>h⟩
    obtain ⟨f1,f2,_⟩:=hown ho
    exact .sl k rows b cap cs e fr fps hb hfr hk hrow hcap hmax hsz f1 f2
 obtain ⟨kd,⟨fp,ko,kn,ks⟩,kv,kk,kl,kh⟩:=key
 have R':=R.turn (S':=S') (X':=fp++X) (L':=L) o ⟨(g o).v,(g o).b,(g o).k,[],(g o).len,noHd⟩ (some (.fro k rows)) (fun b hb=>.inl hb) hbdS (fun _ h=>h) (fun _=>hL)
  (fun _ _ _=>⟨rfl,rfl,rfl,rfl,kh.symm⟩) (fun _ _=>hne)
  (fun o' e h' b hb hs=>by
   rintro (h1 | h1)
   ·exact hs h1
   ·exact hap o' e h' b h1 hb)
  (fun ao hao=>by
   simp only [Option.some.injEq] at hao;subst hao
   rw [kl,kk]
   exact .fro k rows _ _ kd kv)
  (fun _=>⟨by simp,by simp⟩) (fun _ o' _ _ b hb=>by simp at hb)
  ⟨by
   rw [List.nodup_append]
   exact ⟨kn,R.xs.1,fun b hb c hc=>by
    rintro rfl
    exact hx b (ks b hb) hc⟩,fun b hb=>by
    rcases List.mem_append.1 hb with hb | hb
    ·exact ⟨(hbd b (ks b hb)).1,.inr (ks b hb)⟩
    ·exact ⟨(R.xs.2.1 b hb).1,.inl (R.xs.2.1 b hb).2⟩,fun o' e h' b hb hb'=>by
    rcases List.mem_append.1 hb' with hb' | hb'
    ·exact hap o' e h' b (ks b hb') hb
    ·exact R.xs.2.2 o' h' b hb hb',fun _ b hb=>by simp at hb⟩
 refine ⟨S',_,fp,R',?_,by rw [setG_same],kd,ko⟩
 refine ⟨fun b hb=>.inl hb,fun _ _=>rfl,fun x hx hm=>?_,fun x hx hm=>?_,fun _ h=>h⟩
 ·by_cases e:x=o
  ·subst e;rw [setG_same];exact ⟨rfl,fun _=>rfl,rfl,rfl,fun _=>kh.symm⟩
  ·rw [setG_ne e];exact ⟨rfl,fun _=>rfl,rfl,rfl,fun _=>rfl⟩
 ·by_cases e:x=o
  ·subst e;exact hne
  ·rw [find_cons,if_neg (fun e'=>e e'.symm)] at hm;exact hm

theorem Step.refl {S:Nat→Prop} {h:Nat→Option Obj} {g:Nat→OG} {m:Nat→Option AO} {L:Nat→Prop}:Step S S h h g g m m L L:=
 ⟨fun _ h=>h,fun _ _=>rfl,fun _ _ _=>⟨rfl,fun _=>rfl,rfl,rfl,fun _=>rfl⟩,fun _ _ h=>h,fun _ h=>h⟩

theorem Step.trans {S S' S'':Nat→Prop} {h h' h'':Nat→Option Obj} {g g' g'':Nat→OG} {m m' m'':Nat→Option AO} {L L' L'':Nat→Prop}
  (x:Step S S' h h' g g' m m' L L') (y:Step S' S'' h' h'' g' g'' m' m'' L' L''):Step S S'' h h'' g g'' m m'' L L'':=
 ⟨fun b hb=>y.s b (x.s b hb),fun b hb=>(y.h b (x.s b hb)).trans (x.h b hb),
  fun o ho hm=>by
   obtain ⟨a1,a2,a3,a4,a5⟩:=y.g o (x.nx o ho) hm
   obtain ⟨b1,b2,b3,b4,b5⟩:=x.g o ho (y.m o (x.nx o ho) hm)
   exact ⟨a1.trans b1,fun h=>(a2 (by omega)).trans (b2 h),a3.trans b3,a4.trans b4,fun h=>(a5 (by omega)).trans (b5 h)⟩,
  fun o ho hm=>x.m o ho (y.m o (x.nx o ho) hm),fun o ho=>y.nx o (x.nx o ho)⟩

/-- what a cell that is given away comes to -/
theorem Rel.moveC (R:Rel B N w₀ L s a w S g X) {c:AV} {v:Value} (hv:RV S (hp w) g (find s.mem) L c v) {d:D} {u:Ups} {own:Bool} (h:Av.moveC (find s.mem) c=some (d,u,own)):
  ∃S' g' fp,Rel B N w₀ L ⟨s.env,u++s.mem,s.next⟩ a w S' g' (fp++X)∧Step S S' (hp w) (hp w) g g' (find s.mem) (find (u++s.mem)) L L∧
   Data S' (hp w) d v∧(own=true→Own (hp w) d v fp):=by
 have same:∀{d:D},Data S (hp w) d v→(own=true→Own (hp w) d v [])→
   ∃S' g' fp,Rel B N w₀ L ⟨s.env,[]++s.mem,s.next⟩ a w S' g' (fp++X)∧Step S S' (hp w) (hp w) g g' (find s.mem) (find ([]++s.mem)) L L∧Data S' (hp w) d v∧(own=true→Own (hp w) d v fp):=
  fun h1 h2=>⟨S,g,[],R,.refl,h1,h2⟩
 cases hv with
 | any v=>simp [Av.moveC] at h
 | nil k=>simp [Av.moveC] at h;obtain ⟨rfl,rfl,rfl⟩:=h;exact same (.nil k none 0) fun _=>.nil k none
 | d x v hd=>
  cases x with
  | v y=>
   simp [Av.moveC] at h;obtain ⟨rfl,rfl,rfl⟩:=h
   refine same hd fun _=>?_
   cases hd with
   | v x hx=>exact .v _ hx
  | sl k rows=>simp [Av.moveC] at h;obtain ⟨rfl,rfl,rfl⟩:=h;exact same hd fun ho=>by simp at ho
 | dp=>simp [Av.moveC] at h
 | ptr=>simp [Av.moveC] at h
 | sl o v ho h1 hv=>
  simp only [Av.moveC] at h
  split at h
  ·rename_i k rows own' hm
   simp at h;obtain ⟨rfl,rfl,rfl⟩:=h
   rw [hv (by rw [hm];simp)]
   obtain ⟨S',g',fp,R',st,_,kd,ko⟩:=R.freeze hm
   exact ⟨S',g',fp,R',st,kd,ko⟩
  ·rename_i k rows hm
   simp at h;obtain ⟨rfl,rfl,rfl⟩:=h
   rw [hv (by rw [hm];simp)] at same ⊢
   exact same (R.fro_data hm).1 fun ho=>by simp at ho
  ·simp at h
 | sub o lo n v ho h1 hv=>
  simp only [Av.moveC] at h
  split at h
  ·rename_i k rows own' hm
   simp at h;obtain ⟨rfl,rfl,rfl⟩:=h
   obtain ⟨S',g',fp,R',st,e1,kd,_⟩:=R.freeze hm
   obtain ⟨_,d2,d3,_,_,d6⟩:=R.arr_data hm
   refine ⟨S',g',[],R'.xsub R.xs.1 (fun b hb=>List.mem_append_right _ hb),st,sub_part kd d2 d3 d6 (hv (by rw [hm];simp)),fun ho=>by simp at ho⟩
  ·rename_i k rows hm
   simp at h;obtain ⟨rfl,rfl,rfl⟩:=h
   obtain ⟨d1,d2,d3,d6⟩:=R.fro_data hm
   exact same (sub_part d1 d2 d3 d6 (hv (by rw [hm];simp))) fun ho=>by simp at ho
  ·simp at h
 | cel=>simp [Av.moveC] at h
 | agg=>simp [Av.moveC] at h
 | tup=>simp [Av.moveC] at h
 | fn=>simp [Av.moveC] at h

end

theorem and_true_of {a b:Bool}:andB a b=true→a=true∧b=true:=by cases a <;> simp [andB]

theorem Rel.moveRow {B:Fr} {N:Nat} {L:Nat→Prop} {w₀ w:World} {a:Act}:∀{cs:List AV} {vs:List Value} {s:St} {S:Nat→Prop} {g:Nat→OG} {X:List Nat} {ds:List D} {u:Ups} {own:Bool},
  Rel B N w₀ L s a w S g X→vs.length=cs.length→(∀i,i<cs.length→RV S (hp w) g (find s.mem) L (cs.getD i .any) (vs.getD i undef))→
  Av.moveRow (find s.mem) cs=some (ds,u,own)→∃S' g' fps,Rel B N w₀ L ⟨s.env,u++s.mem,s.next⟩ a w S' g' (List.flatten fps++X)∧
   Step S S' (hp w) (hp w) g g' (find s.mem) (find (u++s.mem)) L L∧ds.length=cs.length∧(∀i,i<cs.length→Data S' (hp w) (ds.getD i default) (vs.getD i undef))∧
   (own=true→fps.length=cs.length∧∀i,i<cs.length→Own (hp w) (ds.getD i default) (vs.getD i undef) (fps.getD i []))
 | [],vs,s,S,g,X,ds,u,own,R,_,_,h=>by
  simp [Av.moveRow] at h;obtain ⟨rfl,rfl,rfl⟩:=h
  exact ⟨S,g,[],R,.refl,rfl,by simp,by simp⟩
 | c::cs,[],_,_,_,_,_,_,_,_,hl,_,_=>by simp at hl
 | c::cs,v::vs,s,S,g,X,ds,u,own,R,hl,hin,h=>by
  simp only [Av.moveRow] at h
  split at h
  ·rename_i d u1 o1 hd
   split at h
   ·rename_i ds' us os hds
    simp at h;obtain ⟨rfl,rfl,rfl⟩:=h
    obtain ⟨S1,g1,fp,R1,st1,kd,ko⟩:=R.moveC (hin 0 (by simp)) hd
    rw [← find_append'] at hds
    obtain ⟨S2,g2,fps,R2,st2,e1,e2,e3⟩:=Rel.moveRow (cs:=cs) (vs:=vs) R1 (by simpa using hl) (fun i hi=>by simpa using (hin (i+1) (by simpa using hi)).step st1) hds
    have hperm:(List.flatten fps++(fp++X)).Perm ((fp::fps).flatten++X):=by
     simp only [List.flatten_cons,List.append_assoc]
     rw [← List.append_assoc,← List.append_assoc]
     exact List.Perm.append_right _ List.perm_append_comm
    refine ⟨S2,g2,fp::fps,?_,?_,by simp [e1],fun i hi=>?_,fun ho=>?_⟩
    ·have:=R2.xsub (X':=(fp::fps).flatten++X) (hperm.nodup R2.xs.1) (fun b hb=>hperm.mem_iff.2 hb)
     simpa [List.append_assoc] using this
    ·have:=st1.trans st2
     simpa [List.append_assoc] using this
    ·cases i with
     | zero=>simpa using kd.mono st2.s st2.h
     | succ i=>simpa using e2 i (by simpa using hi)
    ·obtain ⟨h1,h2⟩:=and_true_of ho
     obtain ⟨f1,f2⟩:=e3 h2
     refine ⟨by simp [f1],fun i hi=>?_⟩
     cases i with
     | zero=>simpa using ko h1
     | succ i=>simpa using f2 i (by simpa using hi)
   ·simp at h
  ·simp at h

section
variable {B:Fr} {N:Nat} {L:Nat→Prop} {w₀ w:World} {s:St} {a:Act} {S:Nat→Prop} {g:Nat→OG} {X:List Nat}

theorem alloc_below (w:World) (o:Obj):Below w.heap.size w (w.alloc o):=(Below.refl _ _).alloc (Nat.le_refl _) o

theorem hp_alloc_new (w:World) (o:Obj):hp (w.alloc o) w.heap.size=some o:=heap_alloc_new w o

/-- a name is laid: what goes on -/
theorem step_new {S S':Nat→Prop} {h:Nat→Option Obj} {m:List (Nat×Option AO)} {id:Nat} {G:OG} {ao:Option AO} {L':Nat→Prop} (hs:∀b,S b→S' b) (hid:¬ L id) (hL:∀o,L o→L' o):
  Step S S' h h g (setG g id G) (find m) (find ((id,ao)::m)) L L':=
 ⟨hs,fun _ _=>rfl,fun o ho _=>by
  have:o≠id:=fun e=>hid (e ▸ ho)
  rw [setG_ne this];exact ⟨rfl,fun _=>rfl,rfl,rfl,fun _=>rfl⟩,fun o ho hm=>by
  have:o≠id:=fun e=>hid (e ▸ ho)
  rw [find_cons,if_neg (fun e=>this e.symm)] at hm;exact hm,hL⟩

/-- a new variable -/
theorem Rel.newBox (R:Rel B N w₀ L s a w S g X) {id:Nat} {L':Nat→Prop} (hid:¬ L id) (hL:∀o,L o→L' o) (hid':L' id) {cs:List AV} {vs:List Value} (e:TypeId) (hl:vs.length=cs.length)
  (h1:∀v∈vs,v.oneCell'=true) (hin:∀i,i<cs.length→RV S (hp w) g (find s.mem) L (cs.getD i .any) (vs.getD i undef)):
  ∃g',Rel B N w₀ L' ⟨s.env,(id,some (.box cs))::s.mem,s.next⟩ a (w.alloc (.cells ⟨vs⟩ e)) S g' X∧Step S S (hp w) (hp (w.alloc (.cells ⟨vs⟩ e))) g g' (find s.mem) (find ((id,some (.box cs))::s.mem)) L L'∧
   (g' id).b=w.heap.size∧(g' id).len=1∧(g' id).v=.pointer (some ⟨w.heap.size,0,none⟩):=by
 have hw:=alloc_below w (.cells ⟨vs⟩ e)
 have Rw:=R.world hw
 have stw:Step S S (hp w) (hp (w.alloc (.cells ⟨vs⟩ e))) g g (find s.mem) (find s.mem) L L:=
  ⟨fun _ h=>h,fun b hb=>hw.block b (R.still b hb),fun _ _ _=>⟨rfl,fun _=>rfl,rfl,rfl,fun _=>rfl⟩,fun _ _ h=>h,fun _ h=>h⟩
 have hdead:find s.mem id=none:=R.new id hid
 have stn:Step S S (hp (w.alloc (.cells ⟨vs⟩ e))) (hp (w.alloc (.cells ⟨vs⟩ e))) g (setG g id ⟨.pointer (some ⟨w.heap.size,0,none⟩),w.heap.size,0,[w.heap.size],1,noHd⟩) (find s.mem) (find ((id,some (.box cs))::s.mem)) L L':=
  step_new (fun _ h=>h) hid hL
 have R':=Rw.turn (S':=S) (X':=X) (L':=L') id ⟨.pointer (some ⟨w.heap.size,0,none⟩),w.heap.size,0,[w.heap.size],1,noHd⟩ (some (.box cs)) (fun _ h=>h) (fun _ h=>.inl h) hL (fun _=>hid')
  (fun _ h _=>absurd h hid) (fun _ h=>absurd h hid) (fun _ _ _ b _ hs=>hs)
  (fun ao hao=>by
   simp only [Option.some.injEq] at hao;subst hao
   exact .box cs w.heap.size vs e (0,0) (hp_alloc_new w _) (by intro i _ hc;have h1:=hc.1;have h2:=hc.2;simp at h2) hl h1 (fun i hi=>((hin i hi).step stw).step stn) (fun h=>Nat.lt_irrefl _ (R.hB _ h))
    (fun hs=>Nat.lt_irrefl _ (R.still _ hs)))
  (fun _=>⟨by simp,fun b hb=>by simp at hb;subst hb;exact ⟨fun h=>Nat.lt_irrefl _ (R.hB _ h),by simp⟩⟩)
  (fun _ o' _ ho' b hb hb'=>by simp at hb;subst hb;exact Nat.lt_irrefl _ (R.bound o' ho' _ hb').2)
  ⟨R.xs.1,R.xs.2.1,fun o' _ ho' b hb=>R.xs.2.2 o' ho' b hb,fun _ b hb hb'=>by simp at hb;subst hb;exact Nat.lt_irrefl _ (R.still _ (R.xs.2.1 _ hb').2)⟩
 exact ⟨_,R',stw.trans stn,by rw [setG_same],by rw [setG_same],by rw [setG_same]⟩

/-- a new array: its cells are given -/
theorem Rel.newArr {fps:List (List Nat)} (R:Rel B N w₀ L s a w S g (fps.flatten++X)) {id:Nat} {L':Nat→Prop} (hid:¬ L id) (hL:∀o,L o→L' o) (hid':L' id) {k:Nat} {rows:List (List D)} {own:Bool} {cs:Array Value} (e:TypeId) (fr:Nat×Nat) (cap:Nat)
  (hk:0<k) (hrow:∀r∈rows,r.length=k) (hcap:rows.length≤cap) (hmax:cap≤maxLen) (hsz:cs.size=cap * k) (hfr:freeK k fr cs.size)
  (hin:∀i,i<rows.length * k→Data S (hp w) (rows.flatten.getD i default) (cs.getD i undef))
  (hown:own=true→fps.length=rows.length * k∧∀i,i<rows.length * k→Own (hp w) (rows.flatten.getD i default) (cs.getD i undef) (fps.getD i [])):
  ∃g',Rel B N w₀ L' ⟨s.env,(id,some (.arr k rows own))::s.mem,s.next⟩ a (w.alloc (.cells cs e fr)) S g' X∧Step S S (hp w) (hp (w.alloc (.cells cs e fr))) g g' (find s.mem) (find ((id,some (.arr k rows own))::s.mem)) L L'∧
   (g' id).v=.slice (some ⟨w.heap.size,0,none⟩) rows.length cap:=by
 have hw:=alloc_below w (.cells cs e fr)
 have Rw:=R.world hw
 have stw:Step S S (hp w) (hp (w.alloc (.cells cs e fr))) g g (find s.mem) (find s.mem) L L:=
  ⟨fun _ h=>h,fun b hb=>hw.block b (R.still b hb),fun _ _ _=>⟨rfl,fun _=>rfl,rfl,rfl,fun _=>rfl⟩,fun _ _ h=>h,fun _ h=>h⟩
 let fps':List (List Nat):=if own then fps else []
 have hsub:∀b∈fps'.flatten,b∈fps.flatten:=by
  intro b hb
  by_cases ho:own=true
  ·simpa [fps',ho] using hb
  ·simp [fps',ho] at hb
 have hnd:=R.xs.1
 rw [List.nodup_append] at hnd
 have hnd':fps'.flatten.Nodup:=by
  by_cases ho:own=true
  ·simpa [fps',ho] using hnd.1
  ·simp [fps',ho]
 have hin0:∀b∈fps'.flatten,¬ B.U b∧S b:=fun b hb=>R.xs.2.1 b (List.mem_append_left _ (hsub b hb))
 have hnew:∀b∈fps'.flatten,b≠w.heap.size:=fun b hb e=>Nat.lt_irrefl _ (e ▸ R.still b (hin0 b hb).2)
 have R':=Rw.turn (S':=S) (X':=X) (L':=L') id ⟨.slice (some ⟨w.heap.size,0,none⟩) rows.length cap,w.heap.size,k,w.heap.size::fps'.flatten,rows.length,noHd⟩ (some (.arr k rows own)) (fun _ h=>h) (fun _ h=>.inl h) hL (fun _=>hid')
  (fun _ h _=>absurd h hid) (fun _ h=>absurd h hid) (fun _ _ _ b _ hs=>hs)
  (fun ao hao=>by
   simp only [Option.some.injEq] at hao;subst hao
   refine .arr k rows own w.heap.size cap cs e fr fps' (hp_alloc_new w _) hfr hk hrow hcap hmax hsz (fun i hi=>(hin i hi).mono (fun _ h=>h) stw.h) (fun ho=>?_) (fun ho=>by simp [fps',ho]) (fun h=>Nat.lt_irrefl _ (R.hB _ h))
    (fun hs=>Nat.lt_irrefl _ (R.still _ hs))
   obtain ⟨f1,f2⟩:=hown ho
   have e1:fps'=fps:=by simp [fps',ho]
   rw [e1]
   refine ⟨f1,fun i hi=>(f2 i hi).mono fun b hb=>?_,fun b hb=>(hin0 b (by rw [e1];exact hb)).2⟩
   exact stw.h b (hin0 b (by rw [e1];exact mem_flatten_of_getD hb)).2)
  (fun _=>⟨by
   simp only [List.nodup_cons]
   exact ⟨fun h=>hnew _ h rfl,hnd'⟩,fun b hb=>by
   simp only [List.mem_cons] at hb
   rcases hb with rfl | hb
   ·exact ⟨fun h=>Nat.lt_irrefl _ (R.hB _ h),by simp⟩
   ·exact ⟨(hin0 b hb).1,Nat.lt_of_lt_of_le (R.still b (hin0 b hb).2) (by simp)⟩⟩)
  (fun _ o' _ ho' b hb hb'=>by
   simp only [List.mem_cons] at hb
   rcases hb with rfl | hb
   ·exact Nat.lt_irrefl _ (R.bound o' ho' _ hb').2
   ·exact R.xs.2.2 o' ho' b hb' (List.mem_append_left _ (hsub b hb)))
  ⟨hnd.2.1,fun b hb=>R.xs.2.1 b (List.mem_append_right _ hb),fun o' _ ho' b hb hb'=>R.xs.2.2 o' ho' b hb (List.mem_append_right _ hb'),fun _ b hb hb'=>by
   simp only [List.mem_cons] at hb
   rcases hb with rfl | hb
   ·exact Nat.lt_irrefl _ (R.still _ (R.xs.2.1 _ (List.mem_append_right _ hb')).2)
   ·exact hnd.2.2 b (hsub b hb) b hb' rfl⟩
 exact ⟨_,R',stw.trans (step_new (fun _ h=>h) hid hL),by rw [setG_same]⟩

/-- an object is dropped -/
theorem Rel.kill (R:Rel B N w₀ L s a w S g X) (o:Nat):Rel B N w₀ L ⟨s.env,(o,none)::s.mem,s.next⟩ a w S (setG g o (g o)) X∧Step S S (hp w) (hp w) g (setG g o (g o)) (find s.mem) (find ((o,none)::s.mem)) L L:=by
 refine ⟨R.turn (S':=S) (X':=X) (L':=L) o (g o) none (fun _ h=>h) (fun _ h=>.inl h) (fun _ h=>h) (fun h=>absurd rfl h) (fun h=>absurd rfl h) (fun h=>absurd rfl h) (fun _ _ _ b _ hs=>hs)
  (fun ao h=>by simp at h) (fun h=>absurd rfl h) (fun h=>absurd rfl h) ⟨R.xs.1,R.xs.2.1,fun o' _ ho' b hb=>R.xs.2.2 o' ho' b hb,fun h=>absurd rfl h⟩,?_⟩
 refine ⟨fun _ h=>h,fun _ _=>rfl,fun x _ _=>?_,fun x _ hm=>?_,fun _ h=>h⟩
 ·by_cases e:x=o
  ·subst e;rw [setG_same];exact ⟨rfl,fun _=>rfl,rfl,rfl,fun _=>rfl⟩
  ·rw [setG_ne e];exact ⟨rfl,fun _=>rfl,rfl,rfl,fun _=>rfl⟩
 ·rw [find_cons] at hm
  split at hm
  ·exact absurd rfl hm
  ·exact hm

end

end Go.Av
