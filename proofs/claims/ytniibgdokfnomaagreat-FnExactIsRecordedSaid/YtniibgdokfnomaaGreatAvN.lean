/- ABSTRACT VALUES: append is sound. -/
import Derived.Test.YtniibgdokfnomaaGreatAvM
namespace Go.Av
open Go Go.RowKit
set_option linter.unusedSimpArgs false
set_option linter.unusedVariables false

/-- the cells behind a slice's address -/
def cellsAt (w:World) (n:Nat):Value→List Value
 | .slice (some a) _ _=>match hp w a.block with
  | some (.cells cs _ _)=>List.ofFn (n:=n) fun i=>cs.getD (a.off+i) undef
  | _=>List.replicate n undef
 | _=>List.replicate n undef

theorem cellsAt_length (w:World) (n:Nat) (v:Value):(cellsAt w n v).length=n:=by
 unfold cellsAt;split
 ·split <;> simp
 ·simp

theorem cellsAt_get {w:World} {n b off len cap:Nat} {cs:Array Value} {e:TypeId} {fr:Nat×Nat} (hb:hp w b=some (.cells cs e fr)) (i:Nat) (hi:i<n):
  (cellsAt w n (.slice (some ⟨b,off,none⟩) len cap)).getD i undef=cs.getD (off+i) undef:=by
 simp only [cellsAt,hb]
 rw [List.getD_eq_getElem?_getD,List.getElem?_ofFn,dif_pos hi];rfl

section
variable {P:Program} {w:World}

theorem read_cells {S:Nat→Prop} {k:Nat} {rows:List (List D)} {v:Value} (H:Data S (hp w) (.sl k rows) v):
  (∀i,i<rows.length * k→Data S (hp w) (rows.flatten.getD i default) ((cellsAt w (rows.length * k) v).getD i undef))∧(∀u∈cellsAt w (rows.length * k) v,u.oneCell'=true)∧
   (Builtin.lenOf v).run P w=.ok rows.length w∧(∀w':World,w'.heap=w.heap→(Builtin.firstCells k rows.length v).run P w'=.ok (cellsAt w (rows.length * k) v).toArray w'):=by
 by_cases hne:rows=[]
 ·subst hne
  obtain ⟨oa,cap,rfl⟩:=data_sl H
  have e0:cellsAt w (([]:List (List D)).length * k) (.slice oa ([]:List (List D)).length cap)=[]:=List.eq_nil_of_length_eq_zero (by rw [cellsAt_length];simp)
  rw [e0]
  refine ⟨by simp,by simp,by simp [Builtin.lenOf],fun w' _=>?_⟩
  cases oa <;> simp [Builtin.firstCells,loadCells,loadCellsFrom]
 ·obtain ⟨b,off,cap,cs,e,fr,hS,hb,hk',hrow,hcap,hfit,hin,rfl⟩:=data_ne H hne
  have key:∀i,i<rows.length * k→(cellsAt w (rows.length * k) (.slice (some ⟨b,off,none⟩) rows.length cap)).getD i undef=cs.getD (off+i) undef:=fun i hi=>cellsAt_get hb i hi
  have hD:∀i,i<rows.length * k→Data S (hp w) (rows.flatten.getD i default) ((cellsAt w (rows.length * k) (.slice (some ⟨b,off,none⟩) rows.length cap)).getD i undef):=fun i hi=>by rw [key i hi];exact hin i hi
  refine ⟨hD,fun u hu=>?_,by simp [Builtin.lenOf],fun w' hw=>?_⟩
  ·obtain ⟨i,hi,rfl⟩:=List.mem_iff_getElem.1 hu
   have:=hD i (by rwa [cellsAt_length] at hi)
   have e:(cellsAt w (rows.length * k) (.slice (some ⟨b,off,none⟩) rows.length cap)).getD i undef=(cellsAt w (rows.length * k) (.slice (some ⟨b,off,none⟩) rows.length cap))[i]:=by rw [List.getD_eq_getElem?_getD,List.getElem?_eq_getElem hi];rfl
   rw [e] at this
   exact this.one
  ·have hb':hp w' b=some (.cells cs e fr):=by show w'.heap[b]?=_;rw [hw];exact hb
   simp only [Builtin.firstCells]
   rw [run_loadCells_at hb' off (rows.length * k) hfit]
   congr 1
   apply Array.ext'
   simp [cellsAt,hb]

theorem own_cells {k:Nat} {rows:List (List D)} {v:Value} {fp:List Nat} (H:Own (hp w) (.sl k rows) v fp):(∀r∈rows,r.length=k)∧
  ∃fps:List (List Nat),fps.length=rows.length * k∧(∀i,i<rows.length * k→Own (hp w) (rows.flatten.getD i default) ((cellsAt w (rows.length * k) v).getD i undef) (fps.getD i []))∧(∀b∈fps.flatten,b∈fp)∧(fp.Nodup→fps.flatten.Nodup):=by
 cases H with
 | nil k oa=>exact ⟨by simp,[],by simp,by simp,by simp,by simp⟩
 | sl k rows b cap cs e fr fps hb hfr hk hrow hcap hmax hsz hfl hin=>
  refine ⟨hrow,fps,hfl,fun i hi=>?_,fun x hx=>List.mem_cons_of_mem _ hx,fun h=>(List.nodup_cons.1 h).2⟩
  rw [cellsAt_get hb i hi,Nat.zero_add];exact hin i hi

theorem flat_own {S:Nat→Prop} {h:Nat→Option Obj} {rows:List (List D)} (hf:flatRows rows) {i:Nat} {u:Value} (hi:i<rows.flatten.length) (H:Data S h (rows.flatten.getD i default) u):Own h (rows.flatten.getD i default) u []:=by
 have hm:rows.flatten.getD i default∈rows.flatten:=by
  rw [List.getD_eq_getElem?_getD,List.getElem?_eq_getElem hi];exact List.getElem_mem _
 obtain ⟨r,hr,hx⟩:=List.mem_flatten.1 hm
 obtain ⟨v,hv⟩:=hf r hr _ hx
 rw [hv] at H ⊢
 cases H with | v _ h1=>exact .v _ h1

theorem data_rows {S:Nat→Prop} {h:Nat→Option Obj} {k:Nat} {rows:List (List D)} {v:Value} (H:Data S h (.sl k rows) v):∀r∈rows,r.length=k:=by
 cases H with
 | nil=>simp
 | sl k rows b off cap cs e fr hS hb hk hrow hcap hfit hin=>exact hrow

end

section
variable {P:Program} {T:Tab} {C:Contract} {B:Fr} {N:Nat} {L:Nat→Prop} {w₀ w:World} {s:St} {a:Act} {S:Nat→Prop} {g:Nat→OG} {id:Nat} {K:AV→Ups→Prop} {o:Oper} {Q:Exit→Act→World→Prop} {X:List Nat}

/-- the source of an append -/
theorem Rel.srcA (R:Rel B N w₀ L s a w S g X) {c:AV} {v:Value} (hv:RV S (hp w) g (find s.mem) L c v) {flat:Bool} {k:Nat} {rows:List (List D)} {u:Ups} {own ob:Bool}
  (h:Av.srcA (find s.mem) flat c=some (k,rows,u,own,ob)) (hob:ob=true→flatRows rows):
  ∃S' g' fps,Rel B N w₀ L ⟨s.env,u++s.mem,s.next⟩ a w S' g' (List.flatten fps++X)∧Step S S' (hp w) (hp w) g g' (find s.mem) (find (u++s.mem)) L L∧Data (·<w.heap.size) (hp w) (.sl k rows) v∧
   (∀i,i<rows.length * k→Data S' (hp w) (rows.flatten.getD i default) ((cellsAt w (rows.length * k) v).getD i undef))∧
   (own=true→fps.length=rows.length * k∧∀i,i<rows.length * k→Own (hp w) (rows.flatten.getD i default) ((cellsAt w (rows.length * k) v).getD i undef) (fps.getD i [])):=by
 have ext:∀{rows:List (List D)},Data S (hp w) (.sl k rows) v→(own=true→flatRows rows)→
   ∃S' g' fps,Rel B N w₀ L ⟨s.env,[]++s.mem,s.next⟩ a w S' g' (List.flatten fps++X)∧Step S S' (hp w) (hp w) g g' (find s.mem) (find ([]++s.mem)) L L∧Data (·<w.heap.size) (hp w) (.sl k rows) v∧
    (∀i,i<rows.length * k→Data S' (hp w) (rows.flatten.getD i default) ((cellsAt w (rows.length * k) v).getD i undef))∧
    (own=true→fps.length=rows.length * k∧∀i,i<rows.length * k→Own (hp w) (rows.flatten.getD i default) ((cellsAt w (rows.length * k) v).getD i undef) (fps.getD i [])):=by
  intro rows hd hf
  refine ⟨S,g,List.replicate (rows.length * k) [],by simpa using R,.refl,hd.mono R.still fun _ _=>rfl,(read_cells (P:=default) hd).1,fun ho=>⟨by simp,fun i hi=>?_⟩⟩
  have e:(List.replicate (rows.length * k) ([]:List Nat)).getD i []=[]:=by simp only [List.getD_eq_getElem?_getD,List.getElem?_replicate];split <;> rfl
  rw [e]
  exact flat_own (hf ho) (by rw [flatten_length (data_rows hd)];exact hi) ((read_cells (P:=default) hd).1 i hi)
 cases hv with
 | any v=>simp [Av.srcA] at h
 | nil k'=>
  simp [Av.srcA] at h;obtain ⟨rfl,rfl,rfl,rfl,rfl⟩:=h
  exact ext (.nil k' none 0) fun _=>by intro r hr;simp at hr
 | d x v hd=>
  cases x with
  | v y=>simp [Av.srcA] at h
  | sl k' rows'=>
   simp [Av.srcA] at h;obtain ⟨rfl,rfl,rfl,rfl,rfl⟩:=h
   exact ext hd hob
 | dp=>simp [Av.srcA] at h
 | ptr=>simp [Av.srcA] at h
 | sl ob' v ho h1 hv=>
  simp only [Av.srcA] at h
  split at h
  ·rename_i k' rows' own' hm
   simp at h;obtain ⟨rfl,rfl,rfl,rfl,rfl⟩:=h
   rw [hv (by rw [hm];simp)]
   obtain ⟨S',g',fp,R',st,_,kd,ko⟩:=R.freeze hm
   have kd1:=kd.mono R'.still fun _ _=>rfl
   by_cases hown:own'=true
   ·obtain ⟨_,fps,f1,f2,f3,f4⟩:=own_cells (ko hown)
    have hnd:=R'.xs.1
    rw [List.nodup_append] at hnd
    refine ⟨S',g',fps,R'.xsub ?_ ?_,st,kd1,(read_cells (P:=default) kd).1,fun _=>⟨f1,f2⟩⟩
    ·rw [List.nodup_append]
     exact ⟨f4 hnd.1,hnd.2.1,fun x hx y hy=>hnd.2.2 x (f3 x hx) y hy⟩
    ·intro b hb
     exact (List.mem_append.1 hb).elim (fun hb=>List.mem_append_left _ (f3 b hb)) (fun hb=>List.mem_append_right _ hb)
   ·exact ⟨S',g',[],R'.xsub R.xs.1 (fun b hb=>List.mem_append_right _ hb),st,kd1,(read_cells (P:=default) kd).1,fun h=>absurd h hown⟩
  ·rename_i k' rows' hm
   simp at h;obtain ⟨rfl,rfl,rfl,rfl,rfl⟩:=h
   rw [hv (by rw [hm];simp)] at ext ⊢
   exact ext (R.fro_data hm).1 hob
  ·simp at h
 | sub ob' lo n v ho h1 hv=>
  simp only [Av.srcA] at h
  split at h
  ·rename_i k' rows' own' hm
   have hv':=hv (by rw [hm];simp)
   obtain ⟨kd0,d2,d3,_,_,d6⟩:=R.arr_data hm
   split at h
   ·simp at h;obtain ⟨rfl,rfl,rfl,rfl,rfl⟩:=h
    have hd:=sub_part kd0 d2 d3 d6 hv'
    have hf:=hob rfl
    have key:∀i,i<((rows'.drop lo).take n).length * k'→Own (hp w) (((rows'.drop lo).take n).flatten.getD i default) ((cellsAt w (((rows'.drop lo).take n).length * k') v).getD i undef) []:=fun i hi=>
     flat_own hf (by rw [flatten_length (data_rows hd)];exact hi) ((read_cells (P:=default) hd).1 i hi)
    refine ⟨S,g,List.replicate (((rows'.drop lo).take n).length * k') [],by simpa using R,.refl,hd,fun i hi=>(key i hi).data (by simp),fun _=>⟨by simp,fun i hi=>?_⟩⟩
    have e:(List.replicate (((rows'.drop lo).take n).length * k') ([]:List Nat)).getD i []=[]:=by simp only [List.getD_eq_getElem?_getD,List.getElem?_replicate];split <;> rfl
    rw [e];exact key i hi
   ·simp at h;obtain ⟨rfl,rfl,rfl,rfl,rfl⟩:=h
    obtain ⟨S',g',fp,R',st,e1,kd,_⟩:=R.freeze hm
    have kd':=sub_part kd d2 d3 d6 hv'
    exact ⟨S',g',[],R'.xsub R.xs.1 (fun b hb=>List.mem_append_right _ hb),st,kd'.mono R'.still fun _ _=>rfl,(read_cells (P:=default) kd').1,fun h=>by simp at h⟩
  ·rename_i k' rows' hm
   simp at h;obtain ⟨rfl,rfl,rfl,rfl,rfl⟩:=h
   obtain ⟨d1,d2,d3,d6⟩:=R.fro_data hm
   exact ext (sub_part d1 d2 d3 d6 (hv (by rw [hm];simp))) hob
  ·simp at h
 | cel=>simp [Av.srcA] at h
 | agg=>simp [Av.srcA] at h
 | tup=>simp [Av.srcA] at h
 | fn=>simp [Av.srcA] at h

/-- a name for an array of nothing -/
theorem Rel.newNil (R:Rel B N w₀ L s a w S g X) {L':Nat→Prop} (hid:¬ L id) (hL:∀o,L o→L' o) (hid':L' id) {k:Nat} {own:Bool} (hk:0<k) (oa:Option Addr):
  ∃g',Rel B N w₀ L' ⟨s.env,(id,some (.arr k [] own))::s.mem,s.next⟩ a w S g' X∧Step S S (hp w) (hp w) g g' (find s.mem) (find ((id,some (.arr k [] own))::s.mem)) L L'∧(g' id).v=.slice oa 0 0:=by
 have R':=R.turn (S':=S) (X':=X) (L':=L') id ⟨.slice oa 0 0,0,k,[],0,noHd⟩ (some (.arr k [] own)) (fun _ h=>h) (fun _ h=>.inl h) hL (fun _=>hid')
  (fun _ h _=>absurd h hid) (fun _ h=>absurd h hid) (fun _ _ _ b _ hs=>hs)
  (fun ao hao=>by simp only [Option.some.injEq] at hao;subst hao;exact .nil k 0 own oa hk)
  (fun _=>⟨by simp,by simp⟩) (fun _ _ _ _ b hb=>by simp at hb) ⟨R.xs.1,R.xs.2.1,fun o' _ ho' b hb=>R.xs.2.2 o' ho' b hb,fun _ b hb=>by simp at hb⟩
 exact ⟨_,R',step_new (fun _ h=>h) hid hL,by rw [setG_same]⟩

theorem size_zeroCells' (z:Array Value) (n:Nat):(Builtin.zeroCells z n).toList.length=n * z.size:=by
 have:=size_zeroCells z n;simpa using this

theorem sound_append (hT:TOk P T) (R:Rel B N w₀ L s a w S g []) (hF:Fresh L id) {x y:Operand} {t t':TypeId} (ho:o.op=.call { callee:=.builtin .append,args:=⟨[x,y]⟩,argTypes:=⟨[t,t']⟩ }) (h:stepR C T o (evA T s) (find s.mem) id K):
  Goal P B N w₀ L s a w id K o Q:=by
 unfold stepR at h;rw [ho] at h
 simp only at h
 split at h
 ·rename_i i hi
  have H:=hT t i hi
  obtain ⟨d,hd,hu,_⟩:=H.run_underlying w
  split at h
  ·rename_i e htd
   rw [htd] at hd;simp only [DescOk] at hd;subst hd
   split at h
   ·rename_i ie he
    have HE:=hT e ie he
    obtain ⟨info,d,z,q1,q2,q3,q4,q5,q6,_⟩:=HE.ex
    split at h
    ·rename_i htt
     have htt:=Nat.eq_of_beq_eq_true htt
     subst htt
     unfold appendA at h
     split at h
     ·rename_i k' rows' u' own' ob hsrc
      split at h
      ·rename_i k rows u own hdst
       split at h
       ·rename_i hk1 hk2
        have hk1:=Nat.eq_of_beq_eq_true hk1
        have hk2:=Nat.eq_of_beq_eq_true hk2
        subst hk1
        subst hk2
        obtain ⟨⟨hby,hlen⟩,hob,h⟩:=h
        have hpos:=HE.pos
        obtain ⟨S1,g1,f',R1,st1,kd,d2,o2⟩:=R.srcA (R.ev t y) hsrc hob
        obtain ⟨_,one2,len2,first2⟩:=read_cells (P:=P) kd
        have hrow':=data_rows kd
        generalize hv2:a.eval y=v2 at kd d2 o2 one2 len2 first2
        generalize hnews:cellsAt w (rows'.length * ie.size) v2=news at d2 o2 one2 first2
        have hnl:news.length=rows'.length * ie.size:=by rw [← hnews];exact cellsAt_length _ _ _
        have ex:=(R.ev (T:=T) t x).step st1
        rw [← find_append'] at hdst
        have hby':(rows.length+rows'.length) * info.bytes≤140737488355328:=by rw [q4];exact hby
        have fin:∀{v1 val:Value} {w':World} {g2:Nat→OG},a.eval x=v1→(Builtin.append_ #[t,t] o.type #[v1,v2]).run P w=.ok val w'→
          Rel B N w₀ (fun o=>L o∨o=id) ⟨s.env,(id,some (.arr ie.size (rows++rows') (andB own own')))::(u++(u'++s.mem)),s.next⟩ a w' S1 g2 []→(g2 id).v=val→val.oneCell'=true→Goal P B N w₀ L s a w id K o Q:=by
         intro v1 val w' g2 e1 hr R2 ev h1
         refine wp_val (v:=val) (w':=w') ?_ ⟨_,rfl,_,_,_,g2,_,h,Names.one L id,by simpa [List.append_assoc] using R2,.sl id _ (.inr rfl) h1 fun _=>ev.symm⟩
         simp [execOp,ho,resolve,invoke,builtin,e1,hv2,hr]
        -- nothing to append to
        have none':∀{oa:Option Addr},a.eval x=.slice oa 0 0→rows=[]→∀{g1':Nat→OG},Rel B N w₀ L ⟨s.env,u++(u'++s.mem),s.next⟩ a w S1 g1' (f'.flatten++[])→Goal P B N w₀ L s a w id K o Q:=by
         intro oa e1 hr0 g1' R1'
         subst hr0
         by_cases hm:rows'=[]
         ·subst hm
          have hn0:news=[]:=List.eq_nil_of_length_eq_zero (by simpa using hnl)
          obtain ⟨g2,R2,_,ev⟩:=(R1'.xsub (X':=[]) (by simp) (by simp)).newNil (L':=fun o=>L o∨o=id) (id:=id) (k:=ie.size) (own:=(andB own own')) hF.id (fun _ h=>.inl h) (.inr rfl) hpos oa
          have hr:=run_append_none (P:=P) (w:=w) (t:=t) (ty:=o.type) (e:=e) (info:=info) (oa:=oa) (v2:=v2) hu q1 (by simpa using len2) (by have:=first2 w rfl;rw [hn0] at this;simpa [q3] using this)
          exact fin e1 hr (by simpa using R2) ev rfl
         ·have hmpos:0<rows'.length:=List.length_pos_iff.2 hm
          have hr:=run_append_out (P:=P) (w:=w) (t:=t) (ty:=o.type) (e:=e) (info:=info) (z:=z) (oa:=oa) (n:=0) (cap:=0) (m:=rows'.length) (v2:=v2) (olds:=[]) (news:=news) hu q1 q5 len2 (by cases oa <;> simp [Builtin.firstCells,loadCells,loadCellsFrom]) (by rw [q3];exact first2 w.drew rfl)
           (by simpa using hmpos) (by simpa using hlen) (by simpa using hby')
          have Rd:=R1'.world (w':=w.drew) ((Below.refl _ _).drew)
          have hge:=grownCap_ge w (0+rows'.length) 0 e
          obtain ⟨g2,R2,_,ev⟩:=Rel.appendNew (w:=w.drew) (f:=[]) (f':=f') (X:=[]) (by simpa using Rd) (id:=id) (L':=fun o=>L o∨o=id) hF.id (fun _ h=>.inl h) (.inr rfl) (k:=ie.size) (rows:=[]) (rows':=rows') (own:=(andB own own')) (olds:=[]) (news:=news)
           (zs:=(Builtin.zeroCells z.cells (grownCap w (0+rows'.length) 0 e - (0+rows'.length))).toList) e (grownCap w (0+rows'.length) 0 e) hpos (by simp) hrow' (by simp) hnl (by simpa using hge) (grownCap_le_maxLen _ _ _ _ (by simp only [maxLen];omega))
           (by
            rw [size_zeroCells',q6]
            have:(⟨ie.zero⟩:Array Value).size=ie.size:=HE.zl
            rw [this,hnl,List.length_nil,Nat.zero_add,← Nat.add_mul]
            congr 1;omega)
           (by simp) d2 (fun hw=>⟨by simp,(o2 (and_true_of hw).2).1,by simp,(o2 (and_true_of hw).2).2⟩)
          exact fin e1 hr (by simpa using R2) (by simpa using ev) rfl
        -- by what it is
        generalize hv1:a.eval x=v1 at ex
        generalize evA T s t x=av at ex hdst
        cases ex with
        | any v=>simp [dstA] at hdst
        | nil k0=>
         simp [dstA] at hdst;obtain ⟨_,rfl,rfl,rfl⟩:=hdst
         exact none' hv1 rfl R1
        | d x v hd=>simp [dstA] at hdst
        | dp=>simp [dstA] at hdst
        | ptr=>simp [dstA] at hdst
        | sub=>simp [dstA] at hdst
        | cel=>simp [dstA] at hdst
        | agg=>simp [dstA] at hdst
        | tup=>simp [dstA] at hdst
        | fn=>simp [dstA] at hdst
        | sl od v hL1 h1 hv=>
         simp only [dstA] at hdst
         split at hdst
         ·rename_i k0 rows0 own0 hm
          simp only [Option.some.injEq,Prod.mk.injEq] at hdst
          obtain ⟨rfl,rfl,rfl,rfl⟩:=hdst
          have ev1:=hv (by rw [hm];simp)
          obtain ⟨g1',R1',st1',hk0,hrow0,tk⟩:=R1.take hm
          rcases tk with ⟨hr0,oa,e0⟩ | ⟨b,cap,cs,e',fr,f,tk⟩
          ·exact none' (hv1.trans (ev1.trans e0)) hr0 R1'
          ·have e1:a.eval x=.slice (some ⟨b,0,none⟩) rows0.length cap:=hv1.trans (ev1.trans tk.v)
           by_cases hroom:rows0.length+rows'.length≤cap
           ·have hr:=run_append_in (P:=P) (w:=w) (t:=t) (ty:=o.type) (e:=e) (info:=info) (n:=rows0.length) (cap:=cap) (m:=rows'.length) hu q1 tk.hb tk.fr.weak len2 (by rw [q3];exact first2 w rfl) (by rw [q3];exact hnl) one2 hroom
             (by rw [q3,hnl,tk.sz,← Nat.add_mul];exact Nat.mul_le_mul_right _ hroom)
            rw [q3] at hr
            obtain ⟨g2,R2,_,ev⟩:=R1'.appendIn (id:=id) (L':=fun o=>L o∨o=id) hF.id (fun _ h=>.inl h) (.inr rfl) (rows':=rows') (own':=own') (news:=news) tk hk0 hrow0 hrow' hnl hroom d2 o2
            exact fin e1 hr (by simpa using R2) (by simpa using ev) rfl
           ·have hcap:cap<rows0.length+rows'.length:=by omega
            have hold:∀w':World,w'.heap=w.heap→(Builtin.firstCells ie.size rows0.length (.slice (some ⟨b,0,none⟩) rows0.length cap)).run P w'=.ok (cs.toList.take (rows0.length * ie.size)).toArray w':=by
             intro w' hw
             have hb':hp w' b=some (.cells cs e' fr):=by show w'.heap[b]?=_;rw [hw];exact tk.hb
             simp only [Builtin.firstCells]
             have hle:rows0.length * ie.size≤cs.size:=by rw [tk.sz];exact Nat.mul_le_mul_right _ tk.hcap
             rw [run_loadCells_at hb' 0 (rows0.length * ie.size) (by omega)]
             congr 1
             apply Array.ext'
             apply List.ext_getElem?
             intro j
             by_cases hj:j<rows0.length * ie.size
             ·have hj2:j<cs.size:=by omega
              have hj3:j<cs.toList.length:=hj2
              simp [hj,hj2]
             ·simp [hj];omega
            have hr:=run_append_out (P:=P) (w:=w) (t:=t) (ty:=o.type) (e:=e) (info:=info) (z:=z) (n:=rows0.length) (cap:=cap) (m:=rows'.length) (v2:=v2) (news:=news) hu q1 q5 len2 (by rw [q3];exact hold w.drew rfl) (by rw [q3];exact first2 w.drew rfl)
             hcap hlen hby'
            have hge:=grownCap_ge w (rows0.length+rows'.length) cap e
            have hlo:(cs.toList.take (rows0.length * ie.size)).length=rows0.length * ie.size:=by
             rw [List.length_take]
             have:cs.toList.length=cs.size:=rfl
             have:rows0.length * ie.size≤cs.size:=by rw [tk.sz];exact Nat.mul_le_mul_right _ tk.hcap
             omega
            have holdAt:∀i,i<rows0.length * ie.size→(cs.toList.take (rows0.length * ie.size)).getD i undef=cs.getD i undef:=by
             intro i hi;rw [getD_take _ _ _ _ hi];simp [List.getD_eq_getElem?_getD]
            have tnd:=tk.nd
            rw [List.nodup_cons] at tnd
            have fS:∀x∈f.flatten,S1 x:=by
             intro x hx
             by_cases hw:own0=true
             ·exact (tk.hown hw).2.2 x hx
             ·rw [tk.hno (by simpa using hw)] at hx;simp at hx
            have Rd:=(R1'.addX (Y:=f.flatten) tnd.2 (fun x hx=>⟨(tk.ge x (List.mem_cons_of_mem _ hx)).2,fS x hx⟩) (fun o' ho' x hx hx'=>tk.feet o' ho' x hx (List.mem_cons_of_mem _ hx')) (fun x hx=>(tk.ge x (List.mem_cons_of_mem _ hx)).1)).world (w':=w.drew) ((Below.refl _ _).drew)
            obtain ⟨g2,R2,_,ev⟩:=Rel.appendNew (w:=w.drew) (f:=f) (f':=f') (X:=[]) (by simpa [List.append_assoc] using Rd) (id:=id) (L':=fun o=>L o∨o=id) hF.id (fun _ h=>.inl h) (.inr rfl) (k:=ie.size) (rows:=rows0) (rows':=rows') (own:=(andB own0 own')) (olds:=cs.toList.take (rows0.length * ie.size)) (news:=news)
             (zs:=(Builtin.zeroCells z.cells (grownCap w (rows0.length+rows'.length) cap e - (rows0.length+rows'.length))).toList) e (grownCap w (rows0.length+rows'.length) cap e) hpos hrow0 hrow' hlo hnl (by simpa using hge) (grownCap_le_maxLen _ _ _ _ (by simp only [maxLen];omega))
             (by
              rw [size_zeroCells',q6]
              have:(⟨ie.zero⟩:Array Value).size=ie.size:=HE.zl
              rw [this,hnl,hlo,← Nat.add_mul,← Nat.add_mul]
              congr 1;omega)
             (fun i hi=>by rw [holdAt i hi];exact tk.dat i hi) d2
             (fun hw=>by
              obtain ⟨w1,w2⟩:=and_true_of hw
              obtain ⟨p1,p2,_⟩:=tk.hown w1
              exact ⟨p1,(o2 w2).1,fun i hi=>by rw [holdAt i hi];exact p2 i hi,(o2 w2).2⟩)
            exact fin e1 hr (by simpa using R2) (by simpa using ev) rfl
         ·simp at hdst
       ·exact h.elim
      ·exact h.elim
     ·exact h.elim
    ·exact h.elim
   ·exact h.elim
  ·exact h.elim
 ·exact h.elim

end

end Go.Av
