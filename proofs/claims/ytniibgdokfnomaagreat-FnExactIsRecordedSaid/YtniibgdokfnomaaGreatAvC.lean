/- ABSTRACT VALUES: rows, what is read, what is given away. -/
import Derived.Test.YtniibgdokfnomaaGreatAvB
namespace Go.Av
open Go Go.RowKit
set_option linter.unusedSimpArgs false
set_option linter.unusedVariables false

theorem flatten_length {α:Type} {k:Nat}:∀{rows:List (List α)},(∀r∈rows,r.length=k)→rows.flatten.length=rows.length * k
 | [],_=>by simp
 | r::rs,h=>by
  simp only [List.flatten_cons,List.length_append,List.length_cons]
  rw [h r (by simp),flatten_length fun r' hr'=>h r' (by simp [hr']),Nat.add_mul,Nat.one_mul,Nat.add_comm]

theorem flatten_drop {α:Type} {k:Nat}:∀{rows:List (List α)} (lo:Nat),(∀r∈rows,r.length=k)→(rows.drop lo).flatten=rows.flatten.drop (lo * k)
 | [],lo,_=>by simp
 | r::rs,0,_=>by simp
 | r::rs,lo+1,h=>by
  have hr:r.length=k:=h r (by simp)
  have e:(lo+1) * k=r.length+lo * k:=by rw [Nat.add_mul,hr];omega
  simp only [List.drop_succ_cons,List.flatten_cons]
  rw [flatten_drop lo fun r' hr'=>h r' (by simp [hr']),e,List.drop_length_add_append]

theorem flatten_take {α:Type} {k:Nat}:∀{rows:List (List α)} (n:Nat),(∀r∈rows,r.length=k)→(rows.take n).flatten=rows.flatten.take (n * k)
 | [],n,_=>by simp
 | r::rs,0,_=>by simp
 | r::rs,n+1,h=>by
  have hr:r.length=k:=h r (by simp)
  have e:(n+1) * k=r.length+n * k:=by rw [Nat.add_mul,hr];omega
  simp only [List.take_succ_cons,List.flatten_cons]
  rw [flatten_take n fun r' hr'=>h r' (by simp [hr']),e,List.take_length_add_append]

theorem row_at {α:Type} [Inhabited α] {k:Nat}:∀{rows:List (List α)} (i j:Nat) (row:List α),(∀r∈rows,r.length=k)→rows[i]?=some row→j<k→
  rows.flatten.getD (i * k+j) default=row.getD j default
 | [],i,j,row,_,h,_=>by simp at h
 | r::rs,0,j,row,h,hr,hj=>by
  simp at hr;subst hr
  simp only [List.flatten_cons,Nat.zero_mul,Nat.zero_add,List.getD_eq_getElem?_getD]
  rw [List.getElem?_append_left (by rw [h r (by simp)];exact hj)]
 | r::rs,i+1,j,row,h,hr,hj=>by
  simp at hr
  have:=row_at i j row (fun r' hr'=>h r' (by simp [hr'])) hr hj
  simp only [List.flatten_cons,List.getD_eq_getElem?_getD] at this ⊢
  rw [List.getElem?_append_right (by rw [h r (by simp),Nat.add_mul];omega),h r (by simp),show (i+1) * k+j - k=i * k+j by rw [Nat.add_mul];omega]
  exact this

theorem getD_drop {α:Type} (l:List α) (n i:Nat) (d:α):(l.drop n).getD i d=l.getD (n+i) d:=by
 simp [List.getD_eq_getElem?_getD,List.getElem?_drop]

theorem getD_take {α:Type} (l:List α) (n i:Nat) (d:α) (h:i<n):(l.take n).getD i d=l.getD i d:=by
 simp [List.getD_eq_getElem?_getD,h]

/-- part of a slice -/
theorem Data.part {S:Nat→Prop} {h:Nat→Option Obj} {k:Nat} {rows:List (List D)} {v:Value} (H:Data S h (.sl k rows) v) (lo n:Nat) (hl:lo+n≤rows.length):
  ∃oa cap,v=.slice oa rows.length cap∧rows.length≤max cap rows.length∧∀oa' cap',(n=0∨(∃b off,oa=some ⟨b,off,none⟩∧oa'=some ⟨b,off+lo * k,none⟩))→n≤cap'→
   Data S h (.sl k ((rows.drop lo).take n)) (.slice oa' n cap'):=by
 cases H with
 | nil k oa cap=>
  refine ⟨oa,cap,rfl,by simp,fun oa' cap' _ hc=>?_⟩
  have:n=0:=by simp at hl;omega
  subst this
  simp only [List.take_zero]
  exact .nil k oa' cap'
 | sl k rows b off cap cs e fr hS hb hk hrow hcap hfit hin=>
  refine ⟨_,cap,rfl,Nat.le_max_right _ _,fun oa' cap' ho hc=>?_⟩
  by_cases hn:n=0
  ·subst hn;simp only [List.take_zero];exact .nil k oa' cap'
  ·rcases ho with ho | ⟨b',off',ho,rfl⟩
   ·exact absurd ho hn
   ·simp only [Option.some.injEq,Addr.mk.injEq] at ho
    obtain ⟨rfl,rfl,_⟩:=ho
    have hlen:((rows.drop lo).take n).length=n:=by simp;omega
    have hr:∀r∈(rows.drop lo).take n,r.length=k:=fun r hr=>hrow r (List.mem_of_mem_drop (List.mem_of_mem_take hr))
    have key:=Data.sl (S:=S) (h:=h) k ((rows.drop lo).take n) b (off+lo * k) cap' cs e fr hS hb hk hr (by rw [hlen];exact hc)
     (by rw [hlen];have:lo * k+n * k≤rows.length * k:=by rw [← Nat.add_mul];exact Nat.mul_le_mul_right _ hl
         omega)
     (fun i hi=>by
      rw [hlen] at hi
      rw [flatten_take n (fun r hr=>hrow r (List.mem_of_mem_drop hr)),flatten_drop lo hrow,getD_take _ _ _ _ hi,getD_drop,Nat.add_assoc]
      exact hin (lo * k+i) (by have:lo * k+n * k≤rows.length * k:=by rw [← Nat.add_mul];exact Nat.mul_le_mul_right _ hl
                               omega))
    rw [hlen] at key
    exact key

section
variable {B:Fr} {N:Nat} {L:Nat→Prop} {w₀ w:World} {s:St} {a:Act} {S:Nat→Prop} {g:Nat→OG} {X:List Nat}

/-- an array object, read -/
theorem Rel.arr_data (R:Rel B N w₀ L s a w S g X) {o k:Nat} {rows:List (List D)} {own:Bool} (h:find s.mem o=some (.arr k rows own)):
  Data (·<w.heap.size) (hp w) (.sl k rows) (g o).v∧(g o).len=rows.length∧(g o).k=k∧0<k∧(∀r∈rows,r.length=k)∧
   (rows=[]∨∃cap,(g o).v=.slice (some ⟨(g o).b,0,none⟩) rows.length cap):=by
 have:=R.obj o _ h
 have hbd:=R.bound o (by rw [h];simp)
 generalize hG:g o=G at this hbd
 cases this with
 | nil k b own oa hk=>exact ⟨.nil k oa 0,rfl,rfl,hk,by simp,.inl rfl⟩
 | arr k rows own b cap cs e fr fps hb hfr hk hrow hcap hmax hsz hin hown hno hB hS=>
  exact ⟨.sl k rows b 0 cap cs e fr (hbd b (by simp)).2 hb hk hrow hcap (by rw [hsz,Nat.zero_add];exact Nat.mul_le_mul_right _ hcap)
   fun i hi=>by rw [Nat.zero_add];exact (hin i hi).mono R.still fun _ _=>rfl,rfl,rfl,hk,hrow,.inr ⟨cap,rfl⟩⟩

theorem Rel.arr_cap (R:Rel B N w₀ L s a w S g X) {o k cap:Nat} {rows:List (List D)} {own:Bool} (h:find s.mem o=some (.arr k rows own)) (hv:(g o).v=.slice (some ⟨(g o).b,0,none⟩) rows.length cap):rows.length≤cap:=by
 have:=R.obj o _ h
 generalize hG:g o=G at this hv
 cases this with
 | nil k b own oa hk=>simp
 | arr k rows own b cap' cs e fr fps hb hfr hk hrow hcap hmax hsz hin hown hno hB hS=>
  simp only [Value.slice.injEq] at hv;omega

theorem Rel.fro_data (R:Rel B N w₀ L s a w S g X) {o k:Nat} {rows:List (List D)} (h:find s.mem o=some (.fro k rows)):
  Data S (hp w) (.sl k rows) (g o).v∧(g o).len=rows.length∧(g o).k=k∧(rows=[]∨∃cap,(g o).v=.slice (some ⟨(g o).b,0,none⟩) rows.length cap):=by
 have:=R.obj o _ h
 generalize hG:g o=G at this
 cases this with
 | fro k rows v b hd hv=>exact ⟨hd,rfl,rfl,hv⟩

/-- a deep object, read -/
theorem Rel.deep_data (R:Rel B N w₀ L s a w S g X) {o k:Nat} {rows:List (List D)} (h:find s.mem o=some (.deep k rows)):
  Data (·<w.heap.size) (hp w) (.sl k rows) (g o).v∧(g o).len=rows.length∧(g o).k=k∧0<k∧(∀r∈rows,r.length=k)∧
   (rows=[]∨∃cap,(g o).v=.slice (some ⟨(g o).b,0,none⟩) rows.length cap):=by
 have:=R.obj o _ h
 have hbd:=R.bound o (by rw [h];simp)
 generalize hG:g o=G at this hbd
 cases this with
 | dnil k b oa hk=>exact ⟨.nil k oa 0,rfl,rfl,hk,by simp,.inl rfl⟩
 | deep k rows b cap cs e fr fps hb hfr hk hrow hcap hmax hsz hfl hin hhd hB hH=>
  exact ⟨(Own.sl k rows b cap cs e fr fps hb hfr hk hrow hcap hmax hsz hfl hin).data fun x hx=>(hbd x hx).2,rfl,rfl,hk,hrow,.inr ⟨cap,rfl⟩⟩

theorem sub_part {S':Nat→Prop} {hh:Nat→Option Obj} {k:Nat} {rows:List (List D)} {G:OG} {v:Value} {lo n:Nat} (hd:Data S' hh (.sl k rows) G.v) (hlen:G.len=rows.length) (hk:G.k=k)
  (hv:rows=[]∨∃cap,G.v=.slice (some ⟨G.b,0,none⟩) rows.length cap)
  (hsub:lo+n≤G.len∧∃oa cap,v=.slice oa n cap∧n≤cap∧(n=0∨oa=some ⟨G.b,lo * G.k,none⟩)):Data S' hh (.sl k ((rows.drop lo).take n)) v:=by
 obtain ⟨hle,oa,cap,rfl,hc,ho⟩:=hsub
 rw [hlen] at hle
 obtain ⟨oa0,cap0,e0,_,key⟩:=hd.part lo n hle
 refine key oa cap ?_ hc
 rcases ho with ho | ho
 ·exact .inl ho
 ·rcases hv with hv | ⟨cap1,hv⟩
  ·subst hv;left;simp at hle;omega
  ·rw [hv] at e0
   simp only [Value.slice.injEq] at e0
   obtain ⟨rfl,_,_⟩:=e0
   right;exact ⟨G.b,0,rfl,by rw [ho,hk,Nat.zero_add]⟩

/-- a cell, read -/
theorem Rel.readC (R:Rel B N w₀ L s a w S g X) {c:AV} {v:Value} (hv:RV S (hp w) g (find s.mem) L c v) {d:D} (h:Av.readC (find s.mem) c=some d):
  Data (·<w.heap.size) (hp w) d v:=by
 cases hv with
 | any v=>simp [Av.readC] at h
 | nil k=>simp [Av.readC] at h;subst h;exact .nil k none 0
 | d x v hd=>simp [Av.readC] at h;subst h;exact hd.mono R.still fun _ _=>rfl
 | dp=>simp [Av.readC] at h
 | ptr=>simp [Av.readC] at h
 | sl o v ho h1 hv=>
  simp only [Av.readC] at h
  split at h
  ·rename_i k rows own hm;simp at h;subst h
   rw [hv (by rw [hm];simp)];exact (R.arr_data hm).1
  ·rename_i k rows hm;simp at h;subst h
   rw [hv (by rw [hm];simp)];exact (R.fro_data hm).1.mono R.still fun _ _=>rfl
  ·rename_i k rows hm;simp at h;subst h
   rw [hv (by rw [hm];simp)];exact (R.deep_data hm).1
  ·simp at h
 | sub o lo n v ho h1 hv=>
  simp only [Av.readC] at h
  split at h
  ·rename_i k rows own hm;simp at h;subst h
   obtain ⟨d1,d2,d3,d4,d5,d6⟩:=R.arr_data hm
   exact sub_part d1 d2 d3 d6 (hv (by rw [hm];simp))
  ·rename_i k rows hm;simp at h;subst h
   obtain ⟨d1,d2,d3,d6⟩:=R.fro_data hm
   exact sub_part (d1.mono R.still fun _ _=>rfl) d2 d3 d6 (hv (by rw [hm];simp))
  ·simp at h
 | cel=>simp [Av.readC] at h
 | agg=>simp [Av.readC] at h
 | tup=>simp [Av.readC] at h
 | fn=>simp [Av.readC] at h

theorem Rel.readRow (R:Rel B N w₀ L s a w S g X):∀{cs:List AV} {vs:List Value} {ds:List D},vs.length=cs.length→(∀i,i<cs.length→RV S (hp w) g (find s.mem) L (cs.getD i .any) (vs.getD i undef))→
  Av.readRow (find s.mem) cs=some ds→ds.length=cs.length∧∀i,i<cs.length→Data (·<w.heap.size) (hp w) (ds.getD i default) (vs.getD i undef)
 | [],vs,ds,_,_,h=>by simp [Av.readRow] at h;subst h;simp
 | c::cs,[],ds,hl,_,_=>by simp at hl
 | c::cs,v::vs,ds,hl,hin,h=>by
  simp only [Av.readRow] at h
  split at h
  ·rename_i d hd
   split at h
   ·rename_i ds' hds
    simp at h;subst h
    have h0:=R.readC (hin 0 (by simp)) hd
    obtain ⟨e1,e2⟩:=Rel.readRow R (cs:=cs) (vs:=vs) (by simpa using hl) (fun i hi=>by simpa using hin (i+1) (by simpa using hi)) hds
    refine ⟨by simp [e1],fun i hi=>?_⟩
    cases i with
    | zero=>simpa using h0
    | succ i=>simpa using e2 i (by simpa using hi)
   ·simp at h
  ·simp at h

end

end Go.Av
