/- ABSTRACT VALUES: append. -/
import Derived.Test.YtniibgdokfnomaaGreatAvL
namespace Go.Av
open Go Go.RowKit
set_option linter.unusedSimpArgs false
set_option linter.unusedVariables false

section
variable {P:Program} {w:World}

/-- append within the capacity -/
theorem run_append_in {t ty e:TypeId} {info:TypeInfo} (ht:P.underlying t=some (.slice e)) (hi:P.info? e=some info) {b n cap m:Nat} {v2:Value} {news:List Value} {cs:Array Value} {e':TypeId} {fr:Nat×Nat}
  (hb:hp w b=some (.cells cs e' fr)) (hfr:free fr cs.size) (hlen:(Builtin.lenOf v2).run P w=.ok m w) (hr2:(Builtin.firstCells info.size m v2).run P w=.ok news.toArray w) (hl:news.length=m * info.size)
  (h1:∀v∈news,v.oneCell'=true) (hroom:n+m≤cap) (hfit:n * info.size+news.length≤cs.size):
  (Builtin.append_ #[t,t] ty #[.slice (some ⟨b,0,none⟩) n cap,v2]).run P w=.ok (.slice (some ⟨b,0,none⟩) (n+m) cap) (if news=[] then w else w.setRow b (written cs (n * info.size) news)):=by
 have hst:=run_storeCells_free (P:=P) news 0 cs w (n * info.size) hb hfr (by simpa using hfit) h1
 simp only [Nat.add_zero] at hst
 simp [Builtin.append_,run_underlying ht,sizeOf,typeInfo,hi,hlen,hroom,hr2,Addr.add_off,hst]

/-- append with nothing, to nothing -/
theorem run_append_none {t ty e:TypeId} {info:TypeInfo} (ht:P.underlying t=some (.slice e)) (hi:P.info? e=some info) {oa:Option Addr} {v2:Value} (hlen:(Builtin.lenOf v2).run P w=.ok 0 w) (hr2:(Builtin.firstCells info.size 0 v2).run P w=.ok #[] w):
  (Builtin.append_ #[t,t] ty #[.slice oa 0 0,v2]).run P w=.ok (.slice oa 0 0) w:=by
 cases oa <;> simp [Builtin.append_,run_underlying ht,sizeOf,typeInfo,hi,hlen,hr2,storeCells]

/-- append beyond the capacity -/
theorem run_append_out {t ty e:TypeId} {info:TypeInfo} {z:Value} (ht:P.underlying t=some (.slice e)) (hi:P.info? e=some info) (hz:info.zero=some z) {oa:Option Addr} {n cap m:Nat} {v2:Value} {olds news:List Value}
  (hlen:(Builtin.lenOf v2).run P w=.ok m w) (hr1:(Builtin.firstCells info.size n (.slice oa n cap)).run P w.drew=.ok olds.toArray w.drew) (hr2:(Builtin.firstCells info.size m v2).run P w.drew=.ok news.toArray w.drew)
  (hg:cap<n+m) (h63:n+m≤140737488355328) (hby:(n+m) * info.bytes≤140737488355328):
  (Builtin.append_ #[t,t] ty #[.slice oa n cap,v2]).run P w=
   .ok (.slice (some ⟨w.heap.size,0,none⟩) (n+m) (grownCap w (n+m) cap e)) (w.drew.alloc (.cells (olds.toArray++news.toArray++Builtin.zeroCells z.cells (grownCap w (n+m) cap e - (n+m))) e)):=by
 have hn:¬ (n+m≤cap):=by omega
 have h63':¬ (9223372036854775807<((n:Int)+(m:Int))):=by omega
 have hfit:Builtin.nextslicecap (n+m) cap * info.bytes≤281474976710656:=by
  have:=Nat.mul_le_mul_right info.bytes (nextslicecap_le hg)
  rw [Nat.mul_assoc] at this
  omega
 have h48':¬ (281474976710656<Builtin.nextslicecap (n+m) cap * info.bytes):=by omega
 simp [Builtin.append_,run_underlying ht,sizeOf,typeInfo,zeroValue,hi,hz,hlen,hn,h63',h48',Question.forced,hr1,hr2,newRow,grownCap]
 congr 2
 apply Array.ext'
 simp [List.append_assoc]

/-- the cells of a slice, read -/
theorem run_first {S:Nat→Prop} {k:Nat} {rows:List (List D)} {v:Value} (H:Data S (hp w) (.sl k rows) v) (hk:0<k):
  ∃news:List Value,news.length=rows.length * k∧(∀i,i<rows.length * k→Data S (hp w) (rows.flatten.getD i default) (news.getD i undef))∧(∀u∈news,u.oneCell'=true)∧
   (Builtin.lenOf v).run P w=.ok rows.length w∧(∀w':World,w'.heap=w.heap→(Builtin.firstCells k rows.length v).run P w'=.ok news.toArray w'):=by
 by_cases hne:rows=[]
 ·subst hne
  obtain ⟨oa,cap,rfl⟩:=data_sl H
  refine ⟨[],by simp,by simp,by simp,by simp [Builtin.lenOf],fun w' _=>?_⟩
  cases oa <;> simp [Builtin.firstCells,loadCells,loadCellsFrom]
 ·obtain ⟨b,off,cap,cs,e,fr,hS,hb,hk',hrow,hcap,hfit,hin,rfl⟩:=data_ne H hne
  refine ⟨List.ofFn (n:=rows.length * k) fun i=>cs.getD (off+i) undef,by simp,fun i hi=>?_,fun u hu=>?_,by simp [Builtin.lenOf],fun w' hw=>?_⟩
  ·have:(List.ofFn (n:=rows.length * k) fun i=>cs.getD (off+i) undef).getD i undef=cs.getD (off+i) undef:=by
    rw [List.getD_eq_getElem?_getD,List.getElem?_ofFn,dif_pos hi];rfl
   rw [this];exact hin i hi
  ·rw [List.mem_ofFn] at hu
   obtain ⟨i,rfl⟩:=hu
   exact (hin i i.2).one
  ·have hb':hp w' b=some (.cells cs e fr):=by show w'.heap[b]?=_;rw [hw];exact hb
   simp only [Builtin.firstCells]
   rw [run_loadCells_at hb' off (rows.length * k) hfit]
   congr 1
   apply Array.ext'
   simp

end

section
variable {P:Program} {T:Tab} {C:Contract} {B:Fr} {N:Nat} {L:Nat→Prop} {w₀ w:World} {s:St} {a:Act} {S:Nat→Prop} {g:Nat→OG} {id:Nat} {X:List Nat}

/-- an array that is taken out of its object -/
structure Taken (S:Nat→Prop) (w:World) (m:Nat→Option AO) (g:Nat→OG) (X:List Nat) (B:Fr) (k:Nat) (rows:List (List D)) (own:Bool) (v:Value) (b cap:Nat) (cs:Array Value) (e:TypeId) (fr:Nat×Nat) (fps:List (List Nat)):Prop where
 v:v=.slice (some ⟨b,0,none⟩) rows.length cap
 hb:hp w b=some (.cells cs e fr)
 fr:freeK k fr cs.size
 hcap:rows.length≤cap
 hmax:cap≤maxLen
 sz:cs.size=cap * k
 dat:∀i,i<rows.length * k→Data S (hp w) (rows.flatten.getD i default) (cs.getD i undef)
 hown:own=true→fps.length=rows.length * k∧(∀i,i<rows.length * k→Own (hp w) (rows.flatten.getD i default) (cs.getD i undef) (fps.getD i []))∧∀b'∈fps.flatten,S b'
 hno:own=false→fps=[]
 bB:¬ B.U b
 bw:b<w.heap.size
 bS:¬ S b
 nd:(b::fps.flatten).Nodup
 feet:∀o',m o'≠none→∀b'∈(g o').foot,b'∉b::fps.flatten
 ge:∀b'∈b::fps.flatten,b'∉X∧¬ B.U b'

theorem Rel.take (R:Rel B N w₀ L s a w S g X) {o k:Nat} {rows:List (List D)} {own:Bool} (h:find s.mem o=some (.arr k rows own)):
  ∃g',Rel B N w₀ L ⟨s.env,(o,none)::s.mem,s.next⟩ a w S g' X∧Step S S (hp w) (hp w) g g' (find s.mem) (find ((o,none)::s.mem)) L L∧0<k∧(∀r∈rows,r.length=k)∧
   ((rows=[]∧∃oa,(g o).v=.slice oa 0 0)∨∃b cap cs e fr fps,Taken S w (find ((o,none)::s.mem)) g' X B k rows own (g o).v b cap cs e fr fps):=by
 have hne:find s.mem o≠none:=by rw [h];simp
 obtain ⟨R',st⟩:=R.kill o
 obtain ⟨_,_,_,hk,hrow,_⟩:=R.arr_data h
 refine ⟨_,R',st,hk,hrow,?_⟩
 have hro:=R.obj o _ h
 have hnd:=R.nodup o hne
 have hbd:=R.bound o hne
 have hx:=R.xs.2.2 o hne
 have hap:∀o',find ((o,none)::s.mem) o'≠none→∀b'∈(setG g o (g o) o').foot,b'∉(g o).foot:=by
  intro o' ho' b' hb'
  have e:o'≠o:=by
   intro e;subst e;rw [find_cons,if_pos rfl] at ho';exact ho' rfl
  rw [find_cons,if_neg (fun x=>e x.symm)] at ho'
  rw [setG_ne e] at hb'
  exact R.apart o' o e ho' hne b' hb'
 generalize hG:g o=G at hro hnd hbd hx hap
 cases hro with
 | nil k b own oa hk'=>exact .inl ⟨rfl,oa,rfl⟩
 | arr k rows own b cap cs e fr fps hb hfr hk' hrow' hcap hmax hsz hin hown hno hB hS=>
  refine .inr ⟨b,cap,cs,e,fr,fps,⟨rfl,hb,hfr,hcap,hmax,hsz,hin,hown,hno,hB,(hbd b (by simp)).2,hS,hnd,?_,fun b' hb'=>⟨hx b' hb',(hbd b' hb').1⟩⟩⟩
  rw [← hG] at hap ⊢
  intro o' ho' b' hb'
  have:=hap o' ho' b' hb'
  rw [hG] at this
  exact this

theorem Rel.addX (R:Rel B N w₀ L s a w S g X) {Y:List Nat} (h1:Y.Nodup) (h2:∀b∈Y,¬ B.U b∧S b) (h3:∀o,find s.mem o≠none→∀b∈(g o).foot,b∉Y) (h4:∀b∈Y,b∉X):Rel B N w₀ L s a w S g (Y++X):=
 { R with xs:=⟨by
    rw [List.nodup_append]
    exact ⟨h1,R.xs.1,fun b hb c hc=>by rintro rfl;exact h4 b hb hc⟩,fun b hb=>(List.mem_append.1 hb).elim (h2 b) (R.xs.2.1 b),fun o ho b hb hb'=>(List.mem_append.1 hb').elim (h3 o ho b hb) (R.xs.2.2 o ho b hb)⟩ }

/-- rows one behind the other, with their cells -/
theorem append_at {rows rows':List (List D)} {k:Nat} (h1:∀r∈rows,r.length=k) (h2:∀r∈rows',r.length=k) (i:Nat):
  (rows++rows').flatten.getD i default=if i<rows.length * k then rows.flatten.getD i default else rows'.flatten.getD (i - rows.length * k) default:=by
 rw [List.flatten_append,List.getD_eq_getElem?_getD]
 have hl:=flatten_length h1
 split
 ·rw [List.getElem?_append_left (by omega),List.getD_eq_getElem?_getD]
 ·rw [List.getElem?_append_right (by omega),List.getD_eq_getElem?_getD,hl]

theorem fps_at (f f':List (List Nat)) (n i:Nat) (h:f.length=n):(f++f').getD i []=if i<n then f.getD i [] else f'.getD (i - n) []:=by
 subst h
 simp only [List.getD_eq_getElem?_getD]
 split
 ·rw [List.getElem?_append_left (by omega)]
 ·rw [List.getElem?_append_right (by omega)]

theorem getD_append {α:Type} (x y:List α) (i:Nat) (d:α):(x++y).getD i d=if i<x.length then x.getD i d else y.getD (i - x.length) d:=by
 simp only [List.getD_eq_getElem?_getD]
 split
 ·rw [List.getElem?_append_left (by omega)]
 ·rw [List.getElem?_append_right (by omega)]

/-- the cells behind an append, told one by one -/
theorem both_data {S:Nat→Prop} {h:Nat→Option Obj} {rows rows':List (List D)} {k:Nat} {olds news:List Value} (h1:∀r∈rows,r.length=k) (h2:∀r∈rows',r.length=k) (hl:olds.length=rows.length * k)
  (d1:∀i,i<rows.length * k→Data S h (rows.flatten.getD i default) (olds.getD i undef)) (d2:∀i,i<rows'.length * k→Data S h (rows'.flatten.getD i default) (news.getD i undef)) (i:Nat) (hi:i<(rows++rows').length * k):
  Data S h ((rows++rows').flatten.getD i default) ((olds++news).getD i undef):=by
 rw [append_at h1 h2]
 simp only [List.length_append,Nat.add_mul] at hi
 rw [getD_append,hl]
 split
 ·exact d1 i (by omega)
 ·exact d2 _ (by omega)

theorem both_own {h:Nat→Option Obj} {rows rows':List (List D)} {k:Nat} {olds news:List Value} {f f':List (List Nat)} (h1:∀r∈rows,r.length=k) (h2:∀r∈rows',r.length=k) (hl:olds.length=rows.length * k) (hf:f.length=rows.length * k)
  (d1:∀i,i<rows.length * k→Own h (rows.flatten.getD i default) (olds.getD i undef) (f.getD i [])) (d2:∀i,i<rows'.length * k→Own h (rows'.flatten.getD i default) (news.getD i undef) (f'.getD i [])) (i:Nat) (hi:i<(rows++rows').length * k):
  Own h ((rows++rows').flatten.getD i default) ((olds++news).getD i undef) ((f++f').getD i []):=by
 rw [append_at h1 h2,fps_at f f' _ i hf]
 simp only [List.length_append,Nat.add_mul] at hi
 rw [getD_append,hl]
 split
 ·exact d1 i (by omega)
 ·exact d2 _ (by omega)

/-- a new block takes both rows -/
theorem Rel.appendNew {f f':List (List Nat)} (R:Rel B N w₀ L s a w S g ((f++f').flatten++X)) {L':Nat→Prop} (hid:¬ L id) (hL:∀o,L o→L' o) (hid':L' id) {k:Nat} {rows rows':List (List D)} {own:Bool} {olds news zs:List Value} (e:TypeId) (cap:Nat)
  (hk:0<k) (h1:∀r∈rows,r.length=k) (h2:∀r∈rows',r.length=k) (hl:olds.length=rows.length * k) (hl':news.length=rows'.length * k) (hcap:(rows++rows').length≤cap) (hmax:cap≤maxLen) (hsz:olds.length+news.length+zs.length=cap * k)
  (d1:∀i,i<rows.length * k→Data S (hp w) (rows.flatten.getD i default) (olds.getD i undef)) (d2:∀i,i<rows'.length * k→Data S (hp w) (rows'.flatten.getD i default) (news.getD i undef))
  (ho:own=true→f.length=rows.length * k∧f'.length=rows'.length * k∧(∀i,i<rows.length * k→Own (hp w) (rows.flatten.getD i default) (olds.getD i undef) (f.getD i []))∧(∀i,i<rows'.length * k→Own (hp w) (rows'.flatten.getD i default) (news.getD i undef) (f'.getD i []))):
  ∃g',Rel B N w₀ L' ⟨s.env,(id,some (.arr k (rows++rows') own))::s.mem,s.next⟩ a (w.alloc (.cells (olds.toArray++news.toArray++zs.toArray) e)) S g' X∧
   Step S S (hp w) (hp (w.alloc (.cells (olds.toArray++news.toArray++zs.toArray) e))) g g' (find s.mem) (find ((id,some (.arr k (rows++rows') own))::s.mem)) L L'∧(g' id).v=.slice (some ⟨w.heap.size,0,none⟩) (rows++rows').length cap:=by
 have hcell:∀i,i<(rows++rows').length * k→(olds.toArray++news.toArray++zs.toArray).getD i undef=(olds++news).getD i undef:=by
  intro i hi
  have e0:olds.toArray++news.toArray++zs.toArray=⟨(olds++news)++zs⟩:=by apply Array.ext';simp
  rw [e0,arr_getD]
  simp only [List.length_append,Nat.add_mul] at hi
  simp only [List.getD_eq_getElem?_getD]
  rw [List.getElem?_append_left (by simp;omega)]
 refine R.newArr hid hL hid' e (0,0) cap hk (fun r hr=>(List.mem_append.1 hr).elim (h1 r) (h2 r)) hcap hmax (by simp;omega) (fun j _ hc=>by simp at hc) (fun i hi=>?_) (fun hw=>?_)
 ·rw [hcell i hi];exact both_data h1 h2 hl d1 d2 i hi
 ·obtain ⟨o1,o2,o3,o4⟩:=ho hw
  exact ⟨by simp only [List.length_append,Nat.add_mul];omega,fun i hi=>by rw [hcell i hi];exact both_own h1 h2 hl o1 o3 o4 i hi⟩

/-- the block that is there takes the new rows -/
theorem Rel.appendIn {f':List (List Nat)} (R:Rel B N w₀ L s a w S g (f'.flatten++X)) {L':Nat→Prop} (hid:¬ L id) (hL:∀o,L o→L' o) (hid':L' id) {k:Nat} {rows rows':List (List D)} {own own':Bool} {news:List Value} {v:Value} {b cap:Nat} {cs:Array Value} {e:TypeId} {fr:Nat×Nat} {f:List (List Nat)}
  (t:Taken S w (find s.mem) g (f'.flatten++X) B k rows own v b cap cs e fr f) (hk:0<k) (h1:∀r∈rows,r.length=k) (h2:∀r∈rows',r.length=k) (hl':news.length=rows'.length * k) (hroom:rows.length+rows'.length≤cap)
  (d2:∀i,i<rows'.length * k→Data S (hp w) (rows'.flatten.getD i default) (news.getD i undef)) (ho:own'=true→f'.length=rows'.length * k∧(∀i,i<rows'.length * k→Own (hp w) (rows'.flatten.getD i default) (news.getD i undef) (f'.getD i []))):
  ∃g',Rel B N w₀ L' ⟨s.env,(id,some (.arr k (rows++rows') (andB own own')))::s.mem,s.next⟩ a (if news=[] then w else w.setRow b (written cs (rows.length * k) news)) S g' X∧
   Step S S (hp w) (hp (if news=[] then w else w.setRow b (written cs (rows.length * k) news))) g g' (find s.mem) (find ((id,some (.arr k (rows++rows') (andB own own')))::s.mem)) L L'∧(g' id).v=.slice (some ⟨b,0,none⟩) (rows++rows').length cap:=by
 have hle:rows.length * k+news.length≤cs.size:=by
  rw [hl',t.sz,← Nat.add_mul];exact Nat.mul_le_mul_right _ hroom
 have hb':w.heap[b]?=some (.cells cs e fr):=t.hb
 generalize hw':(if news=[] then w else w.setRow b (written cs (rows.length * k) news))=w'
 have hnew:hp w' b=some (.cells (written cs (rows.length * k) news) e fr):=by
  subst hw'
  split
  ·rename_i hn;subst hn;rw [written_nil _ _ (by simpa using hle)];exact t.hb
  ·exact setRow_heap w b cs _ e fr hb'
 have hother:∀b',b'≠b→hp w' b'=hp w b':=by
  intro b' hb
  subst hw'
  split
  ·rfl
  ·exact setRow_other w b b' _ hb
 have hbelow:Keep B w w':=by
  subst hw'
  split
  ·exact Keep.refl _ _
  ·exact ⟨rfl,rfl,rfl,by simp,fun j hj=>setRow_other w b j _ (fun e=>t.bB (e ▸ hj))⟩
 have hsz:w'.heap.size=w.heap.size:=by subst hw';split <;> simp
 have hS:∀b',S b'→hp w' b'=hp w b':=fun b' hs=>hother b' (fun e=>t.bS (e ▸ hs))
 generalize hO:(andB own own')=O
 have hO':O=true→own=true∧own'=true:=by subst hO;exact and_true_of
 let F:List (List Nat):=if O=true then f++f' else []
 have hF:∀x∈F.flatten,x∈f.flatten∨x∈f'.flatten:=by
  intro x hx
  by_cases h:O=true
  ·simp only [F,h,if_true,List.flatten_append,List.mem_append] at hx;exact hx
  ·simp [F,h] at hx
 have xnd:=R.xs.1
 rw [List.nodup_append] at xnd
 have tnd:=t.nd
 rw [List.nodup_cons] at tnd
 have hFnd:(b::F.flatten).Nodup:=by
  rw [List.nodup_cons]
  refine ⟨fun hx=>?_,?_⟩
  ·rcases hF b hx with hx | hx
   ·exact tnd.1 hx
   ·exact (t.ge b (by simp)).1 (List.mem_append_left _ hx)
  ·by_cases h:O=true
   ·simp only [F,h,if_true,List.flatten_append]
    rw [List.nodup_append]
    exact ⟨tnd.2,xnd.1,fun x hx y hy=>by rintro rfl;exact (t.ge x (List.mem_cons_of_mem _ hx)).1 (List.mem_append_left _ hy)⟩
   ·simp [F,h]
 have hFS:∀x∈F.flatten,S x:=by
  intro x hx
  by_cases h:O=true
  ·rcases hF x hx with hx | hx
   ·exact (t.hown (hO' h).1).2.2 x hx
   ·exact (R.xs.2.1 x (List.mem_append_left _ hx)).2
  ·simp [F,h] at hx
 have hFB:∀x∈b::F.flatten,¬ B.U x∧x<w'.heap.size:=by
  intro x hx
  rw [hsz]
  rcases List.mem_cons.1 hx with rfl | hx
  ·exact ⟨t.bB,t.bw⟩
  ·refine ⟨?_,R.still x (hFS x hx)⟩
   rcases hF x hx with hx | hx
   ·exact (t.ge x (List.mem_cons_of_mem _ hx)).2
   ·exact (R.xs.2.1 x (List.mem_append_left _ hx)).1
 have hcell:∀i,i<(rows++rows').length * k→(written cs (rows.length * k) news).getD i undef=((cs.toList.take (rows.length * k))++news).getD i undef:=by
  intro i hi
  simp only [List.length_append,Nat.add_mul] at hi
  rw [getD_written _ _ _ hle]
  have hlen:(cs.toList.take (rows.length * k)).length=rows.length * k:=by rw [List.length_take];have:cs.toList.length=cs.size:=rfl;omega
  rw [getD_append,hlen]
  by_cases h:i<rows.length * k
  ·rw [if_neg (by omega),if_pos h,getD_take _ _ _ _ h];simp [List.getD_eq_getElem?_getD]
  ·rw [if_pos (by omega),if_neg h]
 have hlo:(cs.toList.take (rows.length * k)).length=rows.length * k:=by rw [List.length_take];have:cs.toList.length=cs.size:=rfl;omega
 have hold:∀i,i<rows.length * k→(cs.toList.take (rows.length * k)).getD i undef=cs.getD i undef:=by
  intro i hi;rw [getD_take _ _ _ _ hi];simp [List.getD_eq_getElem?_getD]
 have R':=R.turnW (S':=S) (X':=X) (L':=L') hbelow hS id
  (fun o' _ ho' x hx=>hother x (fun e=>by subst e;exact t.feet o' ho' _ hx (by simp)))
  ⟨.slice (some ⟨b,0,none⟩) (rows++rows').length cap,b,k,b::F.flatten,(rows++rows').length,noHd⟩ (some (.arr k (rows++rows') O)) (fun _ h=>h) (fun _ h=>.inl h) hL (fun _=>hid')
  (fun _ h _=>absurd h hid) (fun _ h=>absurd h hid) (fun _ _ _ b' _ hs=>hs)
  (fun ao hao=>by
   simp only [Option.some.injEq] at hao;subst hao
   refine .arr k (rows++rows') O b cap _ e fr F hnew (by rw [size_written _ _ _ hle];exact t.fr) hk (fun r hr=>(List.mem_append.1 hr).elim (h1 r) (h2 r)) (by simpa using hroom) t.hmax (by rw [size_written _ _ _ hle];exact t.sz)
    (fun i hi=>?_) (fun hw=>?_) (fun hw=>by simp [F,hw]) t.bB t.bS
   ·rw [hcell i hi]
    exact (both_data h1 h2 hlo (fun i hi=>by rw [hold i hi];exact t.dat i hi) d2 i hi).mono (fun _ h=>h) hS
   ·obtain ⟨w1,w2⟩:=hO' hw
    obtain ⟨p1,p2,p3⟩:=t.hown w1
    obtain ⟨q1,q2⟩:=ho w2
    have eF:F=f++f':=by simp [F,hw]
    rw [eF]
    refine ⟨by simp only [List.length_append,Nat.add_mul];omega,fun i hi=>?_,fun x hx=>hFS x (by rw [eF];exact hx)⟩
    rw [hcell i hi]
    exact (both_own h1 h2 hlo p1 (fun i hi=>by rw [hold i hi];exact p2 i hi) q2 i hi).mono fun x hx=>hS x (hFS x (by rw [eF];exact mem_flatten_of_getD hx)))
  (fun _=>⟨hFnd,hFB⟩)
  (fun _ o' _ ho' x hx hx'=>by
   rcases List.mem_cons.1 hx with rfl | hx
   ·exact t.feet o' ho' _ hx' (by simp)
   ·rcases hF x hx with hx | hx
    ·exact t.feet o' ho' x hx' (List.mem_cons_of_mem _ hx)
    ·exact R.xs.2.2 o' ho' x hx' (List.mem_append_left _ hx))
  ⟨xnd.2.1,fun x hx=>R.xs.2.1 x (List.mem_append_right _ hx),fun o' _ ho' x hx hx'=>R.xs.2.2 o' ho' x hx (List.mem_append_right _ hx'),fun _ x hx hx'=>by
   rcases List.mem_cons.1 hx with rfl | hx
   ·exact (t.ge x (by simp)).1 (List.mem_append_right _ hx')
   ·rcases hF x hx with hx | hx
    ·exact (t.ge x (List.mem_cons_of_mem _ hx)).1 (List.mem_append_right _ hx')
    ·exact xnd.2.2 x hx x hx' rfl⟩
 refine ⟨_,R',?_,by rw [setG_same]⟩
 have stw:Step S S (hp w) (hp w') g g (find s.mem) (find s.mem) L L:=⟨fun _ h=>h,hS,fun _ _ _=>⟨rfl,fun _=>rfl,rfl,rfl,fun _=>rfl⟩,fun _ _ h=>h,fun _ h=>h⟩
 exact stw.trans (step_new (fun _ h=>h) hid hL)

end

end Go.Av
