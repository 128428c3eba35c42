/- ABSTRACT VALUES: slices.Insert of one row of plain cells, over objects. -/
import Derived.Test.YtniibgdokfnomaaGreatAvOt
import Derived.Test.YtniibgdokfnomaaGreatAvTc
import Derived.Test.YtniibgdokfnomaaGreatAvW
import Derived.Laws.IdiomCopy
namespace Go.Av
open Go Go.Gx Go.RowKit
set_option linter.unusedVariables false
set_option linter.unusedSimpArgs false

/-- behind an insertion: the row lies where it lay, or in a new block -/
inductive InsW (k:Nat) (w w':World) (b cap size n:Nat) (e:TypeId) (fr:Nat×Nat) (new:List Value):Value→Prop
 | here (cs':Array Value) (h1:w'.heap[b]?=some (.cells cs' e fr)) (hsz:cs'.size=size) (hn:n+1≤cap) (hc:∀j,j<(n+1) * k→cs'.getD j undef=new.getD j undef)
   (ho:∀k',k'≠b→k'<w.heap.size→w'.heap[k']?=w.heap[k']?):InsW k w w' b cap size n e fr new (.slice (some ⟨b,0,none⟩) (n+1) cap)
 | new (b' cap':Nat) (cs':Array Value) (e':TypeId) (fr':Nat×Nat) (hb:w.heap.size≤b') (h1:w'.heap[b']?=some (.cells cs' e' fr')) (hfr:freeK k fr' cs'.size) (hsz:cs'.size=cap' * k) (hn:n+1≤cap') (hm:cap'≤maxLen)
   (hc:∀j,j<(n+1) * k→cs'.getD j undef=new.getD j undef) (ho:∀k',k'<w.heap.size→w'.heap[k']?=w.heap[k']?):InsW k w w' b cap size n e fr new (.slice (some ⟨b',0,none⟩) (n+1) cap')

/-- all else -/
structure SameW (w w':World):Prop where
 os:w'.os=w.os
 tape:w'.tape=w.tape
 output:w'.output=w.output
 size:w.heap.size≤w'.heap.size

/-- plain cells -/
def plainRows (rows:List (List D)):Prop:=∀d∈rows.flatten,∃x:Value,d=.v x

theorem data_plain {S:Nat→Prop} {h:Nat→Option Obj} {d:D} {v:Value} (hd:∃x:Value,d=.v x) (H:Data S h d v):d=.v v∧v.oneCell'=true:=by
 obtain ⟨x,rfl⟩:=hd
 cases H with | v x hx=>exact ⟨rfl,hx⟩

theorem getD_mem {α:Type} {l:List α} {i:Nat} {d:α} (h:i<l.length):l.getD i d∈l:=by
 rw [List.getD_eq_getElem?_getD,List.getElem?_eq_getElem h]
 exact List.getElem_mem h

theorem flatten_len {α:Type} {k:Nat}:∀{rows:List (List α)},(∀r∈rows,r.length=k)→rows.flatten.length=rows.length * k
 | [],_=>by simp
 | r::rows,h=>by
  rw [List.flatten_cons,List.length_append,flatten_len (fun x hx=>h x (List.mem_cons_of_mem _ hx)),h r List.mem_cons_self,List.length_cons,Nat.succ_mul,Nat.add_comm]

theorem flat_tk {α:Type} {k:Nat}:∀{rows:List (List α)} (i:Nat),(∀r∈rows,r.length=k)→i≤rows.length→(rows.take i).flatten=rows.flatten.take (i * k)∧(rows.drop i).flatten=rows.flatten.drop (i * k)
 | rows,0,_,_=>by simp
 | [],i+1,_,hi=>by simp at hi
 | r::rows,i+1,h,hi=>by
  obtain ⟨h1,h2⟩:=flat_tk (rows:=rows) i (fun x hx=>h x (List.mem_cons_of_mem _ hx)) (by simpa using hi)
  have hr:=h r List.mem_cons_self
  rw [List.take_succ_cons,List.drop_succ_cons,List.flatten_cons,List.flatten_cons,h1,h2,Nat.succ_mul,Nat.add_comm,← hr]
  constructor
  ·rw [List.take_append,List.take_of_length_le (l:=r) (by omega)];congr 2;omega
  ·rw [List.drop_append,List.drop_of_length_le (l:=r) (by omega),List.nil_append];congr 1;omega

/-- the cells behind it -/
def insCells (k i n:Nat) (cs vs:Array Value):List Value:=(((cs.toList.take (n * k)).take (i * k))++vs.toList.take k)++(cs.toList.take (n * k)).drop (i * k)

theorem turn_insert {P:Program} {F:FuncId} {k:Nat} (hfn:∃fn,P.funcs[F]?=some fn∧(fn.name == "runtime.NumGoroutine")=false∧fn.body.isNone=false) (hk:0<k)
  (H0:∀(w:World) (oa:Option Addr) (vb vcap:Nat) (vs:Array Value) (e2:TypeId) (fr2:Nat×Nat),w.heap[vb]?=some (.cells vs e2 fr2)→vs.size=vcap * k→1≤vcap→(∀j,j<k→(vs.getD j undef).oneCell'=true)→
   Calls P F #[.slice oa 0 0,.int .i64 0,.slice (some ⟨vb,0,none⟩) 1 vcap] w fun e w'=>∃rv,e=.returned rv∧SameW w w'∧InsW k w w' w.heap.size 0 0 0 0 (0,0) (vs.toList.take k) rv)
  (H:∀(w:World) (b cap vb vcap n i:Nat) (cs vs:Array Value) (e e2:TypeId) (fr fr2:Nat×Nat),w.heap[b]?=some (.cells cs e fr)→freeK k fr cs.size→cs.size=cap * k→n≤cap→cap≤maxLen→
   w.heap[vb]?=some (.cells vs e2 fr2)→freeK k fr2 vs.size→vs.size=vcap * k→1≤vcap→vb≠b→(∀j,j<n * k→(cs.getD j undef).oneCell'=true)→(∀j,j<k→(vs.getD j undef).oneCell'=true)→i≤n→n≤4194304→
   Calls P F #[.slice (some ⟨b,0,none⟩) n cap,.int .i64 i,.slice (some ⟨vb,0,none⟩) 1 vcap] w fun e' w'=>∃rv,e'=.returned rv∧SameW w w'∧InsW k w w' b cap cs.size n e fr (insCells k i n cs vs) rv)
  (rows:List (List D)) (row:List D) (i:Nat) (hpl:plainRows rows) (hp2:∀d∈row,∃x:Value,d=.v x) (hi:i≤rows.length) (hn:rows.length≤4194304):
  Turn P F [.sl 0,.d (.i i),.sl 1] [.arr k rows true,.arr k [row] true] [none,none,some (.arr k ((rows.take i++[row])++rows.drop i) true)] (.sl 2) where
 fn:=hfn
 len:=by simp
 kind:=fun j k rows h=>by
  match j with
  | 0=>simp at h
  | 1=>simp at h
  | 2=>simp at h
  | j+3=>simp at h
 calls:=fun w vals B S g R hP hlv hv=>by
  match vals,hlv with
  | [v0,v1,v2],_=>
  have h0:RV S (hp w) g (find (lay 0 ([AO.arr k rows true,AO.arr k [row] true].map some))) (·<[AO.arr k rows true,AO.arr k [row] true].length) (.sl 0) v0:=hv 0 (by simp)
  have h1:RV S (hp w) g (find (lay 0 ([AO.arr k rows true,AO.arr k [row] true].map some))) (·<[AO.arr k rows true,AO.arr k [row] true].length) (.d (.i i)) v1:=hv 1 (by simp)
  have h2:RV S (hp w) g (find (lay 0 ([AO.arr k rows true,AO.arr k [row] true].map some))) (·<[AO.arr k rows true,AO.arr k [row] true].length) (.sl 1) v2:=hv 2 (by simp)
  have hm0:find (lay 0 ([AO.arr k rows true,AO.arr k [row] true].map some)) 0=some (.arr k rows true):=rfl
  have hm1:find (lay 0 ([AO.arr k rows true,AO.arr k [row] true].map some)) 1=some (.arr k [row] true):=rfl
  have hne0:find (lay 0 ([AO.arr k rows true,AO.arr k [row] true].map some)) 0≠none:=by rw [hm0];simp
  have hne1:find (lay 0 ([AO.arr k rows true,AO.arr k [row] true].map some)) 1≠none:=by rw [hm1];simp
  have hoth:∀o',2≤o'→find (lay 0 ([AO.arr k rows true,AO.arr k [row] true].map some)) o'=none:=fun o' ho=>R.new o' (by simp;omega)
  have hro0:=R.obj 0 _ hm0
  have hro1:=R.obj 1 _ hm1
  have hbd0:=R.bound 0 hne0
  have hbd1:=R.bound 1 hne1
  have hap:=R.apart 0 1 (by decide) hne0 hne1
  have e0:v0=(g 0).v:=by cases h0 with | sl o v ho hh hv=>exact hv hne0
  have e2:v2=(g 1).v:=by cases h2 with | sl o v ho hh hv=>exact hv hne1
  have e1:v1=.int .i64 i:=(rv_v h1).1
  subst e0;subst e1;subst e2
  -- the end,whatever the road
  have fin:∀(w':World) (b:Nat) (cap size:Nat) (e:TypeId) (fr:Nat×Nat) (new:List Value) (rv:Value),SameW w w'→InsW k w w' b cap size rows.length e fr new rv→
    (b<w.heap.size→¬ B.U b∧¬ S b∧freeK k fr size∧size=cap * k∧cap≤maxLen)→(b<w.heap.size∨rows.length+1>cap)→
    (∀j,j<(rows.length+1) * k→((rows.take i++[row])++rows.drop i).flatten.getD j default=.v (new.getD j undef)∧(new.getD j undef).oneCell'=true)→
    ∃S' g',Rel B 0 w (·<3) ⟨[],lay 0 [none,none,some (.arr k ((rows.take i++[row])++rows.drop i) true)],3⟩ noAct w' S' g' []∧
     (∀j,j<2→find (lay 0 [none,none,some (.arr k ((rows.take i++[row])++rows.drop i) true)]) j≠none→same (g' j) (g j))∧
     RV S' (hp w') g' (find (lay 0 [none,none,some (.arr k ((rows.take i++[row])++rows.drop i) true)])) (·<3) (.sl 2) rv:=by
   intro w' b cap size e fr new rv W I hbb hcapb hcell
   have hlen:((rows.take i++[row])++rows.drop i).length=rows.length+1:=by simp;omega
   have hrows:∀r∈(rows.take i++[row])++rows.drop i,r.length=k:=by
    intro r hr
    have hk0:∀r∈rows,r.length=k:=by
     revert hro0
     generalize g 0=G0
     intro hro0
     cases hro0 with
     | nil=>intro r hr;simp at hr
     | arr k rows own b cap cs e fr fps hb hfr hk hrow hcap hmax hsz hin hown hno hB hS=>exact hrow
    have hk1:row.length=k:=by
     revert hro1
     generalize g 1=G1
     intro hro1
     cases hro1 with
     | arr k rows own b cap cs e fr fps hb hfr hk hrow hcap hmax hsz hin hown hno hB hS=>exact hrow row (by simp)
    simp only [List.mem_append,List.mem_singleton] at hr
    rcases hr with (hr | rfl) | hr
    ·exact hk0 r (List.mem_of_mem_take hr)
    ·exact hk1
    ·exact hk0 r (List.mem_of_mem_drop hr)
   obtain ⟨R1,_⟩:=R.kill 0
   obtain ⟨R2,_⟩:=R1.kill 1
   have hdead:∀o',find ((1,none)::(0,none)::lay 0 ([AO.arr k rows true,AO.arr k [row] true].map some)) o'=none:=by
    intro o'
    rw [find_cons]
    split
    ·rfl
    ·rw [find_cons]
     split
     ·rfl
     ·exact hoth o' (by omega)
   -- the block in which the row lies now
   have go:∀(b2 cap2:Nat) (cs2:Array Value) (e2:TypeId) (fr2:Nat×Nat),w'.heap[b2]?=some (.cells cs2 e2 fr2)→freeK k fr2 cs2.size→cs2.size=cap2 * k→rows.length+1≤cap2→cap2≤maxLen→
     (∀j,j<(rows.length+1) * k→cs2.getD j undef=new.getD j undef)→¬ B.U b2→¬ S b2→(∀k',k'≠b2→k'<w.heap.size→w'.heap[k']?=w.heap[k']?)→rv=.slice (some ⟨b2,0,none⟩) (rows.length+1) cap2→
     ∃S' g',Rel B 0 w (·<3) ⟨[],lay 0 [none,none,some (.arr k ((rows.take i++[row])++rows.drop i) true)],3⟩ noAct w' S' g' []∧
      (∀j,j<2→find (lay 0 [none,none,some (.arr k ((rows.take i++[row])++rows.drop i) true)]) j≠none→same (g' j) (g j))∧
      RV S' (hp w') g' (find (lay 0 [none,none,some (.arr k ((rows.take i++[row])++rows.drop i) true)])) (·<3) (.sl 2) rv:=by
    intro b2 cap2 cs2 e2 fr2 hb2 hfr2 hsz2 hn2 hm2 hc2 hB2 hS2 ho2 hrv
    have hb2l:b2<w'.heap.size:=(Array.getElem?_eq_some_iff.1 hb2).1
    have K:Keep B w w':=⟨W.os,W.tape,W.output,W.size,fun x hx=>ho2 x (fun hh=>hB2 (hh ▸ hx)) (R.hB x hx)⟩
    have hag:∀x,S x→hp w' x=hp w x:=fun x hx=>ho2 x (fun hh=>hS2 (hh ▸ hx)) (R.still x hx)
    have hfl:(List.replicate ((rows.length+1) * k) ([]:List Nat)).flatten=[]:=by simp
    let G2:OG:=⟨.slice (some ⟨b2,0,none⟩) ((rows.take i++[row])++rows.drop i).length cap2,b2,k,b2::(List.replicate ((rows.length+1) * k) ([]:List Nat)).flatten,((rows.take i++[row])++rows.drop i).length,noHd⟩
    have R3:=R2.turnW (L':=(·<3)) (S':=S) (X':=[]) K hag 2 (fun o' ho hh=>absurd (hdead o') hh) G2 (some (.arr k ((rows.take i++[row])++rows.drop i) true)) (fun _ h=>h) (fun _ h=>.inl h) (fun x h=>by simp at h;omega) (fun _=>by decide)
     (fun _ h _=>by simp at h) (fun _ h=>by simp at h) (fun o' ho hh=>absurd (hdead o') hh)
     (fun ao hao=>by
      cases hao
      refine RO.arr k ((rows.take i++[row])++rows.drop i) true b2 cap2 cs2 e2 fr2 (List.replicate ((rows.length+1) * k) []) hb2 hfr2 hk hrows (by rw [hlen];exact hn2) hm2 hsz2
       (fun j hj=>?_) (fun _=>⟨by rw [hlen];simp,fun j hj=>?_,by rw [hfl];simp⟩) (fun h=>by cases h) hB2 hS2
      ·rw [hlen] at hj
       obtain ⟨q1,q2⟩:=hcell j hj
       rw [q1,hc2 j hj]
       exact .v _ q2
      ·rw [hlen] at hj
       obtain ⟨q1,q2⟩:=hcell j hj
       rw [q1,hc2 j hj]
       have e3:(List.replicate ((rows.length+1) * k) ([]:List Nat)).getD j []=[]:=by
        rw [List.getD_eq_getElem?_getD,List.getElem?_replicate]
        split <;> rfl
       rw [e3]
       exact .v _ q2)
     (fun _=>⟨by simp [G2,hfl],fun x hx=>by
      have:x=b2:=by simpa [G2,hfl] using hx
      subst this
      exact ⟨hB2,hb2l⟩⟩)
     (fun _ o' ho hh=>absurd (hdead o') hh) ⟨List.nodup_nil,by simp,by simp,by simp⟩
    refine ⟨S,_,R3.congr (fun _=>rfl) (fun x=>?_),fun j hj hh=>?_,?_⟩
    ·match x with
     | 0=>rfl
     | 1=>rfl
     | 2=>rfl
     | x+3=>
      rw [find_cons,if_neg (by omega),hdead];rfl
    ·match j,hj with
     | 0,_=>exact absurd rfl hh
     | 1,_=>exact absurd rfl hh
    ·refine .sl 2 rv (by decide) (by rw [hrv];rfl) fun _=>?_
     have e4:setG (setG (setG g 0 (g 0)) 1 (setG g 0 (g 0) 1)) 2 G2 2=G2:=by simp [setG]
     rw [e4,hrv]
     simp only [G2,hlen]
   cases I with
   | here cs' q1 qsz qn qc qo=>
    have hb:b<w.heap.size:=hcapb.resolve_right (by omega)
    obtain ⟨r1,r2,r3,r4,r5⟩:=hbb hb
    exact go b cap cs' e fr q1 (by rw [qsz];exact r3) (by rw [qsz];exact r4) qn r5 qc r1 r2 qo rfl
   | new b' cap' cs' e' fr' qb q1 qfr qsz qn qm qc qo=>
    exact go b' cap' cs' e' fr' q1 qfr qsz qn qm qc (fun hh=>by have:=R.hB b' hh;omega) (fun hh=>by have:=R.still b' hh;omega) (fun k' _ hk'=>qo k' hk') rfl
  generalize hG0:g 0=G0 at hro0 hbd0 hap fin ⊢
  generalize hG1:g 1=G1 at hro1 hbd1 hap ⊢
  generalize hrw:[row]=rw1 at hro1
  cases hro1 with
  | nil=>simp at hrw
  | arr k rw1 own1 vb vcap vs e2 fr2 fps2 hvb hvfr hvk hvrow hvcap hvmax hvsz hvin hvown hvno hvB hvS=>
   subst hrw
   have hrl:row.length=k:=hvrow row (by simp)
   have hvcell:∀j,j<k→row.getD j default=.v (vs.getD j undef)∧(vs.getD j undef).oneCell'=true:=by
    intro j hj
    have h:=hvin j (by simpa using hj)
    have e:([row]:List (List D)).flatten=row:=by simp
    rw [e] at h
    exact data_plain (hp2 _ (getD_mem (by omega))) h
   have hvs1:1≤vcap:=by simpa using hvcap
   have hvs2:k≤vs.size:=by rw [hvsz];exact Nat.le_mul_of_pos_left k hvs1
   cases hro0 with
   | nil k b own oa hk'=>
    have hi0:i=0:=by simpa using hi
    subst hi0
    refine (H0 w oa vb vcap vs e2 fr2 hvb hvsz hvs1 (fun j hj=>(hvcell j hj).2)).mono fun e' w' he=>?_
    obtain ⟨rv,rfl,W,I⟩:=he
    refine fin w' w.heap.size 0 0 0 (0,0) (vs.toList.take k) rv W I (fun h=>absurd h (Nat.lt_irrefl _)) (.inr (by simp)) (fun j hj=>?_)
    have hj':j<k:=by simpa using hj
    have e:((([]:List (List D)).take 0++[row])++([]:List (List D)).drop 0).flatten=row:=by simp
    have e3:(vs.toList.take k).getD j undef=vs.getD j undef:=by
     rw [List.getD_eq_getElem?_getD,List.getElem?_take,if_pos hj']
     simp [Array.getD_eq_getD_getElem?]
    rw [e,e3]
    exact hvcell j hj'
   | arr k rows own b cap cs e fr fps hb hfr hk' hrow hcap hmax hsz hin hown hno hB hS=>
    have hbl:=(hbd0 b (by simp)).2
    have hcell:∀j,j<rows.length * k→rows.flatten.getD j default=.v (cs.getD j undef)∧(cs.getD j undef).oneCell'=true:=fun j hj=>
     data_plain (hpl _ (getD_mem (by rw [flatten_len hrow];exact hj))) (hin j hj)
    have hvb2:vb≠b:=fun hh=>hap b (by simp) (by rw [← hh];simp)
    refine (H w b cap vb vcap rows.length i cs vs e e2 fr fr2 hb hfr hsz hcap hmax hvb hvfr hvsz hvs1 hvb2 (fun j hj=>(hcell j hj).2) (fun j hj=>(hvcell j hj).2) hi hn).mono fun e' w' he=>?_
    obtain ⟨rv,rfl,W,I⟩:=he
    refine fin w' b cap cs.size e fr (insCells k i rows.length cs vs) rv W I (fun _=>⟨hB,hS,hfr,hsz,hmax⟩) (.inl hbl) (fun j hj=>?_)
    obtain ⟨t1,t2⟩:=flat_tk i hrow hi
    have hfl:=flatten_len hrow
    have hcsz:rows.length * k≤cs.size:=by rw [hsz];exact Nat.mul_le_mul_right _ hcap
    have hik:i * k≤rows.length * k:=Nat.mul_le_mul_right _ hi
    have e1:((rows.take i++[row])++rows.drop i).flatten=(rows.flatten.take (i * k)++row)++rows.flatten.drop (i * k):=by
     rw [List.flatten_append,List.flatten_append,t1,t2];simp
    rw [e1]
    have hj2:j<rows.length * k+k:=by rw [Nat.succ_mul] at hj;exact hj
    have key:∀d v,((rows.flatten.take (i * k)++row)++rows.flatten.drop (i * k))[j]?=some d→(insCells k i rows.length cs vs)[j]?=some v→d=.v v∧v.oneCell'=true:=by
     intro d v hd hv
     unfold insCells at hv
     have hcl:cs.toList.length=cs.size:=Array.length_toList
     have hvl:vs.toList.length=vs.size:=Array.length_toList
     have l1:(rows.flatten.take (i * k)).length=i * k:=by rw [List.length_take];omega
     have l2:((cs.toList.take (rows.length * k)).take (i * k)).length=i * k:=by rw [List.length_take,List.length_take];omega
     have l3:(vs.toList.take k).length=k:=by rw [List.length_take];omega
     have old:∀t d v,t<rows.length * k→rows.flatten[t]?=some d→(cs.toList.take (rows.length * k))[t]?=some v→d=.v v∧v.oneCell'=true:=by
      intro t d v ht hd hv
      rw [List.getElem?_take,if_pos ht,Array.getElem?_toList] at hv
      have h:=hcell t ht
      rw [List.getD_eq_getElem?_getD,hd,Array.getD_eq_getD_getElem?,hv] at h
      simpa using h
     by_cases c1:j<i * k
     ·rw [List.getElem?_append_left (by rw [List.length_append,l1];omega),List.getElem?_append_left (by omega),List.getElem?_take,if_pos c1] at hd
      rw [List.getElem?_append_left (by rw [List.length_append,l2];omega),List.getElem?_append_left (by omega),List.getElem?_take,if_pos c1] at hv
      exact old j d v (by omega) hd hv
     ·by_cases c2:j<i * k+k
      ·rw [List.getElem?_append_left (by rw [List.length_append,l1];omega),List.getElem?_append_right (by omega),l1] at hd
       rw [List.getElem?_append_left (by rw [List.length_append,l2,l3];omega),List.getElem?_append_right (by omega),l2,List.getElem?_take,if_pos (by omega),Array.getElem?_toList] at hv
       have h:=hvcell (j - i * k) (by omega)
       rw [List.getD_eq_getElem?_getD,hd,Array.getD_eq_getD_getElem?,hv] at h
       simpa using h
      ·rw [List.getElem?_append_right (by rw [List.length_append,l1];omega),List.length_append,l1,hrl,List.getElem?_drop] at hd
       rw [List.getElem?_append_right (by rw [List.length_append,l2,l3];omega),List.length_append,l2,l3,List.getElem?_drop] at hv
       exact old _ d v (by omega) hd hv
    have n1:j<((rows.flatten.take (i * k)++row)++rows.flatten.drop (i * k)).length:=by
     simp only [List.length_append,List.length_take,List.length_drop];omega
    have n2:j<(insCells k i rows.length cs vs).length:=by
     have hcl:cs.toList.length=cs.size:=Array.length_toList
     have hvl:vs.toList.length=vs.size:=Array.length_toList
     unfold insCells
     simp only [List.length_append,List.length_take,List.length_drop];omega
    obtain ⟨q1,q2⟩:=key _ _ (List.getElem?_eq_getElem n1) (List.getElem?_eq_getElem n2)
    rw [List.getD_eq_getElem?_getD,List.getElem?_eq_getElem n1,List.getD_eq_getElem?_getD,List.getElem?_eq_getElem n2]
    exact ⟨q1,q2⟩

/-- copy(d, s) over rows of k cells -/
theorem run_copyK {P:Program} {w:World} {dT sT ty elem:TypeId} {info:TypeInfo} (hu:P.underlying dT=some (.slice elem)) (hi:P.info? elem=some info) {b o dLen dCap:Nat} {cur:Array Value} {e:TypeId} {fr:Nat×Nat}
  (hb:hp w b=some (.cells cur e fr)) (hfr:free fr cur.size) {a:Addr} {sLen sCap:Nat} {vs:List Value} (hsrc:(loadCells a (Nat.min sLen dLen * info.size)).run P w=.ok vs.toArray w)
  (hfit:o+vs.length≤cur.size) (h1:∀v∈vs,v.oneCell'=true):
  (Builtin.copy_ #[dT,sT] ty #[.slice (some ⟨b,o,none⟩) dLen dCap,.slice (some a) sLen sCap]).run P w=.ok (goInt (Nat.min sLen dLen)) (if vs=[] then w else w.setRow b (written cur o vs)):=by
 have hst:=run_storeCells_free (P:=P) vs 0 cur w o hb hfr (by simpa using hfit) h1
 simp only [Nat.add_zero] at hst
 simp [Builtin.copy_,run_underlying hu,Builtin.lenOf,Builtin.firstCells,sizeOf,typeInfo,hi,hsrc,hst]

theorem insCells_getD {k i n:Nat} {cs vs:Array Value} (hi:i≤n) (h:n * k≤cs.size) (hv:k≤vs.size) {j:Nat} (hj:j<n * k+k):
  (insCells k i n cs vs).getD j undef=if j<i * k then cs.getD j undef else if j<i * k+k then vs.getD (j - i * k) undef else cs.getD (j - k) undef:=by
 have hcl:cs.toList.length=cs.size:=Array.length_toList
 have hvl:vs.toList.length=vs.size:=Array.length_toList
 have hik:i * k≤n * k:=Nat.mul_le_mul_right _ hi
 have l2:((cs.toList.take (n * k)).take (i * k)).length=i * k:=by rw [List.length_take,List.length_take];omega
 have l3:(vs.toList.take k).length=k:=by rw [List.length_take];omega
 unfold insCells
 rw [List.getD_eq_getElem?_getD]
 by_cases c1:j<i * k
 ·rw [if_pos c1,List.getElem?_append_left (by rw [List.length_append,l2];omega),List.getElem?_append_left (by omega),List.getElem?_take,if_pos c1,List.getElem?_take,if_pos (by omega),Array.getElem?_toList,Array.getD_eq_getD_getElem?]
 ·rw [if_neg c1]
  by_cases c2:j<i * k+k
  ·rw [if_pos c2,List.getElem?_append_left (by rw [List.length_append,l2,l3];omega),List.getElem?_append_right (by omega),l2,List.getElem?_take,if_pos (by omega),Array.getElem?_toList,Array.getD_eq_getD_getElem?]
  ·rw [if_neg c2,List.getElem?_append_right (by rw [List.length_append,l2,l3];omega),List.length_append,l2,l3,List.getElem?_drop,List.getElem?_take,if_pos (by omega),Array.getElem?_toList,Array.getD_eq_getD_getElem?]
   congr 2;omega

/-- what stood from place i on -/
def oldCells (k i n:Nat) (cs:Array Value):List Value:=(cs.toList.take (n * k)).drop (i * k)
def newCells (k:Nat) (vs:Array Value):List Value:=vs.toList.take k

theorem oldCells_length {k i n:Nat} {cs:Array Value} (h:n * k≤cs.size):(oldCells k i n cs).length=n * k - i * k:=by
 have hcl:cs.toList.length=cs.size:=Array.length_toList
 unfold oldCells
 rw [List.length_drop,List.length_take];omega
theorem newCells_length {k:Nat} {vs:Array Value} (h:k≤vs.size):(newCells k vs).length=k:=by
 have hvl:vs.toList.length=vs.size:=Array.length_toList
 unfold newCells
 rw [List.length_take];omega
theorem oldCells_getD {k i n:Nat} {cs:Array Value} (h:n * k≤cs.size) {j:Nat} (hj:i * k+j<n * k):(oldCells k i n cs).getD j undef=cs.getD (i * k+j) undef:=by
 unfold oldCells
 rw [List.getD_eq_getElem?_getD,List.getElem?_drop,List.getElem?_take,if_pos hj,Array.getElem?_toList,Array.getD_eq_getD_getElem?]
theorem newCells_getD {k:Nat} {vs:Array Value} {j:Nat} (hj:j<k):(newCells k vs).getD j undef=vs.getD j undef:=by
 unfold newCells
 rw [List.getD_eq_getElem?_getD,List.getElem?_take,if_pos hj,Array.getElem?_toList,Array.getD_eq_getD_getElem?]

/-- the two copies, whichever comes first -/
theorem ins_written {k i n:Nat} {A cs vs:Array Value} (hi:i≤n) (h:n * k≤cs.size) (hv:k≤vs.size) (hA:n * k+k≤A.size) (ha:∀j,j<i * k→A.getD j undef=cs.getD j undef) {j:Nat} (hj:j<(n+1) * k):
  (written (written A (i * k+k) (oldCells k i n cs)) (i * k) (newCells k vs)).getD j undef=(insCells k i n cs vs).getD j undef∧
   (written (written A (i * k) (newCells k vs)) (i * k+k) (oldCells k i n cs)).getD j undef=(insCells k i n cs vs).getD j undef:=by
 rw [Nat.succ_mul] at hj
 have hik:i * k≤n * k:=Nat.mul_le_mul_right _ hi
 have l1:=oldCells_length (k:=k) (i:=i) h
 have l2:=newCells_length hv
 have s1:(written A (i * k+k) (oldCells k i n cs)).size=A.size:=size_written _ _ _ (by omega)
 have s2:(written A (i * k) (newCells k vs)).size=A.size:=size_written _ _ _ (by omega)
 rw [insCells_getD hi h hv hj]
 constructor
 ·rw [getD_written _ _ _ (by omega),getD_written _ _ _ (by omega),l1,l2]
  by_cases c1:j<i * k
  ·rw [if_pos c1,if_neg (by omega),if_neg (by omega)]
   exact ha j c1
  ·rw [if_neg c1]
   by_cases c2:j<i * k+k
   ·rw [if_pos c2,if_pos (by omega),newCells_getD (by omega)]
   ·rw [if_neg c2,if_neg (by omega),if_pos (by omega),oldCells_getD h (by omega)]
    congr 1;omega
 ·rw [getD_written _ _ _ (by omega),getD_written _ _ _ (by omega),l1,l2]
  by_cases c1:j<i * k
  ·rw [if_pos c1,if_neg (by omega),if_neg (by omega)]
   exact ha j c1
  ·rw [if_neg c1]
   by_cases c2:j<i * k+k
   ·rw [if_pos c2,if_neg (by omega),if_pos (by omega),newCells_getD (by omega)]
   ·rw [if_neg c2,if_pos (by omega),oldCells_getD h (by omega)]
    congr 1;omega
end Go.Av
