/- ABSTRACT VALUES: slices.Insert: its four roads put together. -/
import Derived.Test.YtniibgdokfnomaaGreatAvIs
import Derived.Test.YtniibgdokfnomaaGreatAvM
import Derived.Lib.Overlaps
import Derived.Lib.AppendZerosOnto
namespace Go.Av
open Go Go.Gx Go.RowKit
set_option linter.unusedVariables false
set_option linter.unusedSimpArgs false

theorem alloc_at (w:World) (o:Obj):(w.drew.alloc o).heap[w.heap.size]?=some o:=by
 show (w.heap.push o)[w.heap.size]?=some o
 simp
theorem alloc_lt (w:World) (o:Obj) {k:Nat} (h:k<w.heap.size):(w.drew.alloc o).heap[k]?=w.heap[k]?:=by
 show (w.heap.push o)[k]?=_
 rw [Array.getElem?_push,if_neg (Nat.ne_of_lt h)]
theorem alloc_size (w:World) (o:Obj):w.heap.size≤(w.drew.alloc o).heap.size:=by
 show w.heap.size≤(w.heap.push o).size
 simp

theorem load_seg {P:Program} {w:World} {b:Nat} {cs:Array Value} {e:TypeId} {fr:Nat×Nat} (hb:hp w b=some (.cells cs e fr)) (o m:Nat) (h:o+m≤cs.size):(loadCells ⟨b,o,none⟩ m).run P w=.ok ((cs.toList.drop o).take m).toArray w:=by
 rw [run_loadCells_at hb o m h]
 congr 1
 apply Array.ext'
 have hcl:cs.toList.length=cs.size:=Array.length_toList
 apply List.ext_getElem
 ·simp;omega
 ·intro i h1 h2
  have hi:i<m:=by simpa using h1
  simp [Array.getD_eq_getD_getElem?,Array.getElem?_eq_getElem (show o+i<cs.size by omega)]

theorem oldCells_eq {k i n:Nat} {cs:Array Value}:oldCells k i n cs=(cs.toList.drop (i * k)).take (n * k - i * k):=by
 unfold oldCells
 rw [List.drop_take]

theorem keepSet {w:World} {b:Nat} {x:Array Value}:SameW w (w.setRow b x):=⟨rfl,rfl,rfl,by simp⟩

theorem one_new {k:Nat} {vs:Array Value} (hv:k≤vs.size) (h:∀j,j<k→(vs.getD j undef).oneCell'=true):∀v∈newCells k vs,v.oneCell'=true:=by
 intro v hm
 obtain ⟨j,hj,rfl⟩:=List.mem_iff_getElem.1 hm
 have l:=newCells_length hv
 have:=newCells_getD (vs:=vs) (k:=k) (j:=j) (by omega)
 rw [List.getD_eq_getElem?_getD,List.getElem?_eq_getElem hj] at this
 simp only [Option.getD_some] at this
 rw [this];exact h j (by omega)
theorem one_old {k i n:Nat} {cs:Array Value} (hn:n * k≤cs.size) (h:∀j,j<n * k→(cs.getD j undef).oneCell'=true):∀v∈oldCells k i n cs,v.oneCell'=true:=by
 intro v hm
 obtain ⟨j,hj,rfl⟩:=List.mem_iff_getElem.1 hm
 have l:=oldCells_length (k:=k) (i:=i) hn
 have:=oldCells_getD (i:=i) hn (j:=j) (by omega)
 rw [List.getD_eq_getElem?_getD,List.getElem?_eq_getElem hj] at this
 simp only [Option.getD_some] at this
 rw [this];exact h _ (by omega)

theorem insert_roads {P:Program} {F t e k OVF:Nat} (ht:P.underlying t=some (.slice e)) (t3:P.underlying 3=some (.int .i64)) (fact:(P.info? e).map (fun i=>(i.size,i.zero.map (fun z=>z.cells.size),decide (i.bytes≤128)))=some (k,some k,true)) (hk2:2≤k)
  (hfn:∃fn,P.funcs[F]?=some fn∧(fn.name == "runtime.NumGoroutine")=false∧fn.body.isNone=false)
  (OV:∀(w:World) (vb vcap b o lb cb:Nat) (tA tB:TypeId) (kA kB:Nat),vb≠b→w.shape? vb=some (tA,kA)→w.shape? b=some (tB,kB)→kB≠0→w.frozen? ⟨vb,0,none⟩=false→w.frozen? ⟨vb,kA,none⟩=false→
   (callFunc OVF #[.slice (some ⟨vb,0,none⟩) 1 vcap,.slice (some ⟨b,o,none⟩) lb cb]).run P w=.ok (.value (.bool false)) w)
  (END:∀(w:World) (n cap vcap vb b:Nat) (rv:Value) (W':World),(∀ty,(Builtin.append_ #[t,t] ty #[.slice (some ⟨b,0,none⟩) n cap,.slice (some ⟨vb,0,none⟩) 1 vcap]).run P w=.ok rv W')→
   Calls P F #[.slice (some ⟨b,0,none⟩) n cap,.int .i64 n,.slice (some ⟨vb,0,none⟩) 1 vcap] w fun e w'=>e=.returned rv∧w'=W')
  (NONE:∀(w:World) (oa:Option Addr) (vcap vb:Nat) (rv:Value) (W':World),(∀ty,(Builtin.append_ #[t,t] ty #[.slice oa 0 0,.slice (some ⟨vb,0,none⟩) 1 vcap]).run P w=.ok rv W')→
   Calls P F #[.slice oa 0 0,.int .i64 0,.slice (some ⟨vb,0,none⟩) 1 vcap] w fun e w'=>e=.returned rv∧w'=W')
  (SHIFT:∀(w:World) (n i cap vcap vb b:Nat) (W1 W2:World),i<n→n+1≤cap→cap≤maxLen→n≤4194304→
   (∀lb cb,(callFunc OVF #[.slice (some ⟨vb,0,none⟩) 1 vcap,.slice (some ⟨b,(i+1) * k,none⟩) lb cb]).run P w=.ok (.value (.bool false)) w)→
   (∀ty dc sc,(Builtin.copy_ #[t,t] ty #[.slice (some ⟨b,(i+1) * k,none⟩) (n - i) dc,.slice (some ⟨b,i * k,none⟩) (n+1 - i) sc]).run P w.drew=.ok (goInt ((n - i:Nat):Int)) W1)→
   (∀ty dc,(Builtin.copy_ #[t,t] ty #[.slice (some ⟨b,i * k,none⟩) (n+1 - i) dc,.slice (some ⟨vb,0,none⟩) 1 vcap]).run P W1=.ok (goInt 1) W2)→
   Calls P F #[.slice (some ⟨b,0,none⟩) n cap,.int .i64 i,.slice (some ⟨vb,0,none⟩) 1 vcap] w fun e w'=>e=.returned (.slice (some ⟨b,0,none⟩) (n+1) cap)∧w'=W2)
  (GROW:∀(w:World) (n i cap vcap vb b G:Nat) (W0 W1 W2:World),i<n→n≤cap→cap<n+1→cap≤maxLen→n+1≤G→G≤maxLen→n≤4194304→
   (∀ty,(Builtin.append_ #[t,3] ty #[.slice (some ⟨b,0,none⟩) i cap,.int .i64 ((n:Int)+1 - (i:Int))]).run P w=.ok (.slice (some ⟨w.heap.size,0,none⟩) (n+1) G) W0)→
   (∀ty dc,(Builtin.copy_ #[t,t] ty #[.slice (some ⟨w.heap.size,i * k,none⟩) (n+1 - i) dc,.slice (some ⟨vb,0,none⟩) 1 vcap]).run P W0=.ok (goInt 1) W1)→
   (∀ty dc sc,(Builtin.copy_ #[t,t] ty #[.slice (some ⟨w.heap.size,(i+1) * k,none⟩) (n - i) dc,.slice (some ⟨b,i * k,none⟩) (n - i) sc]).run P W1.drew=.ok (goInt ((n - i:Nat):Int)) W2)→
   Calls P F #[.slice (some ⟨b,0,none⟩) n cap,.int .i64 i,.slice (some ⟨vb,0,none⟩) 1 vcap] w fun e w'=>e=.returned (.slice (some ⟨w.heap.size,0,none⟩) (n+1) G)∧w'=W2)
  (rows:List (List D)) (row:List D) (i:Nat) (hpl:plainRows rows) (hp2:∀d∈row,∃x:Value,d=.v x) (hi:i≤rows.length) (hn:rows.length≤4194304):
  Turn P F [.sl 0,.d (.i i),.sl 1] [.arr k rows true,.arr k [row] true] [none,none,some (.arr k ((rows.take i++[row])++rows.drop i) true)] (.sl 2):=by
 cases hinf:P.info? e with
 | none=>rw [hinf] at fact;simp at fact
 | some info=>
 rw [hinf] at fact
 simp only [Option.map_some,Option.some.injEq,Prod.mk.injEq,decide_eq_true_eq,Option.map_eq_some_iff] at fact
 obtain ⟨hik,⟨z,hz,hzk⟩,hby⟩:=fact
 have hk0:0<k:=by omega
 refine turn_insert hfn hk0 ?_ ?_ rows row i hpl hp2 hi hn
 ·intro w oa vb vcap vs e2 fr2 hvb hvsz hv1 h1v
  have hv:k≤vs.size:=by rw [hvsz];exact Nat.le_mul_of_pos_left k hv1
  have hr2:∀w':World,w'.heap=w.heap→(Builtin.firstCells info.size 1 (.slice (some ⟨vb,0,none⟩) 1 vcap)).run P w'=.ok (newCells k vs).toArray w':=fun w' hw=>by
   have hb':hp w' vb=some (.cells vs e2 fr2):=by show w'.heap[vb]?=_;rw [hw];exact hvb
   simp only [Builtin.firstCells,hik,Nat.one_mul]
   rw [load_seg hb' 0 k (by omega)]
   rfl
  have hr1:(Builtin.firstCells info.size 0 (.slice oa 0 0)).run P w.drew=.ok ([]:List Value).toArray w.drew:=by cases oa <;> simp [Builtin.firstCells,loadCells,loadCellsFrom]
  have hap:=fun ty=>run_append_out (ty:=ty) ht hinf hz (oa:=oa) (n:=0) (cap:=0) (m:=1) (v2:=.slice (some ⟨vb,0,none⟩) 1 vcap) (olds:=[]) (news:=newCells k vs) (by simp [Builtin.lenOf]) hr1 (hr2 w.drew rfl) (by omega) (by omega) (by omega)
  refine (NONE w oa vcap vb _ _ hap).mono fun e' w' he=>?_
  obtain ⟨rfl,rfl⟩:=he
  refine ⟨_,rfl,⟨rfl,rfl,rfl,alloc_size _ _⟩,?_⟩
  have hG:=grownCap_ge w (0+1) 0 e
  have hl:=newCells_length hv
  have hsz:(([]:List Value).toArray++(newCells k vs).toArray++Builtin.zeroCells z.cells (grownCap w (0+1) 0 e - (0+1))).size=grownCap w (0+1) 0 e * k:=by
   have e1:(Builtin.zeroCells z.cells (grownCap w (0+1) 0 e - (0+1))).size=(grownCap w (0+1) 0 e - (0+1)) * k:=by rw [← hzk];simp [Builtin.zeroCells]
   rw [Array.size_append,Array.size_append,e1,Nat.sub_mul]
   have:=Nat.mul_le_mul_right k hG
   simp only [List.size_toArray,List.length_nil,hl]
   omega
  refine .new w.heap.size _ _ e (0,0) (Nat.le_refl _) (alloc_at _ _) (fun i hi hc=>by simp at hc) hsz hG (grownCap_le_maxLen w (0+1) 0 e (by unfold maxLen;omega)) (fun j hj=>?_) (fun k' hk'=>alloc_lt _ _ hk')
  have hj':j<k:=by omega
  simp only [Array.getD_eq_getD_getElem?]
  rw [Array.getElem?_append_left (by simp [hl];omega)]
  simp [newCells,List.getD_eq_getElem?_getD]
 ·intro w b cap vb vcap n i cs vs e1 e2 fr fr2 hb hfr hsz hnc hcm hvb hvfr hvsz hv1 hne h1c h1v hin hn4
  have hv:k≤vs.size:=by rw [hvsz];exact Nat.le_mul_of_pos_left k hv1
  have hnk:n * k≤cs.size:=by rw [hsz];exact Nat.mul_le_mul_right _ hnc
  have hikn:i * k≤n * k:=Nat.mul_le_mul_right _ hin
  have hl:=newCells_length hv
  have hlo:=oldCells_length (k:=k) (i:=i) hnk
  have hbl:b<w.heap.size:=(Array.getElem?_eq_some_iff.1 hb).1
  have h1n:=one_new hv h1v
  have h1o:=one_old (i:=i) hnk h1c
  have hnne:newCells k vs≠[]:=fun h=>by rw [h] at hl;simp at hl;omega
  have hr2:∀w':World,w'.heap=w.heap→(Builtin.firstCells info.size 1 (.slice (some ⟨vb,0,none⟩) 1 vcap)).run P w'=.ok (newCells k vs).toArray w':=fun w' hw=>by
   have hb':hp w' vb=some (.cells vs e2 fr2):=by show w'.heap[vb]?=_;rw [hw];exact hvb
   simp only [Builtin.firstCells,hik,Nat.one_mul]
   rw [load_seg hb' 0 k (by omega)]
   rfl
  have hsucc:(n+1) * k=n * k+k:=Nat.succ_mul n k
  have hisucc:(i+1) * k=i * k+k:=Nat.succ_mul i k
  by_cases hroom:n+1≤cap
  ·have hfit:n * k+k≤cs.size:=by rw [hsz,← hsucc];exact Nat.mul_le_mul_right _ hroom
   by_cases hend:i=n
   ·subst hend
    have hap:=fun ty=>run_append_in (ty:=ty) ht hinf hb hfr.weak (n:=i) (cap:=cap) (m:=1) (v2:=.slice (some ⟨vb,0,none⟩) 1 vcap) (news:=newCells k vs) (by simp [Builtin.lenOf]) (hr2 w rfl) (by rw [hl,hik,Nat.one_mul]) h1n hroom (by rw [hik,hl];exact hfit)
    refine (END w i cap vcap vb b _ _ hap).mono fun e' w' he=>?_
    obtain ⟨rfl,rfl⟩:=he
    rw [if_neg hnne]
    refine ⟨_,rfl,keepSet,.here _ (setRow_heap w b cs _ e1 fr hb) (size_written _ _ _ (by rw [hik,hl];exact hfit)) hroom (fun j hj=>?_) (fun k' hk' _=>setRow_other w b k' _ hk')⟩
    rw [hsucc] at hj
    rw [insCells_getD (Nat.le_refl _) hnk hv hj,getD_written _ _ _ (by rw [hik,hl];exact hfit),hik,hl]
    by_cases c1:j<i * k
    ·rw [if_pos c1,if_neg (by omega)]
    ·rw [if_neg c1,if_pos (by omega),if_pos (by omega),newCells_getD (by omega)]
   ·have hlt:i<n:=by omega
    have hik1:i * k+k≤n * k:=by rw [← hisucc];exact Nat.mul_le_mul_right _ hlt
    have hone:oldCells k i n cs≠[]:=fun h=>by rw [h] at hlo;simp at hlo;omega
    have hmin1:Nat.min (n+1 - i) (n - i)=n - i:=by simp only [Nat.min_def];split <;> omega
    have hmin2:Nat.min 1 (n+1 - i)=1:=by simp only [Nat.min_def];split <;> omega
    have ho:(n - i) * k=n * k - i * k:=Nat.sub_mul n i k
    have h1:∀ty dc sc,(Builtin.copy_ #[t,t] ty #[.slice (some ⟨b,(i+1) * k,none⟩) (n - i) dc,.slice (some ⟨b,i * k,none⟩) (n+1 - i) sc]).run P w.drew=.ok (goInt ((n - i:Nat):Int)) (w.drew.setRow b (written cs ((i+1) * k) (oldCells k i n cs))):=fun ty dc sc=>by
     have:=run_copyK (P:=P) (w:=w.drew) (dT:=t) (sT:=t) (ty:=ty) ht hinf (b:=b) (o:=(i+1) * k) (dLen:=n - i) (dCap:=dc) (cur:=cs) (e:=e1) (fr:=fr) hb hfr.weak (a:=⟨b,i * k,none⟩) (sLen:=n+1 - i) (sCap:=sc) (vs:=oldCells k i n cs)
      (by rw [hmin1,hik,ho,load_seg (w:=w.drew) (b:=b) (cs:=cs) (e:=e1) (fr:=fr) hb (i * k) (n * k - i * k) (by omega),oldCells_eq]) (by rw [hlo,hisucc];omega) h1o
     rw [hmin1,if_neg hone] at this
     exact this
    have hs1:(written cs ((i+1) * k) (oldCells k i n cs)).size=cs.size:=size_written _ _ _ (by rw [hlo,hisucc];omega)
    have hb1:hp (w.drew.setRow b (written cs ((i+1) * k) (oldCells k i n cs))) b=some (.cells (written cs ((i+1) * k) (oldCells k i n cs)) e1 fr):=setRow_heap w.drew b cs _ e1 fr hb
    have hvb1:hp (w.drew.setRow b (written cs ((i+1) * k) (oldCells k i n cs))) vb=some (.cells vs e2 fr2):=(setRow_other w.drew b vb _ hne).trans hvb
    have h2:∀ty dc,(Builtin.copy_ #[t,t] ty #[.slice (some ⟨b,i * k,none⟩) (n+1 - i) dc,.slice (some ⟨vb,0,none⟩) 1 vcap]).run P (w.drew.setRow b (written cs ((i+1) * k) (oldCells k i n cs)))=
      .ok (goInt 1) ((w.drew.setRow b (written cs ((i+1) * k) (oldCells k i n cs))).setRow b (written (written cs ((i+1) * k) (oldCells k i n cs)) (i * k) (newCells k vs))):=fun ty dc=>by
     have:=run_copyK (P:=P) (dT:=t) (sT:=t) (ty:=ty) ht hinf (b:=b) (o:=i * k) (dLen:=n+1 - i) (dCap:=dc) hb1 (by rw [hs1];exact hfr.weak) (a:=⟨vb,0,none⟩) (sLen:=1) (sCap:=vcap) (vs:=newCells k vs)
      (by rw [hmin2,hik,Nat.one_mul,load_seg hvb1 0 k (by omega)];rfl) (by rw [hs1,hl];omega) h1n
     rw [hmin2,if_neg hnne] at this
     exact this
    have hshv:w.shape? vb=some (e2,vs.size):=by simp only [World.shape?,hvb]
    have hshb:w.shape? b=some (e1,cs.size):=by simp only [World.shape?,hb]
    have frz:∀q,q<vs.size+1→w.frozen? ⟨vb,q,none⟩=false:=fun q hq=>by
     have:=hvfr q (by omega)
     simp only [World.frozen?,hvb]
     simp only [Bool.and_eq_false_iff,decide_eq_false_iff_not]
     omega
    refine (SHIFT w n i cap vcap vb b _ _ hlt hroom hcm hn4 (fun lb cb=>OV w vb vcap b _ lb cb e2 e1 vs.size cs.size hne hshv hshb (by omega) (frz 0 (by omega)) (frz vs.size (by omega))) h1 h2).mono fun e' w' he=>?_
    obtain ⟨rfl,rfl⟩:=he
    refine ⟨_,rfl,⟨rfl,rfl,rfl,by simp⟩,.here _ (setRow_heap _ b _ _ e1 fr hb1) (by rw [size_written _ _ _ (by rw [hs1,hl];omega),hs1]) hroom (fun j hj=>?_) (fun k' hk' _=>(setRow_other _ b k' _ hk').trans (setRow_other w.drew b k' _ hk'))⟩
    rw [hisucc]
    exact (ins_written hin hnk hv hfit (fun _ _=>rfl) hj).1
  ·have hcap:cap=n:=by omega
   have hby2:(n+1) * info.bytes≤140737488355328:=Nat.le_trans (Nat.mul_le_mul_left _ hby) (by omega)
   by_cases hend:i=n
   ·subst hend
    have hr1:(Builtin.firstCells info.size i (.slice (some ⟨b,0,none⟩) i cap)).run P w.drew=.ok (cs.toList.take (i * k)).toArray w.drew:=by
     simp only [Builtin.firstCells,hik]
     rw [load_seg (w:=w.drew) (b:=b) (cs:=cs) (e:=e1) (fr:=fr) hb 0 (i * k) (by omega)]
     rfl
    have hap:=fun ty=>run_append_out (ty:=ty) ht hinf hz (oa:=some ⟨b,0,none⟩) (n:=i) (cap:=cap) (m:=1) (v2:=.slice (some ⟨vb,0,none⟩) 1 vcap) (olds:=cs.toList.take (i * k)) (news:=newCells k vs) (by simp [Builtin.lenOf]) hr1 (hr2 w.drew rfl) (by omega) (by omega) hby2
    refine (END w i cap vcap vb b _ _ hap).mono fun e' w' he=>?_
    obtain ⟨rfl,rfl⟩:=he
    refine ⟨_,rfl,⟨rfl,rfl,rfl,alloc_size _ _⟩,?_⟩
    have hG:=grownCap_ge w (i+1) cap e
    have hcl:cs.toList.length=cs.size:=Array.length_toList
    have hto:(cs.toList.take (i * k)).length=i * k:=by rw [List.length_take];omega
    have hszz:((cs.toList.take (i * k)).toArray++(newCells k vs).toArray++Builtin.zeroCells z.cells (grownCap w (i+1) cap e - (i+1))).size=grownCap w (i+1) cap e * k:=by
     have e1:(Builtin.zeroCells z.cells (grownCap w (i+1) cap e - (i+1))).size=(grownCap w (i+1) cap e - (i+1)) * k:=by rw [← hzk];simp [Builtin.zeroCells]
     rw [Array.size_append,Array.size_append,e1,Nat.sub_mul]
     have:=Nat.mul_le_mul_right k hG
     simp only [List.size_toArray,hto,hl]
     omega
    refine .new w.heap.size _ _ e (0,0) (Nat.le_refl _) (alloc_at _ _) (fun i hi hc=>by simp at hc) hszz hG (grownCap_le_maxLen w (i+1) cap e (by unfold maxLen;omega)) (fun j hj=>?_) (fun k' hk'=>alloc_lt _ _ hk')
    rw [hsucc] at hj
    rw [insCells_getD (Nat.le_refl _) hnk hv hj]
    simp only [Array.getD_eq_getD_getElem?]
    rw [Array.getElem?_append_left (by simp only [Array.size_append,List.size_toArray,hto,hl];omega)]
    by_cases c1:j<i * k
    ·rw [if_pos c1,Array.getElem?_append_left (by simp only [List.size_toArray,hto];omega)]
     simp [c1]
    ·rw [if_neg c1,if_pos (by omega),Array.getElem?_append_right (by simp only [List.size_toArray,hto];omega)]
     simp only [List.size_toArray,hto,List.getElem?_toArray]
     have:=newCells_getD (vs:=vs) (k:=k) (j:=j - i * k) (by omega)
     rw [List.getD_eq_getElem?_getD,Array.getD_eq_getD_getElem?] at this
     exact this
   ·have hlt:i<n:=by omega
    have hik1:i * k+k≤n * k:=by rw [← hisucc];exact Nat.mul_le_mul_right _ hlt
    have hone:oldCells k i n cs≠[]:=fun h=>by rw [h] at hlo;simp at hlo;omega
    have hmin1:Nat.min (n - i) (n - i)=n - i:=by simp only [Nat.min_def];split <;> omega
    have hmin2:Nat.min 1 (n+1 - i)=1:=by simp only [Nat.min_def];split <;> omega
    have ho:(n - i) * k=n * k - i * k:=Nat.sub_mul n i k
    have hcl:cs.toList.length=cs.size:=Array.length_toList
    have hto:(cs.toList.take (i * k)).length=i * k:=by rw [List.length_take];omega
    have hold:(Builtin.firstCells info.size i (.slice (some ⟨b,0,none⟩) i cap)).run P w.drew=.ok (cs.toList.take (i * k)).toArray w.drew:=by
     simp only [Builtin.firstCells,hik]
     rw [load_seg (w:=w.drew) (b:=b) (cs:=cs) (e:=e1) (fr:=fr) hb 0 (i * k) (by omega)]
     rfl
    have hin1:i+(n+1 - i)=n+1:=by omega
    obtain ⟨G,hGe⟩:∃G,G=grownCap w (n+1) cap e:=⟨_,rfl⟩
    have hG:=grownCap_ge w (n+1) cap e
    have hGm:=grownCap_le_maxLen w (n+1) cap e (by unfold maxLen;omega)
    rw [← hGe] at hG hGm
    obtain ⟨A,hA⟩:∃A:Array Value,A=(cs.toList.take (i * k)).toArray++Builtin.zeroCells z.cells (n+1 - i)++Builtin.zeroCells z.cells (G - (n+1)):=⟨_,rfl⟩
    have zs:∀q,(Builtin.zeroCells z.cells q).size=q * k:=fun q=>by rw [← hzk];simp [Builtin.zeroCells]
    have hAs:A.size=G * k:=by
     rw [hA,Array.size_append,Array.size_append,zs,zs,Nat.sub_mul,Nat.sub_mul]
     have:=Nat.mul_le_mul_right k hG
     have:i * k≤(n+1) * k:=Nat.mul_le_mul_right _ (by omega)
     simp only [List.size_toArray,hto]
     omega
    have hAk:n * k+k≤A.size:=by rw [hAs,← hsucc];exact Nat.mul_le_mul_right _ hG
    have h0:∀ty,(Builtin.append_ #[t,3] ty #[.slice (some ⟨b,0,none⟩) i cap,.int .i64 ((n:Int)+1 - (i:Int))]).run P w=.ok (.slice (some ⟨w.heap.size,0,none⟩) (n+1) G) (w.drew.alloc (.cells A e)):=fun ty=>by
     have h:=Lib.run_append_grow_zeros w t 3 ty e info z .i64 .i64 ht t3 hinf hz (some ⟨b,0,none⟩) i cap (cs.toList.take (i * k)) hold (n+1 - i) (by omega) (by omega) (by omega) (by omega) (by have:=Nat.mul_le_mul_left (n+1 - i) hby;omega) (by rw [hin1];exact growslice_fits (by omega) hby2)
     rw [hin1] at h
     have hkk:(n:Int)+1 - (i:Int)=((n+1 - i:Nat):Int):=by omega
     rw [hkk,hA,hGe]
     exact h
    have hbA:hp (w.drew.alloc (.cells A e)) w.heap.size=some (.cells A e (0,0)):=alloc_at _ _
    have frA:∀m,free (0,0) m:=fun m i hi hc=>by simp at hc
    have hvA:hp (w.drew.alloc (.cells A e)) vb=some (.cells vs e2 fr2):=by
     have hvl:vb<w.heap.size:=(Array.getElem?_eq_some_iff.1 hvb).1
     exact (alloc_lt _ _ hvl).trans hvb
    have h1:∀ty dc,(Builtin.copy_ #[t,t] ty #[.slice (some ⟨w.heap.size,i * k,none⟩) (n+1 - i) dc,.slice (some ⟨vb,0,none⟩) 1 vcap]).run P (w.drew.alloc (.cells A e))=.ok (goInt 1) ((w.drew.alloc (.cells A e)).setRow w.heap.size (written A (i * k) (newCells k vs))):=fun ty dc=>by
     have:=run_copyK (P:=P) (dT:=t) (sT:=t) (ty:=ty) ht hinf (b:=w.heap.size) (o:=i * k) (dLen:=n+1 - i) (dCap:=dc) hbA (frA _) (a:=⟨vb,0,none⟩) (sLen:=1) (sCap:=vcap) (vs:=newCells k vs)
      (by rw [hmin2,hik,Nat.one_mul,load_seg hvA 0 k (by omega)];rfl) (by rw [hl];omega) h1n
     rw [hmin2,if_neg hnne] at this
     exact this
    have hs1:(written A (i * k) (newCells k vs)).size=A.size:=size_written _ _ _ (by rw [hl];omega)
    have hb1:hp ((w.drew.alloc (.cells A e)).setRow w.heap.size (written A (i * k) (newCells k vs))).drew w.heap.size=some (.cells (written A (i * k) (newCells k vs)) e (0,0)):=setRow_heap _ w.heap.size A _ e (0,0) hbA
    have hbb:hp ((w.drew.alloc (.cells A e)).setRow w.heap.size (written A (i * k) (newCells k vs))).drew b=some (.cells cs e1 fr):=by
     refine (setRow_other _ w.heap.size b _ (Nat.ne_of_lt hbl)).trans ?_
     exact (alloc_lt _ _ hbl).trans hb
    have h2:∀ty dc sc,(Builtin.copy_ #[t,t] ty #[.slice (some ⟨w.heap.size,(i+1) * k,none⟩) (n - i) dc,.slice (some ⟨b,i * k,none⟩) (n - i) sc]).run P ((w.drew.alloc (.cells A e)).setRow w.heap.size (written A (i * k) (newCells k vs))).drew=
      .ok (goInt ((n - i:Nat):Int)) (((w.drew.alloc (.cells A e)).setRow w.heap.size (written A (i * k) (newCells k vs))).drew.setRow w.heap.size (written (written A (i * k) (newCells k vs)) ((i+1) * k) (oldCells k i n cs))):=fun ty dc sc=>by
     have:=run_copyK (P:=P) (dT:=t) (sT:=t) (ty:=ty) ht hinf (b:=w.heap.size) (o:=(i+1) * k) (dLen:=n - i) (dCap:=dc) hb1 (frA _) (a:=⟨b,i * k,none⟩) (sLen:=n - i) (sCap:=sc) (vs:=oldCells k i n cs)
      (by rw [hmin1,hik,ho,load_seg hbb (i * k) (n * k - i * k) (by omega),oldCells_eq]) (by rw [hlo,hisucc,hs1];omega) h1o
     rw [hmin1,if_neg hone] at this
     exact this
    refine (GROW w n i cap vcap vb b G _ _ _ hlt hnc (by omega) hcm hG hGm hn4 h0 h1 h2).mono fun e' w' he=>?_
    obtain ⟨rfl,rfl⟩:=he
    refine ⟨_,rfl,⟨rfl,rfl,rfl,by rw [setRow_size];exact Nat.le_trans (alloc_size w (.cells A e)) (by show _≤((w.drew.alloc (.cells A e)).setRow _ _).heap.size;rw [setRow_size];exact Nat.le_refl _)⟩,.new w.heap.size G _ e (0,0) (Nat.le_refl _) (setRow_heap _ w.heap.size _ _ e (0,0) hb1) (fun i hi hc=>by simp at hc) (by rw [size_written _ _ _ (by rw [hlo,hisucc,hs1];omega),hs1,hAs]) hG hGm (fun j hj=>?_) (fun k' hk'=>?_)⟩
    ·rw [hisucc]
     refine (ins_written hin hnk hv hAk (fun j hj=>?_) hj).2
     simp only [Array.getD_eq_getD_getElem?]
     rw [hA,Array.getElem?_append_left (by simp only [Array.size_append,List.size_toArray,hto];omega),Array.getElem?_append_left (by simp only [List.size_toArray,hto];omega)]
     simp [hj]
    ·refine (setRow_other _ w.heap.size k' _ (Nat.ne_of_lt hk')).trans ((setRow_other _ w.heap.size k' _ (Nat.ne_of_lt hk')).trans ?_)
     exact alloc_lt _ _ hk'
end Go.Av
