/- ABSTRACT VALUES: functions printed from the code (shallow), and the lemmas that carry a walk from them. -/
import Derived.Test.YtniibgdokfnomaaGreatAvWp
namespace Go.Av
open Go Go.Gx
set_option linter.unusedVariables false

def sel {α:Type} (b:Bool) (x y:α):α:=match b with | true=>x | false=>y
def chk {α:Type} (p:Prop) [Decidable p] (x:Option α):Option α:=if p then x else none
def bnd {α β:Type} (o:Option α) (k:α→Option β):Option β:=match o with | some a=>k a | none=>none
def getI {α:Type} (l:List α) (i:Int):Option α:=if 0≤i then l[i.toNat]? else none
def byteI (s:List UInt8) (i:Int):Int:=((s.getD i.toNat 0).toNat:Int)
def w64 (n:Int):Int:=IntKind.i64.wrap n
/-- a part's outcome: on to what follows, or out of it -/
inductive Cut (α β:Type) where
 | nx (a:α)
 | rt (b:β)
def cutb {α β:Type} (o:Option (Cut α β)) (k:α→Option β):Option β:=match o with | some (.nx a)=>k a | some (.rt b)=>some b | none=>none
/-- a loop, N rounds at most -/
def loopN {σ β:Type} (step:σ→Option (Sum σ β)):Nat→σ→Option β
 | 0,_=>none
 | n+1,p=>match step p with
  | some (.inl p')=>loopN step n p'
  | some (.inr b)=>some b
  | none=>none

theorem sel_dec {α:Type} (p:Prop) [Decidable p] (x y:α):sel (decide p) x y=if p then x else y:=by unfold sel;by_cases h:p <;> simp [h]
theorem sel_eq {α:Type} (b:Bool) (x y:α):sel b x y=if b=true then x else y:=by cases b <;> rfl
theorem bnd_eq {α β:Type} (o:Option α) (k:α→Option β):bnd o k=o.bind k:=by cases o <;> rfl

theorem br_sel {α:Type} {b:Bool} {u v:Option α} {r:α} {x y:Prop} (h:sel b u v=some r) (h1:b=true→u=some r→x) (h2:b=false→v=some r→y):br b x y:=by
 cases b
 ·exact h2 rfl h
 ·exact h1 rfl h
theorem brb {α:Type} {b:Bool} {u v:Option α} {r:α} {x y x' y':Prop} (h:sel b u v=some r) (h1:b=true→u=some r→x') (h2:b=false→v=some r→y') (p:x'→x:=by (intro hg;focus((conv=>whnf);repeat((first|refine Z.p ?_|refine zs _ ?_|refine Dr.mk (by kernel_rfl) ?_);conv=>whnf));exact hg)) (q:y'→y:=by (intro hg;focus((conv=>whnf);repeat((first|refine Z.p ?_|refine zs _ ?_|refine Dr.mk (by kernel_rfl) ?_);conv=>whnf));exact hg)):br b x y:=
 br_sel h (fun e h=>p (h1 e h)) (fun e h=>q (h2 e h))
theorem chk_sel {α:Type} {p q:Prop} [Decidable p] {o:Option α} {r:α} {x:Prop} (h:chk p o=some r) (hp:p→q) (hk:o=some r→x):q∧x:=by
 unfold chk at h;split at h
 ·rename_i hh;exact ⟨hp hh,hk h⟩
 ·simp at h
theorem bnd_some {α β:Type} {o:Option α} {k:α→Option β} {r:β} (h:bnd o k=some r):∃a,o=some a∧k a=some r:=by
 cases o with
 | none=>simp [bnd] at h
 | some a=>exact ⟨a,rfl,h⟩
abbrev CutR {α β:Type} (k:α→Option β) (r:β) (z:Cut α β):Prop:=match z with | .nx a=>k a=some r | .rt b=>b=r
theorem cutb_some {α β:Type} {o:Option (Cut α β)} {k:α→Option β} {r:β} (h:cutb o k=some r):∃z,o=some z∧CutR k r z:=by
 cases o with
 | none=>simp [cutb] at h
 | some z=>cases z with
  | nx a=>exact ⟨_,rfl,h⟩
  | rt b=>exact ⟨_,rfl,by simpa [cutb] using h⟩
theorem getI_some {α:Type} {l:List α} {i:Int} {x:α} (h:getI l i=some x):(0≤i∧i<l.length)∧l[i.toNat]?=some x:=by
 unfold getI at h;split at h
 ·rename_i h0
  have:=(List.getElem?_eq_some_iff.1 h).1
  exact ⟨⟨h0,by omega⟩,h⟩
 ·simp at h
/-- an index into data -/
theorem idx_sel {α β:Type} {l:List α} {e:α→List D} {i:Int} {k:α→Option β} {r:β} {K:List D→Prop} (h:bnd (getI l i) k=some r) (hk:∀x,getI l i=some x→k x=some r→K (e x)):
  (0≤i∧i<(l.map e).length)∧∀row,(l.map e)[i.toNat]?=some row→K row:=by
 obtain ⟨x,hx,hr⟩:=bnd_some h
 obtain ⟨h1,h2⟩:=getI_some hx
 refine ⟨by simpa using h1,fun row hrow=>?_⟩
 obtain ⟨y,hy,rfl⟩:=map_get hrow
 rw [h2] at hy;cases hy
 exact hk x hx hr
/-- an index into an object: its place -/
theorem idxp_sel {α β:Type} {l:List α} {e:α→List D} {i:Int} {k:α→Option β} {r:β} {K:Prop} (h:bnd (getI l i) k=some r) (hk:∀x,getI l i=some x→k x=some r→K):
  (0≤i∧i<(l.map e).length)∧K:=by
 obtain ⟨x,hx,hr⟩:=bnd_some h
 obtain ⟨h1,h2⟩:=getI_some hx
 exact ⟨by simpa using h1,hk x hx hr⟩
theorem ldp_sel {α:Type} {l:List α} {e:α→List D} {i:Int} {x:α} {K:List D→Prop} (hx:getI l i=some x) (hk:K (e x)):i.toNat<(l.map e).length∧∀row,(l.map e)[i.toNat]?=some row→K row:=by
 obtain ⟨h1,h2⟩:=getI_some hx
 refine ⟨by simp;omega,fun row hrow=>?_⟩
 obtain ⟨y,hy,rfl⟩:=map_get hrow
 rw [h2] at hy;cases hy
 exact hk
theorem idx_raw {α β:Type} {rows:List (List D)} {l:List α} {e:α→List D} {i:Int} {k:α→Option β} {r:β} {K:List D→Prop} (e0:rows=l.map e) (h:bnd (getI l i) k=some r) (hk:∀x,getI l i=some x→k x=some r→K (e x)):
  (0≤i∧i<rows.length)∧∀row,rows[i.toNat]?=some row→K row:=by subst e0;exact idx_sel h hk
theorem idxp_raw {α β:Type} {rows:List (List D)} {l:List α} {e:α→List D} {i:Int} {k:α→Option β} {r:β} {K:Prop} (e0:rows=l.map e) (h:bnd (getI l i) k=some r) (hk:∀x,getI l i=some x→k x=some r→K):
  (0≤i∧i<rows.length)∧K:=by subst e0;exact idxp_sel h hk
theorem ldp_raw {α:Type} {rows:List (List D)} {l:List α} {e:α→List D} {i:Int} {x:α} {K:List D→Prop} (e0:rows=l.map e) (hx:getI l i=some x) (hk:K (e x)):i.toNat<rows.length∧∀row,rows[i.toNat]?=some row→K row:=by subst e0;exact ldp_sel hx hk
/-- a length -/
theorem len_sel {z m:Int} {K:Int→Prop} (e:z=m) (h:K m):∀z',z'=z→K z':=fun z' h'=>by rw [h',e];exact h
theorem lns {z:Int} (m:Int) {K:Int→Prop} (h:K m) (e:z=m:=by first|rfl|simp [sub]):∀z',z'=z→K z':=fun z' h'=>by rw [h',e];exact h
/-- a call -/
theorem call_sel {α β:Type} {P:Program} {g:FuncId} {ds:List DV} {E:α→DV} {o:Option α} {k:α→Option β} {r:β} {M:DV→Prop} (h:bnd o k=some r) (hc:∀x,o=some x→Pure P g ds (E x)) (hk:∀x,o=some x→k x=some r→M (E x)):
  ∃res,(Con P).p g ds res∧M res:=by
 obtain ⟨x,hx,hr⟩:=bnd_some h
 exact ⟨_,hc x hx,hk x hx hr⟩
theorem pure_args {P:Program} {F:FuncId} {ds ds':List DV} {r:DV} (e:ds=ds') (h:Pure P F ds' r):Pure P F ds r:=e ▸ h
/-- a call that turns objects -/
theorem turn_sel {α β:Type} {P:Program} {g:FuncId} {args:List AV} {objs:List AO} {O:α→List (Option AO)} {V:α→AV} {o:Option α} {k:α→Option β} {r:β} {F:Prop} {M:List (Option AO)→AV→Prop} (h:bnd o k=some r) (hf:F)
  (hc:∀x,o=some x→Turn P g args objs (O x) (V x)) (hk:∀x,o=some x→k x=some r→M (O x) (V x)):F∧∃objs' rv,(Con P).t g args objs objs' rv∧M objs' rv:=by
 obtain ⟨x,hx,hr⟩:=bnd_some h
 exact ⟨hf,_,_,hc x hx,hk x hx hr⟩
theorem turn_objs {P:Program} {F:FuncId} {args:List AV} {objs objs':List AO} {O:List (Option AO)} {v:AV} (e:objs=objs') (h:Turn P F args objs' O v):Turn P F args objs O v:=e ▸ h
theorem cons_eq {α:Type} {a b:α} {l m:List α} (h:a=b) (h':l=m):a::l=b::m:=by rw [h,h']
theorem some_arr {k:Nat} {a b:List (List D)} {o:Bool} (h:a=b):some (AO.arr k a o)=some (AO.arr k b o):=by rw [h]
theorem some_deep {k:Nat} {a b:List (List D)} (h:a=b):some (AO.deep k a)=some (AO.deep k b):=by rw [h]
theorem whb {G G':Prop} (h:G') (p:G'→G:=by (intro hg;(conv=>whnf);exact hg)):G:=p h
/-- a call that turns a slice in a cell -/
theorem cturn_sel {β γ:Type} {P:Program} {g:FuncId} {args:List AV} {objs:List AO} {k':Nat} {R:β→List (List D)} {X:β→Value} {o:Option β} {k:β→Option γ} {r:γ} {M:List (List D)→Value→Prop} (h:bnd o k=some r)
  (hc:∀y,o=some y→Turn P g args objs [some (.deep k' (R y))] (.d (.v (X y)))) (hk:∀y,o=some y→k y=some r→M (R y) (X y)):∃rows'' x,(Con P).t g args objs [some (.deep k' rows'')] (.d (.v x))∧M rows'' x:=by
 obtain ⟨y,hy,hr⟩:=bnd_some h
 exact ⟨_,_,hc y hy,hk y hy hr⟩
/-- a loop -/
def fin {σ β:Type} (step:σ→Option (Sum σ β)) (b:β) (n:Nat):Sum σ β→Prop
 | .inl p=>∃m,m<n∧loopN step m p=some b
 | .inr b'=>b'=b
theorem loop_lp {σ β:Type} {step:σ→Option (Sum σ β)} (st:σ→St) {b:β} {N:Nat} {p₀:σ} {s:St} {R:(Nat→St→Prop)→Nat→St→Prop} (hz:loopN step N p₀=some b) (hw:Weak s (st p₀))
  (hb:∀n p y,step p=some y→fin step b n y→R (fun n s=>∃q,s=st q∧loopN step n q=some b) n (st p)):
  ∃I:Nat→St→Prop,(∃n s₀,Weak s s₀∧I n s₀)∧∀n s₀,I n s₀→R I n s₀:=by
 refine ⟨fun n s=>∃q,s=st q∧loopN step n q=some b,⟨N,st p₀,hw,p₀,rfl,hz⟩,?_⟩
 rintro n s₀ ⟨p,rfl,hp⟩
 cases n with
 | zero=>simp [loopN] at hp
 | succ n=>
  simp only [loopN] at hp
  split at hp
  ·rename_i p' hs;exact hb _ p _ hs ⟨n,Nat.lt_succ_self n,hp⟩
  ·rename_i b' hs;exact hb _ p _ hs (by simpa [fin] using hp)
  ·simp at hp
theorem loop_back {σ β:Type} {step:σ→Option (Sum σ β)} {st:σ→St} {b:β} {n:Nat} {s:St} {p:σ} (hf:fin step b n (.inl p)) (hw:Weak s (st p)):
  ∃n' s₁,n'<n∧Weak s s₁∧(fun n s=>∃q,s=st q∧loopN step n q=some b) n' s₁:=by
 obtain ⟨m,hm,hp⟩:=hf
 exact ⟨m,st p,hm,hw,p,rfl,hp⟩
theorem u8w (n:Int):((UInt8.ofInt (IntKind.u8.wrap n)).toNat:Int)=IntKind.u8.wrap n:=by
 have h:IntKind.u8.wrap n=n % 256:=by simp [IntKind.wrap,IntKind.bits,IntKind.signed]
 rw [h]
 have e:UInt8.ofInt (n % 256)=UInt8.ofNat (n % 256).toNat:=by simp [UInt8.ofInt]
 rw [e]
 have:(UInt8.ofNat (n % 256).toNat).toNat=(n % 256).toNat % 2^8:=by simp [UInt8.ofNat,UInt8.toNat]
 rw [this]
 omega
/-- an equality of the usual kinds -/
theorem sl_eq {k:Nat} {r r':List (List D)} (h:r'=r):D.sl k r=D.sl k r':=by rw [h]
theorem eq_by {p:Prop} (h:p:=by first|rfl|exact Nat.le_of_ble_eq_true rfl|exact map_snoc _ _ _|exact map_put _ _ _ _|exact map_rep rfl|(simp only [List.set_set];exact map_put _ _ _ _)|((repeat first|exact sl_eq (map_snoc _ _ _).symm|exact sl_eq (map_put _ _ _ _).symm|exact sl_eq (map_rep rfl).symm|rfl|refine cons_eq ?_ ?_|refine congrArg DV.agg ?_|refine congrArg DV.tup ?_);done)|(simp [sub] <;> first|rfl|exact (u8w _).symm)):p:=h
theorem lbk {σ β:Type} {step:σ→Option (Sum σ β)} {st:σ→St} {b:β} {n:Nat} {s:St} {p:σ} {y:Sum σ β} (hf:fin step b n y) (h:some (.inl p)=some y) (hw:Weak s (st p):=by (refine weak_go ?_;(repeat ((conv=>whnf);refine And.intro eq_by ?_));(conv=>whnf);exact trivial)):
  ∃n' s₁,n'<n∧Weak s s₁∧(fun n s=>∃q,s=st q∧loopN step n q=some b) n' s₁:=by
 cases h;exact loop_back hf hw
theorem finr {σ β:Type} {step:σ→Option (Sum σ β)} {b b':β} {n:Nat} {y:Sum σ β} (hf:fin step b n y) (h:some (.inr b')=some y):some b'=some b:=by cases h;exact congrArg some hf
theorem cutr {α β:Type} {k:α→Option β} {r b:β} {z:Cut α β} (g:CutR k r z) (h:some (.rt b)=some z):some b=some r:=by cases h;exact congrArg some g
theorem some_in {α:Type} {a b:α} (h:some a=some b):a=b:=Option.some.inj h
theorem map_snoc {α β:Type} (e:α→β) (l:List α) (x:α):l.map e++[e x]=(l++[x]).map e:=by simp
theorem map_app {α β:Type} (e:α→β) (l m:List α):l.map e++m.map e=(l++m).map e:=by simp
theorem map_rep {α β:Type} {e:α→β} {n:Nat} {z:α} {r:β} (h:e z=r):List.replicate n r=(List.replicate n z).map e:=by subst h;simp
theorem map_put {α β:Type} (e:α→β) (l:List α) (i:Nat) (x:α):(l.map e).set i (e x)=(l.set i x).map e:=by simp [List.map_set]
theorem app_sel {α:Type} {p a b:Prop} [Decidable p] {o:Option α} {r:α} {x:Prop} (h:chk p o=some r) (ha:p→a) (hb:b) (hk:o=some r→x):a∧b∧x:=by
 unfold chk at h;split at h
 ·rename_i hh;exact ⟨ha hh,hb,hk h⟩
 ·simp at h
theorem app_ok {a b c d k:Nat} (ha:a=c) (hb:b=d) (hk:k≤512) (q:c+d≤274877906944):(a+b) * k≤140737488355328∧a+b≤140737488355328:=by
 subst ha;subst hb
 have:(a+b) * k≤274877906944 * 512:=Nat.mul_le_mul q hk
 omega
theorem mks_ok {n:Int} {b:Nat} (q:0≤n∧n≤274877906944) (hb:b≤512):n=n∧0≤n∧n≤1099511627776∧n * (b:Int)≤140737488355328:=by
 refine ⟨rfl,q.1,by omega,?_⟩
 have:n * (b:Int)≤274877906944 * 512:=Int.mul_le_mul q.2 (by omega) (by omega) (by omega)
 omega
/-- a part of a list -/
def sub {α:Type} (l:List α) (a b:Int):List α:=(l.drop a.toNat).take (b - a).toNat
abbrev encU:UInt8→List D:=fun c=>[D.u8 (c.toNat:Int)]
def dummy:Unit:=()
def isV:D→Bool
 | .v _=>true
 | _=>false
theorem flat_map {α:Type} {e:α→List D} {l:List α} (h:∀x,(e x).all isV=true):flatRows (l.map e):=by
 intro r hr x hx
 obtain ⟨y,_,rfl⟩:=List.mem_map.1 hr
 have:=List.all_eq_true.1 (h y) x hx
 cases x with
 | v x=>exact ⟨x,rfl⟩
 | sl k rows=>cases this
theorem flat_eq {α:Type} {rows:List (List D)} {e:α→List D} {l:List α} (h0:rows=l.map e) (h:∀x,(e x).all isV=true):flatRows rows:=by subst h0;exact flat_map h
theorem flat_take {rows:List (List D)} {n:Nat} (h:flatRows rows):flatRows (rows.take n):=fun r hr=>h r (List.mem_of_mem_take hr)
theorem flat_drop {rows:List (List D)} {n:Nat} (h:flatRows rows):flatRows (rows.drop n):=fun r hr=>h r (List.mem_of_mem_drop hr)
/-- a weaker state, reckoned -/
theorem weak_by {s s':St} (h:Weak s s':=by (refine weak_go ?_;(repeat ((conv=>whnf);refine And.intro eq_by ?_));(conv=>whnf);exact trivial)):Weak s s':=h
theorem plb {a b c:Prop} (h:c) (p:c→a:=by (intro hg;(conv=>whnf);exact hg)):a∨b:=.inl (p h)
theorem qtb {a b c d:Prop} (h:c) (p:c→b:=by (intro hg;(conv=>whnf);exact hg)):a∨b∨d:=.inr (.inl (p h))
theorem pdb {a b c d e:Prop} (h:c) (p:c→d:=by (intro hg;(conv=>whnf);exact hg)):a∨b∨d∨e:=.inr (.inr (.inl (p h)))
theorem clb {a b c d e:Prop} (h:c) (p:c→e:=by (intro hg;(conv=>whnf);exact hg)):a∨b∨d∨e:=.inr (.inr (.inr (p h)))
end Go.Av
