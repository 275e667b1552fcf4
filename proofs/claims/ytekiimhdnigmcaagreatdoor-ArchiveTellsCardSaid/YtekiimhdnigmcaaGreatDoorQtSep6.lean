/- A part of the proof. -/
import Derived.Test.YtekiimhdnigmcaaGreatDoorQtSep5
namespace Go.Proofs.YtekiimhdnigmcaaGreatDoor
open Go.RowKit
def putAt (xs:List Value) (off:Nat) (vs:List Value):List Value:=xs.take off++vs++xs.drop (off+vs.length)
theorem qov {xs:List Value} {off:Nat} {vs:List Value} (h:off+vs.length≤xs.length):(putAt xs off vs).length=xs.length:=by grind [putAt]
theorem Sz {xs:List Value} {off:Nat} {vs:List Value} (h:off+vs.length≤xs.length) (j:Nat):(putAt xs off vs)[j]?=if off≤j∧j<off+vs.length then vs[j-off]? else xs[j]?:=by grind [putAt,List.append_assoc,List.getElem?_append_left,List.getElem?_append_right,List.length_take,Nat.lt_or_ge]
theorem qha {w:World} {g:Nat} {cur:Array Value} {e:TypeId} (hb:w.heap[g]?=some (.cells cur e (0,0))) (off:Nat) (vs:List Value) (hl:off+vs.length≤cur.size):
  (w.setCells g off vs).heap[g]?=some (.cells (putAt cur.toList off vs).toArray e (0,0)):=by
 have h1:cur=(cur.toList.take off++(cur.toList.drop off).take vs.length++cur.toList.drop (off+vs.length)).toArray:=by
  apply Array.toList_inj.1
  simp only [List.append_assoc]
  rw [←List.drop_drop,List.take_append_drop,List.take_append_drop]
 have h2:=R8 g e vs w (cur.toList.take off) (cur.toList.drop (off+vs.length)) ((cur.toList.drop off).take vs.length) (by rw [←h1];exact hb) (by simp only [List.length_take,List.length_drop,Array.length_toList];omega)
 rw [List.length_take,Array.length_toList,Nat.min_eq_left om] at h2
 exact h2
section
variable {P:Program} {Q:Exit→Act→World→Prop} {a:Act} {W w:World} {n d:Nat} {D:List Deferred} {σ:List (Nat×Value)} {o:Oper} {v:Value} {K:Act→World→Prop} {fs:List Fact}
theorem Mem.G7 (h:Mem W w fs) {i g m c:Nat} {e:TypeId} {size:Nat} {xs:List Value} (hi:fs[i]?=some (.row (.slice (some ⟨g,0,none⟩) m c) m xs e size)) {off:Nat} {vs:List Value} (hl:off+vs.length≤xs.length):
  Mem W (w.setCells g off vs) (fs.set i (.row (.slice (some ⟨g,0,none⟩) m c) m (putAt xs off vs) e size)):=by
 have ho:=h.own hi
 obtain ⟨hlen,h2⟩:=ho
 rcases h2 with ⟨h3,_⟩|⟨g',cap,cur,hv,hb,hg,hnc,hcm,hcs,ht⟩
 ·cases h3
 ·injection hv with hv hv2 hv3
  injection hv with hv
  injection hv with hv
  subst hv;subst hv3
  have hcur:m*size≤cur.size:=by rw [hcs];exact Nat.mul_le_mul_right _ hnc
  refine h.turn hi (below_setCells h.below hb off vs) (fun k hk hne=>zp _ _ _ _ _ (fun e=>hne (by rw [e];rfl))) ?_ (fun g' hg'=> .inl hg')
  refine ⟨by rw [qov hl];exact hlen,.inr ⟨g,c,_,rfl,hb,qha hg off vs om,hnc,hcm,?_,?_⟩⟩
  ·rw [List.size_toArray,qov (by simpa using (by omega:off+vs.length≤cur.size)),Array.length_toList,hcs]
  ·show (putAt cur.toList off vs).take (m*size)=putAt xs off vs
   subst ht
   have hl':off+vs.length≤cur.toList.length∧off+vs.length≤m*size:=by
    rw [List.length_take,Array.length_toList] at hl
    rw [Array.length_toList]
    omega
   apply List.ext_getElem?
   intro j
   rw [Sz hl,List.getElem?_take,List.getElem?_take,Sz hl'.1]
   by_cases h3:off≤j∧j<off+vs.length
   ·rw [if_pos h3,if_pos om,if_pos h3]
   ·rw [if_neg h3,if_neg h3]
theorem qkr (h:Mem W w fs) {i g m c:Nat} {e:TypeId} {size:Nat} {xs:List Value} (hi:fs[i]?=some (.row (.slice (some ⟨g,0,none⟩) m c) m xs e size)) (off k:Nat) (hl:off+k≤xs.length):w.there g off k:=by
 have ho:=h.own hi
 obtain ⟨hlen,h2⟩:=ho
 rcases h2 with ⟨h3,_⟩|⟨g',cap,cur,hv,hb,hg,hnc,hcm,hcs,ht⟩
 ·cases h3
 ·injection hv with hv hv2 hv3
  injection hv with hv
  injection hv with hv
  subst hv;subst hv3
  have hcur:m*size≤cur.size:=by rw [hcs];exact Nat.mul_le_mul_right _ hnc
  exact qc3 hg off k om
theorem SB (Z:Fr a n D σ) (E:Mem W w fs) {t:TypeId} {x y:Operand} {i g off m c:Nat} {xs:List Value} {e:TypeId} {size:Nat} (hop:o.op= .store t x y) (hd:o.dst=none) (hx:look σ x=some (.pointer (some ⟨g,off,none⟩))) (hy:look σ y=some v) (hs:(P.info? t).map (·.size)=some 1) (hv:v.oneCell'=true)
  (hi:fs[i]?=some (.row (.slice (some ⟨g,0,none⟩) m c) m xs e size)) (ho:off<xs.length) (k:∀w',Mem W w' (fs.set i (.row (.slice (some ⟨g,0,none⟩) m c) m (putAt xs off [v]) e size))→K a w'):o.wp P a w K Q:=by
 have ht:=qkr E hi off 1 om 0 om
 rw [Nat.add_zero] at ht
 obtain ⟨u,hu⟩:=Option.isSome_iff_exists.1 ht.1
 unfold Oper.wp execOp
 simp only [hop,Z.eval hx,Z.eval hy,Sem.run_bind,qf3 hs hv hu ht.2,Result.andThen_ok,Sem.run_pure,Oper.upon_skip,hd]
 exact k _ (E.G7 hi (vs:=[v]) ho)
theorem VL (Z:Fr a n D σ) (E:Mem W w fs) {s x:Operand} {t e:TypeId} {z:Value} {size bytes m0 cap m c B B':Nat} {A A2:Option Addr} {xs news:List Value} (hop:o.op= .call {callee:= .builtin .append,args:= #[s,x],argTypes:= #[t,t]}) (ei:EI P t e z size bytes)
  (hs:look σ s=some (.slice A m0 cap)) (hx:look σ x=some (.slice A2 m c)) (hrs:Rd w B size A m0 xs) (hr:Rd w B' size A2 m news) (hm:0<m) (hg:cap<m0+m) (hnone:A=none→m0=0∧cap=0) (hb:(m0+m)*bytes≤140737488355328) (h63:m0+m≤9223372036854775807)
  (hd:o.dst=some d) (hdn:d<n) (k:∀a' w' g c',Fr a' n D ((d,.slice (some ⟨g,0,none⟩) (m0+m) c')::σ)→Mem W w' (.row (.slice (some ⟨g,0,none⟩) (m0+m) c') (m0+m) (xs++news) e size::fs)→m0+m≤c'→K a' w'):o.wp P a w K Q:=by
 obtain ⟨i,hi,hz,hsz,hby⟩:=info_parts ei.hi
 obtain ⟨ad,hA2,_,hcells⟩:=hr.row hm
 subst hA2
 have hlen:(xs++news).length=(m0+m)*size:=by rw [List.length_append,hrs.len,hr.len,Nat.add_mul]
 obtain ⟨c',w',hrun,hw'⟩:∃c' w',(Builtin.append_ #[t,t] o.type #[.slice A m0 cap,.slice (some ad) m c]).run P w= .ok (.slice (some ⟨w.heap.size,0,none⟩) (m0+m) c') w'∧
   (m0+m≤c'∧c'≤maxLen∧w'=w.drew.alloc (.cells (xs.toArray++news.toArray++Builtin.zeroCells z.cells (c'- (m0+m))) e)):=by
  cases A with
  |none=>
   obtain ⟨rfl,rfl⟩:=hnone rfl
   have hx0:xs=[]:=List.eq_nil_of_length_eq_zero (by simpa using hrs.len)
   subst hx0
   have hr2:=run_append_nil (P:=P) w t o.type e i z ei.ht hi hz ad m c news (by rw [hsz];exact hr.len) hcells hm om (by rw [hby];rw [Nat.zero_add] at hb;omega)
   refine ⟨_,_,by rw [Nat.zero_add];exact hr2,?_,?_,?_⟩
   ·rw [Nat.zero_add];exact grownCap_ge w m 0 e
   ·exact grownCap_le_maxLen w m 0 e (by unfold maxLen;omega)
   ·simp
  | some b =>
   have holds:∀j u,xs[j]?=some u→w.cell? (b.add j)=some u:=by
    intro j u hu
    rcases Nat.eq_zero_or_pos m0 with h0|h0
    ·have hl0:=hrs.len
     rw [h0,Nat.zero_mul] at hl0
     rw [List.eq_nil_of_length_eq_zero hl0] at hu
     simp at hu
    ·obtain ⟨ad',h1,_,h2⟩:=hrs.row h0
     injection h1 with h1
     subst h1
     exact h2 j u hu
   have hr2:=run_append_grow (P:=P) w t o.type e i z ei.ht hi hz b m0 cap xs (by rw [hsz];exact hrs.len) holds ad m c news (by rw [hsz];exact hr.len) hcells hg om (by rw [hby];exact growslice_fits hg hb)
   exact ⟨_,_,hr2,grownCap_ge w (m0+m) cap e,grownCap_le_maxLen w (m0+m) cap e (by unfold maxLen;omega),rfl⟩
 obtain ⟨h1,h2,rfl⟩:=hw'
 have hown:(w.drew.alloc (.cells (xs.toArray++news.toArray++Builtin.zeroCells z.cells (c'- (m0+m))) e)).ownsRow w.heap.size e size (.slice (some ⟨w.heap.size,0,none⟩) (m0+m) c') (m0+m) (xs++news):=by
  refine ⟨hlen,.inr ⟨w.heap.size,_,_,rfl,Nat.le_refl _,World.alloc_heap_new w.drew _,h1,h2,?_,?_⟩⟩
  ·simp only [Array.size_append,List.size_toArray,size_zeroCells,ei.hz,hrs.len,hr.len,←Nat.add_mul]
   congr 1
   omega
  ·simp only [Array.toList_append,List.append_assoc]
   rw [←List.append_assoc,←hlen]
   exact List.take_left
 unfold Oper.wp execOp
 simp only [hop,resolve,invoke,builtin,Sem.run_bind,Sem.run_pure,Result.andThen_ok,List.map_toArray,List.map_cons,List.map_nil,Z.eval hs,Z.eval hx,hrun]
 rw [Oper.upon_value,hd]
 exact k _ _ w.heap.size c' (Z.put hdn _) (E.bq ((Below.refl _ _).drew.alloc (by simp) _) hown) h1
theorem Mem.lN (h:Mem W w fs) {i m:Nat} {e:TypeId} {size:Nat} {xs ys:List Value} (hi:fs[i]?=some (.row v m xs e size)) (he:xs=ys):Mem W w (fs.set i (.row v m ys e size)):=by grind [List.getElem?_eq_some_iff,List.set_getElem_self]
end
theorem VN {α:Type} (f:α→List Value) (sz:Nat) (hf:∀x,(f x).length=sz):∀(l:List α) (k:Nat) (x:α),k<l.length→putAt (l.flatMap f) (k*sz) (f x)=(l.set k x).flatMap f
 |[],k,x,h=>by simp at h
 |y::r,0,x,h=>by
  unfold putAt
  rw [Nat.zero_mul,Nat.zero_add,hf,List.flatMap_cons,List.set_cons_zero,List.flatMap_cons,List.take_zero,List.nil_append,List.drop_append_of_le_length (by rw [hf];exact Nat.le_refl _),List.drop_of_length_le (by rw [hf];exact Nat.le_refl _),List.nil_append]
 | y :: r, k + 1, x, h => by
  have ih:=VN f sz hf r k x (by simpa using h)
  unfold putAt at ih⊢
  rw [List.flatMap_cons,List.set_cons_succ,List.flatMap_cons,←ih,Nat.succ_mul]
  have e1:(f y++r.flatMap f).take (k*sz+sz)=f y++(r.flatMap f).take (k*sz):=by
   rw [List.take_append,List.take_of_length_le (by rw [hf];omega),hf,Nat.add_sub_cancel]
  have e2:(f y++r.flatMap f).drop (k*sz+sz+(f x).length)=(r.flatMap f).drop (k*sz+(f x).length):=by
   rw [List.drop_append,List.drop_of_length_le (by rw [hf];omega),List.nil_append,hf y]
   congr 1
   omega
  rw [e1,e2]
  simp only [List.append_assoc]
theorem VO {α:Type} (f:α→List Value) (sz:Nat) (hf:∀x,(f x).length=sz) (l:List α) (k:Nat) (y x:α) (hk:l[k]?=some y) (off:Nat) (ho:off<sz) (v:Value) (hx:f x=(f y).set off v):putAt (l.flatMap f) (k*sz+off) [v]=(l.set k x).flatMap f:=by
 obtain ⟨hl,he⟩:=List.getElem?_eq_some_iff.1 hk
 rw [←VN f sz hf l k x hl,hx]
 have hlen:=KN f sz hf l
 have hsz:k*sz+sz≤l.length*sz:=by rw [←Nat.succ_mul];exact Nat.mul_le_mul_right _ hl
 have hfl:((f y).set off v).length=sz:=by rw [List.length_set,hf]
 apply List.ext_getElem?
 intro j
 rw [Sz (by rw [List.length_singleton];omega),Sz (by rw [hfl];omega),hfl,List.length_singleton]
 by_cases h1:k*sz≤j∧j<k*sz+sz
 ·rw [if_pos h1]
  have hat:=GV f sz hf l k (j-k*sz) hl om
  rw [he,show k*sz+(j-k*sz)=j by omega] at hat
  by_cases h2:k*sz+off≤j∧j<k*sz+off+1
  ·obtain rfl:j=k*sz+off:=by omega
   rw [if_pos h2,Nat.sub_self,show k*sz+off-k*sz=off by omega,List.getElem?_set_self (by rw [hf];exact ho)]
   rfl
  ·rw [if_neg h2,hat,List.getElem?_set_ne om]
 ·rw [if_neg h1,if_neg om]
theorem Mem.KV {W w:World} {fs:List Fact} (h:Mem W w fs) {α:Type} {f:α→List Value} {sz:Nat} (hf:∀x,(f x).length=sz) {i g m c:Nat} {e:TypeId} {l:List α} (hi:fs[i]?=some (.row (.slice (some ⟨g,0,none⟩) m c) m (l.flatMap f) e sz)) {k off:Nat} {x:α} {v:Value} (hk:l[k]?=some x) (hv:(f x)[off]?=some v):w.cell? ⟨g,k*sz+off,none⟩=some v:=by
 obtain ⟨hl,he⟩:=List.getElem?_eq_some_iff.1 hk
 have ho:off<sz:=by have:=(List.getElem?_eq_some_iff.1 hv).1;rwa [hf] at this
 have:=h.VG hi (k*sz+off) (ys:=[v]) (fun j u hu=>by
  cases j with
  |zero=>
   injection hu with hu
   subst hu
   rw [Nat.add_zero,GV f sz hf l k off hl ho,he]
   exact hv
  |succ j=>cases hu)
 exact this 0 v rfl
end Go.Proofs.YtekiimhdnigmcaaGreatDoor
