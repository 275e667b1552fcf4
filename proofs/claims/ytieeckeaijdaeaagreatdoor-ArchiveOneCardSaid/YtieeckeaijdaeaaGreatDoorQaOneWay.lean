/- A part of the proof. -/
import Derived.Test.YtieeckeaijdaeaaGreatDoorQaCodS
namespace Go.Proofs.YtieeckeaijdaeaaGreatDoor
open Go.RowKit
theorem WI:∀(l:List Nat) (i acc x m:Nat),(∀b∈l,b<256)→i≤9→jU i acc l=(x,m,0)→
  ∃y,x=acc+y*128^i∧(dZ (10-i) y).map lh=l.take (m-i)∧i<m∧(0<i→0<y)
 |[],i,acc,x,m,_,_,h=>by simp [jU] at h
 | b :: r, i, acc, x, m, hl, hi, h => by
  have hb:=hl b (by simp)
  rw [jU] at h
  split at h
  ·simp at h
  ·rename_i h9
   split at h
   ·simp at h
   ·rename_i h0
    split at h
    ·rename_i h128
     simp only [Prod.mk.injEq] at h
     obtain ⟨rfl,rfl,_⟩:=h
     refine ⟨b,rfl,?_,by omega,fun _=>by omega⟩
     obtain ⟨f,hf⟩:∃f,10-i=f+1:=⟨9-i,by omega⟩
     rw [hf,Et f b h128,show i+1-i=1 by omega]
     rfl
    ·rename_i h128
     obtain ⟨y,h1,h2,h3,h4⟩:=WI r (i+1) _ x m (fun b hb=>hl b (by simp [hb])) (by omega) h
     have hy:=h4 (by omega)
     refine ⟨(b-128)+128*y,?_,?_,by omega,fun _=>by omega⟩
     ·rw [h1,Nat.pow_succ,Nat.add_mul]
      have:y*(128^i*128)=128*y*128^i:=by rw [Nat.mul_comm (128^i) 128,←Nat.mul_assoc,Nat.mul_comm y 128]
      omega
     ·obtain ⟨f,hf⟩:∃f,10-i=f+1:=⟨9-i,by omega⟩
      rw [hf,Eu f _ (by omega),show ((b-128)+128*y)%128=b-128 by omega,show ((b-128)+128*y)/128=y by omega]
      rw [show f=10- (i+1) by omega,List.map_cons,h2]
      obtain ⟨k,hk⟩:∃k,m-i=k+1:=⟨m-i-1,by omega⟩
      rw [hk,List.take_succ_cons,show m- (i+1)=k by omega]
      congr 1
      show b-128+128=b
      omega
theorem G5 {l:List Nat} {x m:Nat} (hl:∀b∈l,b<256) (h:ae l=(x,m,0)):ah x=l.take m:=by
 obtain ⟨y,h1,h2,h3,_⟩:=WI l 0 0 x m hl (by omega) h
 have:x=y:=by simpa using h1
 subst this
 simpa [ah] using h2
theorem Qe:∀(j:Nat) (l xs:List Nat) (u:Nat),(∀b∈l,b<256)→aj j l=(xs,u,0)→xs.flatMap ah=l.take u∧xs.length=j∧(∀x∈xs,x<18446744073709551616)∧u≤l.length
 |0,l,xs,u,_,h=>by
  simp only [aj,Prod.mk.injEq] at h
  obtain ⟨rfl,rfl,_⟩:=h
  simp
 | j + 1, l, xs, u, hl, h => by
  have hvl:=wY l
  have hvb:=F4 l hl
  rw [aj] at h
  split at h
  ·rename_i h1;simp at h;exact absurd h.2.2 h1
  ·rename_i h1
   split at h
   ·rename_i h2;simp at h;exact absurd h.2.2 h2
   ·rename_i h2
    have hv:ae l=((ae l).1,(ae l).2.1,0):=by rw [←show (ae l).2.2=0 by omega]
    generalize (ae l).1=x at hv h hvb
    generalize (ae l).2.1=m at hv h hvl
    have hq:aj j (l.drop m)=((aj j (l.drop m)).1,(aj j (l.drop m)).2.1,0):=by
     rw [hv] at h2
     rw [←show (aj j (l.drop m)).2.2=0 by simpa using h2]
    generalize (aj j (l.drop m)).1=ys at hq h
    generalize (aj j (l.drop m)).2.1=n at hq h
    simp only [Prod.mk.injEq] at h
    obtain ⟨rfl,rfl,_⟩:=h
    obtain ⟨g1,g2,g3,g4⟩:=Qe j (l.drop m) ys n (fun b hb=>hl b (List.mem_of_mem_drop hb)) hq
    rw [List.length_drop] at g4
    refine ⟨?_,by simp [g2],?_,by omega⟩
    ·rw [List.flatMap_cons,g1,G5 hl hv,List.take_add]
    ·intro z hz
     rcases List.mem_cons.1 hz with rfl|hz
     ·exact hvb
     ·exact g3 z hz
theorem WJ {e:Ev}:∀{i:Nat},i<7→i≠5→e.within i=true→e.dK i≤4294967295
 |0,_,_,h=>by simp only [Ev.within,decide_eq_true_eq] at h;show e.bD≤_;omega
 |1,_,_,h=>by simp only [Ev.within,decide_eq_true_eq] at h;show e.group≤_;omega
 |2,_,_,h=>by simp only [Ev.within,decide_eq_true_eq] at h;show e.to≤_;omega
 |3,_,_,h=>by simp only [Ev.within,decide_eq_true_eq] at h;show e.weight≤_;omega
 |4,_,_,h=>by simp only [Ev.within,decide_eq_true_eq] at h;show e.aL≤_;omega
 |5,_,h5,_=>absurd rfl h5
 |n+6,_,_,h=>by simp only [Ev.within,decide_eq_true_eq] at h;show e.got≤_;omega
theorem qu6 {x:Nat} (h2:x<18446744073709551616) (h0:0≤wrap64 (x:Int)) (h1:wrap64 (x:Int)≤4294967295):(wrap64 (x:Int)).toNat=x:=by
 rw [←IntWalk.i64_left,IntKind.wrap_i64] at*;omega
theorem qzh (o:Ev) (i x:Nat) (hi:i<7):(o.put i x).mask=if i=5 then x else o.mask:=by
 obtain rfl|rfl|rfl|rfl|rfl|rfl|rfl:i=0∨i=1∨i=2∨i=3∨i=4∨i=5∨i=6:=by omega
 all_goals rfl
theorem WK (x:Nat):∀(l:List (Nat×Nat)) (o:Ev),(∀p∈l,p.1<7)→(l.map (·.1)).Nodup→(5,x)∈l→(o.fill l).mask=x
 |[],_,_,_,h=>by simp at h
 | p :: l, o, h7, hd, h => by
  rw [List.map_cons,List.nodup_cons] at hd
  rcases List.mem_cons.1 h with rfl|h
  ·have h2:=Oy 5 (by omega) l (o.put 5 x) (fun q hq=>⟨h7 q (by simp [hq]),fun e=>hd.1 (by rw [←e];exact List.mem_map.2 ⟨q,hq,rfl⟩)⟩)
   have h3:((o.fill ((5,x)::l)).mask:Int)=((o.put 5 x).mask:Int):=h2
   rw [qzh o 5 x (by omega),if_pos rfl] at h3
   omega
  ·exact WK x l (o.put p.1 p.2) (fun q hq=>h7 q (by simp [hq])) hd.2 h
theorem qu7 {e:Ev} {vs:List Nat} (hn:vs.length=(aa e.kind).length) (hv:∀x∈vs,x<18446744073709551616) (hc:(e.made vs).check=0):(e.made vs).vals=vs:=by
 have hk:=(Ox e vs).1
 have hw:=(xQ hc).2.1
 rw [hk,List.all_eq_true] at hw
 have hkeys:∀p∈(aa e.kind).zip vs,p.1<7:=fun p hp=>wX _ _ (List.of_mem_zip hp).1
 have hnd:(((aa e.kind).zip vs).map (·.1)).Nodup:=by rw [List.map_fst_zip (by omega)];exact U0 _
 have hall:∀p∈(aa e.kind).zip vs,((e.made vs).dK p.1).toNat=p.2:=by
  rintro ⟨i,x⟩ hm
  have hi:=(List.of_mem_zip hm).1
  by_cases h5:i=5
  ·subst h5
   have:=WK x _ e.base hkeys hnd hm
   show ((e.made vs).mask:Int).toNat=x
   unfold Ev.made;rw [this];simp
  ·have h1:(e.made vs).dK i=wrap64 (x:Int):=Oz i x h5 _ _ hkeys hnd hm
   have h0:=Lx (hw i hi)
   have h2:=WJ (wX _ _ hi) h5 (hw i hi)
   rw [h1] at h0 h2
   show ((e.made vs).dK i).toNat=x
   rw [h1]
   exact qu6 (hv x (List.of_mem_zip hm).2) h0 h2
 unfold Ev.vals
 rw [hk]
 have h1:(aa e.kind).map (fun i=>((e.made vs).dK i).toNat)=((aa e.kind).zip vs).map (fun p=>((e.made vs).dK p.1).toNat):=by
  conv=>lhs;rw [←List.map_fst_zip (l₁:=aa e.kind) (l₂:=vs) (by omega),List.map_map]
  rfl
 rw [h1,List.map_congr_left hall,List.map_snd_zip (by omega)]
structure uC (b:Bs) (cpu:Nat) (l:List Nat) (e:Ev) (u:Nat):Prop where
 right:b.right=true
 bytes:qI b e=l.take u
 check:e.check=0
 cpu:e.cpu=cpu
 behind:b.behind e=true
 ok:e.Ok
 len:u≤l.length
theorem qss {b : Bs} {cpu : Nat} (eO : cpu < 256) {l : List Nat} {e : Ev} {u : Nat} (hl : ∀ b ∈ l, b < 256) (h : aC b cpu l = (e, u, 0)) : uC b cpu l e u := by
 unfold aC at h
 split at h
 ·simp at h
 ·rename_i hr
  split at h
  ·simp at h
  ·rename_i hne
   split at h
   ·simp at h
   ·obtain ⟨kd,r,rfl⟩:∃kd r,l=kd::r:=by
     cases l with
     |nil=>exact absurd rfl hne
     |cons a b=>exact ⟨a,b,rfl⟩
    rw [List.getD_cons_zero,List.drop_succ_cons,List.drop_zero] at h
    have hrr:b.right=true:=by simpa using hr
    have hkd:=hl kd (by simp)
    unfold oV at h
    split at h
    ·rename_i h1;simp at h;exact absurd h.2.2 h1
    ·rename_i h1
     have hq:aj (2+(aa kd).length) r=((aj (2+(aa kd).length) r).1,(aj (2+(aa kd).length) r).2.1,0):=by rw [←show (aj (2+(aa kd).length) r).2.2=0 by omega]
     obtain ⟨xs,hxs⟩:∃xs,(aj (2+(aa kd).length) r).1=xs:=⟨_,rfl⟩
     obtain ⟨n,hn⟩:∃n,(aj (2+(aa kd).length) r).2.1=n:=⟨_,rfl⟩
     rw [hxs,hn] at hq h
     obtain ⟨g1,g2,g3,g4⟩:=Qe _ r xs n (fun b hb=>hl b (by simp [hb])) hq
     obtain ⟨x0,x1,vs,rfl⟩:∃x0 x1 vs,xs=x0::x1::vs:=by
      match xs,g2 with
      |x0::x1::vs,_=>exact ⟨x0,x1,vs,rfl⟩
      |[_],h=>simp at h;omega
      |[],h=>simp at h;omega
     simp only [List.getD_cons_zero,List.getD_cons_succ,List.drop_succ_cons,List.drop_zero] at h
     split at h
     ·simp at h
     ·rename_i h2
      split at h
      ·simp at h
      ·rename_i h3
       simp only [Prod.mk.injEq] at h
       obtain ⟨rfl,rfl,_⟩:=h
       have hvl:vs.length=(aa kd).length:=by simp at g2;omega
       have hE:(b.ev cpu kd x0 x1).qw vs=0:=by omega
       have hck:((b.ev cpu kd x0 x1).made vs).check=0:=by
        unfold Ev.qw at hE
        split at hE
        ·cases hE
        ·split at hE
         ·cases hE
         ·split at hE
          ·cases hE
          ·rename_i h;simpa using h
       have hmk:=Ox (b.ev cpu kd x0 x1) vs
       have G6:=qu7 (e:=b.ev cpu kd x0 x1) (vs:=vs) hvl (fun x hx=>g3 x (by simp [hx])) hck
       have xc:=hrr
       unfold Bs.right at xc
       simp only [decide_eq_true_eq] at xc
       have xZ:(b.ev cpu kd x0 x1).Ok:=⟨⟨by show _≤b.seq+(x0:Int);omega,by show b.seq+(x0:Int)≤_;omega⟩,⟨by show _≤b.time+(x1:Int);omega,by show b.time+(x1:Int)≤_;omega⟩,eO,hkd,zo,zo,zo,zo,zo,by show 0<18446744073709551616;omega,zo⟩
       refine ⟨hrr,?_,hck,hmk.2.2.2,?_,FQ (LA xZ) _ (fun p hp=>g3 p.2 (by have:=(List.of_mem_zip hp).2;simp [this])),by simp;omega⟩
       ·unfold qI zw
        rw [hmk.1,hmk.2.1,hmk.2.2.1,G6]
        rw [show ((b.ev cpu kd x0 x1).seq-b.seq).toNat=x0 by show (b.seq+(x0:Int)-b.seq).toNat=x0;omega,show ((b.ev cpu kd x0 x1).time-b.time).toNat=x1 by show (b.time+(x1:Int)-b.time).toNat=x1;omega]
        rw [g1,Nat.add_comm 1 n,List.take_succ_cons]
        rfl
       ·unfold Bs.behind
        rw [hmk.2.1,hmk.2.2.1]
        simp only [decide_eq_true_eq]
        show b.seq≤b.seq+(x0:Int)∧b.time≤b.time+(x1:Int)
        omega
theorem qu8 (p:Option Ev) (i:Nat):di p i []=(-1,0):=rfl
theorem WL {cpu : Nat} (eO : cpu < 256) : ∀ (n : Nat) (b : Bs) (p : Option Ev) (l : List Nat) (es : List Ev) (u : Nat), (∀ x ∈ l, x < 256) → (∀ q, p = some q → b = q.at ∧ q.cpu = cpu) → qq cpu n b p l = (es, u, 0) →
  es.length=n∧recs b es=l.take u∧u≤l.length∧(∀i,(di p i es).2=0)∧(∀e∈es,e.Ok∧e.cpu=cpu)∧es.head?.all b.behind=true
 |0,b,p,l,es,u,_,_,h=>by
  simp only [qq,Prod.mk.injEq] at h
  obtain ⟨rfl,rfl,_⟩:=h
  simp [recs,qu8]
 | n + 1, b, p, l, es, u, hl, hp, h => by
  rw [qq] at h
  split at h
  ·rename_i h1;simp at h;exact absurd h.2.2 h1
  ·rename_i h1
   have hq:aC b cpu l=((aC b cpu l).1,(aC b cpu l).2.1,0):=by rw [←show (aC b cpu l).2.2=0 by omega]
   generalize (aC b cpu l).1=e at hq h
   generalize (aC b cpu l).2.1=m at hq h
   split at h
   ·simp at h
   ·rename_i h2
    split at h
    ·rename_i h3;simp at h;exact absurd h.2.2 h3
    ·rename_i h3
     have hg:=qss eO hl hq
     have hr:qq cpu n e.at (some e) (l.drop m)=((qq cpu n e.at (some e) (l.drop m)).1,(qq cpu n e.at (some e) (l.drop m)).2.1,0):=by rw [←show (qq cpu n e.at (some e) (l.drop m)).2.2=0 by omega]
     generalize (qq cpu n e.at (some e) (l.drop m)).1=fs at hr h
     generalize (qq cpu n e.at (some e) (l.drop m)).2.1=v at hr h
     simp only [Prod.mk.injEq] at h
     obtain ⟨rfl,rfl,_⟩:=h
     obtain ⟨g1,g2,g3,g4,g5,g6⟩:=WL eO n e.at (some e) (l.drop m) fs v (fun x hx=>hl x (List.mem_of_mem_drop hx)) (fun q hq=>by injection hq with hq;subst hq;exact ⟨rfl,hg.cpu⟩) hr
     rw [List.length_drop] at g3
     refine ⟨by simp [g1],?_,by have:=hg.len;omega,fun i=>?_,?_,by simpa using hg.behind⟩
     ·rw [recs,g2,hg.bytes,List.take_add]
     ·rw [di, if_neg (by simp [hg.check]), if_neg]
      ·exact g4 (i+1)
      ·cases p with
       |none=>simp
       | some q =>
        obtain ⟨rfl,hc⟩:=hp q rfl
        have hb:=hg.behind
        unfold Bs.behind Ev.at at hb
        simp only [decide_eq_true_eq] at hb
        simp at h2
        have Qf:e.after q=true:=by
         unfold Ev.after
         rw [decide_eq_true_eq]
         exact ⟨by rw [hg.cpu,hc],by omega,hb.2⟩
        simp [Qf]
     ·intro x hx
      rcases List.mem_cons.1 hx with rfl|hx
      ·exact ⟨hg.ok,hg.cpu⟩
      ·exact g5 x hx
theorem Qg {b:Bs} {cpu:Nat} (eO:cpu<256) {m:Int} {l:List Nat} {es:List Ev} {u:Nat} (hl:∀x∈l,x<256) (h:gQ b cpu m l=(es,u,0)):
  (es.length:Int)=m∧za b es=0∧zf b es=l.take u∧u≤l.length∧(∀e∈es,e.Ok∧e.cpu=cpu):=by
 unfold gQ at h
 split at h
 ·simp at h
 ·split at h
  ·simp at h
  ·rename_i h1 h2
   obtain ⟨g1,g2,g3,g4,g5,g6⟩:=WL eO m.toNat b none l es u hl (fun q hq=>by cases hq) h
   have he:za b es=0:=by
    unfold za bH
    rw [if_neg (by simp [g4 0]),if_pos ⟨by simpa using h2,g6⟩]
   refine ⟨by omega,he,?_,g3,g5⟩
   unfold zf
   rw [if_pos he,g2]
end Go.Proofs.YtieeckeaijdaeaaGreatDoor
