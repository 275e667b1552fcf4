/- A part of the proof. -/
import Derived.Test.YtekiimhdnigmcaaGreatDoorQsCodS
namespace Go.Proofs.YtekiimhdnigmcaaGreatDoor
open Go.RowKit
theorem Uo:∀(l:List Nat) (i acc x m:Nat),(∀b∈l,b<256)→i≤9→jg i acc l=(x,m,0)→
  ∃y,x=acc+y*128^i∧(gq (10-i) y).map gW=l.take (m-i)∧i<m∧(0<i→0<y)
 |[],i,acc,x,m,_,_,h=>by simp [jg] at h
 | b :: r, i, acc, x, m, hl, hi, h => by
  have hb:=hl b (by simp)
  rw [jg] at h
  split at h
  ·simp at h
  ·rename_i h9
   split at h
   ·simp at h
   ·rename_i h0
    split at h
    ·rename_i h128
     simp only [Prod.mk.injEq] at h
     obtain ⟨rfl,rfl,_⟩:=h
     refine ⟨b,rfl,?_,by omega,fun _=>by omega⟩
     obtain ⟨f,hf⟩:∃f,10-i=f+1:=⟨9-i,by omega⟩
     rw [hf,wH f b h128,show i+1-i=1 by omega]
     rfl
    ·rename_i h128
     obtain ⟨y,h1,h2,h3,h4⟩:=Uo r (i+1) _ x m (fun b hb=>hl b (by simp [hb])) (by omega) h
     have hy:=h4 (by omega)
     refine ⟨(b-128)+128*y,?_,?_,by omega,fun _=>by omega⟩
     ·rw [h1,Nat.pow_succ,Nat.add_mul]
      have:y*(128^i*128)=128*y*128^i:=by rw [Nat.mul_comm (128^i) 128,←Nat.mul_assoc,Nat.mul_comm y 128]
      omega
     ·obtain ⟨f,hf⟩:∃f,10-i=f+1:=⟨9-i,by omega⟩
      rw [hf,uN f _ (by omega),show ((b-128)+128*y)%128=b-128 by omega,show ((b-128)+128*y)/128=y by omega]
      rw [show f=10- (i+1) by omega,List.map_cons,h2]
      obtain ⟨k,hk⟩:∃k,m-i=k+1:=⟨m-i-1,by omega⟩
      rw [hk,List.take_succ_cons,show m- (i+1)=k by omega]
      congr 1
      show b-128+128=b
      omega
theorem MP {l:List Nat} {x m:Nat} (hl:∀b∈l,b<256) (h:av l=(x,m,0)):ak x=l.take m:=by
 obtain ⟨y,h1,h2,h3,_⟩:=Uo l 0 0 x m hl (by omega) h
 have:x=y:=by simpa using h1
 subst this
 simpa [ak] using h2
theorem Uq:∀(j:Nat) (l xs:List Nat) (u:Nat),(∀b∈l,b<256)→aH j l=(xs,u,0)→xs.flatMap ak=l.take u∧xs.length=j∧(∀x∈xs,x<18446744073709551616)∧u≤l.length
 |0,l,xs,u,_,h=>by
  simp only [aH,Prod.mk.injEq] at h
  obtain ⟨rfl,rfl,_⟩:=h
  simp
 | j + 1, l, xs, u, hl, h => by
  have hvl:=uw l
  have hvb:=Ib l hl
  rw [aH] at h
  split at h
  ·rename_i h1;simp at h;exact absurd h.2.2 h1
  ·rename_i h1
   split at h
   ·rename_i h2;simp at h;exact absurd h.2.2 h2
   ·rename_i h2
    have hv:av l=((av l).1,(av l).2.1,0):=by rw [←show (av l).2.2=0 by omega]
    generalize (av l).1=x at hv h hvb
    generalize (av l).2.1=m at hv h hvl
    have hq:aH j (l.drop m)=((aH j (l.drop m)).1,(aH j (l.drop m)).2.1,0):=by
     rw [hv] at h2
     rw [←show (aH j (l.drop m)).2.2=0 by simpa using h2]
    generalize (aH j (l.drop m)).1=ys at hq h
    generalize (aH j (l.drop m)).2.1=n at hq h
    simp only [Prod.mk.injEq] at h
    obtain ⟨rfl,rfl,_⟩:=h
    obtain ⟨g1,g2,g3,g4⟩:=Uq j (l.drop m) ys n (fun b hb=>hl b (List.mem_of_mem_drop hb)) hq
    rw [List.length_drop] at g4
    refine ⟨?_,by simp [g2],?_,by omega⟩
    ·rw [List.flatMap_cons,g1,MP hl hv,List.take_add]
    ·intro z hz
     rcases List.mem_cons.1 hz with rfl|hz
     ·exact hvb
     ·exact g3 z hz
theorem MQ {e:Ev}:∀{i:Nat},i<7→i≠5→e.within i=true→e.bJ i≤4294967295
 |0,_,_,h=>by simp only [Ev.within,decide_eq_true_eq] at h;show e.task≤_;omega
 |1,_,_,h=>by simp only [Ev.within,decide_eq_true_eq] at h;show e.group≤_;omega
 |2,_,_,h=>by simp only [Ev.within,decide_eq_true_eq] at h;show e.to≤_;omega
 |3,_,_,h=>by simp only [Ev.within,decide_eq_true_eq] at h;show e.weight≤_;omega
 |4,_,_,h=>by simp only [Ev.within,decide_eq_true_eq] at h;show e.ticks≤_;omega
 |5,_,h5,_=>absurd rfl h5
 |n+6,_,_,h=>by simp only [Ev.within,decide_eq_true_eq] at h;show e.got≤_;omega
theorem qw9 {x:Nat} (h2:x<18446744073709551616) (h0:0≤wrap64 (x:Int)) (h1:wrap64 (x:Int)≤4294967295):(wrap64 (x:Int)).toNat=x:=by
 rw [←IntWalk.i64_left,IntKind.wrap_i64] at*;omega
theorem q1k (o:Ev) (i x:Nat) (hi:i<7):(o.put i x).mask=if i=5 then x else o.mask:=by
 obtain rfl|rfl|rfl|rfl|rfl|rfl|rfl:i=0∨i=1∨i=2∨i=3∨i=4∨i=5∨i=6:=by omega
 all_goals rfl
theorem MR (x:Nat):∀(l:List (Nat×Nat)) (o:Ev),(∀p∈l,p.1<7)→(l.map (·.1)).Nodup→(5,x)∈l→(o.fill l).mask=x
 |[],_,_,_,h=>by simp at h
 | p :: l, o, h7, hd, h => by
  rw [List.map_cons,List.nodup_cons] at hd
  rcases List.mem_cons.1 h with rfl|h
  ·have h2:=H9 5 (by omega) l (o.put 5 x) (fun q hq=>⟨h7 q (by simp [hq]),fun e=>hd.1 (by rw [←e];exact List.mem_map.2 ⟨q,hq,rfl⟩)⟩)
   have h3:((o.fill ((5,x)::l)).mask:Int)=((o.put 5 x).mask:Int):=h2
   rw [q1k o 5 x (by omega),if_pos rfl] at h3
   omega
  ·exact MR x l (o.put p.1 p.2) (fun q hq=>h7 q (by simp [hq])) hd.2 h
theorem qxa {e:Ev} {vs:List Nat} (hn:vs.length=(aj e.kind).length) (hv:∀x∈vs,x<18446744073709551616) (hc:(e.made vs).check=0):(e.made vs).vals=vs:=by
 have hk:=(BX e vs).1
 have hw:=(nu hc).2.1
 rw [hk,List.all_eq_true] at hw
 have hkeys:∀p∈(aj e.kind).zip vs,p.1<7:=fun p hp=>oG _ _ (List.of_mem_zip hp).1
 have hnd:(((aj e.kind).zip vs).map (·.1)).Nodup:=by rw [List.map_fst_zip (by omega)];exact Ia _
 have hall:∀p∈(aj e.kind).zip vs,((e.made vs).bJ p.1).toNat=p.2:=by
  rintro ⟨i,x⟩ hm
  have hi:=(List.of_mem_zip hm).1
  by_cases h5:i=5
  ·subst h5
   have:=MR x _ e.base hkeys hnd hm
   show ((e.made vs).mask:Int).toNat=x
   unfold Ev.made;rw [this];simp
  ·have h1:(e.made vs).bJ i=wrap64 (x:Int):=DT i x h5 _ _ hkeys hnd hm
   have h0:=zp (hw i hi)
   have h2:=MQ (oG _ _ hi) h5 (hw i hi)
   rw [h1] at h0 h2
   show ((e.made vs).bJ i).toNat=x
   rw [h1]
   exact qw9 (hv x (List.of_mem_zip hm).2) h0 h2
 unfold Ev.vals
 rw [hk]
 have h1:(aj e.kind).map (fun i=>((e.made vs).bJ i).toNat)=((aj e.kind).zip vs).map (fun p=>((e.made vs).bJ p.1).toNat):=by
  conv=>lhs;rw [←List.map_fst_zip (l₁:=aj e.kind) (l₂:=vs) (by omega),List.map_map]
  rfl
 rw [h1,List.map_congr_left hall,List.map_snd_zip (by omega)]
structure rO (b:Bs) (cpu:Nat) (l:List Nat) (e:Ev) (u:Nat):Prop where
 right:b.right=true
 bytes:qq b e=l.take u
 check:e.check=0
 cpu:e.cpu=cpu
 behind:b.behind e=true
 ok:e.Ok
 len:u≤l.length
theorem qt0 {b : Bs} {cpu : Nat} (bA : cpu < 256) {l : List Nat} {e : Ev} {u : Nat} (hl : ∀ b ∈ l, b < 256) (h : aG b cpu l = (e, u, 0)) : rO b cpu l e u := by
 unfold aG at h
 split at h
 ·simp at h
 ·rename_i hr
  split at h
  ·simp at h
  ·rename_i hne
   split at h
   ·simp at h
   ·obtain ⟨kd,r,rfl⟩:∃kd r,l=kd::r:=by
     cases l with
     |nil=>exact absurd rfl hne
     |cons a b=>exact ⟨a,b,rfl⟩
    rw [List.getD_cons_zero,List.drop_succ_cons,List.drop_zero] at h
    have hrr:b.right=true:=by simpa using hr
    have hkd:=hl kd (by simp)
    unfold j5 at h
    split at h
    ·rename_i h1;simp at h;exact absurd h.2.2 h1
    ·rename_i h1
     have hq:aH (2+(aj kd).length) r=((aH (2+(aj kd).length) r).1,(aH (2+(aj kd).length) r).2.1,0):=by rw [←show (aH (2+(aj kd).length) r).2.2=0 by omega]
     obtain ⟨xs,hxs⟩:∃xs,(aH (2+(aj kd).length) r).1=xs:=⟨_,rfl⟩
     obtain ⟨n,hn⟩:∃n,(aH (2+(aj kd).length) r).2.1=n:=⟨_,rfl⟩
     rw [hxs,hn] at hq h
     obtain ⟨g1,g2,g3,g4⟩:=Uq _ r xs n (fun b hb=>hl b (by simp [hb])) hq
     obtain ⟨x0,x1,vs,rfl⟩:∃x0 x1 vs,xs=x0::x1::vs:=by
      match xs,g2 with
      |x0::x1::vs,_=>exact ⟨x0,x1,vs,rfl⟩
      |[_],h=>simp at h;omega
      |[],h=>simp at h;omega
     simp only [List.getD_cons_zero,List.getD_cons_succ,List.drop_succ_cons,List.drop_zero] at h
     split at h
     ·simp at h
     ·rename_i h2
      split at h
      ·simp at h
      ·rename_i h3
       simp only [Prod.mk.injEq] at h
       obtain ⟨rfl,rfl,_⟩:=h
       have hvl:vs.length=(aj kd).length:=by simp at g2;omega
       have hE:(b.ev cpu kd x0 x1).aD vs=0:=by omega
       have hck:((b.ev cpu kd x0 x1).made vs).check=0:=by
        unfold Ev.aD at hE
        split at hE
        ·cases hE
        ·split at hE
         ·cases hE
         ·split at hE
          ·cases hE
          ·rename_i h;simpa using h
       have hmk:=BX (b.ev cpu kd x0 x1) vs
       have EH:=qxa (e:=b.ev cpu kd x0 x1) (vs:=vs) hvl (fun x hx=>g3 x (by simp [hx])) hck
       have hqr:=hrr
       unfold Bs.right at hqr
       simp only [decide_eq_true_eq] at hqr
       have MS:(b.ev cpu kd x0 x1).Ok:=⟨⟨by show _≤b.seq+(x0:Int);omega,by show b.seq+(x0:Int)≤_;omega⟩,⟨by show _≤b.time+(x1:Int);omega,by show b.time+(x1:Int)≤_;omega⟩,bA,hkd,qz,qz,qz,qz,qz,by show 0<18446744073709551616;omega,qz⟩
       refine ⟨hrr,?_,hck,hmk.2.2.2,?_,DC (H8 MS) _ (fun p hp=>g3 p.2 (by have:=(List.of_mem_zip hp).2;simp [this])),by simp;omega⟩
       ·unfold qq pz
        rw [hmk.1,hmk.2.1,hmk.2.2.1,EH]
        rw [show ((b.ev cpu kd x0 x1).seq-b.seq).toNat=x0 by show (b.seq+(x0:Int)-b.seq).toNat=x0;omega,show ((b.ev cpu kd x0 x1).time-b.time).toNat=x1 by show (b.time+(x1:Int)-b.time).toNat=x1;omega]
        rw [g1,Nat.add_comm 1 n,List.take_succ_cons]
        rfl
       ·unfold Bs.behind
        rw [hmk.2.1,hmk.2.2.1]
        simp only [decide_eq_true_eq]
        show b.seq≤b.seq+(x0:Int)∧b.time≤b.time+(x1:Int)
        omega
theorem qxb (p:Option Ev) (i:Nat):bW p i []=(-1,0):=rfl
theorem Ur {cpu : Nat} (bA : cpu < 256) : ∀ (n : Nat) (b : Bs) (p : Option Ev) (l : List Nat) (es : List Ev) (u : Nat), (∀ x ∈ l, x < 256) → (∀ q, p = some q → b = q.at ∧ q.cpu = cpu) → qj cpu n b p l = (es, u, 0) →
  es.length=n∧recs b es=l.take u∧u≤l.length∧(∀i,(bW p i es).2=0)∧(∀e∈es,e.Ok∧e.cpu=cpu)∧es.head?.all b.behind=true
 |0,b,p,l,es,u,_,_,h=>by
  simp only [qj,Prod.mk.injEq] at h
  obtain ⟨rfl,rfl,_⟩:=h
  simp [recs,qxb]
 | n + 1, b, p, l, es, u, hl, hp, h => by
  rw [qj] at h
  split at h
  ·rename_i h1;simp at h;exact absurd h.2.2 h1
  ·rename_i h1
   have hq:aG b cpu l=((aG b cpu l).1,(aG b cpu l).2.1,0):=by rw [←show (aG b cpu l).2.2=0 by omega]
   generalize (aG b cpu l).1=e at hq h
   generalize (aG b cpu l).2.1=m at hq h
   split at h
   ·simp at h
   ·rename_i h2
    split at h
    ·rename_i h3;simp at h;exact absurd h.2.2 h3
    ·rename_i h3
     have hg:=qt0 bA hl hq
     have hr:qj cpu n e.at (some e) (l.drop m)=((qj cpu n e.at (some e) (l.drop m)).1,(qj cpu n e.at (some e) (l.drop m)).2.1,0):=by rw [←show (qj cpu n e.at (some e) (l.drop m)).2.2=0 by omega]
     generalize (qj cpu n e.at (some e) (l.drop m)).1=fs at hr h
     generalize (qj cpu n e.at (some e) (l.drop m)).2.1=v at hr h
     simp only [Prod.mk.injEq] at h
     obtain ⟨rfl,rfl,_⟩:=h
     obtain ⟨g1,g2,g3,g4,g5,g6⟩:=Ur bA n e.at (some e) (l.drop m) fs v (fun x hx=>hl x (List.mem_of_mem_drop hx)) (fun q hq=>by injection hq with hq;subst hq;exact ⟨rfl,hg.cpu⟩) hr
     rw [List.length_drop] at g3
     refine ⟨by simp [g1],?_,by have:=hg.len;omega,fun i=>?_,?_,by simpa using hg.behind⟩
     ·rw [recs,g2,hg.bytes,List.take_add]
     ·rw [bW, if_neg (by simp [hg.check]), if_neg]
      ·exact g4 (i+1)
      ·cases p with
       |none=>simp
       | some q =>
        obtain ⟨rfl,hc⟩:=hp q rfl
        have hb:=hg.behind
        unfold Bs.behind Ev.at at hb
        simp only [decide_eq_true_eq] at hb
        simp at h2
        have MU:e.after q=true:=by
         unfold Ev.after
         rw [decide_eq_true_eq]
         exact ⟨by rw [hg.cpu,hc],by omega,hb.2⟩
        simp [MU]
     ·intro x hx
      rcases List.mem_cons.1 hx with rfl|hx
      ·exact ⟨hg.ok,hg.cpu⟩
      ·exact g5 x hx
theorem I5 {b:Bs} {cpu:Nat} (bA:cpu<256) {m:Int} {l:List Nat} {es:List Ev} {u:Nat} (hl:∀x∈l,x<256) (h:bq b cpu m l=(es,u,0)):
  (es.length:Int)=m∧qr b es=0∧zd b es=l.take u∧u≤l.length∧(∀e∈es,e.Ok∧e.cpu=cpu):=by
 unfold bq at h
 split at h
 ·simp at h
 ·split at h
  ·simp at h
  ·rename_i h1 h2
   obtain ⟨g1,g2,g3,g4,g5,g6⟩:=Ur bA m.toNat b none l es u hl (fun q hq=>by cases hq) h
   have he:qr b es=0:=by
    unfold qr bL
    rw [if_neg (by simp [g4 0]),if_pos ⟨by simpa using h2,g6⟩]
   refine ⟨by omega,he,?_,g3,g5⟩
   unfold zd
   rw [if_pos he,g2]
theorem qxc {b:Bs} {cpu:Nat} {m:Int} {l:List Nat} (h:(bq b cpu m l).2.2≠0):(bq b cpu m l).1=[]∧(bq b cpu m l).2.1=0:=by
 have hb : ∀ (j : Nat) (b : Bs) (p : Option Ev) (l : List Nat), (qj cpu j b p l).2.2 ≠ 0 → (qj cpu j b p l).1 = [] ∧ (qj cpu j b p l).2.1 = 0 := by
  intro j b p l h
  cases j with
  |zero=>exact absurd rfl h
  | succ j =>
   rw [qj] at h⊢
   split
   ·exact ⟨rfl,rfl⟩
   ·split
    ·exact ⟨rfl,rfl⟩
    ·split
     ·exact ⟨rfl,rfl⟩
     ·rename_i h1 h2 h3
      rw [if_neg h1,if_neg h2,if_neg h3] at h
      exact absurd rfl h
 unfold bq at h⊢
 split
 ·exact ⟨rfl,rfl⟩
 ·split
  ·exact ⟨rfl,rfl⟩
  ·rename_i h1 h2
   rw [if_neg h1,if_neg h2] at h
   exact hb _ _ _ _ h
end Go.Proofs.YtekiimhdnigmcaaGreatDoor
