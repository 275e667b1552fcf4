/- A part of the proof. -/
import Derived.Test.YtekiimhdnigmcaaGreatDoorRows
import Derived.Test.YtekiimhdnigmcaaGreatDoorQtBase
import Derived.WalkSpells
import Derived.WalkLawsBesides
import Derived.RangeFuncBound
import Derived.Shelf.Abstract
import Derived.Shelf.RegionOpen
import Derived.OwnWalkIn
import Derived.TacticsInMore
import Derived.LoopNIn
import Derived.LoopIn
namespace Go.Proofs.YtekiimhdnigmcaaGreatDoor
open Go.RowKit Go.Shelf
attribute [local go_sem] Oper.semAt_some
def gG:Nat→Nat→List (Nat×Bool)
 |0,_=>[]
 |f+1,x=>if x<128 then [(x,false)] else (x%128,true)::gG f (x/128)
def Db (p:Nat×Bool):Array Value:= #[.int .u8 (p.1:Int),.bool p.2]
theorem GR (f y:Nat) (h:y<128):gG (f+1) y=[(y,false)]:=by rw [gG,if_pos h]
theorem GU (f y:Nat) (h:128≤y):gG (f+1) y=(y%128,true)::gG f (y/128):=by rw [gG,if_neg (by omega)]
theorem zc5 (y:Nat) (h:y<18446744073709551616):bits .and .u64 (y:Int) 127=((y%128:Nat):Int):=by
 have:bits .and .u64 (y:Int) 127=_:=u64_and_nat y 127 h (by omega)
 rw [this,nat_mask7]
theorem zc6 (y:Nat) (h:y<256):((y:Nat):Int)%256=(y:Int):=by omega
set_option maxRecDepth 100000 in
set_option maxHeartbeats 400000 in
theorem qog (b x:Nat) (w0:World) (hx:x<18446744073709551616) (hc0:w0.cell? ⟨b,0,none⟩=some (.int .u64 (x:Int))) (hf0:w0.frozen? ⟨b,0,none⟩=false):
  Iter Tryz.prog 239 #[.pointer (some ⟨b,0,none⟩)] ((gG 10 x).map Db) [b] (fun k=>k=b) w0:=by
 intro l J Jx T w1 hb1 hJ hJx aiK hN hY h0
 have hlt:b<w0.heap.size:=World.block_lt_of_cell? w0 _ hc0
 refine callsIn_of_wp Tryz.func239 rfl trivial ?_ rfl
 simp only [Tryz.ntmps239,List.size_toArray,List.length_cons,List.length_nil,Nat.reduceAdd,Nat.reduceSub,Array.replicate_succ,Array.replicate_zero,List.push_toArray,List.append_toArray,List.nil_append,List.cons_append]
 gi_wp2
 gi_loopw [3] (fun _ wr=>∃k f y:Nat,(gG 10 x).drop k=gG f y∧y<128^f∧0<f∧y<18446744073709551616∧wr.cell? ⟨b,0,none⟩=some (.int .u64 (y:Int))∧wr.frozen? ⟨b,0,none⟩=false∧J k wr∧¬T wr b)
  (fun _ wr=>match wr.cell? ⟨b,0,none⟩ with|some (.int .u64 y)=>y.toNat|_=>0)
 case atStart=>
  refine ⟨0,10,x,rfl,by omega,by omega,hx,?_,?_,h0,hN b rfl⟩
  ·exact ((hb1.keep (B:=0) (by omega)).cell hc0 (by simp))
  ·exact ((hb1.keep (B:=0) (by omega)).frozen hc0 hf0 (by simp))
 case round=>
  obtain ⟨k,f,y,hd,hy,hf,UR,hcy,hfy,hj,hnt⟩:=hrel
  obtain ⟨f,rfl⟩:∃g,f=g+1:=⟨f-1,by omega⟩
  have e1:=zc5 y UR
  have e2:=zc6 (y%128) (by omega)
  by_cases hs:y<128
  ·have hs':(y:Int)<128:=by omega
   have e3:y%128=y:=by omega
   rw [GR f y hs] at hd
   obtain ⟨hk,hg,hr⟩:=R6 hd
   obtain ⟨fn,tmps,assign,body,hy1,hR⟩:=hY k (by simpa using hk) wr hj
   simp only [List.getElem_map,hg,Db] at hy1
   have Hr:=hide hr
   clear hr hd hg
   have hd1:decide ((127:Int)<(y:Int))=false:=by simp;omega
   gi_wp2
   refine ⟨rfl,hR.mono ?_⟩
   rintro e W3 ⟨hkp,(⟨rfl,hj3⟩|⟨rfl,hx3⟩)⟩
   ·have hc3:=hkp.cell hcy hnt
    gi_wp2
    go_end0
    refine ⟨⟨_,rfl⟩,.inl ?_⟩
    have h1:(gG 10 x).length=k+1:=by have:=List.drop_eq_nil_iff.1 Hr.out;omega
    simp only [List.length_map,h1];exact hj3
   ·gi_wp2
    go_end0
    exact ⟨⟨_,rfl⟩,.inr ⟨k+1,by omega,by simp;omega,hx3⟩⟩
  ·have hs':(128:Int)≤(y:Int):=by omega
   rw [GU f y (by omega)] at hd
   obtain ⟨hk,hg,hr⟩:=R6 hd
   obtain ⟨fn,tmps,assign,body,hy1,hR⟩:=hY k (by simpa using hk) wr hj
   simp only [List.getElem_map,hg,Db] at hy1
   push_cast at hy1
   have Hr:=hide hr
   clear hr hd hg
   have hd1:decide ((127:Int)<(y:Int))=true:=by simp;omega
   gi_wp2
   refine ⟨rfl,hR.mono ?_⟩
   rintro e W3 ⟨hkp,(⟨rfl,hj3⟩|⟨rfl,hx3⟩)⟩
   ·have hc3:=hkp.cell hcy hnt
    have hf3:=hkp.frozen hcy hfy hnt
    gi_wp2
    have hcs:(W3.setCell ⟨b,0,none⟩ (.int .u64 ((y:Int)/128))).cell? ⟨b,0,none⟩=some (.int .u64 ((y/128:Nat):Int)):=by
     rw [World.cell?_setCell_same _ _ _ hc3];simp
    have UU:y/128<128^f:=by rw [Nat.pow_succ] at hy;omega
    have hfp:0<f:=by
     rcases Nat.eq_zero_or_pos f with h|h
     ·subst h;simp at hy;omega
     ·exact h
    refine ⟨⟨k+1,f,y/128,Hr.out,UU,hfp,by omega,hcs,?_,(hJ _ _ _ hj3 ((gF.refl [b] W3).setCell (.inl (by simp)) _)).1,fun ht=>hkp.not (World.block_lt_of_cell? wr _ hcy) hnt ((hJ _ _ _ hj3 ((gF.refl [b] W3).setCell (.inl (by simp)) _)).2 _ ht)⟩,?_⟩
    ·rw [World.frozen?_setCell];exact hf3
    ·rw [hcs,hcy];simp;omega
   ·gi_wp2
    go_end0
    exact ⟨⟨_,rfl⟩,.inr ⟨k+1,by omega,by simp;omega,hx3⟩⟩
def j6 (p:Nat×Bool):Nat:=if p.2 then p.1+128 else p.1
def aj (x:Nat):List Nat:=(gG 10 x).map j6
theorem UW:∀(f x:Nat),∀p∈gG f x,p.1<128
 |0,_,p,h=>by simp [gG] at h
 | f + 1, x, p, h => by
  by_cases hx:x<128
  ·rw [GR f x hx] at h;simp at h;subst h;exact hx
  ·rw [GU f x (by omega)] at h
   simp at h
   rcases h with rfl|h
   ·show x%128<128;omega
   ·exact UW f _ p h
theorem R7:∀(f x:Nat),(gG f x).length≤f
 |0,_=>by simp [gG]
 |f+1,x=>by
  by_cases hx:x<128
  ·rw [GR f x hx];simp
  ·rw [GU f x (by omega)];simp;exact R7 f _
theorem Ms (y:Nat) (h:y<128):bits .or .u8 (y:Int) 128=((y+128:Nat):Int):=by
 have:bits .or .u8 (y:Int) 128=_:=u8_or_nat y 128 (by omega) (by omega)
 rw [this,Nat.or_comm,nat_join 7 128 y (by decide) (by omega)];omega
theorem qwf (x:Nat) (w:World):Calls Tryz.prog 168 #[.int .u64 (x:Int)] w fun e w'=>e= .returned (.func (.func 239) #[] #[.pointer (some ⟨w.heap.size,0,none⟩)])∧w'=w.alloc (.cells #[.int .u64 (x:Int)] 41):=by
 go_enter Tryz.func168,Tryz.ntmps168
 go_wp2
 go_ret
 exact ⟨rfl,rfl⟩
def Mt (w:World) (row:Option Nat) (g:Nat):Prop:=g≠w.heap.size∧g≠w.heap.size+1∧(row=some g∨w.heap.size≤g)
def UY (w:World) (row:Option Nat) (base n:Nat) (xs:List Value) (x k:Nat) (W:World):Prop:=
 ∃v',bY w.heap.size 30 base 5 1 (Mt w row) (n+k) (xs++((aj x).take k).map B8) W v'∧w.grownBy W row∧w.heap.size+2≤W.heap.size
def UZ (A:Option Addr) (w:World) (n c x k:Nat) (a':Act) (_:World):Prop:=
 ∃p,(gG 10 x)[k]?=some p∧a'={tmps:= #[.slice A n c,.int .u64 (x:Int),.pointer (some ⟨w.heap.size,0,none⟩),undef,.slice none 0 0,.int .u8 (p.1:Int),.bool p.2,.int .u64 (x:Int),.func (.func 239) #[] #[.pointer (some ⟨w.heap.size+1,0,none⟩)],.int .u8 (p.1:Int),.bool p.2,undef,undef,undef,undef,undef,undef,undef,undef],defers:=[]}
set_option maxRecDepth 100000 in
set_option maxHeartbeats 400000 in
theorem qyh (x:Nat) (w:World) (base:Nat) (v:Value) (n:Nat) (xs:List Value) (hx:x<18446744073709551616)
  (hown:w.ownsRow base 5 1 v n xs) (hbase:base≤w.heap.size) (hn:n+10≤140737488355328):
  Calls Tryz.prog 109 #[v,.int .u64 (x:Int)] w fun e w'=>∃v',e= .returned v'∧w'.ownsRow base 5 1 v' (n+(aj x).length) (xs++(aj x).map B8)∧w.grownBy w' v.ownBlock∧(v'.ownBlock=v.ownBlock∨∀g,v'.ownBlock=some g→w.heap.size≤g):=by
 obtain ⟨A,c,rfl⟩:=qtr hown
 refine callsIn_wide.1 (callsIn_of_wp_marks (n:=0) Tryz.func109 rfl trivial ?_ rfl)
 simp only [Tryz.ntmps109,List.size_toArray,List.length_cons,List.length_nil,Nat.reduceAdd,Nat.reduceSub,Array.replicate_succ,Array.replicate_zero,List.push_toArray,List.append_toArray,List.nil_append,List.cons_append]
 gi_wp2_with (refine ⟨trivial,rfl,?_⟩;refine (callsIn_wide.2 (qwf x _)).mono ?_;rintro e w' ⟨rfl,rfl⟩)
 obtain ⟨W0,hW0⟩:∃W0,W0=(w.alloc (.cells #[.slice A n c] 30)).alloc (.cells #[.int .u64 (x:Int)] 41):=⟨_,rfl⟩
 have hsz:W0.heap.size=w.heap.size+2:=by rw [hW0];simp
 have hlen:=R7 10 x
 have hrl:∀g,(Value.slice A n c).ownBlock=some g→g<w.heap.size:=fun g hg=>(hown.lt g hg).2
 have hbx:bY w.heap.size 30 base 5 1 (Mt w (Value.slice A n c).ownBlock) n xs W0 (.slice A n c):=by
  subst hW0
  exact ⟨(Below.heap_alloc _ _ _ (by simp)).trans (World.alloc_heap_new w _),(hown.alloc _).alloc _,fun g hg=>⟨by have:=hrl g hg;omega,by have:=hrl g hg;omega,.inl hg⟩⟩
 have hgr:w.grownBy W0 (Value.slice A n c).ownBlock:=by subst hW0;exact (World.grownBy_alloc w _ _).trans (World.grownBy_alloc _ _ _)
 have hxc:W0.cell? ⟨w.heap.size+1,0,none⟩=some (.int .u64 (x:Int)):=by subst hW0;have:=World.cell?_alloc_new (w.alloc (.cells #[.slice A n c] 30)) #[.int .u64 (x:Int)] 41 0;rw [World.size_alloc] at this;exact this
 have hxf:W0.frozen? ⟨w.heap.size+1,0,none⟩=false:=by subst hW0;have:=World.frozen?_alloc_new (w.alloc (.cells #[.slice A n c] 30)) #[.int .u64 (x:Int)] 41 0;rw [World.size_alloc] at this;exact this
 rw [←hW0]
 clear hW0
 refine q4v rfl (enters_of Tryz.func239 (by kernel_rfl) rfl) (qog (w.heap.size+1) x W0 hx hxc hxf) (by intro y hy;obtain ⟨p,_,rfl⟩:=List.mem_map.1 hy;rfl) (by simp [hsz])
  (xK w.heap.size 30) (UY w (Value.slice A n c).ownBlock base n xs x) (fun _ _ _=>False) ?hJ ?hJx ?hJ0 ?hJx0 ?hTd ?hN ?h0 (UZ A w n c x) ?hA ?hassign ?hbody ?hdone ?hstop
 case hJ=>
  rintro k W W' ⟨v',hb,hg,hs⟩ hk
  have h1:w.heap.size∉ [w.heap.size+1]:=by simp
  exact ⟨⟨v',hb.keep hk h1 (fun g h=>by simpa using h.2.1),Keep.grown hg hk (by omega) (by simp),Nat.le_trans hs hk.size⟩,hb.Mq hk h1⟩
 case hJx=>exact fun _ _ _ _ h _=>h.elim
 case hJ0=>rintro k W ⟨v',_,_,hs⟩;omega
 case hJx0=>exact fun _ _ _ h=>h.elim
 case hTd=>rintro k W b ⟨v',hb,_⟩ ht;exact hb.GQ b ht
 case hN=>
  rintro b rfl ht
  rcases (hbx.EM _).1 ht with h|h
  ·omega
  ·have:=hrl _ h;omega
 case h0=>exact ⟨_,by simpa using hbx,hgr,by omega⟩
 case hA=>exact fun _ _ _ _ h _=>h
 case hassign=>
  rintro l k hk W _
  simp only [List.getElem_map,Db]
  have hp:(gG 10 x)[k]?=some ((gG 10 x)[k]'(by simpa using hk)):=List.getElem?_eq_getElem _
  generalize (gG 10 x)[k]'(by simpa using hk)=p at hp
  gi_wp2
  exact ⟨gF.refl _ _,p,hp,rfl⟩
 case hbody=>
  rintro l k a' W hk hl hr ⟨p,hp,rfl⟩ ⟨v',hb,hg,hs⟩
  obtain ⟨A1,c1,rfl⟩:=qtr hb.row
  have hc:=hb.cell
  have hf:=hb.frozen
  have hkl:k<(gG 10 x).length:=by simpa using hk
  have hvl:k<(aj x).length:=by simpa [aj] using hkl
  have hv:(aj x)[k]?=some (j6 p):=by simp [aj,hp]
  have hpl:p.1<128:=UW 10 x p (List.mem_of_getElem? hp)
  have hW:=hb.lt
  have hne:(Value.slice A1 (n+k) c1).ownBlock≠some w.heap.size:=fun e=>(hb.good _ e).1 rfl
  obtain ⟨q,m⟩:=p
  have ho:=Ms q hpl
  have HX:=hide (R5 B8 hv)
  clear hp hr hv
  cases m
  all_goals
   gi_wp2_with (gi_at_builtin;refine qyf rfl rfl aL (hb.row.alloc _) rfl (Rd.one W _ _) rfl (by simp [Value.oneCell']) (by omega) (by omega) (by simp;omega) ?_;intro A2 c2 w1 hown1 pG xL;obtain ⟨hc1,hf1⟩:=hb.later ((gF.refl [] W).alloc _) pG hne)
   have hst:=hb.store ((gF.refl [] W).alloc _) pG hne hown1 xL (fun g hg=>⟨by omega,by omega,.inr (by omega)⟩)
   refine ⟨hst.2,.slice A2 (n+k+1) c2,?_,?_,?_⟩
   ·rw [←HX.out,←Nat.add_assoc,←List.append_assoc]
    exact hst.1
   ·refine hst.2.grown hg (fun b hb1 hb2=>?_)
    rcases (hb.EM b).1 hb1 with h|h
    ·omega
    ·rcases (hb.good _ h).2.2 with h3|h3
     ·exact .inl h3
     ·omega
   ·have:=hst.2.size;omega
 case hdone=>
  rintro D W hD ⟨v',hb,hg,hs⟩ hK
  have hc:=hb.cell
  have hkp:Keep W0.heap.size [] W (W.putObj D (.deferred none)):=Keep.putObj W _ hK rfl hD
  gi_wp2
  refine ⟨by simp,.inl ⟨_,_,rfl,run_takeDeferred hK,?_⟩⟩
  refine ⟨_,results_tmp rfl _ _ _,v',rfl,?_,Keep.grown hg hkp (by omega) (by simp),?_⟩
  ·have h1:=hkp.ownsRow hb.row (by simp)
   rw [List.take_of_length_le (by simp [aj])] at h1
   simpa [aj] using h1
  ·rcases h:v'.ownBlock with _|g
   ·exact .inr (fun g h=>by cases h)
   ·rcases (hb.good g h).2.2 with h1|h1
    ·exact .inl h1.symm
    ·exact .inr (fun g' h'=>by cases h';exact h1)
 case hstop=>exact fun _ _ _ _ _ _ _ h _=>h.elim
theorem qy (x:Nat):(aj x).length≤10:=by unfold aj;rw [List.length_map];exact R7 10 x
theorem q6 (ls:List Nat):(ls.flatMap aj).length≤10*ls.length:=by
 induction ls with
 |nil=>simp
 |cons x r ih=>have:=qy x;simp only [List.flatMap_cons,List.length_append,List.length_cons];omega
def zc7 (w:World) (ls:List Nat) (n:Nat) (v i:Value) (wr:World):Prop:=
 ∃k,k≤n∧i= .int .i64 (k:Int)∧wr.ownsRow w.heap.size 5 1 v ((ls.take k).flatMap aj).length (((ls.take k).flatMap aj).map B8)∧Below w.heap.size w wr
set_option maxHeartbeats 400000 in
theorem qoh (A:Option Addr) (n c:Nat) (ls:List Nat) (w:World) (hr:Rd w w.heap.size 1 A n (ls.map aR)) (hls:∀x∈ls,x<18446744073709551616) (hn:10*n≤140737488355000):
  Calls Tryz.prog 49 #[.slice A n c] w fun e w'=>∃v,e= .returned v∧w'.ownsRow w.heap.size 5 1 v (ls.flatMap aj).length ((ls.flatMap aj).map B8)∧Below w.heap.size w w':=by
 have hlen:ls.length=n:=by simpa using hr.len
 go_enter Tryz.func49,Tryz.ntmps49
 go_wp2
 go_loopw [3,8] (zc7 w ls n) (fun _ i _=>n- (intOf i).toNat)
 case atStart=>exact ⟨0,by omega,rfl,by simpa using World.ownsRow_nil _ _ _ _,Below.refl _ _⟩
 case round=>
  obtain ⟨k,hk,rfl,hown,hb⟩:=hrel
  by_cases hlt:k<n
  ·obtain ⟨ad,rfl,hbl,hl,hcell⟩:=(hr.below hb).at hlt
   have hx:=hls _ (List.getElem_mem (by omega:k<ls.length))
   simp only [List.getElem_map] at hcell
   have Z:=hide (qko aj (by omega:k<ls.length))
   have hfl:=q6 (ls.take k)
   rw [List.length_take] at hfl
   generalize ls[k]=x at hcell hx Z
   unfold aR at hcell
   go_wp2_with (go_at_call 109;refine (qyh x _ w.heap.size _ _ _ hx hown hb.size (by omega)).mono ?_;rintro e w1 ⟨v1,rfl,hown1,hg1,xL⟩)
   refine ⟨⟨k+1,by omega,by go_num,?_,hb.grown hg1 hb.size (fun g hg=>(hown.lt g hg).1)⟩,by simp [intOf];omega⟩
   rw [←Z.out,List.map_append,List.length_append]
   exact hown1
  ·obtain rfl:k=n:=by omega
   go_wp2
   go_ret
   refine ⟨_,rfl,?_,hb⟩
   rw [List.take_of_length_le (by omega)] at hown
   exact hown
end Go.Proofs.YtekiimhdnigmcaaGreatDoor
