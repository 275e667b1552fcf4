/- A part of the proof. -/
import Derived.Test.YtekiimhdnigmcaaGreatDoorQsFields
namespace Go.Proofs.YtekiimhdnigmcaaGreatDoor
open Go.RowKit
def Ev.zero:Ev:=⟨0,0,0,0,0,0,0,0,0,0,0⟩
def Ev.base (e:Ev):Ev:={Ev.zero with seq:=e.seq,time:=e.time,cpu:=e.cpu,kind:=e.kind}
def Ev.jf (e:Ev) (i:Nat) (v:Int) (m:Nat):Ev:=
 match i with
 |0=>{e with task:=v}
 |1=>{e with group:=v}
 |2=>{e with to:=v}
 |3=>{e with weight:=v}
 |4=>{e with ticks:=v}
 |5=>{e with mask:=m}
 |_=>{e with got:=v}
def Ev.put (e:Ev) (i x:Nat):Ev:=e.jf i (wrap64 (x:Int)) x
def Ev.fill (e:Ev) (l:List (Nat×Nat)):Ev:=l.foldl (fun e p=>e.put p.1 p.2) e
def Ev.made (e:Ev) (vs:List Nat):Ev:=e.base.fill ((aj e.kind).zip vs)
def Ev.aD (e:Ev) (vs:List Nat):Nat:=
 if e.kind=0∨10<e.kind then 60 else if vs.length≠(aj e.kind).length then 2 else if (e.made vs).check≠0 then 61 else 0
def Ev.aP (e:Ev) (vs:List Nat):Ev:=if e.aD vs=0 then e.made vs else Ev.zero
theorem qvv (e:Ev) (i x:Nat) (hi:i<7):e.cells.setIfInBounds (4+i) (Ev.BS i x)=(e.put i x).cells:=by
 obtain rfl|rfl|rfl|rfl|rfl|rfl|rfl:i=0∨i=1∨i=2∨i=3∨i=4∨i=6∨i=5:=by omega
 all_goals simp [Ev.cells,Ev.put,Ev.jf,Ev.BS,Array.setIfInBounds]
theorem BU (x:Int):aM (wrap64 x):=by unfold aM;rw [←IntWalk.i64_left,IntKind.wrap_i64];omega
theorem q51 {e:Ev} (h:e.Ok) (i x:Nat) (hx:x<18446744073709551616):(e.put i x).Ok:=by
 unfold Ev.put Ev.jf
 split
 ·exact {h with task:=BU _}
 ·exact {h with group:=BU _}
 ·exact {h with to:=BU _}
 ·exact {h with weight:=BU _}
 ·exact {h with ticks:=BU _}
 ·exact {h with mask:=hx}
 ·exact {h with got:=BU _}
theorem qz:aM 0:=⟨by omega,by omega⟩
theorem H8 {e:Ev} (h:e.Ok):e.base.Ok:=⟨h.seq,h.time,h.cpu,h.kind,qz,qz,qz,qz,qz,by show 0<18446744073709551616;omega,qz⟩
theorem DC {e:Ev} (h:e.Ok):∀(l:List (Nat×Nat)),(∀p∈l,p.2<18446744073709551616)→(e.fill l).Ok
 |[],_=>h
 |p::l,hl=>DC (q51 h p.1 p.2 (hl p (by simp))) l (fun q hq=>hl q (by simp [hq]))
def aX (w:World) (b:Nat) (e:Ev):Prop:=w.heap[b]?=some (.cells e.cells 73 (0,0))
theorem aX.at {w:World} {b:Nat} {e:Ev} (h:aX w b e):eu w b e:=by
 unfold aX at h
 constructor<;>(unfold World.cell?;rw [h];rfl)
theorem aX.frozen {w:World} {b:Nat} {e:Ev} (h:aX w b e) (o:Nat):w.frozen? ⟨b,o,none⟩=false:=by
 unfold aX at h;unfold World.frozen?;rw [h];simp
theorem aX.put {w:World} {b:Nat} {e:Ev} (h:aX w b e) (i x:Nat) (hi:i<7):aX (w.setCell ⟨b,4+i,none⟩ (Ev.BS i x)) b (e.put i x):=by
 unfold aX at h⊢
 rw [←qvv e i x hi]
 simp [World.setCell,Array.getElem?_modify,h]
theorem aX.bJ {w:World} {b:Nat} {e:Ev} (h:aX w b e) (i:Nat) (hi:i<7):∃u,w.cell? ⟨b,4+i,none⟩=some u:=by
 unfold aX at h
 refine ⟨e.cells[4+i]'(by show 4+i<11;omega),?_⟩
 unfold World.cell?;rw [h]
 exact Array.getElem?_eq_getElem _
def Lj (e:Ev) (vs:List Nat) (b:Nat) (W1:World) (ok i:Value) (wr:World):Prop:=
 ∃k,k≤(aj e.kind).length∧i= .int .i64 (k:Int)∧ok= .bool ((((aj e.kind).zip vs).take k).all fun p=>Ev.fits p.1 p.2)∧aX wr b (e.base.fill (((aj e.kind).zip vs).take k))∧Below b W1 wr
structure dI (w:World) (e:Ev) (err:Nat) (r:Ending) (w':World):Prop where
 ret:r= .returned (.tuple #[.agg e.cells,.int .i64 (err:Int)])
 below:Below w.heap.size w w'
set_option maxRecDepth 100000 in
set_option maxHeartbeats 1000000 in
theorem q0h (e:Ev) (V:Value) (w:World) (hk:e.kind=0∨10<e.kind):
  Calls Tryz.prog 319 #[.agg e.cells,V] w (dI w Ev.zero 60):=by
 have c3:e.cells[3]?=some (.int .u8 (e.kind:Int)):=rfl
 generalize e.cells=cs at c3⊢
 have hk':(e.kind:Int)=0∨10<(e.kind:Int):=by omega
 clear hk
 rcases Decidable.em ((e.kind:Int)=0) with hk0|hk0
 ·have hkb:((e.kind:Int)==0)=true:=by rw [beq_iff_eq];omega
  clear hk' hk0
  go_enter Tryz.func319,Tryz.ntmps319
  go_wp2
  refine bodyPost_ret (v:= .tuple #[.agg Ev.zero.cells,.int .i64 60]) ?_ rfl ⟨rfl,((Below.refl _ _).alloc (Nat.le_refl _) _).alloc (by simp) _⟩
  simp [results,Tryz.results319,go_sem,Ev.cells,Ev.zero]
 ·have hkb:((e.kind:Int)==0)=false:=by rw [beq_eq_false_iff_ne];omega
  have hkl:10<(e.kind:Int):=by omega
  clear hk' hk0
  go_enter Tryz.func319,Tryz.ntmps319
  go_wp2
  refine bodyPost_ret (v:= .tuple #[.agg Ev.zero.cells,.int .i64 60]) ?_ rfl ⟨rfl,((Below.refl _ _).alloc (Nat.le_refl _) _).alloc (by simp) _⟩
  simp [results,Tryz.results319,go_sem,Ev.cells,Ev.zero]
set_option maxRecDepth 100000 in
set_option maxHeartbeats 1000000 in
theorem q0i (e:Ev) (A:Option Addr) (n c B:Nat) (w:World) (hL:Laid B w) (hB:B≤w.heap.size) (hk:¬(e.kind=0∨10<e.kind)) (hn:n≠(aj e.kind).length):
  Calls Tryz.prog 319 #[.agg e.cells,.slice A n c] w (dI w Ev.zero 2):=by
 have c3:e.cells[3]?=some (.int .u8 (e.kind:Int)):=rfl
 generalize e.cells=cs at c3⊢
 have hkb:((e.kind:Int)==0)=false:=by rw [beq_eq_false_iff_ne];omega
 have hkl:(e.kind:Int)≤10:=by omega
 obtain ⟨A1,c1,hu,kZ⟩:=hL.uses e.kind (by omega)
 have hg:2<w.heap.size:=Nat.lt_of_lt_of_le hL.big hB
 have hnb:((n:Int) !=((aj e.kind).length:Int))=true:=by rw [bne_iff_ne];omega
 clear hk hn kZ
 have hcc:∀o1 o2,((w.alloc o1).alloc o2).cell? ⟨2,e.kind,none⟩=some (.slice A1 (aj e.kind).length c1):=fun o1 o2=>by
  rw [World.cell?_alloc_lt _ _ _ (by show 2<(w.alloc o1).heap.size;simp only [World.size_alloc];omega),World.cell?_alloc_lt _ _ _ hg];exact hu
 have hg2:¬2=w.heap.size:=by omega
 have hg3:¬2=w.heap.size+1:=by omega
 go_enter Tryz.func319,Tryz.ntmps319
 go_wp2
 refine bodyPost_ret (v:= .tuple #[.agg Ev.zero.cells,.int .i64 2]) ?_ rfl ⟨rfl,((Below.refl _ _).alloc (Nat.le_refl _) _).alloc (by simp) _⟩
 simp [results,Tryz.results319,go_sem,Ev.cells,Ev.zero]
theorem Ll (e:Ev) (l:List (Nat×Nat)) (p:Nat×Nat):e.fill (l++[p])=(e.fill l).put p.1 p.2:=by unfold Ev.fill;rw [List.foldl_append];rfl
theorem aX.new (w:World) (e:Ev):aX (w.alloc (.cells e.cells 73)) w.heap.size e:=World.alloc_heap_new w _
theorem aX.below {w w':World} {b B:Nat} {e:Ev} (h:aX w b e) (hb:Below B w w') (hlt:b<B):aX w' b e:=(hb.block b hlt).trans h
theorem aX.lt {w:World} {b:Nat} {e:Ev} (h:aX w b e):b<w.heap.size:=kQ h
def jq (w:World) (b:Nat) (e':Ev):World:=
 (((((((((((w.setCell ⟨b,0,none⟩ (.int .i64 e'.seq)).setCell ⟨b,1,none⟩ (.int .i64 e'.time)).setCell ⟨b,2,none⟩ (.int .u8 (e'.cpu:Int))).setCell ⟨b,3,none⟩ (.int .u8 (e'.kind:Int))).setCell ⟨b,4,none⟩ (.int .i64 e'.task)).setCell ⟨b,5,none⟩ (.int .i64 e'.group)).setCell ⟨b,6,none⟩ (.int .i64 e'.to)).setCell ⟨b,7,none⟩ (.int .i64 e'.weight)).setCell ⟨b,8,none⟩ (.int .i64 e'.ticks)).setCell ⟨b,9,none⟩ (.int .u64 (e'.mask:Int))).setCell ⟨b,10,none⟩ (.int .i64 e'.got))
theorem aX.storeAll {w:World} {b:Nat} {e:Ev} (h:aX w b e) (e':Ev):aX (jq w b e') b e':=by
 unfold aX at h⊢
 unfold jq
 simp [World.setCell,Array.getElem?_modify,h,Ev.cells]
theorem Lm {B:Nat} {a w:World} {b:Nat} (h:Below B a w) (hb:B≤b) (e':Ev):Below B a (jq w b e'):=by
 unfold jq
 exact ((((((((((h.setCell (p:=⟨b,0,none⟩) hb _).setCell (p:=⟨b,1,none⟩) hb _).setCell (p:=⟨b,2,none⟩) hb _).setCell (p:=⟨b,3,none⟩) hb _).setCell (p:=⟨b,4,none⟩) hb _).setCell (p:=⟨b,5,none⟩) hb _).setCell (p:=⟨b,6,none⟩) hb _).setCell (p:=⟨b,7,none⟩) hb _).setCell (p:=⟨b,8,none⟩) hb _).setCell (p:=⟨b,9,none⟩) hb _).setCell (p:=⟨b,10,none⟩) hb _
theorem Lp {P:Program} {fn:Func} {t u:Tmp} {ty:TypeId} {tmps:Array Value} {w:World} {b:Nat} {e:Ev} (h:fn.results= #[.cell t ty,.tmp u]) (ht:tmps.getD t undef= .pointer (some ⟨b,0,none⟩))
  (hagg:(isAgg ty).run P w= .ok true w) (hsz:(sizeOf ty).run P w= .ok 11 w) (hE:eu w b e):(results fn tmps).run P w= .ok (.tuple #[.agg e.cells,tmps.getD u undef]) w:=by
 obtain ⟨h0,h1,h2,h3,h4,h5,h6,h7,h8,h9,h10⟩:=hE
 simp at ht
 simp [results,h,ht,hagg,hsz,go_sem,h0,h1,h2,h3,h4,h5,h6,h7,h8,h9,h10,Ev.cells]
end Go.Proofs.YtekiimhdnigmcaaGreatDoor
