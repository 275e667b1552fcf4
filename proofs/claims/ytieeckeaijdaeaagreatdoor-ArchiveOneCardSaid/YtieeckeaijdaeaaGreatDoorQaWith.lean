/- A part of the proof. -/
import Derived.Test.YtieeckeaijdaeaaGreatDoorQaFields
namespace Go.Proofs.YtieeckeaijdaeaaGreatDoor
open Go.RowKit
def Ev.zero:Ev:=⟨0,0,0,0,0,0,0,0,0,0,0⟩
def Ev.base (e:Ev):Ev:={Ev.zero with seq:=e.seq,time:=e.time,cpu:=e.cpu,kind:=e.kind}
def Ev.rM (e:Ev) (i:Nat) (v:Int) (m:Nat):Ev:=
 match i with
 |0=>{e with bD:=v}
 |1=>{e with group:=v}
 |2=>{e with to:=v}
 |3=>{e with weight:=v}
 |4=>{e with aL:=v}
 |5=>{e with mask:=m}
 |_=>{e with got:=v}
def Ev.put (e:Ev) (i x:Nat):Ev:=e.rM i (wrap64 (x:Int)) x
def Ev.fill (e:Ev) (l:List (Nat×Nat)):Ev:=l.foldl (fun e p=>e.put p.1 p.2) e
def Ev.made (e:Ev) (vs:List Nat):Ev:=e.base.fill ((aa e.kind).zip vs)
def Ev.qw (e:Ev) (vs:List Nat):Nat:=
 if e.kind=0∨10<e.kind then 60 else if vs.length≠(aa e.kind).length then 2 else if (e.made vs).check≠0 then 61 else 0
def Ev.zj (e:Ev) (vs:List Nat):Ev:=if e.qw vs=0 then e.made vs else Ev.zero
theorem qud (e:Ev) (i x:Nat) (hi:i<7):e.cells.setIfInBounds (4+i) (Ev.Er i x)=(e.put i x).cells:=by
 obtain rfl|rfl|rfl|rfl|rfl|rfl|rfl:i=0∨i=1∨i=2∨i=3∨i=4∨i=6∨i=5:=by omega
 all_goals simp [Ev.cells,Ev.put,Ev.rM,Ev.Er,Array.setIfInBounds]
theorem Es (x:Int):bC (wrap64 x):=by unfold bC;rw [←IntWalk.i64_left,IntKind.wrap_i64];omega
theorem q6b {e:Ev} (h:e.Ok) (i x:Nat) (hx:x<18446744073709551616):(e.put i x).Ok:=by
 unfold Ev.put Ev.rM
 split
 ·exact {h with bD:=Es _}
 ·exact {h with group:=Es _}
 ·exact {h with to:=Es _}
 ·exact {h with weight:=Es _}
 ·exact {h with aL:=Es _}
 ·exact {h with mask:=hx}
 ·exact {h with got:=Es _}
theorem zo:bC 0:=⟨by omega,by omega⟩
theorem LA {e:Ev} (h:e.Ok):e.base.Ok:=⟨h.seq,h.time,h.cpu,h.kind,zo,zo,zo,zo,zo,by show 0<18446744073709551616;omega,zo⟩
theorem FQ {e:Ev} (h:e.Ok):∀(l:List (Nat×Nat)),(∀p∈l,p.2<18446744073709551616)→(e.fill l).Ok
 |[],_=>h
 |p::l,hl=>FQ (q6b h p.1 p.2 (hl p (by simp))) l (fun q hq=>hl q (by simp [hq]))
def aO (w:World) (b:Nat) (e:Ev):Prop:=w.heap[b]?=some (.cells e.cells 32 (0,0))
theorem aO.at {w:World} {b:Nat} {e:Ev} (h:aO w b e):dN w b e:=by
 unfold aO at h
 constructor<;>(unfold World.cell?;rw [h];rfl)
theorem aO.frozen {w:World} {b:Nat} {e:Ev} (h:aO w b e) (o:Nat):w.frozen? ⟨b,o,none⟩=false:=by
 unfold aO at h;unfold World.frozen?;rw [h];simp
theorem aO.put {w:World} {b:Nat} {e:Ev} (h:aO w b e) (i x:Nat) (hi:i<7):aO (w.setCell ⟨b,4+i,none⟩ (Ev.Er i x)) b (e.put i x):=by
 unfold aO at h⊢
 rw [←qud e i x hi]
 simp [World.setCell,Array.getElem?_modify,h]
theorem aO.dK {w:World} {b:Nat} {e:Ev} (h:aO w b e) (i:Nat) (hi:i<7):∃u,w.cell? ⟨b,4+i,none⟩=some u:=by
 unfold aO at h
 refine ⟨e.cells[4+i]'(by show 4+i<11;omega),?_⟩
 unfold World.cell?;rw [h]
 exact Array.getElem?_eq_getElem _
def Oq (e:Ev) (vs:List Nat) (b:Nat) (W1:World) (ok i:Value) (wr:World):Prop:=
 ∃k,k≤(aa e.kind).length∧i= .int .i64 (k:Int)∧ok= .bool ((((aa e.kind).zip vs).take k).all fun p=>Ev.fits p.1 p.2)∧aO wr b (e.base.fill (((aa e.kind).zip vs).take k))∧Below b W1 wr
structure fu (w:World) (e:Ev) (err:Nat) (r:Ending) (w':World):Prop where
 ret:r= .returned (.tuple #[.agg e.cells,.int .i64 (err:Int)])
 below:Below w.heap.size w w'
set_option maxRecDepth 100000 in
set_option maxHeartbeats 1000000 in
theorem qy1 (e:Ev) (V:Value) (w:World) (hk:e.kind=0∨10<e.kind):
  Calls Tryz.prog 252 #[.agg e.cells,V] w (fu w Ev.zero 60):=by
 have c3:e.cells[3]?=some (.int .u8 (e.kind:Int)):=rfl
 generalize e.cells=cs at c3⊢
 have hk':(e.kind:Int)=0∨10<(e.kind:Int):=by omega
 clear hk
 rcases Decidable.em ((e.kind:Int)=0) with hk0|hk0
 ·have hkb:((e.kind:Int)==0)=true:=by rw [beq_iff_eq];omega
  clear hk' hk0
  go_enter Tryz.func252,Tryz.ntmps252
  go_wp2
  refine bodyPost_ret (v:= .tuple #[.agg Ev.zero.cells,.int .i64 60]) ?_ rfl ⟨rfl,((Below.refl _ _).alloc (Nat.le_refl _) _).alloc (by simp) _⟩
  simp [results,Tryz.results252,go_sem,Ev.cells,Ev.zero]
 ·have hkb:((e.kind:Int)==0)=false:=by rw [beq_eq_false_iff_ne];omega
  have hkl:10<(e.kind:Int):=by omega
  clear hk' hk0
  go_enter Tryz.func252,Tryz.ntmps252
  go_wp2
  refine bodyPost_ret (v:= .tuple #[.agg Ev.zero.cells,.int .i64 60]) ?_ rfl ⟨rfl,((Below.refl _ _).alloc (Nat.le_refl _) _).alloc (by simp) _⟩
  simp [results,Tryz.results252,go_sem,Ev.cells,Ev.zero]
set_option maxRecDepth 100000 in
set_option maxHeartbeats 1000000 in
theorem qy2 (e:Ev) (A:Option Addr) (n c B:Nat) (w:World) (hL:Laid B w) (hB:B≤w.heap.size) (hk:¬(e.kind=0∨10<e.kind)) (hn:n≠(aa e.kind).length):
  Calls Tryz.prog 252 #[.agg e.cells,.slice A n c] w (fu w Ev.zero 2):=by
 have c3:e.cells[3]?=some (.int .u8 (e.kind:Int)):=rfl
 generalize e.cells=cs at c3⊢
 have hkb:((e.kind:Int)==0)=false:=by rw [beq_eq_false_iff_ne];omega
 have hkl:(e.kind:Int)≤10:=by omega
 obtain ⟨A1,c1,hu,l7⟩:=hL.uses e.kind (by omega)
 have hg:1<w.heap.size:=Nat.lt_of_lt_of_le hL.big hB
 have hnb:((n:Int) !=((aa e.kind).length:Int))=true:=by rw [bne_iff_ne];omega
 clear hk hn l7
 have hcc:∀o1 o2,((w.alloc o1).alloc o2).cell? ⟨1,e.kind,none⟩=some (.slice A1 (aa e.kind).length c1):=fun o1 o2=>by
  rw [World.cell?_alloc_lt _ _ _ (by show 1<(w.alloc o1).heap.size;simp only [World.size_alloc];omega),World.cell?_alloc_lt _ _ _ hg];exact hu
 have hg2:¬1=w.heap.size:=by omega
 have hg3:¬1=w.heap.size+1:=by omega
 go_enter Tryz.func252,Tryz.ntmps252
 go_wp2
 refine bodyPost_ret (v:= .tuple #[.agg Ev.zero.cells,.int .i64 2]) ?_ rfl ⟨rfl,((Below.refl _ _).alloc (Nat.le_refl _) _).alloc (by simp) _⟩
 simp [results,Tryz.results252,go_sem,Ev.cells,Ev.zero]
theorem Ot (e:Ev) (l:List (Nat×Nat)) (p:Nat×Nat):e.fill (l++[p])=(e.fill l).put p.1 p.2:=by unfold Ev.fill;rw [List.foldl_append];rfl
theorem aO.new (w:World) (e:Ev):aO (w.alloc (.cells e.cells 32)) w.heap.size e:=World.alloc_heap_new w _
theorem aO.below {w w':World} {b B:Nat} {e:Ev} (h:aO w b e) (hb:Below B w w') (hlt:b<B):aO w' b e:=(hb.block b hlt).trans h
theorem aO.lt {w:World} {b:Nat} {e:Ev} (h:aO w b e):b<w.heap.size:=zl h
def fU (w:World) (b:Nat) (e':Ev):World:=
 (((((((((((w.setCell ⟨b,0,none⟩ (.int .i64 e'.seq)).setCell ⟨b,1,none⟩ (.int .i64 e'.time)).setCell ⟨b,2,none⟩ (.int .u8 (e'.cpu:Int))).setCell ⟨b,3,none⟩ (.int .u8 (e'.kind:Int))).setCell ⟨b,4,none⟩ (.int .i64 e'.bD)).setCell ⟨b,5,none⟩ (.int .i64 e'.group)).setCell ⟨b,6,none⟩ (.int .i64 e'.to)).setCell ⟨b,7,none⟩ (.int .i64 e'.weight)).setCell ⟨b,8,none⟩ (.int .i64 e'.aL)).setCell ⟨b,9,none⟩ (.int .u64 (e'.mask:Int))).setCell ⟨b,10,none⟩ (.int .i64 e'.got))
theorem aO.storeAll {w:World} {b:Nat} {e:Ev} (h:aO w b e) (e':Ev):aO (fU w b e') b e':=by
 unfold aO at h⊢
 unfold fU
 simp [World.setCell,Array.getElem?_modify,h,Ev.cells]
theorem BH {B:Nat} {a w:World} {b:Nat} (h:Below B a w) (hb:B≤b) (e':Ev):Below B a (fU w b e'):=by
 unfold fU
 exact ((((((((((h.setCell (p:=⟨b,0,none⟩) hb _).setCell (p:=⟨b,1,none⟩) hb _).setCell (p:=⟨b,2,none⟩) hb _).setCell (p:=⟨b,3,none⟩) hb _).setCell (p:=⟨b,4,none⟩) hb _).setCell (p:=⟨b,5,none⟩) hb _).setCell (p:=⟨b,6,none⟩) hb _).setCell (p:=⟨b,7,none⟩) hb _).setCell (p:=⟨b,8,none⟩) hb _).setCell (p:=⟨b,9,none⟩) hb _).setCell (p:=⟨b,10,none⟩) hb _
theorem Ou {P:Program} {fn:Func} {t u:Tmp} {ty:TypeId} {tmps:Array Value} {w:World} {b:Nat} {e:Ev} (h:fn.results= #[.cell t ty,.tmp u]) (ht:tmps.getD t undef= .pointer (some ⟨b,0,none⟩))
  (hagg:(isAgg ty).run P w= .ok true w) (hsz:(sizeOf ty).run P w= .ok 11 w) (hE:dN w b e):(results fn tmps).run P w= .ok (.tuple #[.agg e.cells,tmps.getD u undef]) w:=by
 obtain ⟨h0,h1,h2,h3,h4,h5,h6,h7,h8,h9,h10⟩:=hE
 simp at ht
 simp [results,h,ht,hagg,hsz,go_sem,h0,h1,h2,h3,h4,h5,h6,h7,h8,h9,h10,Ev.cells]
end Go.Proofs.YtieeckeaijdaeaaGreatDoor
