/- A part of the proof. -/
import Derived.Test.YtcajpeiobkcliaaGreatDoorQiSep14
import Derived.Test.YtcajpeiobkcliaaGreatDoorQiVarint
import Derived.Test.YtcajpeiobkcliaaGreatDoorQiCrcP
import Derived.Test.YtcajpeiobkcliaaGreatDoorQiNum
namespace Go.Proofs.YtcajpeiobkcliaaGreatDoor
open Go.RowKit
def le4 (n:Nat):List Nat:=[n%256,n/256%256,n/65536%256,n/16777216%256]
def sealL (l:List Nat):List Nat:=l++le4 (qx l)
def num4 (l:List Nat):Nat:=l.getD 0 0+256*l.getD 1 0+65536*l.getD 2 0+16777216*l.getD 3 0
def qc9 (l:List Nat):Bool:=decide (4≤l.length∧qx (l.take (l.length-4))=num4 (l.drop (l.length-4)))
theorem qgn (k:Nat) (h:k<16):qav.getD k 0<4294967296:=by
 have:∀k,k<16→qav.getD k 0<4294967296:=by decide
 exact this k h
def Is (w:World) (v:Value) (r:Ending) (w':World):Prop:=r= .returned v∧Below w.heap.size w w'
def qf2 (w:World) (R:List Nat) (r:Ending) (w':World):Prop:=
 (∃A c,r= .returned (.slice A R.length c)∧w'.ownsRow w.heap.size 5 1 (.slice A R.length c) R.length (R.map B8)∧R.length≤c)∧Below w.heap.size w w'
theorem qf2.as {w w':World} {R R':List Nat} {r:Ending} (h:qf2 w R r w') (e:R=R'):qf2 w R' r w':=e▸h
theorem qsr (A:Option Addr) (n c:Nat) (ls:List Nat) (w:World) (hr:Rd w w.heap.size 1 A n (ls.map U64)) (hls:∀x∈ls,x<18446744073709551616) (hn:10*n≤140737488355000):
  Calls Tryz.prog 39 #[.slice A n c] w (qf2 w (ls.flatMap vbytes)):=
 (qkk A n c ls w hr hls hn).mono fun e w' ⟨v, h1, h2, h3⟩ => by
  obtain ⟨A,c,rfl,hc⟩:=qef h2
  exact ⟨⟨A,c,h1,h2,hc⟩,h3⟩
theorem qmu (c:Nat) (l:List Nat) (x:Nat):qz c (l++[x])=qdk (qz c l) x:=by unfold qz;rw [List.foldl_append];rfl
theorem qmv {c k:Nat} {l:List Nat} (h:k<l.length):qz c (l.take (k+1))=qdk (qz c (l.take k)) (l.getD k 0):=by
 rw [List.take_add_one,getD_at 0 h];exact qmu _ _ _
theorem qss {l:List Nat} {m:Nat} (h:∀b∈l,b<m) (k:Nat):∀b∈l.take k,b<m:=fun b hb=>h b (List.mem_of_mem_take hb)
theorem q2d {c:Nat} (h:c<4294967296):nib c<4294967296:=qek om (qgn _ om)
theorem qkv (l:List Nat):qx l<4294967296:=by unfold qx;omega
theorem q2e (n:Nat):∀b∈le4 n,b<256:=by intro b hb;simp [le4] at hb;omega
theorem qjc (n:Nat):(le4 n).length=4:=rfl
theorem qbw (l:List Nat):(sealL l).length=l.length+4:=by unfold sealL;rw [List.length_append,qjc]
theorem qmw {l:List Nat} (hl:∀b∈l,b<256):∀b∈sealL l,b<256:=by
 intro b hb
 rcases List.mem_append.1 hb with h|h
 ·exact hl b h
 ·exact q2e _ b h
theorem qwf {n:Nat} (h:n<4294967296) (r:List Nat):num4 (le4 n++r)=n:=by simp [num4,le4];omega
theorem qmx {l:List Nat}:qc9 (sealL l)=true:=by
 have hlt:qx l<4294967296:=qkv l
 have e:(sealL l).length-4=l.length:=by rw [qbw];omega
 unfold qc9
 rw [decide_eq_true_eq,e]
 unfold sealL
 refine ⟨by rw [List.length_append,qjc];omega,?_⟩
 rw [List.take_left,List.drop_left]
 have:=qwf hlt []
 rw [List.append_nil] at this
 exact this.symm
theorem qst (x:Nat):∀b∈vbytes x,b<256:=by
 intro b hb
 unfold vbytes at hb
 obtain ⟨p,hp,rfl⟩:=List.mem_map.1 hb
 have:=qsa 10 x p hp
 unfold vbyte
 split<;>omega
theorem qzz {l m:List Nat} (hl:∀b∈l,b<256) (hm:∀b∈m,b<256):((bstr l).toList==(bstr m).toList)=decide (l=m):=by
 rw [Bool.eq_iff_iff,beq_iff_eq,decide_eq_true_eq]
 constructor
 ·intro h
  refine qv7 hl hm ?_
  rw [ByteArray.toList_eq,ByteArray.toList_eq] at h
  cases hx:bstr l;cases hy:bstr m
  rw [hx,hy] at h
  simpa using h
 ·rintro rfl;rfl
structure LaidX (B:Nat) (w:World):Prop where
 halves:∀k,k<16→w.cell? ⟨0,k,none⟩=some (.int .u32 ((qav.getD k 0:Nat):Int))
 big3:0<B
theorem LaidX.qd7 {B:Nat} {w w':World} (h:LaidX B w) (hk:∀p:Addr,p.block<B→w'.cell? p=w.cell? p):LaidX B w':=
 ⟨fun k hk'=>(hk _ h.big3).trans (h.halves k hk'),h.big3⟩
theorem LaidX.mem {B:Nat} {W w:World} {fs:List Fact} (h:LaidX B W) (hM:Mem W w fs) (hB:B≤W.heap.size):LaidX B w:=h.qd7 fun _ hp=>hM.below.cell om
theorem LaidX.below {B B':Nat} {w w':World} (h:LaidX B w) (hb:Below B' w w') (hB:B≤B'):LaidX B w':=h.qd7 fun p hp=>hb.cell om
theorem qof {B:Nat} {W w:World} {fs:List Fact} (h:LaidX B W) (hM:Mem W w fs) (hB:B≤W.heap.size) {k:Nat} (hk:k<16):w.cell? ⟨0,k*1,none⟩=some (.int .u32 ((qav.getD k 0:Nat):Int)):=by
 rw [Nat.mul_one];exact (h.mem hM hB).halves k hk
end Go.Proofs.YtcajpeiobkcliaaGreatDoor
