/- A part of the proof. -/
import Derived.Test.YtekiimhdnigmcaaGreatDoorQtVarint
import Derived.Test.YtekiimhdnigmcaaGreatDoorQtBase
import Derived.Test.YtekiimhdnigmcaaGreatDoorQtStr
import Derived.Laws.BytesString
import Derived.Laws.BytesArg
namespace Go.Proofs.YtekiimhdnigmcaaGreatDoor
open Go.RowKit
def jo (l:List Nat):ByteArray:=⟨(l.map fun b=>UInt8.ofNat b).toArray⟩
theorem q4w {P:Program} {ts Sb te:TypeId} (hs:P.underlying Sb=some (.slice te)) (he:P.underlying te=some (.int .u8)) (hd:P.underlying ts=some .string) {w:World} {B:Nat} {A:Option Addr} {n c:Nat} {l:List Nat} (hr:Rd w B 1 A n (l.map B8)):
  (convert Sb ts (.slice A n c)).run P w= .ok (.string (jo l)) w:=by
 have hlen:l.length=n:=by simpa using hr.len
 cases A with
 | none =>
  have hn:n=0:=by
   rcases Nat.eq_zero_or_pos n with h|h
   ·exact h
   ·obtain ⟨ad,h1,_⟩:=hr.row h;cases h1
  have hl:l=[]:=List.eq_nil_of_length_eq_zero (by omega)
  subst hl
  rw [run_convert_bytes_nil w Sb te hs he n c ts hd]
  rfl
 | some a =>
  have hcells:∀j u,(l.map B8)[j]?=some u→w.cell? (a.add j)=some u:=by
   intro j u hu
   rcases Nat.eq_zero_or_pos n with h|h
   ·have:l=[]:=List.eq_nil_of_length_eq_zero (by omega)
    subst this;simp at hu
   ·obtain ⟨ad,h1,_,h2⟩:=hr.row h
    injection h1 with h1;subst h1
    exact h2 j u hu
  have hl:=run_loadCells_list (P:=P) w a (l.map B8) hcells
  have e:l.map B8=(l.map (fun b:Nat=>(b:Int))).map (Value.int .u8):=by rw [List.map_map];rfl
  rw [List.length_map,hlen,e] at hl
  rw [run_convert_bytes_string w Sb ts te _ n c hs he hd,run_bytesToString w a n c _ hl,foldl_push_bytes]
  simp [jo,ByteArray.empty,ByteArray.emptyWithCapacity]
  rfl
theorem q91 {w:World} {B:Nat} {A:Option Addr} {n c:Nat} {l:List Nat} (hr:Rd w B 1 A n (l.map B8)):(convert 30 9 (.slice A n c)).run Tryz.prog w= .ok (.string (jo l)) w:=
 q4w (te:=5) (by kernel_rfl) (by kernel_rfl) (by kernel_rfl) hr
theorem q4x {l m:List Nat} (hl:∀b∈l,b<256) (hm:∀b∈m,b<256) (h:jo l=jo m):l=m:=by
 unfold jo at h
 injection h with h
 have h2:(l.map fun b=>UInt8.ofNat b)=(m.map fun b=>UInt8.ofNat b):=by simpa using h
 have h3:=congrArg (List.map fun x:UInt8=>x.toNat) h2
 rw [List.map_map,List.map_map] at h3
 have e:∀l:List Nat,(∀b∈l,b<256)→l.map ((fun x:UInt8=>x.toNat)∘fun b=>UInt8.ofNat b)=l:=fun l hl=>by
  conv=>rhs;rw [←List.map_id l]
  exact List.map_congr_left (fun b hb=>by have:=hl b hb;simp;omega)
 rwa [e l hl,e m hm] at h3
end Go.Proofs.YtekiimhdnigmcaaGreatDoor
