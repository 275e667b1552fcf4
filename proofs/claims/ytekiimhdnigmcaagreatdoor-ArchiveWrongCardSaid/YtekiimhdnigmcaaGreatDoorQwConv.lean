/- A part of the proof. -/
import Derived.Test.YtekiimhdnigmcaaGreatDoorQwVarint
import Derived.Test.YtekiimhdnigmcaaGreatDoorQwBase
import Derived.Test.YtekiimhdnigmcaaGreatDoorQwStr
import Derived.Laws.BytesString
import Derived.Laws.BytesArg
namespace Go.Proofs.YtekiimhdnigmcaaGreatDoor
open Go.RowKit
def jH (l:List Nat):ByteArray:=⟨(l.map λb=>UInt8.ofNat b).toArray⟩
theorem q7s {P:Program} {ts t te:TypeId} (hs:P.underlying t=some (.slice te)) (i:P.underlying te=some (.int .u8)) (k:P.underlying ts=some .string) {w:World} {B:Nat} {A:Option Addr} {n c:Nat} {l:List Nat} (hr:Rd w B 1 A n (l.map B8)):
  (convert t ts (.slice A n c)).run P w= .ok (.string (jH l)) w:=by
 have f:l.length=n:=by simpa using hr.len
 cases A with
 | none =>
  have p:n=0:=by
   rcases Nat.eq_zero_or_pos n with h|h
   ·exact h
   ·obtain ⟨o,h1,_⟩:=hr.row h;cases h1
  have g:l=[]:=List.eq_nil_of_length_eq_zero (by omega)
  subst g
  rw [run_convert_bytes_nil w t te hs i n c ts k]
  rfl
 | some a =>
  have d:∀j u,(l.map B8)[j]?=some u→w.cell? (a.add j)=some u:=by
   intro j u m
   rcases Nat.eq_zero_or_pos n with h|h
   ·have:l=[]:=List.eq_nil_of_length_eq_zero (by omega)
    subst this;simp at m
   ·obtain ⟨o,h1,_,h2⟩:=hr.row h
    injection h1 with h1;subst h1
    exact h2 j u m
  have g:=run_loadCells_list (P:=P) w a (l.map B8) d
  have e:l.map B8=(l.map (λb:Nat=>(b:Int))).map (Value.int .u8):=by rw [List.map_map];rfl
  rw [List.length_map,f,e] at g
  rw [run_convert_bytes_string w t ts te _ n c hs i k,run_bytesToString w a n c _ g,foldl_push_bytes]
  simp [jH,ByteArray.empty,ByteArray.emptyWithCapacity]
  rfl
theorem zd4 {w:World} {B:Nat} {A:Option Addr} {n c:Nat} {l:List Nat} (hr:Rd w B 1 A n (l.map B8)):(convert 30 9 (.slice A n c)).run Tryz.prog w= .ok (.string (jH l)) w:=
 q7s (te:=5) (by kernel_rfl) (by kernel_rfl) (by kernel_rfl) hr
theorem q7t {l m:List Nat} (a:∀b∈l,b<256) (hm:∀b∈m,b<256) (h:jH l=jH m):l=m:=by
 unfold jH at h
 injection h with h
 have h2:(l.map λb=>UInt8.ofNat b)=(m.map λb=>UInt8.ofNat b):=by simpa using h
 have h3:=congrArg (List.map λx:UInt8=>x.toNat) h2
 rw [List.map_map,List.map_map] at h3
 have e:∀l:List Nat,(∀b∈l,b<256)→l.map ((λx:UInt8=>x.toNat)∘λb=>UInt8.ofNat b)=l:=λl a=>by
  conv=>rhs;rw [←List.map_id l]
  exact List.map_congr_left (λb c=>by have:=a b c;simp;omega)
 rwa [e l a,e m hm] at h3
end Go.Proofs.YtekiimhdnigmcaaGreatDoor
