/- Walks: the law's own functions on layers: a copy, they are equal. Walks: the law's own functions on layers: a mark, what is held, their size. Arguments of a law: rows of layers, however long; their size. -/
import Derived.Test.YtggfdnopminemaaGreatDoorZt
import Derived.Test.YtggfdnopminemaaGreatDoorLawD
namespace Go.Proofs.YtggfdnopminemaaGreatDoor
section
abbrev P.Lay:=P.Dic×Bool
abbrev P.Lays:=List P.Lay
open Go Go.RowKit
set_option maxHeartbeats 1000000
set_option maxRecDepth 100000
def LayR (v:World) (u:Value) (l:P.Lays):Prop:=
 ∃(ad:Option Addr) (cap:Nat),u=.slice ad l.length cap∧(l.length≤2^45∧l.length≤cap)∧(ad=none→cap=0)∧(l=[]∨∃g o,ad=some ⟨g,o,none⟩∧g<v.heap.size∧∀(j:Nat) (h:j<l.length),∃x,v.cell? ⟨g,o+j*2,none⟩=some x∧v.cell? ⟨g,o+j*2+1,none⟩=some (.bool (l[j]'h).2)∧EntR v x (l[j]'h).1)
theorem LayR.below {v v':World} {u:Value} {l:P.Lays} (h:LayR v u l) (hb:Below v.heap.size v v'):LayR v' u l:=by
 exact zq40
theorem LayR.at {v:World} {ad:Option Addr} {n cap:Nat} {l:P.Lays} (h:LayR v (.slice ad n cap) l) (j:Nat) (hj:j<l.length):∃g o,ad=some ⟨g,o,none⟩∧g<v.heap.size∧∃x,v.cell? ⟨g,o+j*2,none⟩=some x∧v.cell? ⟨g,o+j*2+1,none⟩=some (.bool (l[j]'hj).2)∧EntR v x (l[j]'hj).1:=by
 obtain⟨ad',cap',he,_,_,h3⟩:=h;exact zq39
def layE:ElT P.Lay:=fun v F cs e=>∃x,cs=[x,.bool e.2]∧RowO 2 entE v F x e.1
abbrev Lays:=RowO 2 layE
theorem Lays.read {v:World} {F:Blk} {u:Value} {l:P.Lays} (h:Lays v F u l):LayR v u l:=by
 obtain⟨ad,cap,h1,h2,hn,h3⟩:=h;refine⟨ad,cap,h1,by omega,hn.1,h3.imp id ?_⟩;rintro⟨g,o,G,C,h4,h5⟩;refine⟨g,o,h4,h5.lt _ h5.own,fun j hj=>?_⟩;obtain⟨x,he,hx⟩:=h5.el j hj;have hc:=(h5.cel j hj 0 (by rw [he];simp)).1;have hd:=(h5.cel j hj 1 (by rw [he];simp)).1;simp only [he,List.getElem_cons_zero,List.getElem_cons_succ,Nat.add_zero]at hc hd;exact⟨x,hc,hd,Ents.read hx⟩
end
section
namespace P
end P
open Go Go.RowKit
set_option maxHeartbeats 1000000
set_option maxRecDepth 100000
end
section
open Go Go.RowKit
set_option maxHeartbeats 1000000
set_option maxRecDepth 100000
end
section
def P.b9w (l:P.Lays):Bool:=l.all fun e=>P.dic e.1
def P.stack (l:P.Lays):Bool:=decide ((l.length:Int)≤4)&&P.b9w l
open Go Go.RowKit
set_option maxHeartbeats 1000000
set_option maxRecDepth 100000
end
namespace P
end P
end Go.Proofs.YtggfdnopminemaaGreatDoor
