/- What a command leaves: stores of a whole session, the answer. -/
import Derived.Test.YtggfdnopminemaaGreatDoorZt
import Derived.Test.YtggfdnopminemaaGreatDoorSesO2
namespace Go.Proofs.YtggfdnopminemaaGreatDoor
open Go Go.RowKit
set_option maxHeartbeats 8000000
set_option maxRecDepth 100000
def wr6 (v:World) (b:Nat) (u us:Value) (sc d p:Str) (n:Int):World:=
 (((((v.setCell ⟨b,0,none⟩ u).setCell ⟨b,1,none⟩ us).setCell ⟨b,2,none⟩ (.string (S sc))).setCell ⟨b,3,none⟩ (.string (S d))).setCell ⟨b,4,none⟩ (.string (S p))).setCell ⟨b,5,none⟩ (.int .i64 n)
theorem wr6_chg (v:World) (b:Nat) (u us:Value) (sc d p:Str) (n:Int):Chg (fun k=>k=b) v (wr6 v b u us sc d p n):=by
 have h:=Chg.refl (fun k=>k=b) v;exact (((((h.setCell (p:=⟨b,0,none⟩) rfl _).setCell (p:=⟨b,1,none⟩) rfl _).setCell (p:=⟨b,2,none⟩) rfl _).setCell (p:=⟨b,3,none⟩) rfl _).setCell (p:=⟨b,4,none⟩) rfl _).setCell (p:=⟨b,5,none⟩) rfl _
theorem wr6_out {v:World} {b:Nat} {u0 us0:Value} {sc0 d0 p0:Str} {n0:Int} (h:SOut b u0 us0 sc0 d0 p0 n0 v) (u us:Value) (sc d p:Str) (n:Int):SOut b u us sc d p n (wr6 v b u us sc d p n):=
 ((h.set0 (x:=u)).set1 (x:=us) (r:=sc)).set3
def wr3 (v:World) (b:Nat) (d p:Str) (n:Int):World:=((v.setCell ⟨b,3,none⟩ (.string (S d))).setCell ⟨b,4,none⟩ (.string (S p))).setCell ⟨b,5,none⟩ (.int .i64 n)
theorem wr3_chg (v:World) (b:Nat) (d p:Str) (n:Int):Chg (fun k=>k=b) v (wr3 v b d p n):=
 (((Chg.refl (fun k=>k=b) v).setCell (p:=⟨b,3,none⟩) rfl _).setCell (p:=⟨b,4,none⟩) rfl _).setCell (p:=⟨b,5,none⟩) rfl _
theorem SRows.lo {lo lo' B:Nat} {v:World} {u us:Value} {l:P.Dic} {st:List Int} (h:SRows lo B v u us l st) (hl:lo'≤lo):SRows lo' B v u us l st:=by
 obtain⟨F,G,h1,h2,h3,h4,h5⟩:=h;exact⟨F,G,h1,h2,fun b hb=>⟨Nat.le_trans hl (h3 b hb).1,(h3 b hb).2⟩,fun b hb=>⟨Nat.le_trans hl (h4 b hb).1,(h4 b hb).2⟩,h5⟩
theorem SRows.standLo {lo B:Nat} {v v':World} {u us:Value} {l:P.Dic} {st:List Int} {X:Blk} (h:SRows lo B v u us l st) (hc:Chg X v v') (hX:∀b,X b→b<lo):SRows lo B v' u us l st:=by
 obtain⟨F,G,h1,h2,h3,h4,h5⟩:=h;have hz:=hc.size;exact⟨F,G,h1.stand entE_ok hc (fun b hb hx=>by have:=h3 b hb;have:=hX b hx;omega),h2.stand intE_ok hc (fun b hb hx=>by have:=h4 b hb;have:=hX b hx;omega),fun b hb=>⟨(h3 b hb).1,Nat.lt_of_lt_of_le (h3 b hb).2.1 hz,(h3 b hb).2.2⟩,fun b hb=>⟨(h4 b hb).1,Nat.lt_of_lt_of_le (h4 b hb).2.1 hz,(h4 b hb).2.2⟩,h5⟩
theorem SRows.of {lo B m:Nat} {w v:World} {u us:Value} {l:P.Dic} {st:List Int} (h1:Ents v (Bet w.heap.size m) u l) (h2:Ints v (Bet m v.heap.size) us st) (hlo:lo≤w.heap.size) (hm:m≤v.heap.size) (hwm:w.heap.size≤m) (hB:v.heap.size≤B∨B<w.heap.size):SRows lo B v u us l st:=
 ⟨_,_,h1,h2,fun b hb=>⟨Nat.le_trans hlo hb.1,Nat.lt_of_lt_of_le hb.2 hm,fun e=>by have h3:=hb.1;have h4:=hb.2;omega⟩,fun b hb=>⟨Nat.le_trans (Nat.le_trans hlo hwm) hb.1,hb.2,fun e=>by have h3:=hb.1;have h4:=hb.2;omega⟩,fun b hb hg=>by have h3:=hb.2;have h4:=hg.1;omega⟩
theorem SesM.log {lo B:Nat} {s:P.Ses} {g:P.LogT} {v:World} {d p:Str} {n:Int} (h:SesM lo B s g v):SesM lo B s (d,p,n) (wr3 v B d p n):=by
 obtain⟨h0,h1,u,us,h2,h3⟩:=h;exact⟨h0,Nat.le_trans h1 (wr3_chg v B d p n).size,u,us,h2.set3,h3.stand (wr3_chg v B d p n) (fun b h=>.inl h)⟩
theorem SesM.chg {lo B:Nat} {s:P.Ses} {g:P.LogT} {v v':World} {X:Blk} (h:SesM lo B s g v) (hc:Chg X v v') (hX:∀b,X b→b<lo) (hB:¬X B):SesM lo B s g v':=by
 obtain⟨h0,h1,u,us,h2,h3⟩:=h;exact⟨h0,Nat.le_trans h1 hc.size,u,us,h2.stand hc hB,h3.standLo hc hX⟩
def ExPost (a:(P.Ses×P.LogT)×Str) (w:World) (e:Ending) (w':World):Prop:=
 ∃u us B,e=.returned (.tuple #[sessV u us a.1.1.2.2 a.1.2.1 a.1.2.2.1 a.1.2.2.2,.string (S a.2)])∧SRows w.heap.size B w' u us a.1.1.1 a.1.1.2.1∧Below w.heap.size w w'
theorem replied_txt (o:Option Str):P.replied o=if 200<(txtB o).length then P.wLong else txtB o:=by
 cases o with
 |none=>rfl
 |some r=>rfl
end Go.Proofs.YtggfdnopminemaaGreatDoor
namespace Go.Proofs.YtggfdnopminemaaGreatDoor.P
theorem runI_good (s:Bs):∀(n:Nat) (st:RSt),(∀e∈st.1,good e.1 e.2=true)→∀e∈(runI s n st).1,good e.1 e.2=true
 |0,_,h=>h
 |n+1,st,h=>by
  simp only [runI]
  cases hd:(decode st.1.length (s.drop st.2.2)).2.2
  ·rw [stepI_stop hd];exact h
  ·rw [stepI_go hd];refine runI_good s n _ fun e he=>?_
   rcases List.mem_append.1 he with he|he
   ·exact h e he
   ·rw [List.mem_singleton]at he;rw [he];exact (decode_inv hd).2.1
theorem readAll_good (s:Bs):∀e∈(readAll s).1,good e.1 e.2=true:=runI_good s 60 ([],[],0) fun _ h=>by cases h
def firstBad (a:Ses×LogT):List (Bs×Bs)→Nat
 |[]=>0
 |r::rs=>if (exec a.1 a.2 r.1).2=r.2 then firstBad (exec a.1 a.2 r.1).1 rs+1 else 0
theorem firstBad_same {a:Ses×LogT} {r:Bs×Bs} {rs:List (Bs×Bs)} (h:(exec a.1 a.2 r.1).2=r.2):firstBad a (r::rs)=firstBad (exec a.1 a.2 r.1).1 rs+1:=by
 conv=>lhs;unfold firstBad
 rw [if_pos h]
theorem firstBad_other {a:Ses×LogT} {r:Bs×Bs} {rs:List (Bs×Bs)} (h:(exec a.1 a.2 r.1).2≠r.2):firstBad a (r::rs)=0:=by
 unfold firstBad;rw [if_neg h]
def ses0 (d:Dic):Ses×LogT:=((d,([],[])),([],[],0))
def replayL (d:Dic) (g:LogT):Nat×Bool:=if dic d&&validLog g.1 g.2.1 g.2.2 then (firstBad (ses0 d) (readAll (g.1++g.2.1)).1,true) else (0,false)
theorem replayL_no {d:Dic} {g:LogT} (h:(dic d&&validLog g.1 g.2.1 g.2.2)=false):replayL d g=(0,false):=by unfold replayL;rw [h];rfl
theorem replayL_yes {d:Dic} {g:LogT} (h:dic d=true) (h2:validLog g.1 g.2.1 g.2.2=true):replayL d g=(firstBad (ses0 d) (readAll (g.1++g.2.1)).1,true):=by unfold replayL;rw [h,h2];rfl
theorem ses0_fit {d:Dic} (h:dic d=true):Fit (ses0 d).1 (ses0 d).2:=by
 have hl:=dic_parts h;refine⟨?_,fun e he=>?_,fun e he=>Nat.le_trans (dic_texts h e he) dZ,?_,?_,?_⟩
 ·have:=hl.1;show d.length≤_;omega
 ·have:=(entry_parts (hl.2.1 e he)).2.1;omega
 all_goals exact Nat.zero_le _
end Go.Proofs.YtggfdnopminemaaGreatDoor.P
namespace Go.Proofs.YtggfdnopminemaaGreatDoor.L
open Go Go.RowKit
set_option maxHeartbeats 8000000
set_option maxRecDepth 100000
def RecAt (g:Nat) (l:List (Str×Str)) (v:World):Prop:=
 ∀(j:Nat) (h:j<l.length),v.cell? ⟨g,j*2,none⟩=some (.string (S (l[j]'h).1))∧v.cell? ⟨g,j*2+1,none⟩=some (.string (S (l[j]'h).2))∧v.frozen? ⟨g,j*2,none⟩=false∧v.frozen? ⟨g,j*2+1,none⟩=false
def RowR (u:Value) (g:Nat) (l:List (Str×Str)) (v:World):Prop:=
 ∃ad cap,u=.slice ad l.length cap∧l.length<2^40∧(l=[]∨ad=some ⟨g,0,none⟩∧g<v.heap.size∧RecAt g l v)
theorem RecAt.carry {g:Nat} {l:List (Str×Str)} {v v':World} (h:RecAt g l v) (hb:Below v.heap.size v v') (hg:g<v.heap.size):RecAt g l v':=by
 intro j hj;obtain⟨a,b,c,d⟩:=h j hj;exact⟨(hb.cell (p:=⟨g,_,none⟩) hg).trans a,(hb.cell (p:=⟨g,_,none⟩) hg).trans b,(hb.frozen (p:=⟨g,_,none⟩) hg).trans c,(hb.frozen (p:=⟨g,_,none⟩) hg).trans d⟩
end Go.Proofs.YtggfdnopminemaaGreatDoor.L
namespace Go.Proofs.YtggfdnopminemaaGreatDoor.P
end Go.Proofs.YtggfdnopminemaaGreatDoor.P
namespace Go.Proofs.YtggfdnopminemaaGreatDoor.L
open Go Go.RowKit
set_option maxHeartbeats 8000000
set_option maxRecDepth 100000
def Apart (g:Nat) (w w':World):Prop:=
 (∀b o,b<w.heap.size→b≠g→w'.cell? ⟨b,o,none⟩=w.cell? ⟨b,o,none⟩)∧(∀b o,b<w.heap.size→b≠g→w'.frozen? ⟨b,o,none⟩=w.frozen? ⟨b,o,none⟩)
theorem Apart.refl (g:Nat) (w:World):Apart g w w:=⟨fun _ _ _ _=>rfl,fun _ _ _ _=>rfl⟩
theorem Apart.below {g:Nat} {w v v':World} (h:Apart g w v) (hsz:w.heap.size≤v.heap.size) (hb:Below v.heap.size v v'):Apart g w v':=
 ⟨fun b o h1 h2=>(hb.cell (p:=⟨b,o,none⟩) (Nat.lt_of_lt_of_le h1 hsz)).trans (h.1 b o h1 h2),fun b o h1 h2=>(hb.frozen (p:=⟨b,o,none⟩) (Nat.lt_of_lt_of_le h1 hsz)).trans (h.2 b o h1 h2)⟩
theorem Apart.set {g o:Nat} {w v:World} (h:Apart g w v) (u:Value):Apart g w (v.setCell ⟨g,o,none⟩ u):=
 ⟨fun b o' h1 h2=>(World.cell?_setCell_other _ _ _ _ (by intro e;injection e;omega)).trans (h.1 b o' h1 h2),fun b o' h1 h2=>by rw [←h.2 b o' h1 h2];simp⟩
theorem RecAt.set1 {g i:Nat} {m:List (Str×Str)} {v:World} (h:RecAt g m v) (hi:i<m.length) (a:Str):RecAt g (m.set i (a,m[i].2)) (v.setCell ⟨g,i*2,none⟩ (.string (S a))):=by
 intro j hj;have hj':j<m.length:=by simpa using hj
 obtain⟨p1,p2,p3,p4⟩:=h j hj';rw [List.getElem_set];refine⟨?_,?_,by simpa using p3,by simpa using p4⟩
 ·by_cases e:i=j
  ·subst e;rw [if_pos rfl];exact World.cell?_setCell_same _ _ _ p1
  ·rw [if_neg e,World.cell?_setCell_other _ _ _ _ (by intro e';injection e';omega)];exact p1
 ·rw [World.cell?_setCell_other _ _ _ _ (by intro e';injection e';omega)]
  by_cases e:i=j
  ·subst e;rw [if_pos rfl];exact p2
  ·rw [if_neg e];exact p2
theorem RecAt.set2 {g i:Nat} {m:List (Str×Str)} {v:World} (h:RecAt g m v) (hi:i<m.length) (a:Str):RecAt g (m.set i (m[i].1,a)) (v.setCell ⟨g,i*2+1,none⟩ (.string (S a))):=by
 intro j hj;have hj':j<m.length:=by simpa using hj
 obtain⟨p1,p2,p3,p4⟩:=h j hj';rw [List.getElem_set];refine⟨?_,?_,by simpa using p3,by simpa using p4⟩
 ·rw [World.cell?_setCell_other _ _ _ _ (by intro e';injection e';omega)]
  by_cases e:i=j
  ·subst e;rw [if_pos rfl];exact p1
  ·rw [if_neg e];exact p1
 ·by_cases e:i=j
  ·subst e;rw [if_pos rfl];exact World.cell?_setCell_same _ _ _ p2
  ·rw [if_neg e,World.cell?_setCell_other _ _ _ _ (by intro e';injection e';omega)];exact p2
theorem sz2_le {a b:Nat} {left:Int} (h:0≤P.sz2 a b left):(a:Int)+b≤left:=by
 unfold P.sz2 at h
 split at h
 ·omega
 ·split at h<;>omega
end Go.Proofs.YtggfdnopminemaaGreatDoor.L
namespace Go.Proofs.YtggfdnopminemaaGreatDoor.P
def recsS (d p:Bs) (n:Int):List (Bs×Bs):=if validLog d p n then (openLog (d++p)).1 else []
end Go.Proofs.YtggfdnopminemaaGreatDoor.P
namespace Go.Proofs.YtggfdnopminemaaGreatDoor.L
open Go Go.RowKit
set_option maxHeartbeats 8000000
set_option maxRecDepth 100000
def RecS (d p:Str) (n:Int) (w:World) (e:Ending) (w':World):Prop:=∃v,e=.returned (.tuple #[v,.bool (P.validLog d p n)])∧OwnRecs w.heap.size w' v (P.recsS d p n)∧Below w.heap.size w w'
theorem spec_records (d p:Str) (n:Int) (w:World) (hd:d.length≤2^20) (hp:p.length≤2^20) :
 Calls Tryz.prog 59 #[logV d p n] w (RecS d p n w):=by
 cases h1:P.validLog d p n
 ·have HF:=qh (show P.recsS d p n=[] by unfold P.recsS;rw [h1];rfl);have HV:=qh h1
  go_enter Tryz.func59,Tryz.ntmps59
  go_wp2_with fail
  refine (l24Log _ _ _ _ hd hp).mono ?_;rintro e w1 ⟨rfl,hb⟩;rw [h1];have HB:=qh ((bZ.alloc lZ _).trans (hb.mono sZ):Below w.heap.size w w1);have hsz:w.heap.size≤w1.heap.size:=HB.o.size;clear hb;go_wp2;go_ret2;exact⟨.slice (some ⟨w1.heap.size,0,none⟩) 0 0,by rw [HV.o];rfl,by rw [HF.o];exact World.ownsRow_made _ _ _ hsz dZ (by rfl),HB.o.alloc hsz _⟩
 ·have HF:=qh (show P.recsS d p n=(P.openLog (d++p)).1 by unfold P.recsS;rw [h1];rfl);have HV:=qh h1
  go_enter Tryz.func59,Tryz.ntmps59
  go_wp2_with fail
  refine (l24Log _ _ _ _ hd hp).mono ?_;rintro e w1 ⟨rfl,hb⟩;rw [h1];obtain⟨hcc,hff⟩:=bcell hb;have hz:=grew0 hb;have HB:=qh ((bZ.alloc lZ _).trans (hb.mono sZ):Below w.heap.size w w1);have hsz:w.heap.size≤w1.heap.size:=HB.o.size;have f1:¬9223372036854775807<d.length+p.length:=by omega
  clear hb
  go_wp2_with fail
  refine (l24Open _ _ (by simp;omega)).mono ?_;rintro e w2 ⟨v,rfl,hown,hb⟩;have HO:=qh hown;clear hown;have HB2:=qh (HB.o.trans (hb.mono hsz));clear hb;go_wp2;go_ret2;exact⟨v,by rw [HV.o];rfl,by rw [HF.o];exact own_base HO.o hsz,HB2.o⟩
theorem getElem_recVals (l:List (Str×Str)) (j:Nat) (h:j<l.length):(recVals l)[j*2]?=some (.string (S l[j].1))∧(recVals l)[j*2+1]?=some (.string (S l[j].2)):=by
 induction l generalizing j with
 |nil=>simp at h
 |cons x l ih=>
  cases j with
  |zero=>exact⟨rfl,rfl⟩
  |succ j=>
   have:=ih j (by simpa using h);simp only [recVals,List.flatMap_cons]at this⊢;rw [show (j+1)*2=j*2+1+1 by omega]
   simpa using this
theorem own_row {B:Nat} {w:World} {v:Value} {l:List (Str×Str)} (h:OwnRecs B w v l) (hl:l.length≤1000):∃g,RowR v g l w∧(l=[]∨B≤g∧g<w.heap.size):=by
 rcases h.2 with⟨hv,h0⟩|⟨g,cap,cur,hv,hg,hh,_⟩
 ·have hn:=List.eq_nil_of_length_eq_zero h0;exact⟨0,⟨none,0,by rw [hv,hn];rfl,by omega,.inl hn⟩,.inl hn⟩
 ·have hob:v.ownBlock=some g:=by rw [hv];rfl
  have hlt:=(World.ownsRow.lt h g hob).2;refine⟨g,⟨some ⟨g,0,none⟩,cap,hv,by omega,.inr ⟨rfl,hlt,?_⟩⟩,.inr ⟨hg,hlt⟩⟩;intro j hj;obtain⟨e1,e2⟩:=getElem_recVals l j hj;have c1:=World.ownsRow.cells h hob _ _ e1;have c2:=World.ownsRow.cells h hob _ _ e2;rw [add0]at c1 c2;exact⟨c1,c2,by simp [World.frozen?,hh],by simp [World.frozen?,hh]⟩
theorem RowR.carry {u:Value} {g:Nat} {l:List (Str×Str)} {v v':World} (h:RowR u g l v) (hb:Below v.heap.size v v'):RowR u g l v':=by
 obtain⟨ad,cap,h1,h2,h3⟩:=h;exact⟨ad,cap,h1,h2,h3.imp id (fun h=>⟨h.1,Nat.lt_of_lt_of_le h.2.1 hb.size,h.2.2.carry hb h.2.1⟩)⟩
theorem RowR.apart {u:Value} {g g':Nat} {l:List (Str×Str)} {v v':World} (h:RowR u g l v) (hb:Apart g' v v') (hne:l=[]∨g≠g') (hz:v.heap.size≤v'.heap.size):RowR u g l v':=by
 obtain⟨ad,cap,h1,h2,h3⟩:=h;refine⟨ad,cap,h1,h2,?_⟩
 rcases hne with hne|hne
 ·exact .inl hne
 ·refine h3.imp id (fun h=>⟨h.1,Nat.lt_of_lt_of_le h.2.1 hz,?_⟩);intro j hj;obtain⟨a,b,c,d⟩:=h.2.2 j hj;exact⟨(hb.1 _ _ h.2.1 hne).trans a,(hb.1 _ _ h.2.1 hne).trans b,(hb.2 _ _ h.2.1 hne).trans c,(hb.2 _ _ h.2.1 hne).trans d⟩
end Go.Proofs.YtggfdnopminemaaGreatDoor.L
namespace Go.Proofs.YtggfdnopminemaaGreatDoor
open Go Go.RowKit
set_option maxHeartbeats 8000000
set_option maxRecDepth 100000
def RlX (W:Nat) (dv:Value) (d p:Str) (n:Int) (v:World):Prop:=v.cell? ⟨W,0,none⟩=some dv∧v.cell? ⟨W+1,0,none⟩=some (.string (S d))∧v.cell? ⟨W+1,1,none⟩=some (.string (S p))∧v.cell? ⟨W+1,2,none⟩=some (.int .i64 n)∧W+1<v.heap.size
theorem RlX.below {W:Nat} {dv:Value} {d p:Str} {n:Int} {v v':World} (h:RlX W dv d p n v) (hb:Below v.heap.size v v'):RlX W dv d p n v':=
 ⟨(hb.cell (p:=⟨W,0,none⟩) (by have:=h.2.2.2.2;show W<_;omega)).trans h.1,(hb.cell (p:=⟨W+1,0,none⟩) h.2.2.2.2).trans h.2.1,(hb.cell (p:=⟨W+1,1,none⟩) h.2.2.2.2).trans h.2.2.1,(hb.cell (p:=⟨W+1,2,none⟩) h.2.2.2.2).trans h.2.2.2.1,Nat.lt_of_lt_of_le h.2.2.2.2 hb.size⟩
theorem RlX.new (w:World) (dv:Value) (d p:Str) (n:Int) (t1 t2:TypeId):RlX w.heap.size dv d p n ((w.alloc (.cells #[dv] t1)).alloc (.cells #[.string (S d),.string (S p),.int .i64 n] t2)):=by
 refine⟨?_,?_,?_,?_,by simp⟩<;>go_simp
theorem SesM.store {lo B lo' B2:Nat} {s s2:P.Ses} {g g2:P.LogT} {v:World} {u2 us2:Value} (h:SesM lo B s g v) (hr:SRows lo' B2 v u2 us2 s2.1 s2.2.1) (hB:B<lo') (hlo:lo≤lo'):SesM lo B s2 g2 (wr6 v B u2 us2 s2.2.2 g2.1 g2.2.1 g2.2.2):=by
 have hc:=wr6_chg v B u2 us2 s2.2.2 g2.1 g2.2.1 g2.2.2;obtain⟨h0,h1,u,us,h2,_⟩:=h;obtain⟨F,G,k1,k2,k3,k4,k5⟩:=hr;have hr':SRows lo B v u2 us2 s2.1 s2.2.1:=⟨F,G,k1,k2,fun b hb=>by have:=k3 b hb;omega,fun b hb=>by have:=k4 b hb;omega,k5⟩;exact⟨h0,Nat.le_trans h1 hc.size,u2,us2,wr6_out h2 _ _ _ _ _ _,hr'.stand hc (fun b e=>.inl e)⟩
theorem SesM.new {lo:Nat} {w w1:World} {u:Value} {l:P.Dic} (hE:L.EB≤w.heap.size) (hlo:lo≤w.heap.size) (hb:Below w.heap.size w w1) (hD:Ents w1 (Bet w.heap.size w1.heap.size) u l):SesM lo w1.heap.size (P.ses0 l).1 (P.ses0 l).2 (w1.alloc (sessCells u (.slice none 0 0) [] [] [] 0)):=by
 have hz:=hb.size;have hba:=(Below.refl w1.heap.size w1).alloc lZ (sessCells u (.slice none 0 0) [] [] [] 0);refine⟨by omega,Nat.le_trans (Nat.le_trans hlo hz) hba.size,u,.slice none 0 0,SOut.new _ _ _ _ _ _ _,_,_,hD.below entE_ok hba,ownK_ints (B:=w1.heap.size) (World.ownsRow_nil _ _ _ _) (by simp [P.ses0]),fun b h=>⟨Nat.le_trans hlo h.1,Nat.lt_of_lt_of_le h.2 hba.size,Nat.ne_of_lt h.2⟩,fun b h=>?_,fun b _ h=>?_⟩
 ·have:=h.2;simp [Value.ownBlock]at this
 ·have:=h.2;simp [Value.ownBlock]at this
theorem recAt_chg {g:Nat} {l:List (Str×Str)} {v v':World} {X:Blk} {u:Value} (h:L.RowR u g l v) (hc:Chg X v v') (hX:l=[]∨¬X g):L.RowR u g l v':=by
 obtain⟨ad,cap,h1,h2,h3⟩:=h;refine⟨ad,cap,h1,h2,?_⟩
 rcases h3 with h3|⟨k1,k2,k3⟩
 ·exact .inl h3
 rcases hX with hX|hX
 ·exact .inl hX
 refine .inr ⟨k1,Nat.lt_of_lt_of_le k2 hc.size,fun j hj=>?_⟩;obtain⟨a,b,c,d⟩:=k3 j hj;exact⟨(hc.cell (p:=⟨g,_,none⟩) k2 hX).trans a,(hc.cell (p:=⟨g,_,none⟩) k2 hX).trans b,(hc.frozen (p:=⟨g,_,none⟩) k2 hX).trans c,(hc.frozen (p:=⟨g,_,none⟩) k2 hX).trans d⟩
def RplPost (r:Nat×Bool) (w:World) (e:Ending) (w':World):Prop:=e=.returned (.tuple #[.int .i64 (r.1:Int),.bool r.2])∧Below w.heap.size w w'
theorem impl_withM (lo B:Nat) (l:P.Dic) (st:List Int) (sc d p:Str) (n:Int) (word more:Str) (w:World) (h:SesM lo B (l,(st,sc)) (d,p,n) w) (hm:Small l) (ht:P.trans l (st,sc)=true) (hl:more.length≤2^20) (hE:L.Env w) :
 Calls Tryz.prog 70 #[.pointer (some ⟨B,0,none⟩),.string (S word),.string (S more)] w (MetPost lo B (P.args (l,(st,sc)) word more) (d,p,n) w):=by
 have HSM:=qh h;have HE:=qh hE;have HT:=qh ht
 have HP0:=qh (show P.args (l,(st,sc)) word more=if word=P.wPress then P.pressed (l,(st,sc)) more else if word=P.wType∨word=P.wDelete∨word=P.wLookup then P.withO (l,(st,sc)) word more else if word=P.wDefine then P.defined (l,(st,sc)) more else if word=P.wReverse then ((l,(st,sc)),P.reversed l more) else if word=P.wJoin then ((l,(st,sc)),P.joined more) else if word=P.wLoose then ((l,(st,sc)),P.loosed more) else ((l,(st,sc)),none) from rfl)
 have HDC:=qh (P.trans_dicS ht)
 clear h hE ht
 by_cases h1:word=[112,114,101,115,115]
 ·have HP0:=qh (HP0.o.trans (if_pos h1));have f1:=P.beqB h1;clear h1
  go_enter Tryz.func70,Tryz.ntmps70
  go_wp2_with fail
  refine (impl_parseStroke more _ oZ).mono ?_;rintro e w1 ⟨rfl,hb⟩;have HB1:=qh hb;clear hb;have HPR:=qh (show P.pressed (l,(st,sc)) more=if (P.parse more).2 then P.typed (l,(st,sc)) [((P.parse more).1:Int)] else ((l,(st,sc)),none) from rfl);generalize P.parse more=q at *;obtain⟨k,q⟩:=q;simp only at HPR⊢
  cases q
  ·have HP:=qh (HP0.o.trans (HPR.o.trans (if_neg dZ)));go_wp2;go_ret2;exact HSM.o.keep (x:=[]) HB1.o HP.o
  ·have HP:=qh (HP0.o.trans (HPR.o.trans (if_pos rfl)));have hba:=(Below.refl w1.heap.size w1).alloc lZ (.cells #[.int .i64 (k:Int)] 3);have HB2:=bt HB1 hba;have HS2:=qh (HSM.o.below HB2.o);have HE2:=qh (HE.o.below HB2.o HE.o.size);have HO:=qh (int_one (k:Int) w1);clear hba
   go_wp2_with fail
   refine (impl_pressM lo B _ l st [(k:Int)] sc d p n _ HS2.o hm HT.o HO.o HE2.o).mono ?_;rintro e w2 hmp;obtain⟨x,ok,rfl,hx,hs,hc⟩:=hmp.after HB2.o;have HX:=qh hx;have HS:=qh hs;have HC:=qh hc;clear hmp hx hs hc;exact zq26
 have HP1:=qh (HP0.o.trans (if_neg h1))
 have f1:=P.beqN h1
 clear HP0 h1
 by_cases ho_type:word=[116,121,112,101]
 ·have HP:=qh (HP1.o.trans (if_pos (.inl ho_type)));have f_type:=P.beqB ho_type;clear ho_type;exact zq176
 by_cases ho_delete:word=[100,101,108,101,116,101]
 ·have HP:=qh (HP1.o.trans (if_pos (.inr (.inl ho_delete))));have f_type:=P.beqN ho_type;have f_delete:=P.beqB ho_delete;clear ho_delete ho_type;exact zq176
 by_cases ho_lookup:word=[108,111,111,107,117,112]
 ·have HP:=qh (HP1.o.trans (if_pos (.inr (.inr ho_lookup))));have f_type:=P.beqN ho_type;have f_delete:=P.beqN ho_delete;have f_lookup:=P.beqB ho_lookup;clear ho_lookup ho_type ho_delete;exact zq176
 have HP2:=qh (HP1.o.trans (if_neg (fun h=>by rcases h with h|h|h;exact ho_type h;exact ho_delete h;exact ho_lookup h)))
 have f_type:=P.beqN ho_type;have f_delete:=P.beqN ho_delete;have f_lookup:=P.beqN ho_lookup
 clear HP1 ho_type ho_delete ho_lookup
 by_cases h3:word=[100,101,102,105,110,101]
 ·have HP:=qh (HP2.o.trans (if_pos h3));have f3:=P.beqB h3;clear h3
  go_enter Tryz.func70,Tryz.ntmps70
  go_wp2_with fail
  refine (impl_defineM lo B l st sc d p n more _ HSM.o hm HT.o hl HE.o).mono ?_;exact zq24
 have HP3:=qh (HP2.o.trans (if_neg h3))
 have f3:=P.beqN h3
 clear HP2 h3
 by_cases h4:word=[114,101,118,101,114,115,101]
 ·have HP:=qh (HP3.o.trans (if_pos h4));have f4:=P.beqB h4;clear h4
  go_enter Tryz.func70,Tryz.ntmps70
  go_wp2_with fail
  refine (impl_reverseM lo B l st sc d p n more _ HSM.o hm HDC.o hl HE.o).mono ?_;exact zq24
 have HP4:=qh (HP3.o.trans (if_neg h4))
 have f4:=P.beqN h4
 clear HP3 h4
 by_cases h5:word=[106,111,105,110]
 ·have HP:=qh (HP4.o.trans (if_pos h5));have f5:=P.beqB h5;have HJ:=qh (P.joined_cut more);have hcl:=P.cut_len more [32];clear h5
  go_enter Tryz.func70,Tryz.ntmps70
  go_wp2_with fail
  refine (L.cut_c more 32 _ oZ HE.o).mono ?_;rintro e w1 ⟨rfl,k1,rfl⟩;obtain⟨x,y,q,hcut⟩:∃x y b,Lib.cut more [32]=(x,y,b):=⟨_,_,_,rfl⟩;rw [hcut]at HJ hcl⊢;simp only at HJ hcl⊢;clear hcut;have HB1:=qh (show Below w.heap.size w (w.drewN k1) from below_drewN bZ _);generalize w.drewN k1=w1 at *
  go_wp2_with fail
  refine (impl_joinSuffix x y _ oZ oZ).mono ?_;rintro e w2 ⟨rfl,hb⟩;have HB2:=bt HB1 hb;clear hb;go_wp2;go_ret2;exact⟨_,_,rfl,by rw [HP.o,←HJ.o];rfl,by rw [HP.o];exact HSM.o.below HB2.o,Below.chg HB2.o _⟩
 have HP5:=qh (HP4.o.trans (if_neg h5))
 have f5:=P.beqN h5
 clear HP4 h5
 by_cases h6:word=[108,111,111,115,101]
 ·have HP0:=qh (HP5.o.trans (if_pos h6));have f6:=P.beqB h6;clear h6
  go_enter Tryz.func70,Tryz.ntmps70
  go_wp2_with fail
  refine (impl_parseLoose more _ oZ).mono ?_;rintro e w1 ⟨rfl,hb⟩;have HB1:=qh hb;clear hb;have HPL:=qh (show P.loosed more=if (P.loose more).2 then some (P.fmt ((P.loose more).1:Int)) else none from rfl);have HLS:=qh (P.loose_stroke (t:=more));generalize P.loose more=q at *;obtain⟨k,q⟩:=q;simp only at HPL HLS⊢
  cases q
  ·have HP:=qh (show P.args (l,(st,sc)) word more=((l,(st,sc)),none) from by rw [HP0.o,HPL.o];rfl);go_wp2;go_ret2;exact HSM.o.keep (x:=[]) HB1.o HP.o
  ·have HST:=qh (HLS.o rfl)
   go_wp2_with fail
   refine (impl_formatStroke k _ HST.o).mono ?_;rintro e w2 ⟨rfl,hb⟩;have HB2:=bt HB1 hb;clear hb;go_wp2;go_ret2;exact⟨_,_,rfl,by rw [HP0.o,HPL.o];rfl,by rw [HP0.o];exact HSM.o.below HB2.o,Below.chg HB2.o _⟩
 have HP:=qh (HP5.o.trans (if_neg h6))
 have f6:=P.beqN h6
 clear HP5 h6
 go_enter Tryz.func70,Tryz.ntmps70
 go_wp2
 go_ret2
 exact HSM.o.keep (x:=[]) bZ HP.o
theorem impl_execute (u us:Value) (l:P.Dic) (st:List Int) (sc d p:Str) (n:Int) (line:Str) (w:World) (hu:EntR w u l) (hus:IntR w us st) (hf:P.Fit (l,(st,sc)) (d,p,n)) (hl:line.length≤2^20) (hE:L.Env w) :
 Calls Tryz.prog 19 #[sessV u us sc d p n,.string (S line)] w (ExPost (P.exec (l,(st,sc)) (d,p,n) line) w):=by
 obtain⟨hf1,hf2,hf3,hf4,hf5,hf6⟩:=hf
 have hm:Small l:=⟨hf1,hf2,hf3⟩
 simp only at hf4 hf5 hf6
 clear hf1 hf2 hf3
 have hu0:=hu;have hus0:=hus
 obtain⟨ad,cap,rfl,_,_⟩:=hu0
 obtain⟨sd,sap,rfl,_,_⟩:=hus0
 obtain⟨W0,hW0⟩:∃v,(w.alloc (sessCells (.slice ad l.length cap) (.slice sd st.length sap) sc d p n)).alloc (sessCells (.slice none 0 0) (.slice none 0 0) [] [] [] 0)=v:=⟨_,rfl⟩
 have hb0:Below w.heap.size w W0:=by rw [←hW0];exact ((Below.refl w.heap.size w).alloc lZ _).alloc sZ _
 have hzW:W0.heap.size=w.heap.size+2:=by rw [←hW0];simp
 have hq0:SQ w.heap.size (.slice ad l.length cap) (.slice sd st.length sap) sc d p n W0:=by
  exact zq88
 have HU:=qh hu;have HUS:=qh hus;have HE:=qh hE
 have HQ:=qh hq0;have HB:=qh hb0
 have hzW2:w.heap.size+2≤W0.heap.size:=by omega
 clear hq0 hb0 hu hus hE hzW
 go_enter Tryz.func19,Tryz.ntmps19
 go_upto_region 1 with fail
 try rw [hW0]
 clear hW0
 obtain⟨⟨o0,o1,o2,o3,o4,o5,o6⟩,_⟩:=HQ.o.1
 go_wp2_with fail
 refine (sessCopied _ _ l st sc d p n _ (HU.o.below HB.o) (HUS.o.below HB.o) hm oZ).mono ?_
 rintro e w1 ⟨nu,nus,m,rfl,hD,hI,hm1,hm2,hb⟩
 obtain⟨na,nc,rfl,-,-⟩:=id hD
 obtain⟨ma,mc,rfl,-,-⟩:=id hI
 obtain⟨w2,hw2⟩:∃v,w1.alloc (sessCells (.slice na l.length nc) (.slice ma st.length mc) sc d p n)=v:=⟨_,rfl⟩
 have hba:Below w1.heap.size w1 w2:=by rw [←hw2];exact bZ.alloc lZ _
 have hz1:=hb.size
 have hBz:w1.heap.size<w2.heap.size:=by rw [←hw2];simp
 have HB2:=qh ((HB.o.trans (hb.mono HB.o.size)).trans (hba.mono oZ))
 have HQ2:=qh ((HQ.o.below hb).below hba)
 have HS2:=qh (show SesM (w.heap.size+2) w1.heap.size (l,(st,sc)) (d,p,n) w2 from⟨by have:=HE.o.size;omega,by omega,_,_,by rw [←hw2];exact SOut.new _ _ _ _ _ _ _,(SRows.of hD hI hzW2 hm2 hm1 (.inl lZ)).below hba⟩)
 clear hD hI hm1 hm2 hb hba HQ HB o0 o1 o2 o3 o4 o5 o6
 go_upto_region 2 with fail
 try rw [hw2]
 clear hw2
 obtain⟨⟨o0,o1,o2,o3,o4,o5,o6⟩,_⟩:=HQ2.o.1
 go_wp2_with fail
 refine (impl_isValidSession _ _ l st sc d p n _ (HU.o.below HB2.o) (HUS.o.below HB2.o) hm hf5 hf6 (HE.o.below HB2.o HE.o.size)).mono ?_
 rintro e w3 ⟨rfl,hb⟩
 have HB3:=bt HB2 hb;have HQ3:=qh (HQ2.o.below hb);have HS3:=qh (HS2.o.below hb)
 have hB3:=hb.size
 clear hb HB2 HQ2 HS2 o0 o1 o2 o3 o4 o5 o6
 cases h1:P.sess l st sc d p n
 ·have HP:=qh (P.exec_no (s:=(l,(st,sc))) (g:=(d,p,n)) (line:=line) h1);obtain⟨_,_,bu,bus,hso,hrows⟩:=HS3.o;simp only at hso hrows;obtain⟨ba,bc,rfl,_,_⟩:=id hrows.dic;obtain⟨ia,ic,rfl,_,_⟩:=id hrows.str;obtain⟨⟨o0,o1,o2,o3,o4,o5,o6⟩,_⟩:=hso;obtain⟨⟨r0,r1,r2,r3,r4,r5,r6⟩,f0,f1,f2,f3,f4,f5⟩:=HQ3.o.2;obtain⟨V,hV⟩:∃v,wr6 w3 (w.heap.size+1) (.slice ba l.length bc) (.slice ia st.length ic) sc d p n=v:=⟨_,rfl⟩;have hset:Chg (fun b=>b=w.heap.size+1) w3 V:=by rw [←hV];exact wr6_chg _ _ _ _ _ _ _ _
  have HRV:=qh (show SOut (w.heap.size+1) (.slice ba l.length bc) (.slice ia st.length ic) sc d p n V from by rw [←hV];exact wr6_out HQ3.o.2 _ _ _ _ _ _);have HBV:=qh (Chg.belowB HB3.o hset HB3.o.size (fun b h=>by have h9:b=w.heap.size+1:=h;omega));have HROW:=qh ((hrows.standLo hset (fun b h=>by have h9:b=w.heap.size+1:=h;omega)).lo (lo':=w.heap.size) oZ);unfold wr6 at hV;clear hrows;go_wp2
  try rw [hV]
  clear hset hV;obtain⟨q0,q1,q2,q3,q4,q5,q6⟩:=HRV.o.1;refine bodyPost_ret (v:=.tuple #[sessV (.slice ba l.length bc) (.slice ia st.length ic) sc d p n,.string (S [110,111])]) (by simp [results,Tryz.results19,go_sem,q0,q1,q2,q3,q4,q5]) rfl ⟨_,_,w1.heap.size,by rw [HP.o]<;>rfl,by rw [HP.o];exact HROW.o,HBV.o⟩
 have HT:=qh (P.sesOk_parts (s:=(l,(st,sc))) (g:=(d,p,n)) h1)
 go_wp2_with fail
 refine (L.isValidRecord line [] _ oZ sZ).mono ?_
 rintro e w4 ⟨rfl,hb⟩
 rw [P.vrec_good]
 have HB4:=bt HB3 hb;have HQ4:=qh (HQ3.o.below hb);have HS4:=qh (HS3.o.below hb)
 have hB4:=Nat.le_trans hB3 hb.size
 clear hb HB3 HQ3 HS3
 cases h2:P.good line []
 ·have HP:=qh (P.exec_bad (s:=(l,(st,sc))) (g:=(d,p,n)) (line:=line) h1 h2);obtain⟨_,_,bu,bus,hso,hrows⟩:=HS4.o;simp only at hso hrows;obtain⟨ba,bc,rfl,_,_⟩:=id hrows.dic;obtain⟨ia,ic,rfl,_,_⟩:=id hrows.str;obtain⟨⟨o0,o1,o2,o3,o4,o5,o6⟩,_⟩:=hso;obtain⟨⟨r0,r1,r2,r3,r4,r5,r6⟩,f0,f1,f2,f3,f4,f5⟩:=HQ4.o.2;obtain⟨V,hV⟩:∃v,wr6 w4 (w.heap.size+1) (.slice ba l.length bc) (.slice ia st.length ic) sc d p n=v:=⟨_,rfl⟩;have hset:Chg (fun b=>b=w.heap.size+1) w4 V:=by rw [←hV];exact wr6_chg _ _ _ _ _ _ _ _
  have HRV:=qh (show SOut (w.heap.size+1) (.slice ba l.length bc) (.slice ia st.length ic) sc d p n V from by rw [←hV];exact wr6_out HQ4.o.2 _ _ _ _ _ _);have HBV:=qh (Chg.belowB HB4.o hset HB4.o.size (fun b h=>by have h9:b=w.heap.size+1:=h;omega));have HROW:=qh ((hrows.standLo hset (fun b h=>by have h9:b=w.heap.size+1:=h;omega)).lo (lo':=w.heap.size) oZ);unfold wr6 at hV;clear hrows;go_wp2
  try rw [hV]
  clear hset hV;obtain⟨q0,q1,q2,q3,q4,q5,q6⟩:=HRV.o.1;refine bodyPost_ret (v:=.tuple #[sessV (.slice ba l.length bc) (.slice ia st.length ic) sc d p n,.string (S [98,97,100])]) (by simp [results,Tryz.results19,go_sem,q0,q1,q2,q3,q4,q5]) rfl ⟨_,_,w1.heap.size,by rw [HP.o]<;>rfl,by rw [HP.o];exact HROW.o,HBV.o⟩
 by_cases h3:n=60
 ·have HP:=qh (P.exec_full (s:=(l,(st,sc))) (g:=(d,p,n)) (line:=line) h1 h2 h3);have f9:(n==60)=true:=by rw [h3];rfl
  clear h3;obtain⟨⟨x0,x1,x2,x3,x4,x5,x6⟩,_⟩:=HQ4.o.1;obtain⟨_,_,bu,bus,hso,hrows⟩:=HS4.o;simp only at hso hrows;obtain⟨ba,bc,rfl,_,_⟩:=id hrows.dic;obtain⟨ia,ic,rfl,_,_⟩:=id hrows.str;obtain⟨⟨o0,o1,o2,o3,o4,o5,o6⟩,_⟩:=hso;obtain⟨⟨r0,r1,r2,r3,r4,r5,r6⟩,f0,f1,f2,f3,f4,f5⟩:=HQ4.o.2;obtain⟨V,hV⟩:∃v,wr6 w4 (w.heap.size+1) (.slice ba l.length bc) (.slice ia st.length ic) sc d p n=v:=⟨_,rfl⟩;have hset:Chg (fun b=>b=w.heap.size+1) w4 V:=by rw [←hV];exact wr6_chg _ _ _ _ _ _ _ _
  have HRV:=qh (show SOut (w.heap.size+1) (.slice ba l.length bc) (.slice ia st.length ic) sc d p n V from by rw [←hV];exact wr6_out HQ4.o.2 _ _ _ _ _ _);have HBV:=qh (Chg.belowB HB4.o hset HB4.o.size (fun b h=>by have h9:b=w.heap.size+1:=h;omega));have HROW:=qh ((hrows.standLo hset (fun b h=>by have h9:b=w.heap.size+1:=h;omega)).lo (lo':=w.heap.size) oZ);unfold wr6 at hV;clear hrows;go_wp2
  try rw [hV]
  clear hset hV;obtain⟨q0,q1,q2,q3,q4,q5,q6⟩:=HRV.o.1;refine bodyPost_ret (v:=.tuple #[sessV (.slice ba l.length bc) (.slice ia st.length ic) sc d p n,.string (S [102,117,108,108])]) (by simp [results,Tryz.results19,go_sem,q0,q1,q2,q3,q4,q5]) rfl ⟨_,_,w1.heap.size,by rw [HP.o]<;>rfl,by rw [HP.o];exact HROW.o,HBV.o⟩
 have HP:=qh (P.exec_run (s:=(l,(st,sc))) (g:=(d,p,n)) (line:=line) h1 h2 h3)
 have f9:(n==60)=false:=by rw [beq_eq_false_iff_ne];exact h3
 obtain⟨⟨x0,x1,x2,x3,x4,x5,x6⟩,_⟩:=HQ4.o.1
 have HCM:=qh (P.cmd_cut (l,(st,sc)) line)
 have hcl:=P.cut_len line [32]
 go_wp2_with fail
 refine (L.cut_c line 32 _ oZ (HE.o.below HB4.o HE.o.size)).mono ?_
 rintro e w5 ⟨rfl,k1,rfl⟩
 obtain⟨x,y,q,hcut⟩:∃x y b,Lib.cut line [32]=(x,y,b):=⟨_,_,_,rfl⟩
 rw [hcut]at HCM hcl⊢
 simp only at HCM hcl⊢
 clear hcut
 have hbd:Below w4.heap.size w4 (w4.drewN k1):=below_drewN bZ _
 have HB5:=bt HB4 hbd;have HQ5:=qh (HQ4.o.below hbd);have HS5:=qh (HS4.o.below hbd)
 have hB5:=Nat.le_trans hB4 hbd.size
 clear hbd HB4 HQ4 HS4 x0 x1 x2 x3 x4 x5 x6
 generalize w4.drewN k1=w5 at *
 obtain⟨a,ha⟩:∃a,P.cmd (l,(st,sc)) line=a:=⟨_,rfl⟩
 rw [ha]at HP HCM
 clear ha
 go_upto_if 37 with fail
 go_cut [10,11] (fun rv kv wx=>∃(r:Str) (ok:Bool),rv=.string (S r)∧kv=.bool ok∧okB r ok=a.2∧SesM (w.heap.size+2) w1.heap.size a.1 (d,p,n) wx∧Chg (fun b=>b=w1.heap.size) w5 wx)
 case first=>
  cases q
  ·go_wp2_with fail
   refine (impl_plainM (w.heap.size+2) w1.heap.size l st sc d p n x _ HS5.o hm HT.o.1 (HE.o.below HB5.o HE.o.size)).mono ?_;rintro e w6 ⟨r,ok,rfl,hx,hs,hc⟩;rw [←show a=P.alone (l,(st,sc)) x from HCM.o]at hx hs;exact zq147
  ·go_wp2_with fail
   refine (impl_withM (w.heap.size+2) w1.heap.size l st sc d p n x y _ HS5.o hm HT.o.1 oZ (HE.o.below HB5.o HE.o.size)).mono ?_;rintro e w6 ⟨r,ok,rfl,hx,hs,hc⟩;rw [←show a=P.args (l,(st,sc)) x y from HCM.o]at hx hs;exact zq147
 case rest=>
  obtain⟨r,ok,rfl,rfl,hx,hs,hc⟩:=hcut;generalize hww:wc=w6 at *;clear hww HCM;have HX:=qh hx;have HS6:=qh hs;have HQ6:=qh (show SQ w.heap.size (.slice ad l.length cap) (.slice sd st.length sap) sc d p n w6 from⟨HQ5.o.1.stand hc (fun h=>by have h9:w.heap.size=w1.heap.size:=h;omega),HQ5.o.2.stand hc (fun h=>by have h9:w.heap.size+1=w1.heap.size:=h;omega)⟩);have HB6:=qh (Chg.belowB HB5.o hc HB5.o.size (fun b h=>by have h9:b=w1.heap.size:=h;omega));have hB6:=Nat.le_trans hB5 hc.size;clear hx hs hc HB5 HQ5 HS5;have HRP:=qh (replied_txt a.2)
  go_upto_if 50 with fail
  go_cut [10] (fun rv wx=>rv=.string (S (txtB a.2))∧w6=wx)
  case first=>
   cases ok
   ·go_wp2;go_meet;exact⟨by rw [←HX.o];rfl,rfl⟩
   ·go_wp2;go_meet;exact⟨by rw [←HX.o];rfl,rfl⟩
  case rest=>
   obtain⟨rfl,rfl⟩:=hcut;generalize txtB a.2=t1 at *
   go_upto_if 53 with fail
   go_cut [10] (fun rv wx=>rv=.string (S (P.replied a.2))∧w6=wx)
   case first=>
    exact zq82
   case rest=>
    obtain⟨rfl,rfl⟩:=hcut;have hrl:=P.replied_len a.2;generalize P.replied a.2=rep at *;obtain⟨⟨x0,x1,x2,x3,x4,x5,x6⟩,_⟩:=HQ6.o.1
    go_wp2_with fail
    refine (L.impl_append d p n line rep _ hf5 hf6 hl oZ (HE.o.below HB6.o HE.o.size)).mono ?_;rintro e w7 ⟨rfl,hb⟩;rw [P.app_eq];have HB7:=bt HB6 hb;have HQ7:=qh (HQ6.o.below hb);have HS7:=qh (HS6.o.below hb);have hB7:=Nat.le_trans hB6 hb.size;have HG:=qh (show P.logged (d,p,n) line rep=(d,(P.appS d p n line rep).1,(P.appS d p n line rep).2.1) from rfl);rw [HG.o]at HP;generalize P.appS d p n line rep=g9 at *;obtain⟨p9,n9,c9⟩:=g9;simp only at HP⊢;clear hb HB6 HQ6 HS6 x0 x1 x2 x3 x4 x5 x6 HG;obtain⟨w8,hw8⟩:∃v,wr3 w7 w1.heap.size d p9 n9=v:=⟨_,rfl⟩;have hc8:Chg (fun b=>b=w1.heap.size) w7 w8:=by rw [←hw8];exact wr3_chg _ _ _ _ _
    have HS8:=qh (show SesM (w.heap.size+2) w1.heap.size a.1 (d,p9,n9) w8 from by rw [←hw8];exact HS7.o.log);have HQ8:=qh (show SQ w.heap.size (.slice ad l.length cap) (.slice sd st.length sap) sc d p n w8 from⟨HQ7.o.1.stand hc8 (fun h=>by have h9:w.heap.size=w1.heap.size:=h;omega),HQ7.o.2.stand hc8 (fun h=>by have h9:w.heap.size+1=w1.heap.size:=h;omega)⟩);have HB8:=qh (Chg.belowB HB7.o hc8 HB7.o.size (fun b h=>by have h9:b=w1.heap.size:=h;omega));have hB8:=Nat.le_trans hB7 hc8.size;obtain⟨_,_,zu,zus,hzs,_⟩:=HS7.o;obtain⟨⟨o0,o1,o2,o3,o4,o5,o6⟩,g0,g1,g2,g3,g4,g5⟩:=hzs;unfold wr3 at hw8
    go_upto_region 18 with fail
    try rw [hw8]
    clear hw8 hc8 HB7 HQ7 HS7 o0 o1 o2 o3 o4 o5 o6 g0 g1 g2 g3 g4 g5;obtain⟨⟨D,T2,sc2⟩,ro⟩:=a;simp only at HP HS8 hrl;obtain⟨_,_,bu,bus,hso,hrows⟩:=HS8.o;simp only at hso hrows;obtain⟨ba,bc,rfl,_,_⟩:=id hrows.dic;obtain⟨ia,ic,rfl,_,_⟩:=id hrows.str;obtain⟨⟨o0,o1,o2,o3,o4,o5,o6⟩,_⟩:=hso;obtain⟨⟨r0,r1,r2,r3,r4,r5,r6⟩,f0,f1,f2,f3,f4,f5⟩:=HQ8.o.2;obtain⟨V,hV⟩:∃v,wr6 w8 (w.heap.size+1) (.slice ba D.length bc) (.slice ia T2.length ic) sc2 d p9 n9=v:=⟨_,rfl⟩;have hset:Chg (fun b=>b=w.heap.size+1) w8 V:=by rw [←hV];exact wr6_chg _ _ _ _ _ _ _ _
    have HRV:=qh (show SOut (w.heap.size+1) (.slice ba D.length bc) (.slice ia T2.length ic) sc2 d p9 n9 V from by rw [←hV];exact wr6_out HQ8.o.2 _ _ _ _ _ _);have HBV:=qh (Chg.belowB HB8.o hset HB8.o.size (fun b h=>by have h9:b=w.heap.size+1:=h;omega));have HROW:=qh ((hrows.standLo hset (fun b h=>by have h9:b=w.heap.size+1:=h;omega)).lo (lo':=w.heap.size) oZ);unfold wr6 at hV;clear hrows;go_wp2
    try rw [hV]
    clear hset hV;obtain⟨q0,q1,q2,q3,q4,q5,q6⟩:=HRV.o.1;refine bodyPost_ret (v:=.tuple #[sessV (.slice ba D.length bc) (.slice ia T2.length ic) sc2 d p9 n9,.string (S rep)]) (by simp [results,Tryz.results19,go_sem,q0,q1,q2,q3,q4,q5]) rfl ⟨_,_,w1.heap.size,by rw [HP.o]<;>rfl,by rw [HP.o];exact HROW.o,HBV.o⟩
theorem impl_replayLog (dv:Value) (l:P.Dic) (d p:Str) (n:Int) (w:World) (hu:EntR w dv l) (hm:Small l) (hd:d.length≤2^20) (hp:p.length≤2^20) (hE:L.Env w) :
 Calls Tryz.prog 12 #[.agg #[dv],logV d p n] w (RplPost (P.replayL l (d,p,n)) w):=by
 obtain⟨ad,cap,rfl,_,_⟩:=id hu
 obtain⟨W0,hW0⟩:∃v,(w.alloc (.cells #[.slice ad l.length cap] 26)).alloc (.cells #[.string (S d),.string (S p),.int .i64 n] 28)=v:=⟨_,rfl⟩
 have hb0:Below w.heap.size w W0:=by rw [←hW0];exact ((Below.refl w.heap.size w).alloc lZ _).alloc sZ _
 have hx0:RlX w.heap.size (.slice ad l.length cap) d p n W0:=by rw [←hW0];exact RlX.new _ _ _ _ _ _ _
 have HU:=qh hu;have HE:=qh hE
 have HX:=qh hx0;have HB:=qh hb0
 have HNO:=qh (P.replayL_no (d:=l) (g:=(d,p,n)));have HYES:=qh (P.replayL_yes (d:=l) (g:=(d,p,n)))
 have HRG:=qh (P.readAll_good (d++p));have hrl:=(P.readAll_len (d++p)).1
 have hzW:w.heap.size+1<W0.heap.size:=hx0.2.2.2.2
 have HBAD:=qh (show ∀v:World,Below w.heap.size w v→(P.dic l&&P.validLog d p n)=false→RplPost (P.replayL l (d,p,n)) w (.returned (.tuple #[.int .i64 0,.bool false])) v from fun v hb h=>by rw [P.replayL_no h];exact⟨rfl,hb⟩)
 clear hx0 hb0 hu hE
 go_enter Tryz.func12,Tryz.ntmps12
 go_upto_region 1 with fail
 try rw [hW0]
 clear hW0
 obtain⟨o0,o1,o2,o3,_⟩:=HX.o
 go_wp2_with fail
 refine (impl_newSession _ l _ (HU.o.below HB.o) hm (HE.o.below HB.o HE.o.size).dic).mono ?_
 rintro e w1 ⟨nu,rfl,hD,hb⟩
 obtain⟨na,nc,rfl,-,-⟩:=id hD
 have HX1:=qh (HX.o.below hb);have HB1:=bt HB hb
 have hz1:=hb.size
 have HD:=qh hD;have HBN:=qh hb
 have hba:Below w1.heap.size w1 (w1.alloc (sessCells (.slice na (P.kept (P.dic l) l).length nc) (.slice none 0 0) [] [] [] 0)):=bZ.alloc lZ _
 have hz2:w1.heap.size<(w1.alloc (sessCells (.slice na (P.kept (P.dic l) l).length nc) (.slice none 0 0) [] [] [] 0)).heap.size:=by simp
 have HX2:=qh (HX1.o.below hba);have HB2:=bt HB1 hba
 have HSN:=qh (show SesM w.heap.size w1.heap.size (P.ses0 (P.kept (P.dic l) l)).1 (P.ses0 (P.kept (P.dic l) l)).2 (w1.alloc (sessCells (.slice na (P.kept (P.dic l) l).length nc) (.slice none 0 0) [] [] [] 0)) from SesM.new (w:=W0) (by have:=HE.o.size;omega) oZ HBN.o HD.o)
 clear hb hba hD HX HB HX1 HB1 HD HBN o0 o1 o2 o3
 go_upto_region 2 with fail
 generalize w1.alloc (sessCells (.slice na (P.kept (P.dic l) l).length nc) (.slice none 0 0) [] [] [] 0)=w2 at *
 obtain⟨o0,o1,o2,o3,_⟩:=HX2.o
 go_wp2_with fail
 refine (L.records d p n _ hd hp (HE.o.below HB2.o HE.o.size)).mono ?_
 rintro e w3 ⟨rv,rfl,hrec,hb⟩
 rw [P.records_valid]
 obtain⟨g,hrow,hg⟩:=L.own_row hrec oZ
 obtain⟨ra,rc,rfl,_,hra⟩:=id hrow
 have HB3:=bt HB2 hb;have HS3:=qh (HSN.o.below hb);have HROW:=qh hrow
 have hz3:w1.heap.size<w3.heap.size:=Nat.lt_of_lt_of_le hz2 hb.size
 have hg1:(P.readAll (d++p)).1=[]∨w1.heap.size<g:=hg.imp id fun h=>by omega
 clear hb hrec hrow hra hg HX2 HB2 HSN o0 o1 o2 o3
 cases h1:P.dic l
 ·have HQ:=qh (HBAD.o _ HB3.o (by rw [h1];rfl));go_wp2;go_ret2;exact HQ.o
 cases h2:P.validLog d p n
 ·have HQ:=qh (HBAD.o _ HB3.o (by rw [h1,h2];rfl));go_wp2;go_ret2;exact HQ.o
 have HP:=qh (HYES.o h1 h2)
 have HF0:=qh (P.ses0_fit h1)
 rw [h1,show P.kept true l=l from rfl]at HS3
 try simp only at HP
 clear HBAD HNO HYES h1 h2
 generalize hrs:(P.readAll (d++p)).1=rs at *
 clear hrs
 go_wp2
 go_loopw [31] (fun i wr=>∃(j:Nat) (s1:P.Ses) (g1:P.LogT),j≤rs.length∧i=.int .i64 j∧P.firstBad (P.ses0 l) rs=j+P.firstBad (s1,g1) (rs.drop j)∧P.Fit s1 g1∧SesM w.heap.size w1.heap.size s1 g1 wr∧L.RowR (.slice ra rs.length rc) g rs wr∧Below w.heap.size w wr) (fun i _=>rs.length-(intOf i).toNat)
 case atStart=>exact⟨0,_,_,Nat.zero_le _,rfl,by rw [List.drop_zero];simp,HF0.o,HS3.o,HROW.o,HB3.o⟩
 case round=>
  obtain⟨j,s1,g1,hj,rfl,hfb,hfit,hs,hrow,hb⟩:=hrel;have HFB:=qh hfb;have HFIT:=qh hfit;have HS:=qh hs;have HROW2:=qh hrow;have HBR:=qh hb;clear hfb hfit hs hb HF0 HS3 HROW HB3
  by_cases hlt:j<rs.length
  ·obtain⟨ra',rc',hrv,_,hra⟩:=hrow;injection hrv with e1 e2 e3;subst e1 e3
   rcases hra with hra|⟨rfl,hgz,hra⟩
   ·rw [hra]at hlt;exact absurd hlt (Nat.not_lt_zero _)
   obtain⟨c0,c1,_,_⟩:=hra j hlt;have i1:(j:Int)<(rs.length:Int):=by omega
   have hgd:=P.good_parts (HRG.o rs[j] (List.getElem_mem hlt));have HDR:=qh (List.drop_eq_getElem_cons hlt);have HFX:=qh (P.exec_fit (line:=rs[j].1) HFIT.o);have hgne:w1.heap.size≠g:=by rcases hg1 with e|e;exact absurd hlt (by rw [e];exact Nat.not_lt_zero _);exact Nat.ne_of_lt e
   generalize rs[j]=x at *;obtain⟨cx,rx⟩:=x;simp only at hgd c0 c1 HDR HFX;obtain⟨w4,hw4⟩:∃v,wr.alloc (.cells #[.string (S cx),.string (S rx)] 86)=v:=⟨_,rfl⟩;have hba:Below wr.heap.size wr w4:=by rw [←hw4];exact bZ.alloc lZ _
   have HC4:=qh (show w4.cell? ⟨wr.heap.size,0,none⟩=some (.string (S cx))∧w4.cell? ⟨wr.heap.size,1,none⟩=some (.string (S rx))∧wr.heap.size<w4.heap.size from by subst hw4;exact⟨by go_simp,by go_simp,by simp⟩);have HS4:=qh (HS.o.below hba);have HROW4:=qh (HROW2.o.carry hba);have HB4:=bt HBR hba;have hwr:w1.heap.size<wr.heap.size:=by obtain⟨_,_,_,_,h,_⟩:=HS.o;exact h.1.2.2.2.2.2.2
   clear hra hba HS HROW2 HBR
   go_upto_region 8 with fail
   try rw [hw4]
   clear hw4 c0 c1;obtain⟨l1,st1,sc1⟩:=s1;obtain⟨d1,p1,n1⟩:=g1;obtain⟨k0,k1,k2⟩:=HC4.o;obtain⟨_,_,bu,bus,hso,hrows0⟩:=HS4.o;simp only at hso hrows0;have HRE:=qh hrows0.dic;have HRI:=qh hrows0.str;obtain⟨ua,uc,rfl,_,_⟩:=id HRE.o;obtain⟨ia,ic,rfl,_,_⟩:=id HRI.o;obtain⟨⟨o0,o1,o2,o3,o4,o5,o6⟩,_⟩:=hso;clear hrows0
   go_wp2_with fail
   refine (impl_execute _ _ l1 st1 sc1 d1 p1 n1 cx _ HRE.o HRI.o HFIT.o oZ (HE.o.below HB4.o HE.o.size)).mono ?_;rintro e w5 ⟨nu2,nus2,B2,rfl,hrows,hb⟩;have HSAME:=qh (P.firstBad_same (a:=((l1,(st1,sc1)),(d1,p1,n1))) (r:=(cx,rx)) (rs:=rs.drop (j+1)));have HOTH:=qh (P.firstBad_other (a:=((l1,(st1,sc1)),(d1,p1,n1))) (r:=(cx,rx)) (rs:=rs.drop (j+1)));rw [HDR.o]at HFB;simp only at HSAME HOTH;generalize P.exec (l1,(st1,sc1)) (d1,p1,n1) cx=q at *;obtain⟨⟨⟨l2,st2,sc2⟩,d2,p2,n2⟩,rep⟩:=q;simp only at hrows HFX HSAME HOTH⊢;have HS5:=qh (HS4.o.below hb);have HROW5:=qh (HROW4.o.carry hb);have HB5:=bt HB4 hb;have k1':w5.cell? ⟨wr.heap.size,1,none⟩=some (.string (S rx)):=(hb.cell (p:=⟨wr.heap.size,1,none⟩) k2).trans k1;have hz5:wr.heap.size<w5.heap.size:=Nat.lt_of_lt_of_le k2 hb.size;have HS6:=qh (HS5.o.store (g2:=(d2,p2,n2)) (s2:=(l2,(st2,sc2))) hrows oZ (Nat.le_trans (by have:=HB4.o.size;exact this) lZ));obtain⟨na2,nc2,rfl,_,_⟩:=id hrows.dic;obtain⟨ma2,mc2,rfl,_,_⟩:=id hrows.str;obtain⟨w6,hw6⟩:∃v,wr6 w5 w1.heap.size (.slice na2 l2.length nc2) (.slice ma2 st2.length mc2) sc2 d2 p2 n2=v:=⟨_,rfl⟩;have hc6:Chg (fun b=>b=w1.heap.size) w5 w6:=by rw [←hw6];exact wr6_chg _ _ _ _ _ _ _ _
   have HROW6:=qh (recAt_chg HROW5.o hc6 (.inr (fun e=>hgne e.symm)));have HB6:=qh (Chg.belowB HB5.o hc6 HB5.o.size (fun b e=>by have h9:b=w1.heap.size:=e;have:=HB4.o.size;have:=hz1;omega));have k1'':w6.cell? ⟨wr.heap.size,1,none⟩=some (.string (S rx)):=(hc6.cell (p:=⟨wr.heap.size,1,none⟩) hz5 (fun e=>by have h9:wr.heap.size=w1.heap.size:=e;omega)).trans k1';simp only at HS6;rw [hw6]at HS6;obtain⟨_,_,zu,zus,hzs,_⟩:=HS5.o;obtain⟨⟨r0,r1,r2,r3,r4,r5,r6⟩,f0,f1,f2,f3,f4,f5⟩:=hzs;clear o0 o1 o2 o3 o4 o5 o6 hb hrows hc6 HS4 HROW4 HB4 k0 k1 k1' HROW5;unfold wr6 at hw6
   go_upto_region 10 with fail
   try rw [hw6]
   clear hw6 r0 r1 r2 r3 r4 r5 r6 f0 f1 f2 f3 f4 f5 HS5
   by_cases heq:rep=rx
   ·subst heq;have HF2:=qh (HFB.o.trans (by rw [HSAME.o rfl]));go_wp2
    go_roundw
    case rel=>exact⟨j+1,_,_,by omega,by go_num,by rw [HF2.o];omega,HFX.o,HS6.o,HROW6.o,HB6.o⟩
    case measure=>simp [intOf];omega
   ·have f1:(rep==rx)=false:=by simpa using heq
    have HF2:=qh (HFB.o.trans (by rw [HOTH.o heq]));have HEND:=qh (show RplPost (P.replayL l (d,p,n)) w (.returned (.tuple #[.int .i64 (j:Int),.bool true])) w6 from by rw [HP.o,HF2.o];exact⟨rfl,HB6.o⟩);clear HF2;go_wp2;go_ret2;exact HEND.o
  ·exact zq99
end Go.Proofs.YtggfdnopminemaaGreatDoor
