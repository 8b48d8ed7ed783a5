/- Walks: splitting. Rows of words and of atoms. Walks: the program reads a translation. Walks: the reference checks a translation. Walks: the reference reads a translation. -/
import Derived.Test.YtggfdnopminemaaGreatDoorZt
import Derived.Test.YtggfdnopminemaaGreatDoorAtomE
namespace Go.Proofs.YtggfdnopminemaaGreatDoor
section
open Go Go.RowKit
set_option maxHeartbeats 400000
set_option maxRecDepth 100000
theorem info_str:(Tryz.prog.info? 9).map (fun i=>(i.zero,i.size,i.bytes))=some (some (.string ⟨#[]⟩),1,16):=by kernel_rfl
theorem OwnStrs.snoc {B:Nat} {w:World} {v:Value} {l:List Str} {x:Str} (h:w.ownsRow B 9 1 v (l.length+1) (strVals l++[.string (S x)])):OwnStrs B w v (l++[x]):=by
 unfold OwnStrs;rw [List.length_append];simpa [strVals] using h
theorem split_rel {w w1 w2:World} {v v':Value} {l:List Str} {x:Str} {o:Obj} (hsz:w.heap.size≤w1.heap.size) (hown:OwnStrs w.heap.size w1 v l) (hb:Below w.heap.size w w1)
 (h:w2.ownsRow w.heap.size 9 1 v' (l.length+1) (strVals l++[.string (S x)])) (hg:(w1.alloc o).grownBy w2 v.ownBlock) :
 OwnStrs w.heap.size w2 v' (l++[x])∧Below w.heap.size w w2:=
 ⟨OwnStrs.snoc h,(hb.alloc hsz _).grown hg (by simp;omega) (fun k hk=>(World.ownsRow.lt hown k hk).1)⟩
theorem l1Split (s:Str) (c:UInt8) (w:World) (hs:s.length≤2^40) :
 Calls Tryz.prog 66 #[.string (S s),.int .u8 c.toNat] w (SplitPost c s w):=by
 obtain⟨i0,hi,hz0,hz1,hz2⟩:=info_parts info_str
 go_enter Tryz.func66,Tryz.ntmps66
 go_wp2
 go_loopw [5,6,7] (fun v fr i wr=>∃(k f:Nat) (init:List Str),k≤s.length∧f≤k∧i=.int .i64 k∧fr=.int .i64 f∧init.length≤k∧P.split c (s.take k)=init++[(s.drop f).take (k-f)]∧OwnStrs w.heap.size wr v init∧Below w.heap.size w wr)
  (fun _ _ i _=>s.length-(intOf i).toNat)
 case atStart=>exact⟨0,0,[],Nat.zero_le _,Nat.le_refl _,rfl,rfl,Nat.le_refl _,by simp [P.split],World.ownsRow_made _ _ _ lZ dZ (by rfl),bZ.alloc lZ _⟩
 case round=>
  exact zq8
theorem l1Split35 (s:Str) (w:World) (hs:s.length≤2^40) :
 Calls Tryz.prog 66 #[.string (S s),.int .u8 35] w (SplitPost 35 s w):=l1Split s 35 w hs
theorem l1Split62 (s:Str) (w:World) (hs:s.length≤2^40) :
 Calls Tryz.prog 66 #[.string (S s),.int .u8 62] w (SplitPost 62 s w):=l1Split s 62 w hs
theorem l1Split10 (s:Str) (w:World) (hs:s.length≤2^40) :
 Calls Tryz.prog 66 #[.string (S s),.int .u8 10] w (SplitPost 10 s w):=l1Split s 10 w hs
end
section
open Go Go.RowKit
set_option maxHeartbeats 1000000
set_option maxRecDepth 100000
def StrAt (g:Nat) (l:List Str) (v:World):Prop:=(g<v.heap.size∧∃c f,v.heap[g]?=some (.cells c 9 f))∧∀(j:Nat) (h:j<l.length),v.cell? ⟨g,j,none⟩=some (.string (S (l[j]'h)))
theorem StrAt.below {g:Nat} {l:List Str} {v v':World} (h:StrAt g l v) (hb:Below v.heap.size v v'):StrAt g l v':=
 ⟨⟨Nat.lt_of_lt_of_le h.1.1 hb.size,by obtain⟨c,f,hc⟩:=h.1.2;exact⟨c,f,(hb.block g h.1.1).trans hc⟩⟩,fun j hj=>(hb.cell (p:=⟨g,j,none⟩) h.1.1).trans (h.2 j hj)⟩
theorem StrAt.grown {g:Nat} {l:List Str} {v v':World} {row:Option Nat} (h:StrAt g l v) (hg:v.grownBy v' row) (hne:some g≠row):StrAt g l v':=
 ⟨⟨Nat.lt_of_lt_of_le h.1.1 hg.size,by obtain⟨c,f,hc⟩:=h.1.2;exact⟨c,f,(hg.block g h.1.1 hne).trans hc⟩⟩,fun j hj=>(World.cell?_of_block (a:=⟨g,j,none⟩) (hg.block g h.1.1 hne)).trans (h.2 j hj)⟩
theorem pieces (s:Str):Lib.splitB (S [32]) 0 (Lib.countB (S s) (S [32])) (S s)=(P.split 32 s).map S:=by
 have h1:=Lib.splitB_data (S [32]) 0 (Lib.countB (S s) (S [32])) (S s);have h2:Lib.splitK [32] 0 (Lib.countB (S s) (S [32])) s=P.split 32 s:=P.split_lib 32 s.length s lZ;rw [S_dataList,S_dataList,h2]at h1;rw [←h1,List.map_map]
 conv=>lhs;rw [←List.map_id (Lib.splitB (S [32]) 0 (Lib.countB (S s) (S [32])) (S s))]
 rfl
theorem split_any (s:Str) (w:World) (hs:s.length≤2^31) (hE:Env w) :
 Calls Tryz.prog 103 #[.string (S s),.string (S [32])] w fun e w'=>e=.returned (.slice (some ⟨w.heap.size,0,none⟩) (P.split 32 s).length (P.split 32 s).length)∧StrAt w.heap.size (P.split 32 s) w'∧Below w.heap.size w w':=by
 obtain⟨m,hm⟩:=hE.2
 have h:=Tryz.strings_Split (S s) (S [32]) m w (by rw [S_size];omega) hm dZ
 have hl:Lib.countB (S s) (S [32])+1=(P.split 32 s).length:=by
  have:=Lib.splitB_all (S [32]) dZ 0 _ (S s) rfl;rw [pieces,List.length_map]at this;omega
 rw [hl,pieces]at h
 refine h.mono ?_
 rintro e w' ⟨rfl,rfl⟩
 refine⟨rfl,⟨⟨by simp,⟨_,_,heap_alloc_new w _⟩⟩,fun j hj=>?_⟩,bZ.alloc lZ _⟩
 rw [World.cell?_alloc_new]
 simp [hj]
theorem own_words {B:Nat} {w:World} {v:Value} {l:List Str} (h:OwnStrs B w v l) (hl:l≠[]):∃g cap,v=.slice (some ⟨g,0,none⟩) l.length cap∧B≤g∧StrAt g l w:=by
 rcases h.2 with⟨_,h0⟩|⟨g,cap,cur,hv,hg,hh,_⟩
 ·exact absurd (List.eq_nil_of_length_eq_zero h0) hl
 ·have hob:v.ownBlock=some g:=by rw [hv];rfl
  refine⟨g,cap,hv,hg,⟨(World.ownsRow.lt h g hob).2,⟨_,_,hh⟩⟩,fun j hj=>?_⟩;have hc:=World.ownsRow.cells h hob j (.string (S l[j])) (by simp [strVals,List.getElem?_eq_getElem hj])
  rwa [add0]at hc
def atomVals (l:List (Int×Str)):List Value:=l.flatMap fun a=>[.int .i64 a.1,.string (S a.2)]
theorem atomVals_snoc (l:List (Int×Str)) (x:Int×Str):atomVals (l++[x])=atomVals l++[.int .i64 x.1,.string (S x.2)]:=by simp [atomVals]
def OwnAtoms (B:Nat) (w:World) (v:Value) (l:List (Int×Str)):Prop:=w.ownsRow B 177 2 v l.length (atomVals l)
theorem info_atom:(Tryz.prog.info? 177).map (fun i=>(i.zero,i.size,i.bytes))=some (some (.agg #[.int .i64 0,.string ⟨#[]⟩]),2,24):=by kernel_rfl
theorem own_lenA {B:Nat} {w:World} {v:Value} {l:List (Int×Str)} (h:OwnAtoms B w v l):∃a cap,v=.slice a l.length cap:=by
 exact zq58
theorem atoms_rel {w w1 w2:World} {v v':Value} {l:List (Int×Str)} {x:Int×Str} {o:Obj} (hsz:w.heap.size≤w1.heap.size) (hown:OwnAtoms w.heap.size w1 v l) (hb:Below w.heap.size w w1)
 (h:w2.ownsRow w.heap.size 177 2 v' (l.length+1) (atomVals l++[.int .i64 x.1,.string (S x.2)])) (hg:(w1.alloc o).grownBy w2 v.ownBlock) :
 OwnAtoms w.heap.size w2 v' (l++[x])∧Below w.heap.size w w2:=by
 refine⟨?_,(hb.alloc hsz _).grown hg (by simp;omega) (fun k hk=>(World.ownsRow.lt hown k hk).1)⟩
 unfold OwnAtoms;rw [atomVals_snoc,List.length_append];exact h
theorem atoms_apart {B g:Nat} {w:World} {v:Value} {n:Nat} {xs:List Value} {l:List Str} (h:w.ownsRow B 177 2 v n xs) (hs:StrAt g l w):some g≠v.ownBlock:=by
 rcases h.2 with⟨rfl,_⟩|⟨g',cap,cur,rfl,_,hh,_⟩
 ·simp [Value.ownBlock]
 ·intro e;simp [Value.ownBlock]at e;obtain⟨c,f,hc⟩:=hs.1.2;subst e;rw [hh]at hc;injection hc with hc;injection hc with _ h2 _;exact absurd h2 dZ
theorem own_kept {B C:Nat} {w w':World} {e:TypeId} {size:Nat} {v:Value} {n:Nat} {xs:List Value} (h:w.ownsRow B e size v n xs) (hb:Below C w w') (hC:w.heap.size≤C):w'.ownsRow B e size v n xs:=
 h.kept (row:=none) ⟨hb.os,hb.tape,hb.output,hb.size,fun k hk _=>hb.block k oZ⟩ (by cases v.ownBlock<;>simp)
end
section
namespace P
theorem atoms_ok:∀ws:List Bs,(∀w∈ws,(parseS w).2=true)→atoms ws=some (ws.map fun w=>(parseS w).1)
 |[],_=>rfl
 |w::ws,h=>by
  unfold atoms;rw [if_pos (h w sZ),atoms_ok ws (fun x hx=>h x (by simp [hx]))];rfl
theorem atoms_bad:∀(ws:List Bs) (w:Bs),w∈ws→(parseS w).2=false→atoms ws=none
 |[],_,h,_=>by cases h
 |x::ws,w,h,hb=>by
  unfold atoms
  rcases List.mem_cons.1 h with rfl|h
  ·rw [hb];rfl
  ·rw [atoms_bad ws w h hb];split<;>rfl
theorem mem_sum:∀(ws:List Bs) (w:Bs),w∈ws→w.length≤(ws.map List.length).sum
 |x::ws,w,h=>by
  rw [List.map_cons,List.sum_cons]
  rcases List.mem_cons.1 h with rfl|h
  ·omega
  ·have:=mem_sum ws w h;omega
theorem word_len {s w:Bs} (h:w∈split 32 s):w.length≤s.length:=by
 have h1:=mem_sum _ _ h;have h2:=(split_len 32 s).1;have h3:=(split_len 32 s).2;omega
theorem words_len (s:Bs):(split 32 s).length≤s.length+1∧1≤(split 32 s).length:=by
 have h2:=(split_len 32 s).1;have h3:=(split_len 32 s).2;omega
theorem trans_long {s:Bs} (h:60<s.length):transS s=([],false):=by unfold transS;rw [if_pos h]
theorem trans_bad {s:Bs} (h:¬60<s.length) {w:Bs} (hw:w∈split 32 s) (hb:(parseS w).2=false):transS s=([],false):=by
 unfold transS;rw [if_neg h,atoms_bad _ _ hw hb]
theorem trans_many {s:Bs} (h:¬60<s.length) (ha:∀w∈split 32 s,(parseS w).2=true):transS s=if 10<(split 32 s).length then ([],false) else ((split 32 s).map fun w=>(parseS w).1,true):=by
 rw [←trans_eq];unfold transI;rw [if_neg h,atoms_ok _ ha];simp only [List.length_map]
theorem trans_list {s:Bs} (h:¬60<s.length) (ha:∀w∈split 32 s,(parseS w).2=true):transS s=if listS ((split 32 s).map fun w=>(parseS w).1) then ((split 32 s).map fun w=>(parseS w).1,true) else ([],false):=by
 unfold transS;rw [if_neg h,atoms_ok _ ha]
end P
open Go Go.RowKit
set_option maxHeartbeats 1000000
set_option maxRecDepth 100000
def TransPost (s:Str) (w:World) (e:Ending) (w':World):Prop:=∃v,e=.returned (.tuple #[v,.bool (P.transS s).2])∧((P.transS s).2=true→OwnAtoms w.heap.size w' v (P.transS s).1)∧Below w.heap.size w w'
theorem impl_parseTranslation (s:Str) (w:World) (hs:s.length≤2^30) (hE:Env w) :
 Calls Tryz.prog 156 #[.string (S s)] w (TransPost s w):=by
 obtain⟨i0,hi,hz0,hz1,hz2⟩:=info_parts info_atom
 have HE:=qh hE;clear hE
 by_cases h60:60<s.length
 ·have HF:=qh (P.trans_long h60);have h60':(60:Int)<(s.length:Int):=by omega
  go_enter Tryz.func156,Tryz.ntmps156
  go_wp2;go_ret2;exact⟨.slice none 0 0,by rw [HF.o];rfl,fun h=>by (rw [HF.o]at h;cases h),Below.refl _ _⟩
 ·have h60':¬(60:Int)<(s.length:Int):=by omega
  have HBAD:=qh (fun w hw hb=>P.trans_bad (s:=s) h60 (w:=w) hw hb);have HMANY:=qh (fun ha=>P.trans_many (s:=s) h60 ha);have HWL:=qh (fun w hw=>P.word_len (s:=s) (w:=w) hw);obtain⟨hw1,hw2⟩:=P.words_len s
  go_enter Tryz.func156,Tryz.ntmps156
  go_wp2_with fail
  refine (split_any _ _ oZ (HE.o.alloc _)).mono ?_;rintro e w1 ⟨rfl,hst,hb⟩;rw [World.size_alloc]at hst;generalize hws:P.split 32 s=ws at *;clear hws;have hown0:OwnAtoms w.heap.size w1 (.slice (some ⟨w.heap.size,0,none⟩) 0 0) []:=own_kept (World.ownsRow_made _ _ _ lZ dZ (by rfl)) hb lZ;have hbel0:Below w.heap.size w w1:=(bZ.alloc lZ _).trans (hb.mono sZ);clear hb
  go_wp2_with fail
  go_loopw [4,16] (fun v i wr=>∃j:Nat,j≤ws.length∧i=.int .i64 j∧(∀x∈ws.take j,(P.parseS x).2=true)∧OwnAtoms w.heap.size wr v ((ws.take j).map fun x=>(P.parseS x).1)∧StrAt (w.heap.size+1) ws wr∧Below w.heap.size w wr) (fun _ i _=>ws.length-(intOf i).toNat)
  case atStart=>exact⟨0,Nat.zero_le _,rfl,by simp,hown0,hst,hbel0⟩
  case round=>
   obtain⟨j,hj,rfl,hall,hown,hstr,hbel⟩:=hrel;clear hown0 hst hbel0;obtain⟨out,hout⟩:∃out,out=(ws.take j).map fun x=>(P.parseS x).1:=⟨_,rfl⟩;have hoj:out.length=j:=by rw [hout,List.length_map,List.length_take];omega
   rw [←hout]at hown;have HOUT:=qh hout;clear hout;obtain⟨ad,cp,rfl⟩:=own_lenA hown;have HALL:=qh hall;have HOWN:=qh hown;have HST:=qh hstr;have HBEL:=qh hbel;have hsz:=hbel.size;clear hall hown hbel
   by_cases hlt:j<ws.length
   ·have hcell:=hstr.2 j hlt;have hmem:ws[j]∈ws:=List.getElem_mem hlt;have hxl:=HWL.o _ hmem;have hsn:ws.take (j+1)=ws.take j++[ws[j]]:=take_snoc ws j hlt;have HSN:=qh hsn;have HMEM:=qh hmem;generalize hx:ws[j]=x at *;clear hstr hsn hmem
    cases hok:(P.parseS x).2
    ·have HF:=qh (HBAD.o x HMEM.o hok)
     go_wp2_with fail
     refine (impl_parseAtom x _ oZ).mono ?_;rintro e v ⟨rfl,hb⟩;rw [hok];have HB:=qh (HBEL.o.trans (hb.mono hsz));have hvz:w.heap.size≤v.heap.size:=Nat.le_trans hsz hb.size;clear hb;go_wp2;go_ret2;exact⟨.slice none 0 0,by rw [HF.o];rfl,fun h=>by (rw [HF.o]at h;cases h),HB.o.alloc hvz _⟩
    ·go_wp2_with fail
     refine (impl_parseAtom x _ oZ).mono ?_;exact zq11
   ·obtain rfl:j=ws.length:=by omega
    have HA:=qh (HMANY.o (by have:=HALL.o;rwa [List.take_length]at this))
    by_cases h10:10<ws.length
    ·have HF:=qh (show P.transS s=([],false) by rw [HA.o,if_pos h10]);have h10':(10:Int)<(out.length:Int):=by omega
     go_wp2;go_ret2;exact⟨.slice none 0 0,by rw [HF.o];rfl,fun h=>by (rw [HF.o]at h;cases h),HBEL.o⟩
    ·have HF:=qh (show P.transS s=(out,true) by rw [HA.o,if_neg h10,HOUT.o,List.take_length]);have h10':¬(10:Int)<(out.length:Int):=by omega
     go_wp2;go_ret2;exact⟨.slice ad ws.length cp,by rw [HF.o];rfl,fun _=>by (rw [HF.o];have:=HOWN.o;rwa [hoj]at this),HBEL.o⟩
end
section
namespace P
theorem noteLen_snoc:∀(l:List (Int×Bs)) (a:Int×Bs),noteLen (l++[a])=noteLen l+((note a.1 a.2).length:Int)
 |[],a=>by simp [noteLen]
 |b::l,a=>by
  show ((note b.1 b.2).length:Int)+noteLen (l++[a])=_
  rw [noteLen_snoc l a]
  show _=((note b.1 b.2).length:Int)+noteLen l+_
  omega
theorem noteLen_ge:∀(l:List (Int×Bs)),0≤noteLen l
 |[]=>Int.le_refl _
 |b::l=>by
  have:=noteLen_ge l
  show 0≤((note b.1 b.2).length:Int)+noteLen l
  omega
theorem note_len (k:Int) (t:Bs):(note k t).length≤t.length+5:=by
 unfold note
 repeat' split
 all_goals (simp;try omega)
theorem noteLen_le (m:Nat):∀(l:List (Int×Bs)),(∀a∈l,a.2.length≤m)→noteLen l≤(l.length:Int)*((m:Int)+5)
 |[],_=>by simp [noteLen]
 |b::l,h=>by
  have h1:=noteLen_le m l (fun a ha=>h a (by simp [ha]));have h2:=note_len b.1 b.2;have h3:=h b sZ
  show ((note b.1 b.2).length:Int)+noteLen l≤_
  rw [List.length_cons,Int.natCast_succ,Int.add_mul];omega
end P
open Go Go.RowKit
set_option maxHeartbeats 1000000
set_option maxRecDepth 100000
theorem getElem_atomVals (l:List (Int×Str)):∀(j:Nat) (hj:j<l.length),(atomVals l)[j*2]?=some (.int .i64 (l[j]'hj).1)∧(atomVals l)[j*2+1]?=some (.string (S (l[j]'hj).2)):=by
 induction l with
 |nil=>intro j hj;simp at hj
 |cons a l ih=>
  intro j hj
  cases j with
  |zero=>exact⟨rfl,rfl⟩
  |succ j=>
   obtain⟨h1,h2⟩:=ih j (by simpa using hj);have e:atomVals (a::l)=.int .i64 a.1::.string (S a.2)::atomVals l:=rfl;rw [e,show (j+1)*2=j*2+1+1 by omega];exact⟨h1,h2⟩
def AtomAt (g:Nat) (l:List (Int×Str)) (v:World):Prop:=∀(j:Nat) (h:j<l.length),v.cell? ⟨g,j*2,none⟩=some (.int .i64 (l[j]'h).1)∧v.cell? ⟨g,j*2+1,none⟩=some (.string (S (l[j]'h).2))
def AtomR (v:World) (u:Value) (l:List (Int×Str)):Prop:=∃ad cap,u=.slice ad l.length cap∧(l=[]∨∃g,ad=some ⟨g,0,none⟩∧g<v.heap.size∧AtomAt g l v)
theorem own_atoms {B:Nat} {w:World} {v:Value} {l:List (Int×Str)} (h:OwnAtoms B w v l):AtomR w v l:=by
 rcases h.2 with⟨hv,h0⟩|⟨g,cap,cur,hv,hg,hh,_⟩
 ·have hn:=List.eq_nil_of_length_eq_zero h0;exact⟨none,0,by rw [hv,hn];rfl,.inl hn⟩
 ·have hob:v.ownBlock=some g:=by rw [hv];rfl
  refine⟨_,cap,hv,.inr ⟨g,rfl,(World.ownsRow.lt h g hob).2,fun j hj=>?_⟩⟩;obtain⟨e1,e2⟩:=getElem_atomVals l j hj;have c1:=World.ownsRow.cells h hob _ _ e1;have c2:=World.ownsRow.cells h hob _ _ e2;rw [add0]at c1 c2;exact⟨c1,c2⟩
theorem l5List (u:Value) (l:List (Int×Str)) (w:World) (hu:AtomR w u l) (hl:l.length≤100) (hw:∀a∈l,a.2.length≤60) :
 Calls Tryz.prog 194 #[u] w fun e w'=>e=.returned (.bool (P.listS l))∧Below w.heap.size w w':=by
 obtain⟨ad,cap,rfl,hr⟩:=hu
 have HR:=qh hr;clear hr
 have HW:=qh hw;clear hw
 cases h1:decide (1≤(l.length:Int)∧(l.length:Int)≤10)
 ·have HF:=qh (show P.listS l=false by unfold P.listS;rw [h1];rfl)
  go_enter Tryz.func194,Tryz.ntmps194
  go_wp2_with (go_at_call 187;refine (l1In _ _ _ _).mono ?_;rintro e w' ⟨rfl,rfl⟩)
  go_ret;exact⟨ret_bool HF.o.symm,Below.refl _ _⟩
 ·have hle:=of_decide_eq_true h1;obtain⟨hle1,hle2⟩:=hle;have HF:=qh (show P.listS l=(l.all (fun a=>P.atom a.1 a.2)&&decide ((l.length:Int)-1+P.noteLen l≤60)) by unfold P.listS;rw [h1];rfl)
  go_enter Tryz.func194,Tryz.ntmps194
  go_wp2_with (go_at_call 187;refine (l1In _ _ _ _).mono ?_;rintro e w' ⟨rfl,rfl⟩)
  obtain⟨g,rfl,hg,hat⟩:∃g,ad=some ⟨g,0,none⟩∧g<w.heap.size∧AtomAt g l w:=by
   rcases HR.o with h|h
   ·rw [h]at hle1;exact absurd hle1 dZ
   ·exact h
  have HAT:=qh hat;clear hat HR
  go_loopw [3,4] (fun z i wr=>∃j:Nat,j≤l.length∧i=.int .i64 j∧z=.int .i64 ((l.length:Int)-1+P.noteLen (l.take j))∧(l.take j).all (fun a=>P.atom a.1 a.2)=true∧Below w.heap.size w wr) (fun _ i _=>l.length-(intOf i).toNat)
  case atStart=>exact⟨0,Nat.zero_le _,rfl,by simp [P.noteLen],by simp,Below.refl _ _⟩
  case round=>
   obtain⟨j,hj,rfl,rfl,hall,hb⟩:=hrel;have HALL:=qh hall;clear hall;have hsz:=hb.size;have hn0:=P.noteLen_ge (l.take j);have hn1:=P.noteLen_le 60 (l.take j) (fun a ha=>HW.o a (List.mem_of_mem_take ha));rw [List.length_take,Nat.min_eq_left hj]at hn1
   by_cases hlt:j<l.length
   ·obtain⟨c0,c1⟩:=HAT.o j hlt;have c0':=(hb.cell (p:=⟨g,j*2,none⟩) hg).trans c0;have c1':=(hb.cell (p:=⟨g,j*2+1,none⟩) hg).trans c1;have hwl:=HW.o _ (List.getElem_mem hlt);have HSN:=qh (take_snoc l j hlt);clear c0 c1;generalize l[j]=a at *;obtain⟨k,t⟩:=a;simp only at c0' c1' hwl;have HB:=qh hb;clear hb;have hgr:g<wr.heap.size:=by omega
    cases hok:P.atom k t
    ·have HNO:=qh (show l.all (fun a=>P.atom a.1 a.2)=false by
      rw [←List.take_append_drop (j+1) l,HSN.o,List.all_append,List.all_append];simp [hok])
     go_wp2_with fail
     refine (l5Good _ _ _ (by unfold maxLen;omega)).mono ?_;rintro e v ⟨rfl,hb⟩;rw [hok];have HB2:=qh (HB.o.trans (hb.mono hsz));clear hb;go_wp2;go_ret;exact⟨ret_bool (by rw [HF.o,HNO.o];rfl),HB2.o⟩
    ·go_wp2_with fail
     refine (l5Good _ _ _ (by unfold maxLen;omega)).mono ?_;rintro e v ⟨rfl,hb⟩;rw [hok];have HOK:=qh hok;clear hok;have d0:=(hb.cell (p:=⟨g,j*2,none⟩) hgr).trans c0';have d1:=(hb.cell (p:=⟨g,j*2+1,none⟩) hgr).trans c1';have HB2:=qh (HB.o.trans (hb.mono hsz));have hvz:w.heap.size≤v.heap.size:=Nat.le_trans hsz hb.size;clear hb c0' c1'
     go_wp2_with fail
     refine (l5Format _ _ _ oZ).mono ?_;rintro e v2 ⟨rfl,hb⟩;have HB3:=qh (HB2.o.trans (hb.mono hvz));clear hb;have hnl:=P.note_len k t;obtain⟨f,hf⟩:∃f,f=P.note k t:=⟨_,rfl⟩;rw [←hf]at hnl⊢;have HFF:=qh hf;clear hf;have hb1:(j:Int)*(((60:Nat):Int)+5)≤6500:=by omega
     go_wp2
     go_roundw
     case rel=>
      refine⟨j+1,by omega,by go_num,?_,?_,HB3.o⟩
      ·rw [HSN.o,P.noteLen_snoc,←HFF.o];go_num
      ·rw [HSN.o,List.all_append,HALL.o];simp [HOK.o]
     case measure=>simp [intOf];omega
   ·obtain rfl:j=l.length:=by omega
    have HA:=qh (show l.all (fun a=>P.atom a.1 a.2)=true by have:=HALL.o;rwa [List.take_length]at this);rw [List.take_length]at hn0 hn1⊢;have HB:=qh hb;clear hb;go_wp2;go_ret;exact⟨ret_bool (by rw [HF.o,HA.o];rfl),HB.o⟩
end
section
namespace P
theorem parse_len (s:Bs):(parseS s).1.2.length≤s.length:=by
 unfold parseS
 split
 ·exact kind_len s
 ·exact Nat.zero_le _
end P
open Go Go.RowKit
set_option maxHeartbeats 1000000
set_option maxRecDepth 100000
theorem l1Split32 (s:Str) (w:World) (hs:s.length≤2^40) :
 Calls Tryz.prog 66 #[.string (S s),.int .u8 32] w (SplitPost 32 s w):=l1Split s 32 w hs
theorem l5Parse (s:Str) (w:World) (hs:s.length≤2^30) :
 Calls Tryz.prog 171 #[.string (S s)] w (TransPost s w):=by
 obtain⟨i0,hi,hz0,hz1,hz2⟩:=info_parts info_atom
 by_cases h60:60<s.length
 ·have HF:=qh (P.trans_long h60);have h60':(60:Int)<(s.length:Int):=by omega
  go_enter Tryz.func171,Tryz.ntmps171
  go_wp2;go_ret2;exact⟨.slice (some ⟨w.heap.size,0,none⟩) 0 0,by rw [HF.o];rfl,fun h=>by (rw [HF.o]at h;cases h),bZ.alloc lZ _⟩
 ·have h60':¬(60:Int)<(s.length:Int):=by omega
  have HBAD:=qh (fun w hw hb=>P.trans_bad (s:=s) h60 (w:=w) hw hb);have HLIST:=qh (fun ha=>P.trans_list (s:=s) h60 ha);have HWL:=qh (fun w hw=>P.word_len (s:=s) (w:=w) hw);obtain⟨hw1,hw2⟩:=P.words_len s
  go_enter Tryz.func171,Tryz.ntmps171
  go_wp2_with fail
  refine (l1Split32 _ _ oZ).mono ?_;rintro e w1 ⟨vs,rfl,hows,hb⟩;generalize hws:P.split 32 s=ws at *;clear hws;obtain⟨gs,cs,rfl,_,hst⟩:=own_words hows (by intro e;rw [e]at hw2;exact absurd hw2 dZ);have hown0:OwnAtoms w.heap.size w1 (.slice (some ⟨w.heap.size,0,none⟩) 0 0) []:=own_kept (World.ownsRow_made _ _ _ lZ dZ (by rfl)) hb lZ;have hbel0:Below w.heap.size w w1:=(bZ.alloc lZ _).trans (hb.mono sZ);clear hb hows
  go_wp2_with fail
  go_loopw [4,6] (fun v i wr=>∃j:Nat,j≤ws.length∧i=.int .i64 j∧(∀x∈ws.take j,(P.parseS x).2=true)∧OwnAtoms w.heap.size wr v ((ws.take j).map fun x=>(P.parseS x).1)∧StrAt gs ws wr∧Below w.heap.size w wr) (fun _ i _=>ws.length-(intOf i).toNat)
  case atStart=>exact⟨0,Nat.zero_le _,rfl,by simp,hown0,hst,hbel0⟩
  case round=>
   obtain⟨j,hj,rfl,hall,hown,hstr,hbel⟩:=hrel;clear hown0 hst hbel0;obtain⟨out,hout⟩:∃out,out=(ws.take j).map fun x=>(P.parseS x).1:=⟨_,rfl⟩;have hoj:out.length=j:=by rw [hout,List.length_map,List.length_take];omega
   rw [←hout]at hown;have HOUT:=qh hout;clear hout;obtain⟨ad,cp,rfl⟩:=own_lenA hown;have HALL:=qh hall;have HOWN:=qh hown;have HST:=qh hstr;have HBEL:=qh hbel;have hsz:=hbel.size;clear hall hown hbel
   by_cases hlt:j<ws.length
   ·have hcell:=hstr.2 j hlt;have hmem:ws[j]∈ws:=List.getElem_mem hlt;have hxl:=HWL.o _ hmem;have hsn:ws.take (j+1)=ws.take j++[ws[j]]:=take_snoc ws j hlt;have HSN:=qh hsn;have HMEM:=qh hmem;generalize hx:ws[j]=x at *;clear hstr hsn hmem
    cases hok:(P.parseS x).2
    ·have HF:=qh (HBAD.o x HMEM.o hok)
     go_wp2_with fail
     refine (spec_parseAtom x _ oZ).mono ?_;rintro e v ⟨rfl,hb⟩;rw [hok];have HB:=qh (HBEL.o.trans (hb.mono hsz));have hvz:w.heap.size≤v.heap.size:=Nat.le_trans hsz hb.size;clear hb;go_wp2;go_ret2;exact⟨.slice (some ⟨v.heap.size+1,0,none⟩) 0 0,by rw [HF.o];rfl,fun h=>by (rw [HF.o]at h;cases h),(HB.o.alloc hvz _).alloc (by simp;omega) _⟩
    ·go_wp2_with fail
     refine (spec_parseAtom x _ oZ).mono ?_;exact zq11
   ·obtain rfl:j=ws.length:=by omega
    have HA:=qh (HLIST.o (by have:=HALL.o;rwa [List.take_length]at this));have HAT:=qh (own_atoms HOWN.o)
    have hol:∀a∈out,a.2.length≤60:=by
     intro a ha;rw [HOUT.o,List.take_length,List.mem_map]at ha;obtain⟨y,hy,rfl⟩:=ha;have h1:=P.parse_len y;have h2:=HWL.o y hy;omega
    have HOL:=qh hol;clear hol hstr;have HX:=qh (show P.transS s=if P.listS out then (out,true) else ([],false) by rw [HA.o,HOUT.o,List.take_length]);have hat:AtomR wr (.slice ad ws.length cp) out:=by have:=HAT.o;rwa [hoj]at this
    have hown2:OwnAtoms w.heap.size wr (.slice ad ws.length cp) out:=by have:=HOWN.o;rwa [hoj]at this
    have HOWN2:=qh hown2;have HAT2:=qh hat;clear hat hown2 HOWN HAT
    go_wp2_with fail
    refine (l5List _ out _ HAT2.o oZ HOL.o).mono ?_;rintro e v ⟨rfl,hb⟩;have HO2:=qh (own_kept HOWN2.o hb lZ);have HB:=qh (HBEL.o.trans (hb.mono hsz));have hvz:w.heap.size≤v.heap.size:=Nat.le_trans hsz hb.size;clear hb
    cases hls:P.listS out
    ·have HF:=qh (show P.transS s=([],false) by rw [HX.o,hls];rfl);go_wp2;go_ret2;exact⟨.slice (some ⟨v.heap.size,0,none⟩) 0 0,by rw [HF.o];rfl,fun h=>by (rw [HF.o]at h;cases h),HB.o.alloc hvz _⟩
    ·have HF:=qh (show P.transS s=(out,true) by rw [HX.o,hls];rfl);go_wp2;go_ret2;exact⟨.slice ad ws.length cp,by rw [HF.o];rfl,fun _=>by (rw [HF.o];exact HO2.o),HB.o⟩
end
end Go.Proofs.YtggfdnopminemaaGreatDoor
