/- Part 3: functions on the way, plain laws. Conditions: as said. -/
import Derived.Laws.StructEq
import Derived.Deep.LoopGhost
import Derived.Test.YtfbeblgnjeokaaaGreatK1
import Derived.Test.YtfbeblgnjeokaaaGreatK2
set_option maxRecDepth 100000
set_option maxHeartbeats 16000000
set_option linter.unusedVariables false
set_option linter.unusedSimpArgs false
open Array renaming replicate → cx4
open Bool renaming and_eq_true → cv4
open List renaming eq_nil_of_length_eq_zero → cw9, getElem?_cons_succ → cw0, getElem?_cons_zero → cv5, getElem?_eq_getElem → cv6, length_nil → cw6, map_cons → cy8, mem_range → cz5, range → cx0, replicate → cv3, set_cons_succ → cx1, set_cons_zero → cx3
open Nat renaming le_refl → cv7, le_trans → cx8, lt_of_lt_of_le → cz7, lt_succ_self → cA1, zero_le → cy4
open True renaming intro → cx2

namespace Go.Proofs.YtfbeblgnjeokaaaGreat
open Go Go.RowKit
theorem aq3(v:Value)(t:List Int)(w:World)(h:H7 w v t.length 1 (ints t))(hb:t.length<=1000000000000):
  Calls Tryz.prog 46 #[v] w fun e w'=>∃u,e=.returned u/\A9 w' w.heap.size w'.heap.size 3 1 u t.length (ints t)/\Below w.heap.size w w':=by
 obtain⟨a,cap,rfl,hc1,hc2,hc3,-⟩:=h.open
 have hnil:=fun w=>Lib.run_eql_slice_nil (P:=Tryz.prog) w 23 3 a t.length cap 0 0 Tryz.underlying23
 rcases a with _|a
 ·have hn:t.length=0:=by
   rcases Nat.eq_zero_or_pos t.length with h0|h0
   ·exact h0
   obtain⟨_,a,c,he,_,_,hx⟩:=h
   cases he
   obtain⟨_,_,he,_⟩:=hx h0
   cases he
  have ht:t=[]:=cw9 hn
  subst ht
  simp only[cw6,Option.isNone_none]at hnil
  go_enter Tryz.func46,Tryz.ntmps46
  go_wp2_with fail
  go_ret
  exact⟨_,rfl,⟨World.ownsRow_nil _ _ _ _,fun g hg=>by cases hg⟩,Below.refl _ _⟩
 go_enter Tryz.func46,Tryz.ntmps46
 simp only[Option.isNone_some]at hnil
 have ba:=(Below.refl w.heap.size w).alloc (cv7 _) (.cells #[] 3)
 go_wp2_with (at_builtin;refine D2 rfl _ _ rfl Tryz.underlying23 aQ1 rfl al rfl (x8 w #[] 0 1 _ rfl rfl al).1 rfl (h.below ba) an3 al al an ?_;rintro a4 q4 w4 o4 b4- -)
 go_ret
 refine⟨_,rfl,A9.mk' (by simpa using o4),ba.trans b4⟩
theorem bE8(v:Value)(t:List d8)(w:World)(h:V9 w v t)(hb:t.length<=1000000000000):
  Calls Tryz.prog 94 #[v] w fun e w'=>∃u,e=.returned u/\A9 w' w.heap.size w'.heap.size 76 5 u t.length (ints (C5 t))/\Below w.heap.size w w':=by
 obtain⟨a,cap,rfl,hc1,hc2,hc3,-⟩:=h.open
 have hnil:=fun w=>Lib.run_eql_slice_nil (P:=Tryz.prog) w 24 76 a t.length cap 0 0 Tryz.underlying24
 rcases a with _|a
 ·have hn:t.length=0:=by
   rcases Nat.eq_zero_or_pos t.length with h0|h0
   ·exact h0
   obtain⟨_,a,c,he,_,_,hx⟩:=h
   cases he
   obtain⟨_,_,he,_⟩:=hx h0
   cases he
  have ht:t=[]:=cw9 hn
  subst ht
  simp only[cw6,Option.isNone_none]at hnil
  go_enter Tryz.func94,Tryz.ntmps94
  go_wp2_with fail
  go_ret
  exact⟨_,rfl,⟨World.ownsRow_nil _ _ _ _,fun g hg=>by cases hg⟩,Below.refl _ _⟩
 go_enter Tryz.func94,Tryz.ntmps94
 simp only[Option.isNone_some]at hnil
 have ba:=(Below.refl w.heap.size w).alloc (cv7 _) (.cells #[] 76)
 go_wp2_with (at_builtin;refine D2 rfl _ _ rfl Tryz.underlying24 bQ0 rfl al rfl (x8 w #[] 0 5 _ rfl rfl al).1 rfl (h.below ba) an3 al al an ?_;rintro a4 q4 w4 o4 b4- -)
 go_ret
 refine⟨_,rfl,A9.mk' (by simpa using o4),ba.trans b4⟩
theorem bf0(v:Value)(c:c8)(w:World)(h:t5 w v c)(hs:c.size<=1048576):
  Calls Tryz.prog 42 #[v] w fun e w'=>∃u,e=.returned u/\C6 w' w.heap.size w'.heap.size u c/\Below w.heap.size w w':=by
 obtain⟨v1,v2,v3,rfl,h1,h2,h3⟩:=h
 unfold c8.size at hs
 obtain⟨n,hn⟩:∃n,n=w.heap.size:=⟨_,rfl⟩
 obtain⟨W,hW⟩:∃W,W=(w.alloc (.cells #[v1,v2,v3] 26)).alloc (.cells #[.slice none 0 0,.slice none 0 0,.slice none 0 0] 26):=⟨_,rfl⟩
 have B0:Below n w W:=by rw[hW,hn];go_grown
 have sW:W.heap.size=n+1+1:=by rw[hW,hn];simp
 have L1:A1 W n [v1,v2,v3]:=by rw[hW,hn];exact(A1.new w [v1,v2,v3] _).alloc _
 have L2:A1 W (n+1) [.slice none 0 0,.slice none 0 0,.slice none 0 0]:=by rw[hW,hn];exact A1.new' (w.alloc _) [.slice none 0 0,.slice none 0 0,.slice none 0 0] _ an
 have hS:∀W',Below (n+1) W W'->Below (n+1) W W'/\(W'.cell? ⟨n,0,none⟩=some v1/\W'.cell? ⟨n,1,none⟩=some v2/\W'.cell? ⟨n,2,none⟩=some v3):=by
  intro W' hb
  have L':=L1.below hb al
  exact⟨hb,by simpa using L'.cell 0,by simpa using L'.cell 1,by simpa using L'.cell 2⟩
 have hQ:∀W' W'',Below (n+1+1) W W'->Below W'.heap.size W' W''->Below (n+1+1) W W'':=fun W' W'' g k=>g.trans (k.mono (by have:=g.size;omega))
 have hT:∀W',Below (n+1+1) W W'->(W'.frozen? ⟨n+1,0,none⟩=false/\W'.frozen? ⟨n+1,1,none⟩=false/\W'.frozen? ⟨n+1,2,none⟩=false)/\W'.cell? ⟨n+1,0,none⟩=some (.slice none 0 0)/\W'.cell? ⟨n+1,1,none⟩=some (.slice none 0 0)/\W'.cell? ⟨n+1,2,none⟩=some (.slice none 0 0):=by
  intro W' hb
  have L':=L2.below hb al
  exact⟨⟨L'.free 0,L'.free 1,L'.free 2⟩,by simpa using L'.cell 0,by simpa using L'.cell 1,by simpa using L'.cell 2⟩
 have hA:∀W',Below (n+1+1) W W'->Below n w W':=fun W' g=>B0.trans (g.mono al)
 have HA1:=show Hid (∀W',Below (n+1+1) W W'->H7 W' v1 c.vars.length 1 (ints c.vars))from fun W' g=>h1.below (by rw[<-hn];exact hA _ g)
 have HA2:=show Hid (∀W',Below (n+1+1) W W'->H7 W' v2 c.arrays.length 1 (ints c.arrays))from fun W' g=>h2.below (by rw[<-hn];exact hA _ g)
 have HA3:=show Hid (∀W',Below (n+1+1) W W'->V9 W' v3 c.list)from fun W' g=>h3.below (by rw[<-hn];exact hA _ g)
 have HA:=show Hid _ from hA
 have HS:=show Hid _ from hS
 have HQ:=show Hid _ from hQ
 have HT:=show Hid _ from hT
 have hb0:Below (n+1+1) W W.drew:=(Below.refl _ W).drew
 have hb1:Below (n+1) W W.drew:=(Below.refl _ W).drew
 have HN:=show Hid (n=w.heap.size)from hn
 have HL2:=show Hid _ from L2
 have zd:W.drew.heap.size=n+1+1:=sW
 have HB0:=show Hid _ from B0
 clear hS hQ hT hA h1 h2 h3 L1
 go_enter Tryz.func42,Tryz.ntmps42
 go_wp2_with fail
 rw[<-HN.out]
 rw[<-hW]
 clear hn hW B0 L2
 go_region_held3 (fun W'=>Below (n+1) W W'/\(W'.cell? ⟨n,0,none⟩=some v1/\W'.cell? ⟨n,1,none⟩=some v2/\W'.cell? ⟨n,2,none⟩=some v3))
  (first|exact HS.out _ ai|exact HS.out _ ((by assumption:Below (n+1+1) W _).mono (Nat.le_succ _))|exact HS.out _ (((((by assumption:Below (n+1+1) W _).mono (Nat.le_succ _)).setCell (cv7 _) _).setCell (cv7 _) _).setCell (cv7 _) _))
  (first
   |(go_at_call 46;refine(aq3 v1 c.vars _ (HA1.out _ ai) al).mono ?_;rintro e w7 ⟨u1,rfl,o1,b7⟩;obtain⟨x1,k1,rfl⟩:=o1.form;have s7:=b7.size;(try replace o2:=o2.keep b7 al);(try replace o3:=o3.keep b7 al);have q7:=HQ.out _ _ ai b7;have z7:=q7.size;obtain⟨⟨f0,f1,f2⟩,c0,c1,c2⟩:=HT.out _ q7)
   |(go_at_call 46;refine(aq3 v2 c.arrays _ (HA2.out _ ai) al).mono ?_;rintro e w7 ⟨u2,rfl,o2,b7⟩;obtain⟨x2,k2,rfl⟩:=o2.form;have s7:=b7.size;(try replace o1:=o1.keep b7 al);(try replace o3:=o3.keep b7 al);have q7:=HQ.out _ _ ai b7;have z7:=q7.size;obtain⟨⟨f0,f1,f2⟩,c0,c1,c2⟩:=HT.out _ q7)
   |(go_at_call 94;refine(bE8 v3 c.list _ (HA3.out _ ai) al).mono ?_;rintro e w7 ⟨u3,rfl,o3,b7⟩;obtain⟨x3,k3,rfl⟩:=o3.form;have s7:=b7.size;(try replace o1:=o1.keep b7 al);(try replace o2:=o2.keep b7 al);have q7:=HQ.out _ _ ai b7;have z7:=q7.size;obtain⟨⟨f0,f1,f2⟩,c0,c1,c2⟩:=HT.out _ q7))
 have L2:=A1.below HL2.out q7 al
 have L3:=((L2.set (j:=0) (.slice x1 c.vars.length k1)).set (j:=1) (.slice x2 c.arrays.length k2)).set (j:=2) (.slice x3 c.list.length k3)
 replace o1:=(((o1.other (b:=n+1) al 0 (.slice x1 c.vars.length k1)).other (b:=n+1) al 1 (.slice x2 c.arrays.length k2)).other (b:=n+1) al 2 (.slice x3 c.list.length k3))
 replace o2:=(((o2.other (b:=n+1) al 0 (.slice x1 c.vars.length k1)).other (b:=n+1) al 1 (.slice x2 c.arrays.length k2)).other (b:=n+1) al 2 (.slice x3 c.list.length k3))
 replace o3:=(((o3.other (b:=n+1) al 0 (.slice x1 c.vars.length k1)).other (b:=n+1) al 1 (.slice x2 c.arrays.length k2)).other (b:=n+1) al 2 (.slice x3 c.list.length k3))
 have BF:=(((HB0.out.trans (q7.mono al)).setCell (p:=⟨n+1,0,none⟩) (by show n<=n+1;omega) (.slice x1 c.vars.length k1)).setCell (p:=⟨n+1,1,none⟩) (by show n<=n+1;omega) (.slice x2 c.arrays.length k2)).setCell (p:=⟨n+1,2,none⟩) (by show n<=n+1;omega) (.slice x3 c.list.length k3)
 have zF:(((w7.setCell ⟨n+1,0,none⟩ (.slice x1 c.vars.length k1)).setCell ⟨n+1,1,none⟩ (.slice x2 c.arrays.length k2)).setCell ⟨n+1,2,none⟩ (.slice x3 c.list.length k3)).heap.size=w7.heap.size:=an
 generalize ((w7.setCell ⟨n+1,0,none⟩ (.slice x1 c.vars.length k1)).setCell ⟨n+1,1,none⟩ (.slice x2 c.arrays.length k2)).setCell ⟨n+1,2,none⟩ (.slice x3 c.list.length k3)=WF at*
 have r0:=L3.cell 0
 have r1:=L3.cell 1
 have r2:=L3.cell 2
 simp at r0 r1 r2
 have hn':=HN.out
 clear f0 f1 f2 c0 c1 c2 L2 HS HQ HT HA HA1 HA2 HA3 HL2 HB0 hb0 hb1 HN
 go_wp2_with fail
 refine bodyPost_ret (v:=.agg #[.slice x1 c.vars.length k1,.slice x2 c.arrays.length k2,.slice x3 c.list.length k3]) (by simp[results,Tryz.results42,go_sem,r0,r1,r2]) rfl ⟨_,rfl,⟨_,_,_,rfl,o1.wide al al,o2.wide al al,o3.wide al al,aj0 o1 o2 al,aj0 o1 o3 al,aj0 o2 o3 al⟩,by rw[<-hn'];exact BF⟩
theorem a68(x:d8)(t:Int)(w:World)(h:0<=l0 x):
  Calls Tryz.prog 96 #[x.v,.int .i64 t] w fun e w'=>e=.returned (O2 x t).v/\Below w.heap.size w w':=by
 obtain⟨x0,x1,x2,x3,x4⟩:=x
 by_cases h8:x0=8
 ·have HN:=show Hid (O2 ⟨x0,x1,x2,x3,x4⟩ t=⟨x0,t,x2,x3,x4⟩)from by simp[Hid,O2,h8]
  have q8:(x0==8)=true:=by simp[h8]
  clear h8 h
  go_enter Tryz.func96,Tryz.ntmps96
  go_wp2_with fail
  refine bodyPost_ret (v:=.agg #[.int .i64 x0,.int .i64 t,.int .i64 x2,.int .i64 x3,.int .i64 x4]) (by simp[results,Tryz.results96,go_sem]) rfl ⟨by rw[HN.out],by go_grown⟩
 have q8:(x0==8)=false:=by simp[h8]
 have h9:x0=9\/x0=10:=by
  unfold l0 at h
  simp only at h
  rw[if_neg h8]at h
  split at h
  ·assumption
  omega
 have HN:=show Hid (O2 ⟨x0,x1,x2,x3,x4⟩ t=⟨x0,x1,t,x3,x4⟩)from by simp[Hid,O2,h8,h9]
 clear h8 h9 h
 go_enter Tryz.func96,Tryz.ntmps96
 go_wp2_with fail
 refine bodyPost_ret (v:=.agg #[.int .i64 x0,.int .i64 x1,.int .i64 t,.int .i64 x3,.int .i64 x4]) (by simp[results,Tryz.results96,go_sem]) rfl ⟨by rw[HN.out],by go_grown⟩
theorem bD8(v:Value)(c:c8)(p:Option Addr)(m k:Nat)(l:List d8)(lo hi:Nat)(w:World)(h:t5 w v c)(hs:c.size<=1048576)(hl:A9 w lo hi 76 5 (.slice p m k) l.length (ints (C5 l)))(hlo:lo<=w.heap.size)(hhi:hi<=w.heap.size):
  Calls Tryz.prog 147 #[v,.slice p m k] w fun e w'=>∃u,e=.returned u/\C6 w' lo w'.heap.size u {c with list:=l}/\Below w.heap.size w w':=by
 obtain⟨v1,v2,v3,rfl,h1,h2,h3⟩:=h
 unfold c8.size at hs
 have hlm:m=l.length:=by obtain⟨a,c,e⟩:=hl.form;simp only[Value.slice.injEq]at e;omega
 subst hlm
 obtain⟨n,hn⟩:∃n,n=w.heap.size:=⟨_,rfl⟩
 obtain⟨W,hW⟩:∃W,W=(w.alloc (.cells #[v1,v2,v3] 26)).alloc (.cells #[.slice none 0 0,.slice none 0 0,.slice none 0 0] 26):=⟨_,rfl⟩
 have B0:Below n w W:=by rw[hW,hn];go_grown
 have sW:W.heap.size=n+1+1:=by rw[hW,hn];simp
 have L1:A1 W n [v1,v2,v3]:=by rw[hW,hn];exact(A1.new w [v1,v2,v3] _).alloc _
 have L2:A1 W (n+1) [.slice none 0 0,.slice none 0 0,.slice none 0 0]:=by rw[hW,hn];exact A1.new' (w.alloc _) [.slice none 0 0,.slice none 0 0,.slice none 0 0] _ an
 have hS:∀W',Below (n+1) W W'->Below (n+1) W W'/\(W'.cell? ⟨n,0,none⟩=some v1/\W'.cell? ⟨n,1,none⟩=some v2/\W'.cell? ⟨n,2,none⟩=some v3):=by
  intro W' hb
  have L':=L1.below hb al
  exact⟨hb,by simpa using L'.cell 0,by simpa using L'.cell 1,by simpa using L'.cell 2⟩
 have hQ:∀W' W'',Below (n+1+1) W W'->Below W'.heap.size W' W''->Below (n+1+1) W W'':=fun W' W'' g k=>g.trans (k.mono (by have:=g.size;omega))
 have hT:∀W',Below (n+1+1) W W'->(W'.frozen? ⟨n+1,0,none⟩=false/\W'.frozen? ⟨n+1,1,none⟩=false/\W'.frozen? ⟨n+1,2,none⟩=false)/\W'.cell? ⟨n+1,0,none⟩=some (.slice none 0 0)/\W'.cell? ⟨n+1,1,none⟩=some (.slice none 0 0)/\W'.cell? ⟨n+1,2,none⟩=some (.slice none 0 0):=by
  intro W' hb
  have L':=L2.below hb al
  exact⟨⟨L'.free 0,L'.free 1,L'.free 2⟩,by simpa using L'.cell 0,by simpa using L'.cell 1,by simpa using L'.cell 2⟩
 have hA:∀W',Below (n+1+1) W W'->Below n w W':=fun W' g=>B0.trans (g.mono al)
 have HA1:=show Hid (∀W',Below (n+1+1) W W'->H7 W' v1 c.vars.length 1 (ints c.vars))from fun W' g=>h1.below (by rw[<-hn];exact hA _ g)
 have HA2:=show Hid (∀W',Below (n+1+1) W W'->H7 W' v2 c.arrays.length 1 (ints c.arrays))from fun W' g=>h2.below (by rw[<-hn];exact hA _ g)
 have HA3:=show Hid (∀W',Below (n+1+1) W W'->V9 W' v3 c.list)from fun W' g=>h3.below (by rw[<-hn];exact hA _ g)
 have HA:=show Hid _ from hA
 have HS:=show Hid _ from hS
 have HQ:=show Hid _ from hQ
 have HT:=show Hid _ from hT
 have hb0:Below (n+1+1) W W.drew:=(Below.refl _ W).drew
 have hb1:Below (n+1) W W.drew:=(Below.refl _ W).drew
 have HN:=show Hid (n=w.heap.size)from hn
 have HL2:=show Hid _ from L2
 have zd:W.drew.heap.size=n+1+1:=sW
 have HB0:=show Hid _ from B0
 clear hS hQ hT hA h1 h2 h3 L1
 go_enter Tryz.func147,Tryz.ntmps147
 go_wp2_with fail
 rw[<-HN.out]
 rw[<-hW]
 clear hn hW B0 L2
 go_region_held3 (fun W'=>Below (n+1) W W'/\(W'.cell? ⟨n,0,none⟩=some v1/\W'.cell? ⟨n,1,none⟩=some v2/\W'.cell? ⟨n,2,none⟩=some v3))
  (first|exact HS.out _ ai|exact HS.out _ ((by assumption:Below (n+1+1) W _).mono (Nat.le_succ _))|exact HS.out _ (((((by assumption:Below (n+1+1) W _).mono (Nat.le_succ _)).setCell (cv7 _) _).setCell (cv7 _) _).setCell (cv7 _) _))
  (first
   |(go_at_call 46;refine(aq3 v1 c.vars _ (HA1.out _ ai) al).mono ?_;rintro e w7 ⟨u1,rfl,o1,b7⟩;obtain⟨x1,k1,rfl⟩:=o1.form;have s7:=b7.size;(try replace o2:=o2.keep b7 al);have q7:=HQ.out _ _ ai b7;have z7:=q7.size;obtain⟨⟨f0,f1,f2⟩,c0,c1,c2⟩:=HT.out _ q7)
   |(go_at_call 46;refine(aq3 v2 c.arrays _ (HA2.out _ ai) al).mono ?_;rintro e w7 ⟨u2,rfl,o2,b7⟩;obtain⟨x2,k2,rfl⟩:=o2.form;have s7:=b7.size;(try replace o1:=o1.keep b7 al);have q7:=HQ.out _ _ ai b7;have z7:=q7.size;obtain⟨⟨f0,f1,f2⟩,c0,c1,c2⟩:=HT.out _ q7))
 have L2:=A1.below HL2.out q7 al
 have hn0:=HN.out
 have o3:=(hl.keep HB0.out (by have:=HN.out;omega)).keep (q7.mono (show n<=n+1+1 by omega)) (by have:=HN.out;omega)
 have L3:=((L2.set (j:=0) (.slice x1 c.vars.length k1)).set (j:=1) (.slice x2 c.arrays.length k2)).set (j:=2) (.slice p l.length k)
 replace o1:=(((o1.other (b:=n+1) al 0 (.slice x1 c.vars.length k1)).other (b:=n+1) al 1 (.slice x2 c.arrays.length k2)).other (b:=n+1) al 2 (.slice p l.length k))
 replace o2:=(((o2.other (b:=n+1) al 0 (.slice x1 c.vars.length k1)).other (b:=n+1) al 1 (.slice x2 c.arrays.length k2)).other (b:=n+1) al 2 (.slice p l.length k))
 replace o3:=(((o3.other (b:=n+1) al 0 (.slice x1 c.vars.length k1)).other (b:=n+1) al 1 (.slice x2 c.arrays.length k2)).other (b:=n+1) al 2 (.slice p l.length k))
 have BF:=(((HB0.out.trans (q7.mono al)).setCell (p:=⟨n+1,0,none⟩) (by show n<=n+1;omega) (.slice x1 c.vars.length k1)).setCell (p:=⟨n+1,1,none⟩) (by show n<=n+1;omega) (.slice x2 c.arrays.length k2)).setCell (p:=⟨n+1,2,none⟩) (by show n<=n+1;omega) (.slice p l.length k)
 have zF:(((w7.setCell ⟨n+1,0,none⟩ (.slice x1 c.vars.length k1)).setCell ⟨n+1,1,none⟩ (.slice x2 c.arrays.length k2)).setCell ⟨n+1,2,none⟩ (.slice p l.length k)).heap.size=w7.heap.size:=an
 generalize ((w7.setCell ⟨n+1,0,none⟩ (.slice x1 c.vars.length k1)).setCell ⟨n+1,1,none⟩ (.slice x2 c.arrays.length k2)).setCell ⟨n+1,2,none⟩ (.slice p l.length k)=WF at*
 have r0:=L3.cell 0
 have r1:=L3.cell 1
 have r2:=L3.cell 2
 simp at r0 r1 r2
 have hn':=HN.out
 clear f0 f1 f2 c0 c1 c2 L2 HS HQ HT HA HA1 HA2 HA3 HL2 HB0 hb0 hb1 HN
 go_wp2_with fail
 refine bodyPost_ret (v:=.agg #[.slice x1 c.vars.length k1,.slice x2 c.arrays.length k2,.slice p l.length k]) (by simp[results,Tryz.results147,go_sem,r0,r1,r2]) rfl ⟨_,rfl,⟨_,_,_,rfl,o1.wide al al,o2.wide al al,o3.wide al al,aj0 o1 o2 al,aj0 o1 o3 al,aj0 o2 o3 al⟩,by rw[<-hn'];exact BF⟩
def ai0(i:Nat):Prop:=i%4=0\/i%4=3
def Pv(n:Nat)(v1 v2 v3:Value)(c:c8)(i:Nat)(x:Value)(w:World):Prop:=
 match i with
 |0=>(∃b,x=.slice (some b) 0 0)/\w.ownsRow (n+1+1) 3 1 x 0 []
 |1=>x=.pointer (some ⟨n,0,none⟩)
 |2=>x=v1
 |3=>w.ownsRow (n+1+1) 3 1 x c.vars.length (ints c.vars)
 |4=>(∃b,x=.slice (some b) 0 0)/\w.ownsRow (n+1+1) 3 1 x 0 []
 |5=>x=.pointer (some ⟨n,1,none⟩)
 |6=>x=v2
 |7=>w.ownsRow (n+1+1) 3 1 x c.arrays.length (ints c.arrays)
 |8=>(∃b,x=.slice (some b) 0 0)/\w.ownsRow (n+1+1) 76 5 x 0 []
 |9=>x=.pointer (some ⟨n,2,none⟩)
 |10=>x=v3
 |11=>w.ownsRow (n+1+1) 76 5 x c.list.length (ints (C5 c.list))
 |12=>∃y1 y2 y3,x=.agg #[y1,y2,y3]/\w.ownsRow (n+1+1) 3 1 y1 c.vars.length (ints c.vars)/\w.ownsRow (n+1+1) 3 1 y2 c.arrays.length (ints c.arrays)/\w.ownsRow (n+1+1) 76 5 y3 c.list.length (ints (C5 c.list))/\Y4 y1 y2/\Y4 y1 y3/\Y4 y2 y3
 |_=>True
theorem Pv.next{n:Nat}{v1 v2 v3:Value}{c:c8}{i:Nat}{x:Value}{w w':World}(h:Pv n v1 v2 v3 c i x w)(hb:Below w.heap.size w w'):Pv n v1 v2 v3 c i x w':=by
 have k:=fun{e:TypeId} {sz:Nat} {v:Value} {m:Nat} {xs:List Value} (g:w.ownsRow (n+1+1) e sz v m xs)=>E7 g hb (cv7 _)
 unfold Pv at*
 split at h<;>first|exact h|exact k h|exact⟨h.1,k h.2⟩|(obtain⟨y1,y2,y3,e,g1,g2,g3,d⟩:=h;exact⟨y1,y2,y3,e,k g1,k g2,k g3,d⟩)
theorem Pv.lt{n:Nat}{v1 v2 v3:Value}{c:c8}{i:Nat}{x:Value}{w:World}(h:Pv n v1 v2 v3 c i x w)(hi:i<12)(ho:ai0 i):∀g,x.ownBlock=some g->g<w.heap.size:=by
 intro g hg
 unfold ai0 at ho
 have:i=0\/i=3\/i=4\/i=7\/i=8\/i=11:=al
 rcases this with rfl|rfl|rfl|rfl|rfl|rfl
 ·exact(h.2.lt g hg).2
 ·exact(World.ownsRow.lt h g hg).2
 ·exact(h.2.lt g hg).2
 ·exact(World.ownsRow.lt h g hg).2
 ·exact(h.2.lt g hg).2
 exact(World.ownsRow.lt h g hg).2
structure bj6(n:Nat)(v1 v2 v3:Value)(c:c8)(W:World)(listed:Array Bool)(f:Nat->Value)(w:World):Prop where
 size:listed.size=14
 val:∀i,i<13->listed.getD i false=true->Pv n v1 v2 v3 c i (f i) w
 dis:∀i j,i<12->j<12->ai0 i->ai0 j->i/4≠j/4->listed.getD i false=true->listed.getD j false=true->Y4 (f i) (f j)
 box:Below (n+1) W w
 big:n+1+1<=w.heap.size
 pre:listed.getD 13 false=false->Below (n+1+1) W w
 post:listed.getD 13 false=true->∃y1 y2 y3,A1 w (n+1) [y1,y2,y3]/\w.ownsRow (n+1+1) 3 1 y1 c.vars.length (ints c.vars)/\w.ownsRow (n+1+1) 3 1 y2 c.arrays.length (ints c.arrays)/\w.ownsRow (n+1+1) 76 5 y3 c.list.length (ints (C5 c.list))/\Y4 y1 y2/\Y4 y1 y3/\Y4 y2 y3
theorem bj6.step{n:Nat}{v1 v2 v3:Value}{c:c8}{W:World}{listed:Array Bool}{f:Nat->Value}{w w':World}(h:bj6 n v1 v2 v3 c W listed f w){i:Nat}(hi:i<13){x:Value}(hb:Below w.heap.size w w')(hx:Pv n v1 v2 v3 c i x w')
  (hd:ai0 i->∀j,j<12->ai0 j->i/4≠j/4->listed.getD j false=true->Y4 x (f j)):bj6 n v1 v2 v3 c W (listed.setIfInBounds i true) (fun k=>if k=i then x else f k) w':=by
 have hs:=hb.size
 have hbig:=h.big
 have get:∀j,j≠i->(listed.setIfInBounds i true).getD j false=true->listed.getD j false=true:=fun j hj g=>by rwa[getD_set_ne false (fun e=>hj e.symm)]at g
 refine⟨by simpa using h.size,fun j hj g=>?_,fun j k hj hk oj ok hjk gj gk=>?_,h.box.trans (hb.mono al),al,fun g=>?_,fun g=>?_⟩
 ·by_cases e:j=i
  ·subst e;simpa using hx
  simp only[if_neg e];exact(h.val j hj (get j e g)).next hb
 ·by_cases e1:j=i
  ·subst e1
   have e2:k≠j:=fun e=>hjk (by rw[e])
   simp only[if_pos,if_neg e2]
   exact hd oj k hk ok hjk (get k e2 gk)
  by_cases e2:k=i
  ·subst e2
   simp only[if_pos,if_neg e1]
   exact(hd ok j hj oj (fun e=>hjk e.symm) (get j e1 gj)).symm
  simp only[if_neg e1,if_neg e2]
  exact h.dis j k hj hk oj ok hjk (get j e1 gj) (get k e2 gk)
 ·rw[getD_set_ne false al]at g
  exact(h.pre g).trans (hb.mono al)
 rw[getD_set_ne false al]at g
 obtain⟨y1,y2,y3,k0,k1,k2,k3,k4⟩:=h.post g
 exact⟨y1,y2,y3,k0.below hb k0.lt,E7 k1 hb (cv7 _),E7 k2 hb (cv7 _),E7 k3 hb (cv7 _),k4⟩
theorem bj6.new{n:Nat}{v1 v2 v3:Value}{c:c8}{W:World}{listed:Array Bool}{f:Nat->Value}{w:World}(h:bj6 n v1 v2 v3 c W listed f w){x:Value}(hx:∀g,x.ownBlock=some g->w.heap.size<=g):∀j,j<12->ai0 j->listed.getD j false=true->Y4 x (f j):=by
 intro j hj oj gj g h1 h2
 have:=hx g h1
 have:=(h.val j al gj).lt hj oj g h2
 omega
theorem bM2{w:World}{base:Nat}{e:TypeId}{sz:Nat}{v:Value}{m:Nat}{xs:List Value}(h:w.ownsRow base e sz v m xs){b:Nat}(hb:b<base)(j:Nat)(u:Value):(w.setCell ⟨b,j,none⟩ u).ownsRow base e sz v m xs:=
 ((A9.mk' h).other (b:=b) (.inl hb) j u).1
theorem Pv.store{n:Nat}{v1 v2 v3:Value}{c:c8}{i:Nat}{x:Value}{w:World}(h:Pv n v1 v2 v3 c i x w)(j:Nat)(u:Value):Pv n v1 v2 v3 c i x (w.setCell ⟨n+1,j,none⟩ u):=by
 have k:=fun{e:TypeId} {sz:Nat} {v:Value} {m:Nat} {xs:List Value} (g:w.ownsRow (n+1+1) e sz v m xs)=>bM2 g (cA1 (n+1)) j u
 unfold Pv at*
 split at h<;>first|exact h|exact k h|exact⟨h.1,k h.2⟩|(obtain⟨y1,y2,y3,e,g1,g2,g3,d⟩:=h;exact⟨y1,y2,y3,e,k g1,k g2,k g3,d⟩)
theorem aU3(us:List Value):∀(y:Value) (ys:List Value) (p:Nat),setFrom (y::ys) (p+1) us=y::setFrom ys p us:=by
 induction us with
 |nil=>intro y ys p;rfl
 |cons u r ih=>intro y ys p;simp only[setFrom,cx1];exact ih _ _ _
theorem a65(x:d8):∀(l:List d8) (k:Nat),k<l.length->setFrom (ints (C5 l)) (k*5) [.int .i64 x.op,.int .i64 x.a,.int .i64 x.b,.int .i64 x.c,.int .i64 x.d]=ints (C5 (l.set k x))
 |[],k,h=>by simp at h
 |y::l,0,_=>by simp[setFrom,C5,ints]
 |y::l,k+1,h=>by
  have ih:=a65 x l k (by simpa using h)
  have e:(k+1)*5=k*5+1+1+1+1+1:=al
  rw[e]
  simp only[C5,ints,cy8,cx1,aU3]
  simp only[ints]at ih
  rw[ih]
def aB9(ks:List Bool)(n k:Nat):List Int:=aG6 ks k++cv3 (n-k) 0
theorem bd3(ks:List Bool){n k:Nat}(h:k<=n):(aB9 ks n k).length=n:=by simp[aB9,ag2];omega
theorem bD0(ks:List Bool)(n:Nat):aB9 ks n 0=cv3 n 0:=by simp[aB9,aG6]
theorem bO0(ks:List Bool)(n:Nat):aB9 ks n n=aG6 ks n:=by simp[aB9]
theorem bD1(ks:List Bool){n k:Nat}(h:k<n):aB9 ks n (k+1)=(aB9 ks n k).set k (R5 ks k:Int):=by
 unfold aB9
 rw[List.set_append_right _ _ (by rw[ag2];exact cv7 _),ag2,Nat.sub_self,bC2]
 obtain⟨d,hd⟩:∃d,n-k=d+1:=⟨n-k-1,al⟩
 rw[hd,show n-(k+1)=d by omega,List.replicate_succ]
 simp
theorem a66(v u:Value)(c:c8)(ds ks:List Bool)(hc:j7 c=true)(w:World)(h:t5 w v c)(hu:H7 w u c.list.length 1 (bools ds))(hks:ks.length=c.list.length)(hkd:∀i,i<c.list.length->ds.getD i false= !ks.getD i false):
  Calls Tryz.prog 98 #[v,u] w fun e w'=>∃z,e=.returned z/\C6 w' w.heap.size w'.heap.size z {c with list:=t9 c ks c.list.length}/\Below w.heap.size w w':=by
 have hrow:=h
 obtain⟨v1,v2,v3,rfl,h1,h2,h3⟩:=h
 obtain⟨a3,k3,rfl,-,hm3,-,hc3⟩:=h3.ins
 obtain⟨au,cu,rfl,-,-,-,hcu⟩:=hu.open1
 have hn4:=(k8 hc).2.2.1
 have hn1:=(k8 hc).2.1
 obtain⟨n,hn⟩:∃n,n=w.heap.size:=⟨_,rfl⟩
 obtain⟨W,hW⟩:∃W,W=(w.alloc (.cells #[v1,v2,.slice a3 c.list.length k3] 26)).alloc (.cells #[.slice none 0 0,.slice none 0 0,.slice none 0 0] 26):=⟨_,rfl⟩
 have B0:Below w.heap.size w W:=by rw[hW];go_grown
 have sW:W.heap.size=n+1+1:=by rw[hW,hn];simp
 have L1:A1 W n [v1,v2,.slice a3 c.list.length k3]:=by rw[hW,hn];exact(A1.new w [v1,v2,.slice a3 c.list.length k3] _).alloc _
 have L2:A1 W (n+1) [.slice none 0 0,.slice none 0 0,.slice none 0 0]:=by rw[hW,hn];exact A1.new' (w.alloc _) [.slice none 0 0,.slice none 0 0,.slice none 0 0] _ an
 have hmk:=ac5 (P:=Tryz.prog) (t:=23) Tryz.underlying23 aQ1 rfl al c.list.length al hm3
 have hown:=ax3 W (Value.int .i64 0).cells.toList c.list.length 1 3 rfl hm3
 rw[show(Value.int .i64 0).cells.toList=[Value.int .i64 0]from rfl,J4,sW]at hown
 rw[show(Value.int .i64 0).cells.toList=[Value.int .i64 0]from rfl,J4]at hmk
 have eR:(cv3 c.list.length (Value.int .i64 0)).toArray=cx4 c.list.length (Value.int .i64 0):=an
 rw[eR]at hmk hown
 have hown1:A9 (W.alloc (.cells (cx4 c.list.length (Value.int .i64 0)) 3)) (n+1+1) (n+1+1+1) 3 1 (.slice (some ⟨n+1+1,0,none⟩) c.list.length c.list.length) c.list.length (ints (aB9 ks c.list.length 0)):=by
  rw[bD0,ints,List.map_replicate];exact hown
 have x2:(W.alloc (.cells (cx4 c.list.length (Value.int .i64 0)) 3)).cell? ⟨n,2,none⟩=some (.slice a3 c.list.length k3):=by simpa using(L1.alloc (.cells (cx4 c.list.length (Value.int .i64 0)) 3)).cell 2
 have x2':=L1.cell 2
 simp only[cv5,cw0]at x2'
 generalize cx4 c.list.length (Value.int .i64 0)=zn at*
 rw[hW,hn]at x2 x2'
 go_enter Tryz.func98,Tryz.ntmps98
 go_wp2_with fail
 rw[<-hW, <-hn]
 clear x2 x2' hW hmk eR hown
 obtain⟨W2,hW2⟩:∃W2,W2=W.alloc (.cells zn 3):=⟨_,rfl⟩
 have bz:Below W.heap.size W W2:=by rw[hW2];go_grown
 have s2:W2.heap.size=n+1+1+1:=by rw[hW2];simp[sW]
 rw[<-hW2]at hown1 ⊢
 replace L1:=L1.below bz L1.lt
 replace L2:=L2.below bz L2.lt
 have B2:=B0.trans (bz.mono B0.size)
 have HN:=show Hid (n=w.heap.size)from hn
 have HI:=show Hid _ from hc3
 have HU:=show Hid _ from hcu
 have HKD:=show Hid _ from hkd
 clear hW2 bz sW B0 hc3 hcu hkd hn
 go_loopw [6,7,19] (fun q _ i wr=>∃k:Nat,k<=c.list.length/\i=.int .i64 k/\q=.int .i64 (R5 ks k:Int)/\A1 wr n [v1,v2,.slice a3 c.list.length k3]/\A1 wr (n+1) [.slice none 0 0,.slice none 0 0,.slice none 0 0]/\
   A9 wr (n+1+1) (n+1+1+1) 3 1 (.slice (some ⟨n+1+1,0,none⟩) c.list.length c.list.length) c.list.length (ints (aB9 ks c.list.length k))/\Below w.heap.size w wr) (fun _ _ i _=>c.list.length-(intOf i).toNat)
 case atStart=>exact⟨0,cy4 _,rfl,by rw[am6];rfl,L1,L2,hown1,B2⟩
 case round=>
  obtain⟨k,hk,rfl,rfl,hL1,hL2,ho,hb⟩:=hrel
  clear L1 L2 hown1 B2
  by_cases hlt:k<c.list.length
  ·obtain⟨b,off,rfl,hbk,hy⟩:=HU.out k hlt
   have hdl:ds.length=c.list.length:=by have:=hu.1;simpa[bools]using this
   rw[x5 _ _ al, <-(z6 hb).1 _ _ hbk]at hy
   have hde:ds[k]'al= !ks.getD k false:=by rw[<-HKD.out k hlt];simp[show k<ds.length by omega]
   rw[hde]at hy
   have HP:=show Hid _ from bD1 ks hlt
   have HS:=show Hid _ from X9 ks k al
   obtain⟨g,cap,hv,-,-,-,hf,u0,hcc⟩:=ho.at (j:=k) (by rw[be2,bd3 ks hk];exact hlt)
   cases hv
   have hSet:=ho.setCell (j:=k) (by rw[be2,bd3 ks hk];exact hlt) (.int .i64 (R5 ks k:Int))
   rw[show(ints (aB9 ks c.list.length k)).set k (.int .i64 (R5 ks k:Int))=ints ((aB9 ks c.list.length k).set k (R5 ks k:Int)) by simp[ints,List.map_set], <-HP.out]at hSet
   have hL1x:=hL1.other (p:=⟨n+1+1,k,none⟩) (by show n≠n+1+1;omega) (.int .i64 (R5 ks k:Int))
   have hL2x:=hL2.other (p:=⟨n+1+1,k,none⟩) (by show n+1≠n+1+1;omega) (.int .i64 (R5 ks k:Int))
   have hbx:=hb.setCell (p:=⟨n+1+1,k,none⟩) (by show w.heap.size<=n+1+1;have:=HN.out;omega) (.int .i64 (R5 ks k:Int))
   have hyx:(wr.setCell ⟨n+1+1,k,none⟩ (.int .i64 (R5 ks k:Int))).cell? ⟨b,off+k,none⟩=some (.bool !ks.getD k false):=by
    rw[World.cell?_setCell_other _ _ _ _ (by intro e;have e1:n+1+1=b:=congrArg Addr.block e;have:=HN.out;omega)]
    exact hy
   have hpl:=b90 ks k
   clear hde hdl hy
   cases hkb:ks.getD k false
   ·have HN1:=show Hid (R5 ks (k+1)=R5 ks k)from by unfold Hid;rw[HS.out,hkb];simp
    rw[hkb]at hyx
    simp only[Bool.not_false]at hyx
    clear hkb
    go_wp2_with fail
    exact⟨⟨k+1,al,by go_num,by rw[HN1.out],hL1x,hL2x,hSet,hbx⟩,by simp[intOf];omega⟩
   have HN1:=show Hid (R5 ks (k+1)=R5 ks k+1)from by unfold Hid;rw[HS.out,hkb];simp
   rw[hkb]at hyx
   simp only[Bool.not_true]at hyx
   clear hkb
   go_wp2_with fail
   exact⟨⟨k+1,al,by go_num,by rw[HN1.out];go_num,hL1x,hL2x,hSet,hbx⟩,by simp[intOf];omega⟩
  have hkn:k=c.list.length:=al
  subst hkn
  rw[bO0]at ho
  have x2:=hL1.cell 2
  simp only[cv5,cw0]at x2
  go_wp2_with fail
  clear x2
  go_loopw [8,9,10,11,37] (fun q _ _ _ i wr=>∃(k:Nat) (a:Option Addr) (cq:Nat),k<=c.list.length/\i=.int .i64 k/\q=.slice a (t9 c ks k).length cq/\wr.ownsRow (n+1+1+1) 76 5 q (t9 c ks k).length (ints (C5 (t9 c ks k)))/\A1 wr n [v1,v2,.slice a3 c.list.length k3]/\A1 wr (n+1) [.slice none 0 0,.slice none 0 0,.slice none 0 0]/\
    A9 wr (n+1+1) (n+1+1+1) 3 1 (.slice (some ⟨n+1+1,0,none⟩) c.list.length c.list.length) c.list.length (ints (aG6 ks c.list.length))/\Below w.heap.size w wr) (fun _ _ _ _ i _=>c.list.length-(intOf i).toNat)
  case atStart=>exact⟨0,none,0,cy4 _,rfl,rfl,World.ownsRow_nil _ _ _ _,hL1,hL2,ho,hb⟩
  case round=>
   clear hL1 hL2 ho hb
   obtain⟨k,a,cq,hk,rfl,rfl,hq,hL1,hL2,ho,hb⟩:=hrel
   by_cases hlt:k<c.list.length
   ·obtain⟨b,off,rfl,hbk,hy⟩:=HU.out k hlt
    obtain⟨bl,ol,he3,hb3,i0,i1,i2,i3,i4⟩:=HI.out k hlt
    have hdl:ds.length=c.list.length:=by have:=hu.1;simpa[bools]using this
    rw[x5 _ _ al, <-(z6 hb).1 _ _ hbk]at hy
    have hde:ds[k]'al= !ks.getD k false:=by rw[<-HKD.out k hlt];simp[show k<ds.length by omega]
    rw[hde]at hy
    have hins:=(k8 hc).2.2.2.1 k hlt
    rw[<-(z6 hb).1 _ _ hb3]at i0 i1 i2 i3 i4
    have HTG:=show Hid (0<=l0 c.list[k]->F2 c (l0 c.list[k]))from fun g=>⟨g,ab5 hins g⟩
    have HTR:Hid (trI ks c.list[k]=if 0<=l0 c.list[k]then O2 c.list[k] (R5 ks (l0 c.list[k]).toNat:Int)else c.list[k]):=rfl
    have HPUT:=show Hid (ks.getD k false=true->t9 c ks (k+1)=t9 c ks k++[trI ks c.list[k]])from fun g=>by rw[af9 g,t3 hlt]
    have HSKIP:=show Hid (ks.getD k false=false->t9 c ks (k+1)=t9 c ks k)from fun g=>ah7 g
    have hle:=aM0 c ks k
    obtain⟨x,hx⟩:∃x,x=c.list[k]:=⟨_,rfl⟩
    rw[<-hx]at i0 i1 i2 i3 i4 HTG HTR HPUT
    have hki:(k:Int)<c.list.length:=al
    have hPl:n+1+1<wr.heap.size:=(ho.lt _ rfl).2.2
    have hbw:b<wr.heap.size:=cz7 hbk hb.size
    have b4:Below wr.heap.size wr (wr.alloc (.cells #[.int .i64 x.op,.int .i64 x.a,.int .i64 x.b,.int .i64 x.c,.int .i64 x.d] 76)):=by go_grown
    have hyx:(wr.alloc (.cells #[.int .i64 x.op,.int .i64 x.a,.int .i64 x.b,.int .i64 x.c,.int .i64 x.d] 76)).cell? ⟨b,off+k,none⟩=some (.bool !ks.getD k false):=((z6 b4).1 _ _ hbw).trans hy
    subst he3
    clear hde hdl hins hx
    have hq4:=E7 hq b4 (cv7 _)
    have ho4:=ho.keep b4 al
    have hL14:=hL1.below b4 hL1.lt
    have hL24:=hL2.below b4 hL2.lt
    have hb4:=hb.trans (b4.mono hb.size)
    have LX:=A1.new wr [.int .i64 x.op,.int .i64 x.a,.int .i64 x.b,.int .i64 x.c,.int .i64 x.d] 76
    cases hkb:ks.getD k false
    ·have HN1:=show Hid (t9 c ks (k+1)=t9 c ks k)from HSKIP.out hkb
     rw[hkb]at hyx
     simp only[Bool.not_false]at hyx
     clear hkb HSKIP HPUT
     go_wp2_with fail
     refine⟨⟨k+1,a,cq,al,by go_num,by rw[HN1.out],by rw[HN1.out];exact hq4,hL14,hL24,ho4,hb4⟩,by simp[intOf];omega⟩
    have HN1:=show Hid (t9 c ks (k+1)=t9 c ks k++[trI ks x])from HPUT.out hkb
    rw[hkb]at hyx
    simp only[Bool.not_true]at hyx
    clear hkb HSKIP HPUT
    go_wp2_with fail
    clear hyx hy i0 i1 i2 i3 i4
    obtain⟨w4,hw4⟩:∃w4,w4=wr.alloc (.cells #[.int .i64 x.op,.int .i64 x.a,.int .i64 x.b,.int .i64 x.c,.int .i64 x.d] 76):=⟨_,rfl⟩
    rw[<-hw4]at LX hq4 ho4 hL14 hL24 hb4 ⊢
    have LXs:w4.heap.size=wr.heap.size+1:=by rw[hw4];simp
    have hqlt:∀g,(Value.slice a (t9 c ks k).length cq).ownBlock=some g->g<wr.heap.size:=fun g e=>(hq.lt g e).2
    obtain⟨X0,hX0⟩:∃X0,X0=wr.heap.size:=⟨_,rfl⟩
    rw[<-hX0]at LX LXs hqlt hPl ⊢
    clear hw4 hq ho hL1 hL2 hb b4 hbw hX0
    refine(ae6 x _).mono ?_
    rintro e w5 ⟨rfl,b5⟩
    have hX5:=b5.size
    have hq5:=E7 hq4 b5 (cv7 _)
    have ho5:=ho4.keep b5 al
    have hL15:=hL14.below b5 hL14.lt
    have hL25:=hL24.below b5 hL24.lt
    have LX5:=LX.below b5 LX.lt
    have hb5:=hb4.trans (b5.mono hb4.size)
    have hX3:X0<w5.heap.size:=al
    clear b5 hq4 ho4 hL14 hL24 LX hb4
    by_cases ht:0<=l0 x
    ·have hpl:=HTG.out ht
     have htr:=HTR.out
     rw[if_pos ht]at htr
     obtain⟨t,htt⟩:∃t:Nat,l0 x=t:=⟨(l0 x).toNat,al⟩
     have HT0:=show Hid (0<=l0 x)from ht
     rw[htt]at htr hpl ht ⊢
     rw[Int.toNat_natCast]at htr
     obtain⟨hp0,hp1⟩:=hpl
     have htl:t<c.list.length:=al
     obtain⟨g,cap,hv,-,-,-,-,-,-,hcc⟩:=ho5.open al
     cases hv
     have hpc:=hcc t _ (by rw[ag9 _ _ (by rw[ag2];exact htl)])
     have hpe:(aG6 ks c.list.length)[t]'(by rw[ag2];exact htl)=(R5 ks t:Int):=by
      have:=bL8 ks c.list.length t htl
      rw[cv6 (by rw[ag2];exact htl)]at this
      exact Option.some.inj this
     rw[hpe]at hpc
     obtain⟨q,hqe⟩:∃q,q=O2 x (R5 ks t:Int):=⟨_,rfl⟩
     have HQE:=show Hid (trI ks x=q)from by unfold Hid;rw[htr,hqe]
     have HC3:Hid (∀X,Calls Tryz.prog 96 #[x.v,.int .i64 (R5 ks t:Int)] (w5.ext X) fun e w''=>e=.returned (.agg #[.int .i64 q.op,.int .i64 q.a,.int .i64 q.b,.int .i64 q.c,.int .i64 q.d])/\∃Y,w''=w5.ext Y):=fun X=>Calls.ext_of' ((a68 x _ _ HT0.out).mono fun e w' h=>by rw[<-hqe]at h;exact h)
     have i0:=LX5.cell 0
     have i1:=LX5.cell 1
     have i2:=LX5.cell 2
     have i3:=LX5.cell 3
     have i4:=LX5.cell 4
     simp only[cv5,cw0]at i0 i1 i2 i3 i4
     have j0:=fun X=>c7 i0 X
     have j1:=fun X=>c7 i1 X
     have j2:=fun X=>c7 i2 X
     have j3:=fun X=>c7 i3 X
     have j4:=fun X=>c7 i4 X
     have jp:=fun X=>c7 hpc X
     have ff0:=fun X=>k6 hX3 (LX5.free 0) X
     have ff1:=fun X=>k6 hX3 (LX5.free 1) X
     have ff2:=fun X=>k6 hX3 (LX5.free 2) X
     have ff3:=fun X=>k6 hX3 (LX5.free 3) X
     have ff4:=fun X=>k6 hX3 (LX5.free 4) X
     clear i0 i1 i2 i3 i4 hpc hcc hpe hqe htr htt
     go_wp2_with fail
     refine j6 6 _ rfl aj aj ?_
     simp only[cx1,cx3,G8]
     repeat(any_goals (first|go_big_quiet_step ((go_at_call 96;exact HC3.out _))|quiet_step ((go_at_call 96;exact HC3.out _))))
     refine wpQuiet_nil ?_
     rintro _ ⟨X,rfl⟩
     have bX:=i6 w5 X
     have LXX:=LX5.below bX LX5.lt
     have LX6:A1 ((((((w5.ext X).setCell ⟨X0,0,none⟩ (.int .i64 q.op)).setCell ⟨X0,1,none⟩ (.int .i64 q.a)).setCell ⟨X0,2,none⟩ (.int .i64 q.b)).setCell ⟨X0,3,none⟩ (.int .i64 q.c)).setCell ⟨X0,4,none⟩ (.int .i64 q.d)) X0 [.int .i64 q.op,.int .i64 q.a,.int .i64 q.b,.int .i64 q.c,.int .i64 q.d]:=((((LXX.set (j:=0) (.int .i64 q.op)).set (j:=1) (.int .i64 q.a)).set (j:=2) (.int .i64 q.b)).set (j:=3) (.int .i64 q.c)).set (j:=4) (.int .i64 q.d)
     have hO:Out X0 (X0+1) (w5.ext X) ((((((w5.ext X).setCell ⟨X0,0,none⟩ (.int .i64 q.op)).setCell ⟨X0,1,none⟩ (.int .i64 q.a)).setCell ⟨X0,2,none⟩ (.int .i64 q.b)).setCell ⟨X0,3,none⟩ (.int .i64 q.c)).setCell ⟨X0,4,none⟩ (.int .i64 q.d)):=Out.setFrom (p:=0) [.int .i64 q.op,.int .i64 q.a,.int .i64 q.b,.int .i64 q.c,.int .i64 q.d] (Out.refl X0 (X0+1) (w5.ext X)) (cv7 X0) (cA1 X0)
     have hqX:=E7 hq5 bX (cv7 _)
     have hq6:((((((w5.ext X).setCell ⟨X0,0,none⟩ (.int .i64 q.op)).setCell ⟨X0,1,none⟩ (.int .i64 q.a)).setCell ⟨X0,2,none⟩ (.int .i64 q.b)).setCell ⟨X0,3,none⟩ (.int .i64 q.c)).setCell ⟨X0,4,none⟩ (.int .i64 q.d)).ownsRow (n+1+1+1) 76 5 (.slice a (t9 c ks k).length cq) (t9 c ks k).length (ints (C5 (t9 c ks k))):=by
      have h1:A9 (w5.ext X) (n+1+1+1) X0 76 5 (.slice a (t9 c ks k).length cq) (t9 c ks k).length (ints (C5 (t9 c ks k))):=⟨hqX,hqlt⟩
      exact(h1.out hO (.inl (cv7 _))).1
     have ho6:=(ho5.keep bX al).out hO (.inl al)
     have hL16:=(hL15.below bX hL15.lt).out hO (.inl al)
     have hL26:=(hL25.below bX hL25.lt).out hO (.inl al)
     have hz5:=bX.size
     have hb6:Below w.heap.size w ((((((w5.ext X).setCell ⟨X0,0,none⟩ (.int .i64 q.op)).setCell ⟨X0,1,none⟩ (.int .i64 q.a)).setCell ⟨X0,2,none⟩ (.int .i64 q.b)).setCell ⟨X0,3,none⟩ (.int .i64 q.c)).setCell ⟨X0,4,none⟩ (.int .i64 q.d)):=(hb5.trans (bX.mono hb5.size)).trans (hO.below (by have:=HN.out;omega) (by have:=hb5.size;omega))
     clear jp LXX hqX
     have i0:=LX6.cell 0
     have i1:=LX6.cell 1
     have i2:=LX6.cell 2
     have i3:=LX6.cell 3
     have i4:=LX6.cell 4
     simp only[cv5,cw0]at i0 i1 i2 i3 i4
     have hrow6:=(x8 ((((((w5.ext X).setCell ⟨X0,0,none⟩ (.int .i64 q.op)).setCell ⟨X0,1,none⟩ (.int .i64 q.a)).setCell ⟨X0,2,none⟩ (.int .i64 q.b)).setCell ⟨X0,3,none⟩ (.int .i64 q.c)).setCell ⟨X0,4,none⟩ (.int .i64 q.d)) (g:=(w5.ext X).heap.size) #[.int .i64 q.op,.int .i64 q.a,.int .i64 q.b,.int .i64 q.c,.int .i64 q.d] 1 5 76 an rfl al).row
     have hqa:=hq6.alloc (.cells #[.int .i64 q.op,.int .i64 q.a,.int .i64 q.b,.int .i64 q.c,.int .i64 q.d] 76)
     have hsz6:(((((((w5.ext X).setCell ⟨X0,0,none⟩ (.int .i64 q.op)).setCell ⟨X0,1,none⟩ (.int .i64 q.a)).setCell ⟨X0,2,none⟩ (.int .i64 q.b)).setCell ⟨X0,3,none⟩ (.int .i64 q.c)).setCell ⟨X0,4,none⟩ (.int .i64 q.d)).alloc (.cells #[.int .i64 q.op,.int .i64 q.a,.int .i64 q.b,.int .i64 q.c,.int .i64 q.d] 76)).heap.size=(w5.ext X).heap.size+1:=an
     have hbase:n+1+1+1<=(w5.ext X).heap.size:=al
     go_wp2_with (at_builtin;refine D2 rfl _ _ rfl Tryz.underlying24 bQ0 rfl al rfl hqa rfl hrow6 (an3 (l:=(q).l)) al al (by rw[hsz6];omega) ?_;rintro a4 q4 w7 o4 b7- -)
     have ba:Below (w5.ext X).heap.size ((((((w5.ext X).setCell ⟨X0,0,none⟩ (.int .i64 q.op)).setCell ⟨X0,1,none⟩ (.int .i64 q.a)).setCell ⟨X0,2,none⟩ (.int .i64 q.b)).setCell ⟨X0,3,none⟩ (.int .i64 q.c)).setCell ⟨X0,4,none⟩ (.int .i64 q.d)) (((((((w5.ext X).setCell ⟨X0,0,none⟩ (.int .i64 q.op)).setCell ⟨X0,1,none⟩ (.int .i64 q.a)).setCell ⟨X0,2,none⟩ (.int .i64 q.b)).setCell ⟨X0,3,none⟩ (.int .i64 q.c)).setCell ⟨X0,4,none⟩ (.int .i64 q.d)).alloc (.cells #[.int .i64 q.op,.int .i64 q.a,.int .i64 q.b,.int .i64 q.c,.int .i64 q.d] 76)):=(Below.refl _ _).alloc an _
     have b8:Below (n+1+1+1) ((((((w5.ext X).setCell ⟨X0,0,none⟩ (.int .i64 q.op)).setCell ⟨X0,1,none⟩ (.int .i64 q.a)).setCell ⟨X0,2,none⟩ (.int .i64 q.b)).setCell ⟨X0,3,none⟩ (.int .i64 q.c)).setCell ⟨X0,4,none⟩ (.int .i64 q.d)) w7:=(ba.mono al).trans b7
     have hll:(t9 c ks (k+1)).length=(t9 c ks k).length+1:=by rw[HN1.out];simp
     have hcells:ints (C5 (t9 c ks (k+1)))=ints (C5 (t9 c ks k))++(#[.int .i64 q.op,.int .i64 q.a,.int .i64 q.b,.int .i64 q.c,.int .i64 q.d]:Array Value).toList:=by
      rw[HN1.out,HQE.out,aF4];simp[ints,C5]
     refine⟨⟨k+1,a4,q4,al,by go_num,by rw[hll],by rw[hll,hcells];exact o4,hL16.below b8 al,hL26.below b8 al,ho6.keep b8 (cv7 _),hb6.trans (b8.mono (by have:=HN.out;omega))⟩,by simp[intOf];omega⟩
    have htr:=HTR.out
    rw[if_neg ht]at htr
    have HQE:=show Hid (trI ks x=x)from htr
    have ht':l0 x<0:=al
    clear htr ht HTR HTG
    have LX6:=LX5
    have hq6:=hq5
    have ho6:=ho5
    have hL16:=hL15
    have hL26:=hL25
    have hb6:=hb5
    have i0:=LX6.cell 0
    have i1:=LX6.cell 1
    have i2:=LX6.cell 2
    have i3:=LX6.cell 3
    have i4:=LX6.cell 4
    simp only[cv5,cw0]at i0 i1 i2 i3 i4
    have hrow6:=(x8 w5 (g:=w5.heap.size) #[.int .i64 x.op,.int .i64 x.a,.int .i64 x.b,.int .i64 x.c,.int .i64 x.d] 1 5 76 an rfl al).row
    have hqa:=hq6.alloc (.cells #[.int .i64 x.op,.int .i64 x.a,.int .i64 x.b,.int .i64 x.c,.int .i64 x.d] 76)
    have hsz6:(w5.alloc (.cells #[.int .i64 x.op,.int .i64 x.a,.int .i64 x.b,.int .i64 x.c,.int .i64 x.d] 76)).heap.size=w5.heap.size+1:=an
    have hbase:n+1+1+1<=w5.heap.size:=al
    go_wp2_with (at_builtin;refine D2 rfl _ _ rfl Tryz.underlying24 bQ0 rfl al rfl hqa rfl hrow6 (an3 (l:=(x).l)) al al (by rw[hsz6];omega) ?_;rintro a4 q4 w7 o4 b7- -)
    have ba:Below w5.heap.size w5 (w5.alloc (.cells #[.int .i64 x.op,.int .i64 x.a,.int .i64 x.b,.int .i64 x.c,.int .i64 x.d] 76)):=(Below.refl _ _).alloc an _
    have b8:Below (n+1+1+1) w5 w7:=(ba.mono al).trans b7
    have hll:(t9 c ks (k+1)).length=(t9 c ks k).length+1:=by rw[HN1.out];simp
    have hcells:ints (C5 (t9 c ks (k+1)))=ints (C5 (t9 c ks k))++(#[.int .i64 x.op,.int .i64 x.a,.int .i64 x.b,.int .i64 x.c,.int .i64 x.d]:Array Value).toList:=by
     rw[HN1.out,HQE.out,aF4];simp[ints,C5]
    refine⟨⟨k+1,a4,q4,al,by go_num,by rw[hll],by rw[hll,hcells];exact o4,hL16.below b8 al,hL26.below b8 al,ho6.keep b8 (cv7 _),hb6.trans (b8.mono (by have:=HN.out;omega))⟩,by simp[intOf];omega⟩
   have hkn:k=c.list.length:=al
   subst hkn
   have x0:=hL1.cell 0
   have x1:=hL1.cell 1
   have x2:=hL1.cell 2
   have z0:=hL2.cell 0
   have z1:=hL2.cell 1
   have z2:=hL2.cell 2
   simp only[cv5,cw0]at x0 x1 x2 z0 z1 z2
   go_wp2_with fail
   have hqo:A9 wr (n+1+1+1) wr.heap.size 76 5 (.slice a (t9 c ks c.list.length).length cq) (t9 c ks c.list.length).length (ints (C5 (t9 c ks c.list.length))):=A9.mk' hq
   have hPl:n+1+1<wr.heap.size:=(ho.lt _ rfl).2.2
   refine(bD8 _ c _ _ _ (t9 c ks c.list.length) _ _ _ (hrow.below hb) (an8 hc) hqo al (cv7 _)).mono ?_
   rintro e w5 ⟨z,rfl,oz,b5⟩
   obtain⟨y1,y2,y3,rfl,-⟩:=id oz
   obtain⟨p1,q1,p2,q2,p3,q3,e1,e2,e3⟩:=Code.rowOf oz
   simp only at e1 e2 e3
   subst e1 e2 e3
   have hb5:=hb.trans (b5.mono hb.size)
   have hL25:=hL2.below b5 hL2.lt
   clear x0 x1 x2 z0 z1 z2
   have z0:=hL25.cell 0
   have z1:=hL25.cell 1
   have z2:=hL25.cell 2
   simp only[cv5,cw0]at z0 z1 z2
   have f0:=hL25.free 0
   have f1:=hL25.free 1
   have f2:=hL25.free 2
   have s5:=b5.size
   go_wp2_with fail
   have hn:=HN.out
   have L4:=((hL25.set (j:=0) (.slice p1 c.vars.length q1)).set (j:=1) (.slice p2 c.arrays.length q2)).set (j:=2) (.slice p3 (t9 c ks c.list.length).length q3)
   have hO:Out (n+1) (n+1+1) w5 (((w5.setCell ⟨n+1,0,none⟩ (.slice p1 c.vars.length q1)).setCell ⟨n+1,1,none⟩ (.slice p2 c.arrays.length q2)).setCell ⟨n+1,2,none⟩ (.slice p3 (t9 c ks c.list.length).length q3)):=
    (((Out.refl (n+1) (n+1+1) w5).setCell (p:=⟨n+1,0,none⟩) (cv7 _) (cA1 _) _).setCell (p:=⟨n+1,1,none⟩) (cv7 _) (cA1 _) _).setCell (p:=⟨n+1,2,none⟩) (cv7 _) (cA1 _) _
   have oF:=oz.out hO (.inr al)
   have zF:(((w5.setCell ⟨n+1,0,none⟩ (.slice p1 c.vars.length q1)).setCell ⟨n+1,1,none⟩ (.slice p2 c.arrays.length q2)).setCell ⟨n+1,2,none⟩ (.slice p3 (t9 c ks c.list.length).length q3)).heap.size=w5.heap.size:=an
   have BF:=((hb5.setCell (p:=⟨n+1,0,none⟩) (by show w.heap.size<=n+1;omega) (.slice p1 c.vars.length q1)).setCell (p:=⟨n+1,1,none⟩) (by show w.heap.size<=n+1;omega) (.slice p2 c.arrays.length q2)).setCell (p:=⟨n+1,2,none⟩) (by show w.heap.size<=n+1;omega) (.slice p3 (t9 c ks c.list.length).length q3)
   have r0:=L4.cell 0
   have r1:=L4.cell 1
   have r2:=L4.cell 2
   simp only[cv5,cw0,cx3,cx1]at r0 r1 r2
   generalize ((w5.setCell ⟨n+1,0,none⟩ (.slice p1 c.vars.length q1)).setCell ⟨n+1,1,none⟩ (.slice p2 c.arrays.length q2)).setCell ⟨n+1,2,none⟩ (.slice p3 (t9 c ks c.list.length).length q3)=WF at*
   exact bodyPost_ret (v:=.agg #[.slice p1 c.vars.length q1,.slice p2 c.arrays.length q2,.slice p3 (t9 c ks c.list.length).length q3]) (by simp[results,Tryz.results98,go_sem,r0,r1,r2]) rfl ⟨_,rfl,oF.wide al al,BF⟩
def aR7(w:World)(B n:Nat):Nat:=(cx0 n).countP fun j=>match w.cell? ⟨B,j,none⟩with|some (.bool false)=>true|_=>false
theorem aR6{w:World}{lo hi:Nat}{e:TypeId}{B n cap:Nat}{bs:List Bool}(h:A9 w lo hi e 1 (.slice (some ⟨B,0,none⟩) n cap) n (bools bs))(hn:0<n):aR7 w B n=bs.count false:=by
 obtain⟨g,cap',hv,-,-,-,-,-,-,hc⟩:=h.open hn
 cases hv
 have hl:bs.length=n:=by have:=h.1.1;simpa[bools]using this
 have e1:bs=(cx0 n).map fun j=>bs.getD j true:=by
  apply List.ext_getElem
  ·simp[hl]
  intro j h1 h2;simp[h1]
 unfold aR7
 rw[List.count,e1,List.countP_map]
 refine List.countP_congr fun j hj=>?_
 rw[cz5]at hj
 have hjl:j<bs.length:=al
 rw[hc j (.bool bs[j]) (by simp[bools,hjl])]
 simp[hjl]
 cases bs[j]<;>simp
theorem aQ6(v:Value)(c:c8)(hc:j7 c=true)(w:World)(h:t5 w v c):
  Calls Tryz.prog 97 #[v] w fun e w'=>∃u,e=.returned u/\A9 w' w.heap.size w'.heap.size 4 1 u c.list.length (bools (K0 c))/\Below w.heap.size w w':=by
 have hrow:=h
 obtain⟨v1,v2,v3,rfl,h1,h2,h3⟩:=h
 obtain⟨a3,k3,rfl,-,hm3,-,-⟩:=h3.open
 obtain⟨W,hW⟩:∃W,W=(w.alloc (.cells #[v1,v2,.slice a3 c.list.length k3] 26)):=⟨_,rfl⟩
 have B0:Below w.heap.size w W:=by rw[hW];go_grown
 have sW:W.heap.size=w.heap.size+1:=by rw[hW];simp
 have L1:A1 W w.heap.size [v1,v2,.slice a3 c.list.length k3]:=by rw[hW];exact(A1.new w [v1,v2,.slice a3 c.list.length k3] _)
 obtain⟨-,hn1,hn2,-,-⟩:=k8 hc
 have hmk:=ac5 (P:=Tryz.prog) (t:=63) Tryz.underlying63 aQ2 rfl al c.list.length al hm3
 have hown:=ax3 W (Value.bool false).cells.toList c.list.length 1 4 rfl hm3
 rw[show(Value.bool false).cells.toList=[Value.bool false]from rfl,J4,sW]at hown
 have hown0:A9 (W.alloc (.cells (cv3 c.list.length (Value.bool false)).toArray 4)) (w.heap.size+1) (w.heap.size+1+1) 4 1 (.slice (some ⟨w.heap.size+1,0,none⟩) c.list.length c.list.length) c.list.length (bools (cv3 c.list.length false)):=by
  rw[bools,List.map_replicate];exact hown
 have x2:=L1.cell 2
 simp at x2
 rw[show(Value.bool false).cells.toList=[Value.bool false]from rfl,J4]at hmk
 have eR:(cv3 c.list.length (Value.bool false)).toArray=cx4 c.list.length (Value.bool false):=an
 rw[eR]at hmk hown0
 clear hown eR
 go_enter Tryz.func97,Tryz.ntmps97
 rw[hW]at x2
 go_wp2_with fail
 rw[<-hW]
 clear x2 hmk hW
 have B1:Below w.heap.size w (W.alloc (.cells (cx4 c.list.length (Value.bool false)) 4)):=B0.trans (Below.mono (by go_grown:Below W.heap.size W _) B0.size)
 have s1:(W.alloc (.cells (cx4 c.list.length (Value.bool false)) 4)).heap.size=w.heap.size+1+1:=by simp[sW]
 replace L1:=L1.alloc (.cells (cx4 c.list.length (Value.bool false)) 4)
 generalize W.alloc (.cells (cx4 c.list.length (Value.bool false)) 4)=W1 at*
 have hq:=x8 W1 #[.int .i64 0] 1 1 3 s1.symm rfl al
 rw[s1]at hq
 have B2:=B1.trans (Below.mono (by go_grown:Below W1.heap.size W1 (W1.alloc (.cells #[.int .i64 0] 3))) B1.size)
 replace hown0:=hown0.keep (by go_grown:Below W1.heap.size W1 (W1.alloc (.cells #[.int .i64 0] 3))) al
 replace L1:=L1.alloc (.cells #[.int .i64 0] 3)
 generalize W1.alloc (.cells #[.int .i64 0] 3)=W2 at*
 clear B0 B1 s1 sW
 go_loopw [4] (fun q wr=>∃(ls:List Int) (bs:List Bool) (a:Option Addr) (k:Nat),q=.slice a ls.length k/\wr.ownsRow (w.heap.size+1+1) 3 1 q ls.length (ints ls)/\
  A9 wr (w.heap.size+1) (w.heap.size+1+1) 4 1 (.slice (some ⟨w.heap.size+1,0,none⟩) c.list.length c.list.length) c.list.length (bools bs)/\aH9 c ls bs/\
  A1 wr w.heap.size [v1,v2,.slice a3 c.list.length k3]/\Below w.heap.size w wr)
  (fun q wr=>(match q with|.slice _ n _=>n|_=>0)+3*aR7 wr (w.heap.size+1) c.list.length)
 case atStart=>exact⟨[0],_,_,_,rfl,hq.1,hown0,aH9.start hc,L1,B2⟩
 case round=>
  obtain⟨ls,bs,a,k,rfl,hq,ho,hi,hL,hb⟩:=hrel
  have HI:=show Hid _ from hi
  have hf:=aR6 ho al
  have HF:=show Hid _ from hf
  clear hi hf hown0 B2 L1
  by_cases hlt:0<ls.length
  ·obtain⟨ls',i,hls⟩:∃ls' i,ls=ls'++[i]:=⟨ls.dropLast,ls.getLast (by intro h;rw[h]at hlt;simp at hlt),(List.dropLast_concat_getLast _).symm⟩
   have hlen:ls.length=ls'.length+1:=by rw[hls];simp
   have hI:=HI.out
   rw[hls]at hI
   have hir:=hI.l i an
   obtain⟨m,rfl⟩:∃m:Nat,i=m:=⟨i.toNat,al⟩
   have hmn:m<c.list.length:=al
   have hmb:m<bs.length:=by rw[hI.len];exact hmn
   obtain⟨g,cap,hv,hg1,hg2,hg3,hf,u0,hcb⟩:=ho.at (j:=m) (by simpa[bools]using hmb)
   cases hv
   have p1:wr.cell? ⟨w.heap.size+1,m,none⟩=some (.bool bs[m]):=by
    obtain⟨g,cap',hv,-,-,-,-,-,-,hcc⟩:=ho.open al
    cases hv
    exact hcc m _ (by simp[bools,hmb])
   obtain⟨gq,hgq,p0⟩:∃gq,a=some ⟨gq,0,none⟩/\wr.cell? ⟨gq,ls'.length,none⟩=some (.int .i64 m):=by
    have hoq:A9 wr (w.heap.size+1+1) wr.heap.size 3 1 (.slice a ls.length k) ls.length (ints ls):=A9.mk' hq
    obtain⟨g,cap',hv,-,-,-,-,-,-,hcc⟩:=hoq.open hlt
    cases hv
    exact⟨g,rfl,hcc ls'.length _ (by rw[hls];simp[ints])⟩
   subst hgq
   have hkc:ls.length<=k:=by
    rcases hq.2 with⟨hv,_⟩|⟨g,cap',cur,hv,_,_,hnc,_⟩
    ·cases hv
    cases hv;exact hnc
   have hcut:wr.ownsRow (w.heap.size+1+1) 3 1 (.slice (some ⟨gq,0,none⟩) ls'.length k) ls'.length (ints ls'):=by
    have hq':=hq
    rw[show ints ls=ints ls'++[.int .i64 m] by rw[hls];simp[ints]]at hq'
    exact bM3 hq' al hlt (by simp[ints])
   rw[hlen]at hq hkc ⊢
   have HLS:=show Hid _ from hls
   have HLEN:=show Hid _ from hlen
   clear hls hlen hlt u0 hcb
   have hbq:bs[(m:Int).toNat]? =some bs[m]:=by rw[Int.toNat_natCast,cv6 hmb]
   have hll:ls'.length<=1000:=by have:=hI.cnt;simp at this;omega
   have HI2:=show Hid _ from hI
   have HIR:=show Hid (Rc c m)from hir.2.2
   clear hI hir
   have hL2:=hL.other (p:=⟨w.heap.size+1,m,none⟩) (by show w.heap.size≠w.heap.size+1;omega) (.bool true)
   have y0:=hL2.cell 0
   have y1:=hL2.cell 1
   have y2:=hL2.cell 2
   simp only[cv5,cw0]at y0 y1 y2
   cases hbm:bs[m]
   all_goals
    rw[hbm]at p1
    rw[hbm]at hbq
    have HB:=show Hid _ from hbq
    clear hbm hbq
    go_wp2_with fail
   ·have hbx:Below w.heap.size w (wr.setCell ⟨w.heap.size+1,m,none⟩ (.bool true)):=hb.setCell (p:=⟨w.heap.size+1,m,none⟩) (by show w.heap.size<=w.heap.size+1;omega) _
    have hox:=ho.setCell (j:=m) (by simpa[bools]using hmb) (.bool true)
    have hqx:=((A9.mk' hcut).other (b:=w.heap.size+1) al m (.bool true)).1
    rw[show(bools bs).set m (.bool true)=bools (bs.set m true) by simp[bools]]at hox
    have hsx:(wr.setCell ⟨w.heap.size+1,m,none⟩ (.bool true)).heap.size=wr.heap.size:=an
    clear y0 y1 y2 hL hf p1 p0 hg1 hg2
    generalize wr.setCell ⟨w.heap.size+1,m,none⟩ (.bool true)=W3 at*
    refine(a70 _ c hc m _ (hrow.below hbx) al al).mono ?_
    rintro e w2 ⟨u,ns,rfl,hnl,hnm,hru,b2⟩
    obtain⟨a2,q2,rfl⟩:=hru.form
    have s2:=b2.size
    have hq3:=E7 hqx b2 (cv7 _)
    have hox3:=hox.keep b2 al
    have hL3:=hL2.below b2 hL2.lt
    have hb3:=hbx.trans (b2.mono hbx.size)
    clear hqx hox hL2
    go_wp2_with (at_builtin;refine D2 rfl _ _ rfl Tryz.underlying23 aQ1 rfl al rfl hq3 rfl hru an3 al al al ?_;rintro a4 q4 w4 o4 b4- -)
    have hox4:=hox3.keep b4 al
    have hm4:=HI2.out.mark hc HB.out hnl hnm
    rw[Int.toNat_natCast]at hm4
    have hcs:=V6 (bs:=bs) (k:=m) (by have:=HB.out;rwa[Int.toNat_natCast]at this)
    have hf4:=aR6 hox4 al
    refine⟨⟨ls'++ns,bs.set m true,a4,q4,an,by simpa[ints]using o4,hox4,hm4,hL3.below b4 al,hb3.trans (b4.mono al)⟩,?_⟩
    rw[hf4,HF.out]
    simp
    omega
   exact⟨⟨ls',bs,_,_,rfl,hcut,ho,HI2.out.skip HB.out,hL,hb⟩,an⟩
  have hl0:ls=[]:=cw9 al
  subst hl0
  go_wp2_with fail
  go_ret
  exact⟨_,rfl,by rw[<-HI.out.done hc];exact ho.wide al (by have:=ho.lt _ rfl;omega),hb⟩
noncomputable def F3(c:c8)(k:Nat):List Bool:=(cx0 c.list.length).map fun i=>if i<k then !kpB c i else(K0 c).getD i false
theorem an7(c:c8)(k:Nat):(F3 c k).length=c.list.length:=by simp[F3]
theorem a73(c:c8):F3 c 0=K0 c:=by
 apply List.ext_getElem (by rw[an7,bm6])
 intro i h1 h2
 simp[F3,h2]
theorem a74(c:c8)(k:Nat)(_h:k<c.list.length):F3 c (k+1)=(F3 c k).set k (!kpB c k):=by
 apply List.ext_getElem (by simp[an7])
 intro i h1 h2
 rw[List.getElem_set]
 simp only[F3,List.getElem_map,List.getElem_range]
 by_cases e:k=i
 ·subst e
  rw[if_pos rfl,if_pos (cA1 _)]
 rw[if_neg e]
 by_cases h3:i<k
 ·rw[if_pos al,if_pos h3]
 rw[if_neg al,if_neg h3]
theorem bp8(c:c8)(k:Nat)(h:k<c.list.length):(F3 c k)[k]? =some ((K0 c).getD k false):=by
 simp[F3,h]
theorem bg4(c:c8)(i:Nat)(h:i<c.list.length):(F3 c c.list.length).getD i false= !(R0 c).getD i false:=by
 rw[ai5 c i h]
 simp[F3,h]
theorem a67(v:Value)(c:c8)(hc:j7 c=true)(w:World)(h:t5 w v c):
  Calls Tryz.prog 44 #[v] w fun e w'=>∃z,e=.returned z/\C6 w' w.heap.size w'.heap.size z (P9 c)/\Below w.heap.size w w':=by
 have hrow:=h
 obtain⟨v1,v2,v3,rfl,h1,h2,h3⟩:=h
 obtain⟨a3,k3,rfl,-,hm3,-,hc3⟩:=h3.ins
 have hn4:=(k8 hc).2.2.1
 obtain⟨n,hn⟩:∃n,n=w.heap.size:=⟨_,rfl⟩
 obtain⟨W,hW⟩:∃W,W=(w.alloc (.cells #[v1,v2,.slice a3 c.list.length k3] 26)).alloc (.cells #[.slice none 0 0,.slice none 0 0,.slice none 0 0] 26):=⟨_,rfl⟩
 have B0:Below w.heap.size w W:=by rw[hW];go_grown
 have sW:W.heap.size=n+1+1:=by rw[hW,hn];simp
 have L1:A1 W n [v1,v2,.slice a3 c.list.length k3]:=by rw[hW,hn];exact(A1.new w [v1,v2,.slice a3 c.list.length k3] _).alloc _
 have L2:A1 W (n+1) [.slice none 0 0,.slice none 0 0,.slice none 0 0]:=by rw[hW,hn];exact A1.new' (w.alloc _) [.slice none 0 0,.slice none 0 0,.slice none 0 0] _ an
 have x0:=L1.cell 0
 have x1:=L1.cell 1
 have x2:=L1.cell 2
 simp only[cv5,cw0]at x0 x1 x2
 rw[hW,hn]at x0 x1 x2
 go_enter Tryz.func44,Tryz.ntmps44
 go_wp2_with fail
 rw[<-hW, <-hn]
 clear hW x0 x1 x2
 refine(aQ6 _ c hc _ (hrow.below B0)).mono ?_
 rintro e w1 ⟨ud,rfl,od,b1⟩
 obtain⟨ad,kd,rfl⟩:=od.form
 replace L1:=L1.below b1 L1.lt
 replace L2:=L2.below b1 L2.lt
 have B1:=B0.trans (b1.mono B0.size)
 have s1:=b1.size
 have od':=od.wide (show n+1+1<=W.heap.size by omega) (cv7 _)
 have HN:=show Hid (n=w.heap.size)from hn
 have HI:=show Hid _ from hc3
 have x2:=L1.cell 2
 simp only[cv5,cw0]at x2
 clear hc3 hn od
 go_wp2_with fail
 clear x2
 rw[<-a73]at od'
 obtain⟨H,hH⟩:∃H,H=w1.heap.size:=⟨_,rfl⟩
 rw[<-hH]at od'
 have hHs:H<=w1.heap.size:=al
 clear hH
 go_loopw [4,5,11] (fun _ _ i wr=>∃k:Nat,k<=c.list.length/\i=.int .i64 k/\A1 wr n [v1,v2,.slice a3 c.list.length k3]/\A1 wr (n+1) [.slice none 0 0,.slice none 0 0,.slice none 0 0]/\A9 wr (n+1+1) H 4 1 (.slice ad c.list.length kd) c.list.length (bools (F3 c k))/\Below w.heap.size w wr/\H<=wr.heap.size) (fun _ _ i _=>c.list.length-(intOf i).toNat)
 case atStart=>exact⟨0,cy4 _,rfl,L1,L2,od',B1,hHs⟩
 case round=>
  obtain⟨k,hk,rfl,hL1,hL2,ho,hb,hHr⟩:=hrel
  clear L1 L2 od' B1
  by_cases hlt:k<c.list.length
  ·obtain⟨b,off,he3,hb3,i0,i1,i2,i3,i4⟩:=HI.out k hlt
   rw[<-(z6 hb).1 _ _ hb3]at i0 i1 i2 i3 i4
   have HK:Hid (kpB c k=((K0 c).getD k false&& !(decide (c.list[k].op=8)&&decide (c.list[k].a=(k:Int)+1)))):=by unfold Hid kpB bQ6;rw[t3 hlt]
   have HS:=show Hid _ from a74 c k hlt
   obtain⟨x,hx⟩:∃x,x=c.list[k]:=⟨_,rfl⟩
   rw[<-hx]at i0 i1 i2 i3 i4 HK
   clear hx
   subst he3
   have hki:(k:Int)<c.list.length:=al
   obtain⟨g,cap,hv,hg1,hg2,hg3,-,-,hgf,hgc⟩:=ho.open al
   cases hv
   have hdl:k<(F3 c k).length:=by rw[an7];exact hlt
   have yk:=hgc k _ (x5 _ k hdl)
   have hde:(F3 c k)[k]=(K0 c).getD k false:=by
    have:=bp8 c k hlt
    rw[cv6 hdl]at this
    exact Option.some.inj this
   rw[hde]at yk
   have b4:Below wr.heap.size wr (wr.alloc (.cells #[.int .i64 x.op,.int .i64 x.a,.int .i64 x.b,.int .i64 x.c,.int .i64 x.d] 76)):=by go_grown
   have yw:=((z6 b4).1 _ k hg3).trans yk
   have fw:=((z6 b4).2 _ k hg3).trans (hgf k)
   have hfin:∀z:Bool,z= !kpB c k->A1 ((wr.setCell ⟨g,k,none⟩ (.bool z)).alloc (.cells #[.int .i64 x.op,.int .i64 x.a,.int .i64 x.b,.int .i64 x.c,.int .i64 x.d] 76)) n [v1,v2,.slice (some ⟨b,off,none⟩) c.list.length k3]/\A1 ((wr.setCell ⟨g,k,none⟩ (.bool z)).alloc (.cells #[.int .i64 x.op,.int .i64 x.a,.int .i64 x.b,.int .i64 x.c,.int .i64 x.d] 76)) (n+1) [.slice none 0 0,.slice none 0 0,.slice none 0 0]/\
     A9 ((wr.setCell ⟨g,k,none⟩ (.bool z)).alloc (.cells #[.int .i64 x.op,.int .i64 x.a,.int .i64 x.b,.int .i64 x.c,.int .i64 x.d] 76)) (n+1+1) H 4 1 (.slice (some ⟨g,0,none⟩) c.list.length kd) c.list.length (bools (F3 c (k+1)))/\Below w.heap.size w ((wr.setCell ⟨g,k,none⟩ (.bool z)).alloc (.cells #[.int .i64 x.op,.int .i64 x.a,.int .i64 x.b,.int .i64 x.c,.int .i64 x.d] 76))/\H<=((wr.setCell ⟨g,k,none⟩ (.bool z)).alloc (.cells #[.int .i64 x.op,.int .i64 x.a,.int .i64 x.b,.int .i64 x.c,.int .i64 x.d] 76)).heap.size:=by
    intro z hz
    have h1:=ho.setCell (j:=k) (by simpa[bools]using hdl) (.bool z)
    rw[show(bools (F3 c k)).set k (.bool z)=bools ((F3 c k).set k z) by simp[bools,List.map_set],hz, <-HS.out, <-hz]at h1
    have bb:Below (wr.setCell ⟨g,k,none⟩ (.bool z)).heap.size (wr.setCell ⟨g,k,none⟩ (.bool z)) ((wr.setCell ⟨g,k,none⟩ (.bool z)).alloc (.cells #[.int .i64 x.op,.int .i64 x.a,.int .i64 x.b,.int .i64 x.c,.int .i64 x.d] 76)):=by go_grown
    refine⟨(hL1.other (p:=⟨g,k,none⟩) (by show n≠g;omega) _).alloc _,(hL2.other (p:=⟨g,k,none⟩) (by show n+1≠g;omega) _).alloc _,h1.keep bb (by simpa using hHr),?_,ah⟩
    exact(hb.setCell (p:=⟨g,k,none⟩) (by show w.heap.size<=g;have:=HN.out;omega) _).alloc (by have:=hb.size;simpa using this) _
   have HFIN:=show Hid _ from hfin
   clear hfin hde hdl yk hgc hgf ho hL1 hL2
   cases hr:(K0 c).getD k false
   ·have HV:=show Hid (true= !kpB c k)from by unfold Hid;rw[HK.out,hr];rfl
    rw[hr]at yw
    clear hr
    go_wp2_with fail
    obtain⟨e1,e2,e3,e4,e5⟩:=HFIN.out _ HV.out
    exact⟨⟨k+1,al,by go_num,e1,e2,e3,e4,e5⟩,by simp[intOf];omega⟩
   rw[hr]at yw
   by_cases h8:x.op=8
   ·have q8:(x.op==8)=true:=by simp[h8]
    by_cases ha:x.a=(k:Int)+1
    ·have qa:(x.a==(k:Int)+1)=true:=by simp[ha]
     have HV:=show Hid (true= !kpB c k)from by unfold Hid;rw[HK.out,hr];simp[h8,ha]
     clear hr h8 ha
     go_wp2_with fail
     obtain⟨e1,e2,e3,e4,e5⟩:=HFIN.out _ HV.out
     exact⟨⟨k+1,al,by go_num,e1,e2,e3,e4,e5⟩,by simp[intOf];omega⟩
    have qa:(x.a==(k:Int)+1)=false:=by simp[ha]
    have HV:=show Hid (false= !kpB c k)from by unfold Hid;rw[HK.out,hr];simp[ha]
    clear hr h8 ha
    go_wp2_with fail
    obtain⟨e1,e2,e3,e4,e5⟩:=HFIN.out _ HV.out
    exact⟨⟨k+1,al,by go_num,e1,e2,e3,e4,e5⟩,by simp[intOf];omega⟩
   have q8:(x.op==8)=false:=by simp[h8]
   have HV:=show Hid (false= !kpB c k)from by unfold Hid;rw[HK.out,hr];simp[h8]
   clear hr h8
   go_wp2_with fail
   obtain⟨e1,e2,e3,e4,e5⟩:=HFIN.out _ HV.out
   exact⟨⟨k+1,al,by go_num,e1,e2,e3,e4,e5⟩,by simp[intOf];omega⟩
  have hkn:k=c.list.length:=al
  subst hkn
  have x0:=hL1.cell 0
  have x1:=hL1.cell 1
  have x2:=hL1.cell 2
  simp only[cv5,cw0]at x0 x1 x2
  go_wp2_with fail
  refine(a66 _ _ c (F3 c c.list.length) (R0 c) hc _ (hrow.below hb) ho.row (aI9 c) (bg4 c)).mono ?_
  rintro e w5 ⟨z,rfl,oz,b5⟩
  obtain⟨y1,y2,y3,rfl,-⟩:=id oz
  obtain⟨p1,q1,p2,q2,p3,q3,e1,e2,e3⟩:=Code.rowOf oz
  simp only at e1 e2 e3
  subst e1 e2 e3
  have hb5:=hb.trans (b5.mono hb.size)
  have hL25:=hL2.below b5 hL2.lt
  have hz2:=hL2.lt
  clear x0 x1 x2
  have z0:=hL25.cell 0
  have z1:=hL25.cell 1
  have z2:=hL25.cell 2
  simp only[cv5,cw0]at z0 z1 z2
  have f0:=hL25.free 0
  have f1:=hL25.free 1
  have f2:=hL25.free 2
  have s5:=b5.size
  go_wp2_with fail
  have hn:=HN.out
  obtain⟨l,hl⟩:∃l,l=t9 c (R0 c) c.list.length:=⟨_,rfl⟩
  rw[<-hl]at oz ⊢
  have L4:=((hL25.set (j:=0) (.slice p1 c.vars.length q1)).set (j:=1) (.slice p2 c.arrays.length q2)).set (j:=2) (.slice p3 l.length q3)
  have hO:Out (n+1) (n+1+1) w5 (((w5.setCell ⟨n+1,0,none⟩ (.slice p1 c.vars.length q1)).setCell ⟨n+1,1,none⟩ (.slice p2 c.arrays.length q2)).setCell ⟨n+1,2,none⟩ (.slice p3 l.length q3)):=
   (((Out.refl (n+1) (n+1+1) w5).setCell (p:=⟨n+1,0,none⟩) (cv7 _) (cA1 _) _).setCell (p:=⟨n+1,1,none⟩) (cv7 _) (cA1 _) _).setCell (p:=⟨n+1,2,none⟩) (cv7 _) (cA1 _) _
  have oF:=oz.out hO (.inr al)
  have zF:(((w5.setCell ⟨n+1,0,none⟩ (.slice p1 c.vars.length q1)).setCell ⟨n+1,1,none⟩ (.slice p2 c.arrays.length q2)).setCell ⟨n+1,2,none⟩ (.slice p3 l.length q3)).heap.size=w5.heap.size:=an
  have BF:=((hb5.setCell (p:=⟨n+1,0,none⟩) (by show w.heap.size<=n+1;omega) (.slice p1 c.vars.length q1)).setCell (p:=⟨n+1,1,none⟩) (by show w.heap.size<=n+1;omega) (.slice p2 c.arrays.length q2)).setCell (p:=⟨n+1,2,none⟩) (by show w.heap.size<=n+1;omega) (.slice p3 l.length q3)
  have r0:=L4.cell 0
  have r1:=L4.cell 1
  have r2:=L4.cell 2
  simp only[cv5,cw0,cx3,cx1]at r0 r1 r2
  generalize ((w5.setCell ⟨n+1,0,none⟩ (.slice p1 c.vars.length q1)).setCell ⟨n+1,1,none⟩ (.slice p2 c.arrays.length q2)).setCell ⟨n+1,2,none⟩ (.slice p3 l.length q3)=WF at*
  have hTF:Hid (P9 c={c with list:=l}):=by unfold Hid P9;rw[hl]
  exact bodyPost_ret (v:=.agg #[.slice p1 c.vars.length q1,.slice p2 c.arrays.length q2,.slice p3 l.length q3]) (by simp[results,Tryz.results44,go_sem,r0,r1,r2]) rfl ⟨_,rfl,by rw[hTF.out];exact oF.wide al al,BF⟩
def P6(w:World)(φ:Nat->Prop)(v:Value)(c:c8):Prop:=
 ∃v1 v2 v3,v=.agg #[v1,v2,v3]/\A3 w φ v1 c.vars.length 1 (ints c.vars)/\A3 w φ v2 c.arrays.length 1 (ints c.arrays)/\A3 w φ v3 c.list.length 5 (ints (C5 c.list))
theorem P6.nice(v:Value)(c:c8):ad5 fun w φ=>P6 w φ v c:=by
 rintro w w' φ φ' ha ⟨v1,v2,v3,rfl,h1,h2,h3⟩
 exact⟨v1,v2,v3,rfl,A3.nice _ _ _ _ _ _ _ _ ha h1,A3.nice _ _ _ _ _ _ _ _ ha h2,A3.nice _ _ _ _ _ _ _ _ ha h3⟩
theorem P6.row{w:World}{φ:Nat->Prop}{v:Value}{c:c8}(h:P6 w φ v c):t5 w v c:=by
 obtain⟨v1,v2,v3,rfl,h1,h2,h3⟩:=h
 exact⟨v1,v2,v3,rfl,h1.row,h2.row,h3.row⟩
theorem aU9(v:Value)(c:c8)(hc:j7 c=true)(w:World)(h:t5 w v c):
  Calls Tryz.prog 43 #[v] w fun e w'=>∃u,e=.returned u/\C6 w' w.heap.size w'.heap.size u (N2 c)/\Below w.heap.size w w':=by
 have hrow:=h
 obtain⟨v1,v2,v3,rfl,h1,h2,h3⟩:=h
 obtain⟨a3,k3,rfl,-,hm3,-,hc3⟩:=h3.ins
 have hn4:=(k8 hc).2.2.1
 obtain⟨n,hn⟩:∃n,n=w.heap.size:=⟨_,rfl⟩
 obtain⟨W,hW⟩:∃W,W=(w.alloc (.cells #[v1,v2,.slice a3 c.list.length k3] 26)).alloc (.cells #[.slice none 0 0,.slice none 0 0,.slice none 0 0] 26):=⟨_,rfl⟩
 have B0:Below w.heap.size w W:=by rw[hW];go_grown
 have sW:W.heap.size=n+1+1:=by rw[hW,hn];simp
 have L1:A1 W n [v1,v2,.slice a3 c.list.length k3]:=by rw[hW,hn];exact(A1.new w [v1,v2,.slice a3 c.list.length k3] _).alloc _
 have L2:A1 W (n+1) [.slice none 0 0,.slice none 0 0,.slice none 0 0]:=by rw[hW,hn];exact A1.new' (w.alloc _) [.slice none 0 0,.slice none 0 0,.slice none 0 0] _ an
 have x0:=L1.cell 0
 have x1:=L1.cell 1
 have x2:=L1.cell 2
 simp only[cv5,cw0]at x0 x1 x2
 rw[hW,hn]at x0 x1 x2
 go_enter Tryz.func43,Tryz.ntmps43
 go_wp2_with fail
 rw[<-hW]
 clear hW x0 x1 x2
 refine(bf0 _ c _ (hrow.below B0) (an8 hc)).mono ?_
 rintro e w1 ⟨u,rfl,ou,b1⟩
 obtain⟨y1,y2,y3,rfl,-⟩:=id ou
 obtain⟨p1,q1,p2,q2,p3,q3,rfl,rfl,rfl⟩:=Code.rowOf ou
 obtain⟨z1,z2,z3,hz,o1,o2,o3,d12,d13,d23⟩:=ou
 simp only[Value.agg.injEq,Array.mk.injEq,List.cons.injEq,and_true]at hz
 obtain⟨rfl,rfl,rfl⟩:=hz
 have B1:=B0.trans (b1.mono B0.size)
 have s1:=b1.size
 replace L1:=L1.below b1 L1.lt
 replace L2:=L2.below b1 L2.lt
 have x2:(w1.alloc (.cells #[.slice p1 c.vars.length q1,.slice p2 c.arrays.length q2,.slice p3 c.list.length q3] 26)).cell? ⟨w.heap.size,2,none⟩=some (.slice a3 c.list.length k3):=by
  have:=(L1.alloc (.cells #[.slice p1 c.vars.length q1,.slice p2 c.arrays.length q2,.slice p3 c.list.length q3] 26)).cell 2
  rw[<-hn]
  simpa using this
 go_wp2_with fail
 clear x2
 obtain⟨T,hT⟩:∃T,T=w1.heap.size:=⟨_,rfl⟩
 obtain⟨w2,hw2⟩:∃w2,w2=w1.alloc (.cells #[.slice p1 c.vars.length q1,.slice p2 c.arrays.length q2,.slice p3 c.list.length q3] 26):=⟨_,rfl⟩
 have L3:A1 w2 T [.slice p1 c.vars.length q1,.slice p2 c.arrays.length q2,.slice p3 c.list.length q3]:=by rw[hw2];exact A1.new' w1 _ _ hT
 have b2:Below w1.heap.size w1 w2:=by rw[hw2];go_grown
 have s2:w2.heap.size=T+1:=by rw[hw2,hT];simp
 rw[<-hw2, <-hT]
 have B2:=B1.trans (b2.mono B1.size)
 replace L1:=L1.below b2 L1.lt
 replace L2:=L2.below b2 L2.lt
 replace o1:=(o1.keep b2 (cv7 _)).wide (show n+1+1<=W.heap.size by omega) (show w1.heap.size<=T by omega)
 replace o2:=(o2.keep b2 (cv7 _)).wide (show n+1+1<=W.heap.size by omega) (show w1.heap.size<=T by omega)
 replace o3:=(o3.keep b2 (cv7 _)).wide (show n+1+1<=W.heap.size by omega) (show w1.heap.size<=T by omega)
 have HT:=show Hid (n+1+1<=T)from by unfold Hid;omega
 have HN:=show Hid (n=w.heap.size)from hn
 have HD:=show Hid _ from And.intro d12 (And.intro d13 d23)
 have HI:=show Hid _ from hc3
 rw[<-hn]
 clear hw2 hT b1 b2 B0 B1 sW s1 hc3 d12 d13 d23 hn
 rw[<-aZ0 c]at o3
 go_loopw [4,5,6,7,13] (fun _ _ _ _ i wr=>∃k:Nat,k<=c.list.length/\i=.int .i64 k/\A1 wr n [v1,v2,.slice a3 c.list.length k3]/\A1 wr (n+1) [.slice none 0 0,.slice none 0 0,.slice none 0 0]/\A1 wr T [.slice p1 c.vars.length q1,.slice p2 c.arrays.length q2,.slice p3 c.list.length q3]/\
   A9 wr (n+1+1) T 3 1 (.slice p1 c.vars.length q1) c.vars.length (ints c.vars)/\A9 wr (n+1+1) T 3 1 (.slice p2 c.arrays.length q2) c.arrays.length (ints c.arrays)/\A9 wr (n+1+1) T 76 5 (.slice p3 c.list.length q3) c.list.length (ints (C5 (aa8 c k)))/\Below w.heap.size w wr) (fun _ _ _ _ i _=>c.list.length-(intOf i).toNat)
 case atStart=>exact⟨0,cy4 _,rfl,L1,L2,L3,o1,o2,by have:=o3;simp only[aZ0]at this ⊢;exact this,B2⟩
 case round=>
  obtain⟨k,hk,rfl,hL1,hL2,hL3,ho1,ho2,ho3,hb⟩:=hrel
  clear L1 L2 L3 o1 o2 o3 B2
  by_cases hlt:k<c.list.length
  ·obtain⟨b,off,he3,hb3,i0,i1,i2,i3,i4⟩:=HI.out k hlt
   have hins:=(k8 hc).2.2.2.1 k hlt
   rw[<-(z6 hb).1 _ _ hb3]at i0 i1 i2 i3 i4
   have HTH:Hid (U2 c c.list[k]=if 0<=l0 c.list[k]then O2 c.list[k] (H4 c (l0 c.list[k]))else c.list[k]):=rfl
   have HTG:=show Hid (0<=l0 c.list[k]->F2 c (l0 c.list[k]))from fun g=>⟨g,ab5 hins g⟩
   have HM:=show Hid _ from aZ1 c k hlt
   have HK:=show Hid _ from bC9 c k hlt
   obtain⟨x,hx⟩:∃x,x=c.list[k]:=⟨_,rfl⟩
   rw[<-hx]at i0 i1 i2 i3 i4 HTH HTG HM HK
   clear hins hx
   subst he3
   have hki:(k:Int)<c.list.length:=al
   go_wp2_with fail
   obtain⟨w4,hw4⟩:∃w4,w4=wr.alloc (.cells #[.int .i64 x.op,.int .i64 x.a,.int .i64 x.b,.int .i64 x.c,.int .i64 x.d] 76):=⟨_,rfl⟩
   have LX:A1 w4 wr.heap.size [.int .i64 x.op,.int .i64 x.a,.int .i64 x.b,.int .i64 x.c,.int .i64 x.d]:=by rw[hw4];exact A1.new wr _ _
   have b4:Below wr.heap.size wr w4:=by rw[hw4];go_grown
   rw[<-hw4]
   refine(ae6 x _).mono ?_
   rintro e w3 ⟨rfl,b3'⟩
   have b3:=b4.trans (b3'.mono b4.size)
   have hTl:=hL3.lt
   have ho3x:=ho3.keep b3 al
   have ho1x:=ho1.keep b3 al
   have ho2x:=ho2.keep b3 al
   have hL1x:=hL1.below b3 hL1.lt
   have hL2x:=hL2.below b3 hL2.lt
   have hL3x:=hL3.below b3 hL3.lt
   have LXx:=LX.below b3' LX.lt
   have hb3x:=hb.trans (b3.mono hb.size)
   have hXs:T<wr.heap.size:=hTl
   have hX3:=LXx.lt
   obtain⟨X0,hX0⟩:∃X0,X0=wr.heap.size:=⟨_,rfl⟩
   rw[<-hX0]at LXx hXs hX3 ⊢
   clear hL1 hL2 hL3 ho1 ho2 ho3 i0 i1 i2 i3 i4 hw4 b4 b3' LX b3 hX0 hTl
   have x2:=hL1x.cell 2
   simp only[cv5,cw0]at x2
   by_cases ht:0<=l0 x
   case neg=>
    have hth:=HTH.out
    rw[if_neg ht]at hth
    have HN2:=show Hid _ from HK.out hth
    have ht':l0 x<0:=al
    clear hth ht HTH HTG HK HM
    generalize l0 x=tg at*
    go_wp2_with fail
    go_loop [6,7] (fun t _=>t=.int .i64 tg) (fun _ _=>0)
    case atStart=>exact rfl
    case round=>
     obtain rfl:=hrel
     go_wp2_with fail
     exact⟨⟨k+1,al,by go_num,hL1x,hL2x,hL3x,ho1x,ho2x,by rw[HN2.out];exact ho3x,hb3x⟩,by simp[intOf];omega⟩
   case pos=>
    have hpl:=HTG.out ht
    have HT0:=show Hid _ from ht
    have HPT:=show Hid _ from hpl
    have HF:Hid (H4 c (l0 x)=if isJ c (A0 c c.list.length (l0 x))=true then l0 x else A0 c c.list.length (l0 x)):=rfl
    have HCELL:=show Hid (∀i,i<c.list.length->w3.cell? ⟨b,off+i*5,none⟩=some (.int .i64 (t7 c i).op)/\w3.cell? ⟨b,off+i*5+1,none⟩=some (.int .i64 (t7 c i).a))from by
     intro i hi
     obtain⟨b',off',e,hb',i0,i1,-⟩:=HI.out i hi
     cases e
     rw[<-(z6 hb3x).1 _ _ hb']at i0 i1
     rw[t3 hi]
     exact⟨i0,i1⟩
    have hw30:=LXx.cell 0
    have hw31:=LXx.cell 1
    have hw32:=LXx.cell 2
    have hw33:=LXx.cell 3
    have hw34:=LXx.cell 4
    simp only[cv5,cw0]at hw30 hw31 hw32 hw33 hw34
    clear HTG HK hpl
    go_wp2_with fail
    go_loop [6,7] (fun t i=>∃(y:Nat) (m:Nat),t=.int .i64 y/\i=.int .i64 m/\m<=c.list.length/\y<c.list.length/\A0 c (c.list.length-m) y=A0 c c.list.length (l0 x)) (fun _ i=>c.list.length-(intOf i).toNat)
    case atStart=>exact⟨(l0 x).toNat,0,by rw[Int.toNat_of_nonneg HPT.out.1],rfl,cy4 _,by have:=HPT.out.1;have:=HPT.out.2;omega,by rw[Int.toNat_of_nonneg HPT.out.1];rfl⟩
    case round=>
     obtain⟨y,m,rfl,rfl,hm,hy,hch⟩:=hrel
     have HCH:=show Hid _ from hch
     clear hch
     obtain⟨i0,i1⟩:=HCELL.out y hy
     have HJ:Hid (isJ c y=decide ((t7 c y).op=8)):=by unfold Hid isJ;rw[Int.toNat_natCast]
     have HST:Hid (∀k,isJ c y=true->A0 c (k+1) y=A0 c k (t7 c y).a):=fun k h=>by have:=R1 (k:=k) h;rw[Int.toNat_natCast]at this;exact this
     have HPL:=show Hid (isJ c y=true->F2 c (t7 c y).a)from fun h=>by have:=aJ2 hc (x:=(y:Int)) ⟨al,al⟩ h;rw[Int.toNat_natCast]at this;exact this
     have hyi:(y:Int)<c.list.length:=al
     generalize t7 c y=z at*
     by_cases h8:z.op=8
     ·have q8:(z.op==8)=true:=by simp[h8]
      have hj:isJ c y=true:=by rw[HJ.out];exact decide_eq_true h8
      by_cases hml:m<c.list.length
      ·obtain⟨hp0,hp1⟩:=HPL.out hj
       have hst:=HST.out (c.list.length-(m+1)) hj
       rw[show c.list.length-(m+1)+1=c.list.length-m by omega,HCH.out]at hst
       have HS:=show Hid _ from hst
       have qm:((m:Int)==c.list.length)=false:=ah
       clear hst h8 hj ht
       go_wp2_with fail
       go_round
       case rel=>exact⟨z.a.toNat,m+1,by rw[Int.toNat_of_nonneg hp0],by go_num,al,al,by rw[Int.toNat_of_nonneg hp0];exact HS.out.symm⟩
       case measure=>simp[intOf];omega
      have hmn:m=c.list.length:=al
      have hch:=HCH.out
      rw[hmn,Nat.sub_self,show A0 c 0 (y:Int)=y from rfl]at hch
      have HFZ:=show Hid (H4 c (l0 x)=l0 x)from by unfold Hid;rw[HF.out, <-hch,hj];rfl
      subst hmn
      clear hch h8 hj
      go_wp2_with fail
      refine(ae6 x _).mono ?_
      rintro e w5 ⟨rfl,bw5⟩
      clear hw30 hw31 hw32 hw33 hw34 i0 i1 x2
      go_wp2_with fail
      have hth:=HTH.out
      rw[if_pos HT0.out,HFZ.out]at hth
      have HTR':=show Hid (U2 c x=O2 x (l0 x))from hth
      obtain⟨q,hq⟩:∃q,q=O2 x (l0 x):=⟨_,rfl⟩
      have HC3:Hid (∀X,Calls Tryz.prog 96 #[x.v,.int .i64 (l0 x)] (w5.ext X) fun e w''=>e=.returned (.agg #[.int .i64 q.op,.int .i64 q.a,.int .i64 q.b,.int .i64 q.c,.int .i64 q.d])/\∃Y,w''=w5.ext Y):=fun X=>Calls.ext_of' ((a68 x _ _ HT0.out).mono fun e w' h=>by rw[<-hq]at h;exact h)
      have HM2:=show Hid (aa8 c (k+1)=(aa8 c k).set k q)from by unfold Hid;rw[HM.out,HTR'.out,hq]
      have z5:=bw5.size
      have ho3y:=ho3x.keep bw5 al
      have ho1y:=ho1x.keep bw5 al
      have ho2y:=ho2x.keep bw5 al
      have hL1y:=hL1x.below bw5 hL1x.lt
      have hL2y:=hL2x.below bw5 hL2x.lt
      have hL3y:=hL3x.below bw5 hL3x.lt
      have LXy:=LXx.below bw5 LXx.lt
      have hb5:=hb3x.trans (bw5.mono hb3x.size)
      obtain⟨g3,hv3,hg1,hg2,hg3,hfr,hcl⟩:∃g3,p3=some ⟨g3,0,none⟩/\n+1+1<=g3/\g3<T/\g3<w5.heap.size/\(∀o,w5.frozen? ⟨g3,o,none⟩=false)/\∀j,j<5->∃u,w5.cell? ⟨g3,k*5+j,none⟩=some u:=by
       obtain⟨g,cap,hv,q1,q2,q3,-,-,q6,q7⟩:=ho3y.open al
       cases hv
       have hl:(ints (C5 (aa8 c k))).length=c.list.length*5:=ho3y.1.1
       exact⟨g,rfl,q1,q2,q3,q6,fun j hj=>⟨_,q7 _ _ (cv6 al)⟩⟩
      subst hv3
      obtain⟨c0,w0⟩:=hcl 0 al
      obtain⟨c1,w1'⟩:=hcl 1 al
      obtain⟨c2,w2'⟩:=hcl 2 al
      obtain⟨c3,w3'⟩:=hcl 3 al
      obtain⟨c4,w4'⟩:=hcl 4 al
      simp only[Nat.add_zero]at w0
      have y2:=hL3y.cell 2
      have i0:=LXy.cell 0
      have i1:=LXy.cell 1
      have i2:=LXy.cell 2
      have i3:=LXy.cell 3
      have i4:=LXy.cell 4
      simp only[cv5,cw0]at y2 i0 i1 i2 i3 i4
      have ZY2:=fun X=>c7 y2 X
      have j0:=fun X=>c7 i0 X
      have j1:=fun X=>c7 i1 X
      have j2:=fun X=>c7 i2 X
      have j3:=fun X=>c7 i3 X
      have j4:=fun X=>c7 i4 X
      have d0:=fun X=>c7 w0 X
      have d1:=fun X=>c7 w1' X
      have d2:=fun X=>c7 w2' X
      have d3:=fun X=>c7 w3' X
      have d4:=fun X=>c7 w4' X
      have ff0:=fun X=>k6 hg3 (hfr (k*5)) X
      have ff1:=fun X=>k6 hg3 (hfr (k*5+1)) X
      have ff2:=fun X=>k6 hg3 (hfr (k*5+2)) X
      have ff3:=fun X=>k6 hg3 (hfr (k*5+3)) X
      have ff4:=fun X=>k6 hg3 (hfr (k*5+4)) X
      have hsz3:(ints (C5 (aa8 c k))).length=c.list.length*5:=ho3y.1.1
      have HSZ:=show Hid _ from hsz3
      have hT3:=hL3y.lt
      clear y2 i0 i1 i2 i3 i4 w0 w1' w2' w3' w4' hcl hfr hth hsz3 hq HTR' HM
      refine j6 7 _ rfl aj aj ?_
      simp only[cx1,cx3,G8]
      repeat(any_goals (first|go_big_quiet_step ((go_at_call 96;exact HC3.out _))|quiet_step ((go_at_call 96;exact HC3.out _))))
      refine wpQuiet_nil ?_
      rintro _ ⟨X,rfl⟩
      go_wp2_with fail
      have bX:=i6 w5 X
      have ho1X:=ho1y.keep bX al
      have ho2X:=ho2y.keep bX al
      have ho3X:=ho3y.keep bX al
      have hL1X:=hL1y.below bX hL1y.lt
      have hL2X:=hL2y.below bX hL2y.lt
      have hL3X:=hL3y.below bX hL3y.lt
      have hbX:=hb5.trans (bX.mono hb5.size)
      have hO:=Out.setFrom (lo:=g3) (hi:=g3+1) (p:=k*5) [.int .i64 q.op,.int .i64 q.a,.int .i64 q.b,.int .i64 q.c,.int .i64 q.d] (Out.refl g3 (g3+1) (w5.ext X)) (cv7 g3) (cA1 g3)
      have hS3:=ho3X.setFrom (p:=k*5) [.int .i64 q.op,.int .i64 q.a,.int .i64 q.b,.int .i64 q.c,.int .i64 q.d] (by rw[HSZ.out];simp;omega)
      rw[a65 q (aa8 c k) k (by rw[aO4];exact hlt), <-HM2.out]at hS3
      have htt:∀g,g3<=g->g<g3+1->(Value.slice (some ⟨g3,0,none⟩) c.list.length q3).ownBlock=some g:=fun g e1 e2=>by rw[show g=g3 by omega];rfl
      refine⟨⟨k+1,al,by go_num,hL1X.out hO al,hL2X.out hO al,hL3X.out hO al,ho1X.disj hO htt HD.out.2.1.symm,ho2X.disj hO htt HD.out.2.2.symm,hS3,?_⟩,by simp[intOf];omega⟩
      exact as6 (g:=g3) (p:=k*5) [.int .i64 q.op,.int .i64 q.a,.int .i64 q.b,.int .i64 q.c,.int .i64 q.d] hbX (by have:=HN.out;omega)
     have q8:(z.op==8)=false:=by simp[h8]
     have hj:isJ c y=false:=by rw[HJ.out];exact decide_eq_false h8
     have hch:=HCH.out
     rw[O0 hj]at hch
     have HFZ:=show Hid (H4 c (l0 x)=(y:Int))from by unfold Hid;rw[HF.out, <-hch,hj];rfl
     clear hch h8 hj ht
     go_wp2_with fail
     clear hw30 hw31 hw32 hw33 hw34 i0 i1 x2
     have bw5:=Below.refl w3.heap.size w3
     obtain⟨w5,hw5⟩:∃w5,w5=w3:=⟨_,rfl⟩
     rw[<-hw5]
     have bw5:Below w3.heap.size w3 w5:=by rw[hw5];exact Below.refl _ _
     clear hw5
     have hth:=HTH.out
     rw[if_pos HT0.out,HFZ.out]at hth
     have HTR':=show Hid (U2 c x=O2 x (y:Int))from hth
     obtain⟨q,hq⟩:∃q,q=O2 x (y:Int):=⟨_,rfl⟩
     have HC3:Hid (∀X,Calls Tryz.prog 96 #[x.v,.int .i64 (y:Int)] (w5.ext X) fun e w''=>e=.returned (.agg #[.int .i64 q.op,.int .i64 q.a,.int .i64 q.b,.int .i64 q.c,.int .i64 q.d])/\∃Y,w''=w5.ext Y):=fun X=>Calls.ext_of' ((a68 x _ _ HT0.out).mono fun e w' h=>by rw[<-hq]at h;exact h)
     have HM2:=show Hid (aa8 c (k+1)=(aa8 c k).set k q)from by unfold Hid;rw[HM.out,HTR'.out,hq]
     have z5:=bw5.size
     have ho3y:=ho3x.keep bw5 al
     have ho1y:=ho1x.keep bw5 al
     have ho2y:=ho2x.keep bw5 al
     have hL1y:=hL1x.below bw5 hL1x.lt
     have hL2y:=hL2x.below bw5 hL2x.lt
     have hL3y:=hL3x.below bw5 hL3x.lt
     have LXy:=LXx.below bw5 LXx.lt
     have hb5:=hb3x.trans (bw5.mono hb3x.size)
     obtain⟨g3,hv3,hg1,hg2,hg3,hfr,hcl⟩:∃g3,p3=some ⟨g3,0,none⟩/\n+1+1<=g3/\g3<T/\g3<w5.heap.size/\(∀o,w5.frozen? ⟨g3,o,none⟩=false)/\∀j,j<5->∃u,w5.cell? ⟨g3,k*5+j,none⟩=some u:=by
      obtain⟨g,cap,hv,q1,q2,q3,-,-,q6,q7⟩:=ho3y.open al
      cases hv
      have hl:(ints (C5 (aa8 c k))).length=c.list.length*5:=ho3y.1.1
      exact⟨g,rfl,q1,q2,q3,q6,fun j hj=>⟨_,q7 _ _ (cv6 al)⟩⟩
     subst hv3
     obtain⟨c0,w0⟩:=hcl 0 al
     obtain⟨c1,w1'⟩:=hcl 1 al
     obtain⟨c2,w2'⟩:=hcl 2 al
     obtain⟨c3,w3'⟩:=hcl 3 al
     obtain⟨c4,w4'⟩:=hcl 4 al
     simp only[Nat.add_zero]at w0
     have y2:=hL3y.cell 2
     have i0:=LXy.cell 0
     have i1:=LXy.cell 1
     have i2:=LXy.cell 2
     have i3:=LXy.cell 3
     have i4:=LXy.cell 4
     simp only[cv5,cw0]at y2 i0 i1 i2 i3 i4
     have ZY2:=fun X=>c7 y2 X
     have j0:=fun X=>c7 i0 X
     have j1:=fun X=>c7 i1 X
     have j2:=fun X=>c7 i2 X
     have j3:=fun X=>c7 i3 X
     have j4:=fun X=>c7 i4 X
     have d0:=fun X=>c7 w0 X
     have d1:=fun X=>c7 w1' X
     have d2:=fun X=>c7 w2' X
     have d3:=fun X=>c7 w3' X
     have d4:=fun X=>c7 w4' X
     have ff0:=fun X=>k6 hg3 (hfr (k*5)) X
     have ff1:=fun X=>k6 hg3 (hfr (k*5+1)) X
     have ff2:=fun X=>k6 hg3 (hfr (k*5+2)) X
     have ff3:=fun X=>k6 hg3 (hfr (k*5+3)) X
     have ff4:=fun X=>k6 hg3 (hfr (k*5+4)) X
     have hsz3:(ints (C5 (aa8 c k))).length=c.list.length*5:=ho3y.1.1
     have HSZ:=show Hid _ from hsz3
     have hT3:=hL3y.lt
     clear y2 i0 i1 i2 i3 i4 w0 w1' w2' w3' w4' hcl hfr hth hsz3 hq HTR' HM
     refine j6 7 _ rfl aj aj ?_
     simp only[cx1,cx3,G8]
     repeat(any_goals (first|go_big_quiet_step ((go_at_call 96;exact HC3.out _))|quiet_step ((go_at_call 96;exact HC3.out _))))
     refine wpQuiet_nil ?_
     rintro _ ⟨X,rfl⟩
     go_wp2_with fail
     have bX:=i6 w5 X
     have ho1X:=ho1y.keep bX al
     have ho2X:=ho2y.keep bX al
     have ho3X:=ho3y.keep bX al
     have hL1X:=hL1y.below bX hL1y.lt
     have hL2X:=hL2y.below bX hL2y.lt
     have hL3X:=hL3y.below bX hL3y.lt
     have hbX:=hb5.trans (bX.mono hb5.size)
     have hO:=Out.setFrom (lo:=g3) (hi:=g3+1) (p:=k*5) [.int .i64 q.op,.int .i64 q.a,.int .i64 q.b,.int .i64 q.c,.int .i64 q.d] (Out.refl g3 (g3+1) (w5.ext X)) (cv7 g3) (cA1 g3)
     have hS3:=ho3X.setFrom (p:=k*5) [.int .i64 q.op,.int .i64 q.a,.int .i64 q.b,.int .i64 q.c,.int .i64 q.d] (by rw[HSZ.out];simp;omega)
     rw[a65 q (aa8 c k) k (by rw[aO4];exact hlt), <-HM2.out]at hS3
     have htt:∀g,g3<=g->g<g3+1->(Value.slice (some ⟨g3,0,none⟩) c.list.length q3).ownBlock=some g:=fun g e1 e2=>by rw[show g=g3 by omega];rfl
     refine⟨⟨k+1,al,by go_num,hL1X.out hO al,hL2X.out hO al,hL3X.out hO al,ho1X.disj hO htt HD.out.2.1.symm,ho2X.disj hO htt HD.out.2.2.symm,hS3,?_⟩,by simp[intOf];omega⟩
     exact as6 (g:=g3) (p:=k*5) [.int .i64 q.op,.int .i64 q.a,.int .i64 q.b,.int .i64 q.c,.int .i64 q.d] hbX (by have:=HN.out;omega)
  have hkn:k=c.list.length:=al
  subst hkn
  have y0:=hL3.cell 0
  have y1:=hL3.cell 1
  have y2:=hL3.cell 2
  have z0:=hL2.cell 0
  have z1:=hL2.cell 1
  have z2:=hL2.cell 2
  simp only[cv5,cw0]at y0 y1 y2 z0 z1 z2
  have f0:=hL2.free 0
  have f1:=hL2.free 1
  have f2:=hL2.free 2
  go_wp2_with fail
  have hn':=HN.out
  have hT':=HT.out
  have L4:=((hL2.set (j:=0) (.slice p1 c.vars.length q1)).set (j:=1) (.slice p2 c.arrays.length q2)).set (j:=2) (.slice p3 c.list.length q3)
  have hO:Out (n+1) (n+1+1) wr (((wr.setCell ⟨n+1,0,none⟩ (.slice p1 c.vars.length q1)).setCell ⟨n+1,1,none⟩ (.slice p2 c.arrays.length q2)).setCell ⟨n+1,2,none⟩ (.slice p3 c.list.length q3)):=
   (((Out.refl (n+1) (n+1+1) wr).setCell (p:=⟨n+1,0,none⟩) (cv7 _) (cA1 _) _).setCell (p:=⟨n+1,1,none⟩) (cv7 _) (cA1 _) _).setCell (p:=⟨n+1,2,none⟩) (cv7 _) (cA1 _) _
  replace ho1:=ho1.out hO (.inr (cv7 _))
  replace ho2:=ho2.out hO (.inr (cv7 _))
  replace ho3:=ho3.out hO (.inr (cv7 _))
  rw[bN9]at ho3
  have hTs:=hL3.lt
  have zF:(((wr.setCell ⟨n+1,0,none⟩ (.slice p1 c.vars.length q1)).setCell ⟨n+1,1,none⟩ (.slice p2 c.arrays.length q2)).setCell ⟨n+1,2,none⟩ (.slice p3 c.list.length q3)).heap.size=wr.heap.size:=an
  have hll:(N2 c).list.length=c.list.length:=by simp[N2]
  have BF:=((hb.setCell (p:=⟨n+1,0,none⟩) (by show w.heap.size<=n+1;omega) (.slice p1 c.vars.length q1)).setCell (p:=⟨n+1,1,none⟩) (by show w.heap.size<=n+1;omega) (.slice p2 c.arrays.length q2)).setCell (p:=⟨n+1,2,none⟩) (by show w.heap.size<=n+1;omega) (.slice p3 c.list.length q3)
  have r0:=L4.cell 0
  have r1:=L4.cell 1
  have r2:=L4.cell 2
  simp only[cv5,cw0,cx3,cx1]at r0 r1 r2
  generalize ((wr.setCell ⟨n+1,0,none⟩ (.slice p1 c.vars.length q1)).setCell ⟨n+1,1,none⟩ (.slice p2 c.arrays.length q2)).setCell ⟨n+1,2,none⟩ (.slice p3 c.list.length q3)=WF at*
  refine bodyPost_ret (v:=.agg #[.slice p1 c.vars.length q1,.slice p2 c.arrays.length q2,.slice p3 c.list.length q3]) (by simp[results,Tryz.results43,go_sem,r0,r1,r2]) rfl ⟨_,rfl,⟨_,_,_,rfl,ho1.wide al al,ho2.wide al al,?_,HD.out.1,HD.out.2.1,HD.out.2.2⟩,BF⟩
  rw[hll]
  exact ho3.wide al al
theorem bE6(w:World)(lo hi:Nat):C6 w lo hi (.agg #[.slice none 0 0,.slice none 0 0,.slice none 0 0]) ⟨[],[],[]⟩:=
 ⟨_,_,_,rfl,⟨World.ownsRow_nil _ _ _ _,(fun g hg=>by cases hg)⟩,⟨World.ownsRow_nil _ _ _ _,(fun g hg=>by cases hg)⟩,⟨World.ownsRow_nil _ _ _ _,(fun g hg=>by cases hg)⟩,(fun g hg=>by cases hg),(fun g hg=>by cases hg),(fun g hg=>by cases hg)⟩
def W5(w:World)(lo hi:Nat)(v:Value)(c:c8):Prop:=P6 w (fun b=>lo<=b/\b<hi) v c
theorem W5.row{w:World}{lo hi:Nat}{v:Value}{c:c8}(h:W5 w lo hi v c):t5 w v c:=P6.row h
theorem W5.wide{w:World}{lo hi lo' hi':Nat}{v:Value}{c:c8}(h:W5 w lo hi v c)(h1:lo'<=lo)(h2:hi<=hi'):W5 w lo' hi' v c:=P6.nice v c _ _ _ _ (Agr.mono fun _ _ hp=>⟨cx8 h1 hp.1,cz7 hp.2 h2⟩) h
theorem W5.keep{w w':World}{lo hi B:Nat}{v:Value}{c:c8}(h:W5 w lo hi v c)(hb:Below B w w')(hB:hi<=B):W5 w' lo hi v c:=P6.nice v c _ _ _ _ ⟨hb.size,fun b _ hp=>⟨hp,hb.block b al⟩⟩ h
theorem W5.out{w w':World}{lo hi lo' hi':Nat}{v:Value}{c:c8}(h:W5 w lo hi v c)(ho:Out lo' hi' w w')(hd:hi<=lo'\/hi'<=lo):W5 w' lo hi v c:=P6.nice v c _ _ _ _ ⟨ho.size,fun b hb hp=>⟨hp,ho.block b hb al⟩⟩ h
theorem W5.rowOf{w:World}{lo hi:Nat}{v1 v2 v3:Value}{c:c8}(h:W5 w lo hi (.agg #[v1,v2,v3]) c):∃a1 k1 a2 k2 a3 k3,v1=.slice a1 c.vars.length k1/\v2=.slice a2 c.arrays.length k2/\v3=.slice a3 c.list.length k3:=by
 obtain⟨u1,u2,u3,he,h1,h2,h3⟩:=h
 simp only[Value.agg.injEq,Array.mk.injEq,List.cons.injEq,and_true]at he
 obtain⟨rfl,rfl,rfl⟩:=he
 obtain⟨a1,k1,e1⟩:=h1.row.form
 obtain⟨a2,k2,e2⟩:=h2.row.form
 obtain⟨a3,k3,e3⟩:=h3.row.form
 exact⟨a1,k1,a2,k2,a3,k3,e1,e2,e3⟩
noncomputable def cu9(c:c8):c8:=if j7 c=true then P9 c else⟨[],[],[]⟩
theorem bZ7(x y:d8)(w:World):(binOp .neq 76 (.agg #[.int .i64 x.op,.int .i64 x.a,.int .i64 x.b,.int .i64 x.c,.int .i64 x.d]) (.agg #[.int .i64 y.op,.int .i64 y.a,.int .i64 y.b,.int .i64 y.c,.int .i64 y.d])).run Tryz.prog w=.ok (.bool (!decide (x.l=y.l))) w:=by
 rw[run_neq_struct,run_equalIn_struct _ _ _ _ _ aj aj]
 rw[show(Tryz.prog.fieldsOf 76).toList=[⟨ "Op",3,0,false, "", "",0⟩,⟨ "A",3,1,false, "", "",8⟩,⟨ "B",3,2,false, "", "",16⟩,⟨ "C",3,3,false, "", "",24⟩,⟨ "D",3,4,false, "", "",32⟩]from by kernel_rfl]
 simp only[d8.l,List.cons.injEq,and_true]
 simp[go_sem,Op.eqFields]
 (repeat' split)<;>simp_all
theorem aR9(v1 v2:Value)(xs ys:List Int)(w:World)(h1:H7 w v1 xs.length 1 (ints xs))(h2:H7 w v2 ys.length 1 (ints ys)):
  Calls Tryz.prog 50 #[v1,v2] w fun e w'=>e=.returned (.bool (decide (xs=ys)))/\∃n,w'=w.drewN n:=by
 obtain⟨a1,c1,rfl,-,hm1,-,hc1⟩:=h1.open1
 obtain⟨a2,c2,rfl,-,hm2,-,hc2⟩:=h2.open1
 by_cases hl:xs.length=ys.length
 ·have heq:((xs.length:Int)==(ys.length:Int))=true:=ah
  have HL:Hid (xs.length=ys.length):=hl
  clear h1 h2 hl
  go_enter Tryz.func50,Tryz.ntmps50
  go_wp2
  go_loopw [5,13] (fun _ i wr=>∃k:Nat,k<=xs.length/\i=.int .i64 k/\xs.take k=ys.take k/\∃n,wr=w.drewN n) (fun _ i _=>xs.length-(intOf i).toNat)
  case atStart=>exact⟨0,cy4 _,rfl,rfl,0,rfl⟩
  case round=>
   obtain⟨k,hk,rfl,ht,nd,rfl⟩:=hrel
   have HT:Hid (xs.take k=ys.take k):=ht
   clear ht
   by_cases hlt:k<xs.length
   ·have hlt2:k<ys.length:=by have:=HL.out;omega
    obtain⟨b1,o1,rfl,hb1,hx⟩:=hc1 k hlt
    obtain⟨b2,o2,rfl,hb2,hy⟩:=hc2 k hlt2
    rw[ag9 _ _ hlt]at hx
    rw[ag9 _ _ hlt2]at hy
    clear hc1 hc2
    go_wp2
    go_quiet (fail)
    go_wp2
    ·rename_i hd
     go_ret
     exact⟨m5 (by symm;simp;intro h;subst h;simp at hd),_,by first|rfl|exact World.drewN_drewN _ _ _⟩
    rename_i hd
    refine⟨⟨k+1,al,by go_num,aw1 HT.out hlt hlt2 (by simpa using hd),_,by first|rfl|exact World.drewN_drewN _ _ _⟩,by simp[intOf];omega⟩
   have hge:decide ((k:Int)<(xs.length:Int))=false:=ah
   go_wp2
   go_ret
   exact⟨m5 (by symm;simp;exact aE8 HT.out al (by have:=HL.out;omega)),_,rfl⟩
 have hne:((xs.length:Int)==(ys.length:Int))=false:=ah
 clear hc1 hc2
 go_enter Tryz.func50,Tryz.ntmps50
 go_wp2
 go_ret
 exact⟨m5 (by symm;simp;intro h;exact hl (by rw[h])),0,rfl⟩
theorem bD9(v1 v2:Value)(xs ys:List d8)(w:World)(h1:V9 w v1 xs)(h2:V9 w v2 ys):
  Calls Tryz.prog 51 #[v1,v2] w fun e w'=>e=.returned (.bool (decide (C5 xs=C5 ys)))/\∃n,w'=w.drewN n:=by
 obtain⟨a1,c1,rfl,-,hm1,-,hc1⟩:=h1.ins
 obtain⟨a2,c2,rfl,-,hm2,-,hc2⟩:=h2.ins
 by_cases hl:xs.length=ys.length
 ·have heq:((xs.length:Int)==(ys.length:Int))=true:=ah
  have HL:Hid (xs.length=ys.length):=hl
  clear h1 h2 hl
  go_enter Tryz.func51,Tryz.ntmps51
  go_wp2
  go_loopw [5,13] (fun _ i wr=>∃k:Nat,k<=xs.length/\i=.int .i64 k/\xs.take k=ys.take k/\∃n,wr=w.drewN n) (fun _ i _=>xs.length-(intOf i).toNat)
  case atStart=>exact⟨0,cy4 _,rfl,rfl,0,rfl⟩
  case round=>
   obtain⟨k,hk,rfl,ht,nd,rfl⟩:=hrel
   have HT:Hid (xs.take k=ys.take k):=ht
   clear ht
   by_cases hlt:k<xs.length
   ·have hlt2:k<ys.length:=by have:=HL.out;omega
    obtain⟨b1,o1,e1,hb1,i0,i1,i2,i3,i4⟩:=hc1 k hlt
    obtain⟨b2,o2,e2,hb2,j0,j1,j2,j3,j4⟩:=hc2 k hlt2
    have hq:=fun w=>bZ7 xs[k] ys[k] w
    have HE:=show Hid _ from(fun(h:xs[k].l=ys[k].l)=>aw1 HT.out hlt hlt2 (d8.ext' h))
    obtain⟨q,hq0⟩:∃q,q= !decide (xs[k].l=ys[k].l):=⟨_,rfl⟩
    rw[<-hq0]at hq
    have HQ0:=show Hid _ from hq0
    obtain⟨x,hx⟩:∃x,x=xs[k]:=⟨_,rfl⟩
    obtain⟨y,hy⟩:∃y,y=ys[k]:=⟨_,rfl⟩
    rw[<-hx]at i0 i1 i2 i3 i4
    rw[<-hy]at j0 j1 j2 j3 j4
    simp only[<-hx, <-hy]at hq
    subst e1 e2
    clear hc1 hc2 hq0 hx hy
    cases q
    ·go_wp2
     go_quiet (fail)
     go_wp2
     refine⟨⟨k+1,al,by go_num,HE.out (by have:=HQ0.out;simpa using this),_,by first|rfl|exact World.drewN_drewN _ _ _⟩,by simp[intOf];omega⟩
    go_wp2
    go_quiet (fail)
    go_wp2
    go_ret
    exact⟨m5 (by symm;simp;intro h;have:=ay4 h;subst this;simpa using HQ0.out),_,by first|rfl|exact World.drewN_drewN _ _ _⟩
   go_wp2
   go_ret
   exact⟨m5 (by symm;simp;exact congrArg C5 (aE8 HT.out al (by have:=HL.out;omega))),_,rfl⟩
 have hne:((xs.length:Int)==(ys.length:Int))=false:=ah
 clear hc1 hc2
 go_enter Tryz.func51,Tryz.ntmps51
 go_wp2
 go_ret
 exact⟨m5 (by symm;simp;intro h;exact hl (by rw[ay4 h])),0,rfl⟩
theorem aV1(v u:Value)(c d:c8)(w:World)(h:t5 w v c)(h':t5 w u d):
  Calls Tryz.prog 17 #[v,u] w fun e w'=>e=.returned (.bool (c.same d))/\Below w.heap.size w w':=by
 obtain⟨v1,v2,v3,rfl,h1,h2,h3⟩:=h
 obtain⟨u1,u2,u3,rfl,g1,g2,g3⟩:=h'
 obtain⟨W,hW,M⟩:∃W,W=((w.alloc (.cells #[v1,v2,v3] 26)).alloc (.cells #[u1,u2,u3] 26))/\K4 (fun _=>True) (fun _=>True) w W [.box w.heap.size [v1,v2,v3],.box (w.heap.size+1) [u1,u2,u3]]:=
  ⟨_,rfl,((K4.start fun _ _=>trivial).box _ _).box' _ _ an⟩
 have hs:Hid (c.same d=(decide (c.vars=d.vars)&&decide (c.arrays=d.arrays)&&decide (C5 c.list=C5 d.list))):=rfl
 have HR:=show Hid (∀W',Below W.heap.size W W'->(H7 W' v1 c.vars.length 1 (ints c.vars)/\H7 W' v2 c.arrays.length 1 (ints c.arrays)/\V9 W' v3 c.list)/\H7 W' u1 d.vars.length 1 (ints d.vars)/\H7 W' u2 d.arrays.length 1 (ints d.arrays)/\V9 W' u3 d.list)from fun W' k=>by
  have bb:=(M.call k).below fun _ _=>trivial
  exact⟨⟨h1.below bb,h2.below bb,h3.below bb⟩,g1.below bb,g2.below bb,g3.below bb⟩
 have HB:=show Hid (∀n,Below w.heap.size w (W.drewN n))from fun n=>(M.call (below_drewN (Below.refl _ _) n)).below fun _ _=>trivial
 have x0:=M.c 0 0 rfl rfl
 have x1:=M.c 0 1 rfl rfl
 have x2:=M.c 0 2 rfl rfl
 have y0:=M.c 1 0 rfl rfl
 have y1:=M.c 1 1 rfl rfl
 have y2:=M.c 1 2 rfl rfl
 rw[hW]at x0 x1 x2 y0 y1 y2
 clear h1 h2 h3 g1 g2 g3 M
 go_enter Tryz.func17,Tryz.ntmps17
 go_wp2_with fail
 rw[<-hW]at x0 x1 x2 y0 y1 y2 ⊢
 clear hW
 refine(aR9 _ _ c.vars d.vars _ (HR.out _ (Below.refl _ _)).1.1 (HR.out _ (Below.refl _ _)).2.1).mono ?_
 rintro e w1 ⟨rfl,n1,rfl⟩
 by_cases q1:c.vars=d.vars
 ·rw[decide_eq_true q1]
  have Q1:=show Hid _ from q1
  clear q1
  go_wp2_with fail
  refine(aR9 _ _ c.arrays d.arrays _ (HR.out _ (below_drewN (Below.refl _ _) n1)).1.2.1 (HR.out _ (below_drewN (Below.refl _ _) n1)).2.2.1).mono ?_
  rintro e w1 ⟨rfl,n2,rfl⟩
  by_cases q2:c.arrays=d.arrays
  ·rw[decide_eq_true q2]
   have Q2:=show Hid _ from q2
   clear q2
   go_wp2_with fail
   refine(bD9 _ _ c.list d.list _ (HR.out _ (below_drewN (Below.refl _ _) (n1+n2))).1.2.2 (HR.out _ (below_drewN (Below.refl _ _) (n1+n2))).2.2.2).mono ?_
   rintro e w1 ⟨rfl,n3,rfl⟩
   obtain⟨q,hq⟩:∃q,q=decide (C5 c.list=C5 d.list):=⟨_,rfl⟩
   rw[<-hq]
   have HQ:=show Hid _ from hq
   clear hq
   go_wp2_with fail
   go_ret
   exact⟨m5 (by rw[hs.out,decide_eq_true Q1.out,decide_eq_true Q2.out,HQ.out];rfl),HB.out _⟩
  rw[decide_eq_false q2]
  go_wp2_with fail
  go_ret
  exact⟨m5 (by rw[hs.out,decide_eq_false q2];simp),HB.out _⟩
 rw[decide_eq_false q1]
 go_wp2_with fail
 go_ret
 exact⟨m5 (by rw[hs.out,decide_eq_false q1];simp),HB.out _⟩
noncomputable def S9(c:c8):c8:=if j7 c=true then ax5 c else⟨[],[],[]⟩
theorem bJ6(c d:c8):c.same d=true/\c=d\/c.same d=false/\c≠d:=by
 by_cases h:c=d
 ·exact .inl ⟨c8.same_eq.2 h,h⟩
 exact .inr ⟨by cases hs:c.same d;rfl;exact absurd (c8.same_eq.1 hs) h,h⟩
theorem P6.mono{w:World}{φ φ':Nat->Prop}{v:Value}{c:c8}(h:P6 w φ v c)(hf:∀b,b<w.heap.size->φ b->φ' b):P6 w φ' v c:=P6.nice v c _ _ _ _ (Agr.mono hf) h
theorem C6.codeF{w:World}{lo hi:Nat}{v:Value}{c:c8}(h:C6 w lo hi v c){φ:Nat->Prop}(hf:∀b,lo<=b->b<hi->φ b):P6 w φ v c:=by
 obtain⟨v1,v2,v3,rfl,h1,h2,h3,-⟩:=h
 exact⟨v1,v2,v3,rfl,C8 h1.1 fun g hg=>hf g (h1.lt g hg).1 (h1.lt g hg).2.1,C8 h2.1 fun g hg=>hf g (h2.lt g hg).1 (h2.lt g hg).2.1,C8 h3.1 fun g hg=>hf g (h3.lt g hg).1 (h3.lt g hg).2.1⟩
def b30(lo hi:Nat)(v:Value)(c:c8):World->(Nat->Prop)->Prop:=fun w φ=>C6 w lo hi v c/\hi<=w.heap.size/\∀b,lo<=b->b<hi->φ b
theorem b30.nice(lo hi:Nat)(v:Value)(c:c8):ad5 (b30 lo hi v c):=by
 rintro w w' φ φ' ha ⟨⟨v1,v2,v3,rfl,h1,h2,h3,hd⟩,hh,hf⟩
 have key:∀g,lo<=g->g<hi->w'.heap[g]? =w.heap[g]? :=fun g a b=>(ha.2 g al (hf g a b)).2
 exact⟨⟨v1,v2,v3,rfl,h1.same fun g hg=>key g (h1.lt g hg).1 (h1.lt g hg).2.1,h2.same fun g hg=>key g (h2.lt g hg).1 (h2.lt g hg).2.1,h3.same fun g hg=>key g (h3.lt g hg).1 (h3.lt g hg).2.1,hd⟩,cx8 hh ha.1,fun b a c=>(ha.2 b al (hf b a c)).1⟩
theorem ay5(v:Value)(c:c8)(w:World)(h:t5 w v c):
  Calls Tryz.prog 15 #[v] w fun e w'=>∃u,e=.returned (.tuple #[u,.bool (j7 c)])/\C6 w' w.heap.size w'.heap.size u (S9 c)/\Below w.heap.size w w':=by
 obtain⟨v1,v2,v3,rfl,h1,h2,h3⟩:=h
 have HT:Hid (S9 c=if j7 c=true then ax5 c else⟨[],[],[]⟩):=rfl
 obtain⟨W,hW,M⟩:∃W,W=(w.alloc (.cells #[v1,v2,v3] 26)).alloc (.cells #[.slice none 0 0,.slice none 0 0,.slice none 0 0] 26)/\K4 (fun _=>True) (fun _=>True) w W [.dat fun w φ=>P6 w φ (.agg #[v1,v2,v3]) c,.box w.heap.size [v1,v2,v3],.box (w.heap.size+1) [.slice none 0 0,.slice none 0 0,.slice none 0 0]]:=
  ⟨_,rfl,(((K4.start (fun _ _=>trivial)).dat (P6.nice (.agg #[v1,v2,v3]) c) ⟨_,_,_,rfl,h1.rowF fun _ _=>⟨cx2,fun r hr=>by cases hr⟩,H7.rowF h2 fun _ _=>⟨cx2,fun r hr=>by cases hr⟩,H7.rowF h3 fun _ _=>⟨cx2,fun r hr=>by cases hr⟩⟩).box _ _).box' _ _ an⟩
 clear h1 h2 h3
 have x0:=M.c 1 0 rfl rfl
 have x1:=M.c 1 1 rfl rfl
 have x2:=M.c 1 2 rfl rfl
 rw[hW]at x0 x1 x2
 go_enter Tryz.func15,Tryz.ntmps15
 go_wp2_with fail
 rw[<-hW]
 clear hW x0 x1 x2
 refine(an5 _ c _ (M.d 0 rfl).row).mono ?_
 rintro e w1 ⟨rfl,b1⟩
 replace M:=M.call b1
 clear b1
 cases hc:j7 c
 ·have HC:=show Hid (S9 c=⟨[],[],[]⟩)from by unfold Hid;rw[HT.out,hc];simp
  have HO:=show Hid _ from hc
  clear hc
  have z0:=M.c 2 0 rfl rfl
  have z1:=M.c 2 1 rfl rfl
  have z2:=M.c 2 2 rfl rfl
  have fz:=M.f 2 rfl
  have M2:=((M.set 2 rfl 0 (.slice none 0 0)).set 2 rfl 1 (.slice none 0 0)).set 2 rfl 2 (.slice none 0 0)
  have HM2:=show Hid _ from M2
  clear M M2
  go_wp2_with fail
  have M2:=HM2.out
  have r0:World.cell? _ ⟨w.heap.size+1,0,none⟩=some (.slice none 0 0):=M2.c 2 0 rfl rfl
  have r1:World.cell? _ ⟨w.heap.size+1,1,none⟩=some (.slice none 0 0):=M2.c 2 1 rfl rfl
  have r2:World.cell? _ ⟨w.heap.size+1,2,none⟩=some (.slice none 0 0):=M2.c 2 2 rfl rfl
  exact bodyPost_ret (v:=.tuple #[.agg #[.slice none 0 0,.slice none 0 0,.slice none 0 0],.bool false]) (by simp[results,Tryz.results15,go_sem,r0,r1,r2]) rfl ⟨_,by rw[HO.out],by rw[HC.out];exact bE6 _ _ _,M2.below fun _ _=>trivial⟩
 have HC:=show Hid (S9 c=ax5 c)from by unfold Hid;rw[HT.out,hc];simp
 have HO:=show Hid _ from hc
 clear hc
 have x0:World.cell? _ ⟨w.heap.size,0,none⟩=some v1:=M.c 1 0 rfl rfl
 have x1:World.cell? _ ⟨w.heap.size,1,none⟩=some v2:=M.c 1 1 rfl rfl
 have x2:World.cell? _ ⟨w.heap.size,2,none⟩=some v3:=M.c 1 2 rfl rfl
 go_wp2_with fail
 clear x0 x1 x2
 refine(bf0 _ c _ (M.d 0 rfl).row (an8 HO.out)).mono ?_
 rintro e w2 ⟨u2,rfl,o2,b2⟩
 have hfr:=M.frFresh
 have M2:=M.callD b2 (R:=fun w' φ=>P6 w' φ u2 c) (P6.nice _ _) (o2.codeF fun b hb _=>hfr b hb)
 obtain⟨d1,d2,d3,rfl,-⟩:=id o2
 obtain⟨a1,k1,a2,k2,a3,k3,rfl,rfl,rfl⟩:=Code.rowOf o2
 have M4:=M2.box [.slice a1 c.vars.length k1,.slice a2 c.arrays.length k2,.slice a3 c.list.length k3] 26
 have HM4:=show Hid _ from M4
 clear M M2 M4 o2 b2 hfr
 go_wp2_with fail
 have M4:=HM4.out
 clear HM4
 obtain⟨X0,hX0⟩:∃X0,X0=w2.heap.size:=⟨_,rfl⟩
 rw[<-hX0]at M4 ⊢
 clear hX0
 generalize w2.alloc (.cells #[.slice a1 c.vars.length k1,.slice a2 c.arrays.length k2,.slice a3 c.list.length k3] 26)=wa at*
 have M:=M4.sel [3,4,2] [.dat fun w φ=>P6 w φ (.agg #[.slice a1 c.vars.length k1,.slice a2 c.arrays.length k2,.slice a3 c.list.length k3]) c,.box X0 [.slice a1 c.vars.length k1,.slice a2 c.arrays.length k2,.slice a3 c.list.length k3],.box (w.heap.size+1) [.slice none 0 0,.slice none 0 0,.slice none 0 0]] rfl ak
 clear M4
 go_loopg [5] (au1 c) (fun m _ wr=>∃(c1 c2 c3:Value) (cur:c8),au1 cur<=m/\j7 cur=true/\ax5 cur=ax5 c/\K4 (fun _=>True) (fun _=>True) w wr [.dat fun w φ=>P6 w φ (.agg #[c1,c2,c3]) cur,.box X0 [c1,c2,c3],.box (w.heap.size+1) [.slice none 0 0,.slice none 0 0,.slice none 0 0]])
 case atStart=>exact⟨_,_,_,c,cv7 _,HO.out,rfl,M⟩
 case round=>
  clear M
  obtain⟨c1,c2,c3,cur,hm,hok,hcur,M⟩:=hrel
  have HM:=show Hid _ from hm
  have HK:=show Hid _ from hok
  have HU:=show Hid _ from hcur
  clear hm hok hcur
  have x0:=M.c 1 0 rfl rfl
  have x1:=M.c 1 1 rfl rfl
  have x2:=M.c 1 2 rfl rfl
  go_wp2_with fail
  refine(aU9 _ cur HK.out _ (M.d 0 rfl).row).mono ?_
  rintro e w2 ⟨u2,rfl,o2,b2⟩
  replace M:=M.call b2
  clear x0 x1 x2 b2
  go_wp2_with fail
  refine(a67 _ (N2 cur) (a25 HK.out) _ o2.row).mono ?_
  rintro e w3 ⟨u3,rfl,o3,b3⟩
  obtain⟨nx,hnx⟩:∃nx,nx=ag4 cur:=⟨_,rfl⟩
  have HNX:=show Hid _ from hnx
  rw[show P9 (N2 cur)=nx from hnx.symm]at o3
  clear hnx
  have s2:=M.size
  have hfr:=M.frFresh
  replace M:=M.callD b3 (R:=b30 w2.heap.size w3.heap.size u3 nx) (b30.nice _ _ _ _) ⟨o3,cv7 _,fun b hb _=>hfr b hb⟩
  obtain⟨y1,y2,y3,rfl,-⟩:=id o3
  obtain⟨a1,k1,a2,k2,a3,k3,rfl,rfl,rfl⟩:=Code.rowOf o3
  clear b3 o3 o2 hfr
  have M4:=M.box [.slice a1 nx.vars.length k1,.slice a2 nx.arrays.length k2,.slice a3 nx.list.length k3] 26
  have x0:World.cell? _ ⟨X0,0,none⟩=some c1:=M4.c 1 0 rfl rfl
  have x1:World.cell? _ ⟨X0,1,none⟩=some c2:=M4.c 1 1 rfl rfl
  have x2:World.cell? _ ⟨X0,2,none⟩=some c3:=M4.c 1 2 rfl rfl
  have HM4:=show Hid _ from M4
  clear M M4
  go_wp2_with fail
  clear x0 x1 x2
  have M:=HM4.out
  clear HM4
  obtain⟨X1,hX1⟩:∃X1,X1=w3.heap.size:=⟨_,rfl⟩
  rw[<-hX1]at M ⊢
  clear hX1
  refine(aV1 _ _ nx cur _ (M.d 3 rfl).1.row (M.d 0 rfl).row).mono ?_
  rintro e w5 ⟨rfl,b5⟩
  replace M:=M.call b5
  clear b5
  have y0:World.cell? _ ⟨X1,0,none⟩=some (.slice a1 nx.vars.length k1):=M.c 4 0 rfl rfl
  have y1:World.cell? _ ⟨X1,1,none⟩=some (.slice a2 nx.arrays.length k2):=M.c 4 1 rfl rfl
  have y2:World.cell? _ ⟨X1,2,none⟩=some (.slice a3 nx.list.length k3):=M.c 4 2 rfl rfl
  have z0:World.cell? _ ⟨w.heap.size+1,0,none⟩=some (.slice none 0 0):=M.c 2 0 rfl rfl
  have z1:World.cell? _ ⟨w.heap.size+1,1,none⟩=some (.slice none 0 0):=M.c 2 1 rfl rfl
  have z2:World.cell? _ ⟨w.heap.size+1,2,none⟩=some (.slice none 0 0):=M.c 2 2 rfl rfl
  have fz:=M.f 2 rfl
  have x0:World.cell? _ ⟨X0,0,none⟩=some c1:=M.c 1 0 rfl rfl
  have x1:World.cell? _ ⟨X0,1,none⟩=some c2:=M.c 1 1 rfl rfl
  have x2:World.cell? _ ⟨X0,2,none⟩=some c3:=M.c 1 2 rfl rfl
  have fx:=M.f 1 rfl
  rcases bJ6 nx cur with⟨hs,he⟩|⟨hs,he⟩
  ·rw[hs]
   have M2:=((M.set 2 rfl 0 (.slice a1 nx.vars.length k1)).set 2 rfl 1 (.slice a2 nx.arrays.length k2)).set 2 rfl 2 (.slice a3 nx.list.length k3)
   have HM2:=show Hid _ from M2
   have HE:=show Hid _ from he
   clear M M2 hs he
   go_wp2_with fail
   have M2:=HM2.out
   have r0:World.cell? _ ⟨w.heap.size+1,0,none⟩=some (.slice a1 nx.vars.length k1):=M2.c 2 0 rfl rfl
   have r1:World.cell? _ ⟨w.heap.size+1,1,none⟩=some (.slice a2 nx.arrays.length k2):=M2.c 2 1 rfl rfl
   have r2:World.cell? _ ⟨w.heap.size+1,2,none⟩=some (.slice a3 nx.list.length k3):=M2.c 2 2 rfl rfl
   have hres:S9 c=nx:=by
    rw[HC.out, <-HU.out,bC4 HK.out (by rw[<-HNX.out];exact HE.out)]
    exact HE.out.symm
   refine bodyPost_ret (v:=.tuple #[.agg #[.slice a1 nx.vars.length k1,.slice a2 nx.arrays.length k2,.slice a3 nx.list.length k3],.bool true]) (by simp[results,Tryz.results15,go_sem,r0,r1,r2]) rfl ⟨_,by rw[HO.out],?_,M2.below fun _ _=>trivial⟩
   rw[hres]
   have ho:=M2.out 3 rfl
   exact ho.1.wide s2 ho.2.1
  rw[hs]
  have M1:=(((M.dat (P6.nice _ nx) ((M.d 3 rfl).1.codeF (M.d 3 rfl).2.2)).set 1 rfl 0 (.slice a1 nx.vars.length k1)).set 1 rfl 1 (.slice a2 nx.arrays.length k2)).set 1 rfl 2 (.slice a3 nx.list.length k3)
  have M2:=M1.sel [5,1,2] [.dat fun w φ=>P6 w φ (.agg #[.slice a1 nx.vars.length k1,.slice a2 nx.arrays.length k2,.slice a3 nx.list.length k3]) nx,.box X0 [.slice a1 nx.vars.length k1,.slice a2 nx.arrays.length k2,.slice a3 nx.list.length k3],.box (w.heap.size+1) [.slice none 0 0,.slice none 0 0,.slice none 0 0]] rfl ak
  have HM2:=show Hid _ from M2
  have HE:=show Hid _ from he
  clear M M1 M2 hs he
  go_wp2_with fail
  have hne:ag4 cur≠cur:=by rw[<-HNX.out];exact HE.out
  go_roundg (au1 nx)
  case measure=>rw[HNX.out];have:=bv9 HK.out hne;have:=HM.out;omega
  case rel=>exact⟨_,_,_,nx,cv7 _,by rw[HNX.out];exact aI6 HK.out,by rw[HNX.out,bC5 HK.out hne];exact HU.out,HM2.out⟩
end Go.Proofs.YtfbeblgnjeokaaaGreat

namespace Go.Proofs.YtfbeblgnjeokaaaGreat
open Go Go.RowKit Go.ChangeShapes Go.WideShapes Go.Deep
section
variable{H:Type}{enc:TypeId×Value->H}{W:World}
theorem aV5{fuel:Nat}{t:TypeId}{v:Value}{x:DataW H×List MemPlace}(ht:Tryz.prog.underlying t=some (.slice 5))
  (h:DataW.trod enc Tryz.prog W 0 (fun _=>true) true fuel t [v]=some x):∃l:List UInt8,H7 W v l.length 1 (l.map fun b=>Value.int .u8 (b.toNat:Int)):=by
 obtain⟨n,m,C,hr,hC,hx⟩:=bb7 ht (sz:=1) aj al h
 obtain⟨g,hg⟩:=choose_lt (α:=UInt8) (n:=n) (p:=fun i b=>C i=[.int .u8 (b.toNat:Int)]) (fun i hi=>by
  obtain⟨y,hy⟩:=hx i hi
  obtain⟨z,hz,_,hw⟩:=DataW.trod_int Tryz.underlying5 hy
  simp only[Lit.wf,cv4,decide_eq_true_eq]at hw
  have h0:(0:Int)<=z:=hw.1
  have h1:z<=255:=hw.2
  refine⟨UInt8.ofNat z.toNat,?_⟩
  rw[hz]
  have e:(UInt8.ofNat z.toNat).toNat=z.toNat:=by
   rw[UInt8.toNat_ofNat'];omega
  rw[e,Int.toNat_of_nonneg h0])
 refine⟨(cx0 n).map g,?_⟩
 rw[List.length_map,List.length_range, <-aO7 n C (fun b=>Value.int .u8 (b.toNat:Int)) g hg]
 exact hr
end
end Go.Proofs.YtfbeblgnjeokaaaGreat
