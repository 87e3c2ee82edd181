/- Parts of the proof: Fix. -/
import Derived.Test.YtdjpkgccakgkbaaGreatDoorPeb
set_option linter.all false
set_option maxRecDepth 100000
set_option maxHeartbeats 8000000
section
variable{p:Prop}
theorem q39(h:p:=by simp[go_sem]):p:=h
theorem q40(h:p:=by rw[<-HR.out,bGU hemp,hda];rfl):p:=h
theorem q41(h:p:=by have:=hb3.size;simp at this;omega):p:=h
theorem q42(h:p:=by rw[hc3 _ _ (by simp<;>omega)];simp[go_sem]):p:=h
theorem q43(h:p:=by simp<;>omega):p:=h
theorem q44(h:p:=by rw[hf3 _ _ (by simp<;>omega)];simp[go_sem]):p:=h
theorem q45(h:p:=by rw[<-HR.out,bGU hemp,hda,hdp];rfl):p:=h
theorem q46(h:p:=by have:=hb4.size;simp at this;omega):p:=h
theorem q47(h:p:=by rw[hc4 _ _ (by simp<;>omega)];simp[go_sem]):p:=h
theorem q48(h:p:=by rw[hf4 _ _ (by simp<;>omega)];simp[go_sem]):p:=h
theorem q49(h:p:=by repeat' (first|(with_reducible first|exact bGL _ _|refine Below.drew ?_|refine aN ?_ _|refine gQ ?_ ?_ _ _|refine Below.setCell ?_ ?_ _|refine Below.alloc ?_ ?_ _|refine bT hb4 ?_ ?_|refine bT hb2 ?_ ?_|refine bT hb1 ?_ ?_|refine bT hbr ?_ ?_|refine bT hb ?_ ?_)|(simp;done)|(simp;omega)|omega)):p:=h
theorem q50(h:p:=by show k<a.toArray.size;simpa using hlt):p:=h
theorem q51(h:p:=by rw[<-hW1,qH _ _ _ _ _ _ oM];exact r0):p:=h
theorem q52(h:p:=by rw[<-hW1,qH _ _ _ _ _ _ oM];exact r1):p:=h
theorem q53(h:p:=by rw[<-hW1,nL _ _ _ _ _ _ oM];exact r2):p:=h
theorem q54(h:p:=by rw[<-hW1,nL _ _ _ _ _ _ oM];exact r3):p:=h
theorem q55(h:p:=by rw[<-hW1];exact xM hbr oM _ _):p:=h
theorem q56(h:p:=by rw[<-hW1];exact aAH _ _ _ _ (bGJ hit)):p:=h
theorem q57(h:p:=by rw[pL a k hlt,qF,HV.out]):p:=h
theorem q58(h:p:=by repeat' (first|(with_reducible first|exact bGL _ _|refine Below.drew ?_|refine aN ?_ _|refine gQ ?_ ?_ _ _|refine Below.setCell ?_ ?_ _|refine Below.alloc ?_ ?_ _|refine bT hb4 ?_ ?_|refine bT qb ?_ ?_|refine bT hb2 ?_ ?_|refine bT hb1 ?_ ?_|refine bT hbr ?_ ?_|refine bT hb ?_ ?_)|(simp;done)|(simp;omega)|omega)):p:=h
theorem q59(h:p:=by show w4.heap.size≠w.heap.size;omega):p:=h
theorem q60(h:p:=by rw[bGK _ _ _ _ (by show w4.heap.size≠w.heap.size;omega)];exact HIP.out.2):p:=h
theorem q61(h:p:=by show¬a.length<a.toArray.size;simp):p:=h
theorem q62(h:p:=by have:=HV.out;rwa [List.take_length] at this):p:=h
theorem q63(h:p:=by show _=pp.data.toList.length;rw[hpl2];simp):p:=h
theorem q64(h:p:=by rw[<-hq4,Lib.extract_data,List.drop_zero,hpl2];exact aTY p):p:=h
theorem q65(h:p:=by show q4.data.toList.length=4;rw[hq4l];simp[dE]):p:=h
theorem q66(h:p:=by rw[<-hW2,World.iter,World.cell?_alloc_past _ _ _ oM];exact r0):p:=h
theorem q67(h:p:=by rw[<-hW2,World.iter,World.cell?_alloc_past _ _ _ oM];exact r1):p:=h
theorem q68(h:p:=by rw[<-hW2,World.iter,World.frozen?_alloc_past _ _ _ oM];exact r2):p:=h
theorem q69(h:p:=by rw[<-hW2,World.iter,World.frozen?_alloc_past _ _ _ oM];exact r3):p:=h
theorem q70(h:p:=by rw[<-hW2];exact gQ hbr oM _ _):p:=h
theorem q71(h:p:=by rw[<-hW2];exact World.iter_heap _ _ _):p:=h
theorem q72(h:p:=by rw[HQS.out];omega):p:=h
theorem q73(h:p:=by rw[pL _ k hkk,hcc,<-List.append_assoc,qF,HV.out]):p:=h
theorem q74(h:p:=by have:=HU.out;rw[Nat.pow_succ];omega):p:=h
theorem q75(h:p:=by show I2≠w.heap.size;omega):p:=h
theorem q76(h:p:=by rw[bGK _ _ _ _ (by show I2≠w.heap.size;omega)];exact HIP.out.2):p:=h
theorem q77(h:p:=by have:=HV.out;rwa [bHC (by simp[dE])] at this):p:=h
theorem q78(h:p:=by have:=bGJ hit;omega):p:=h
theorem q79(h:p:=by rw[Lib.extract_to_end,HPL.out];rfl):p:=h
theorem q80(h:p:=by have:=hb5.size;omega):p:=h
theorem q81(h:p:=by rw[HRV.out,bGV (by simpa using hbig)]):p:=h
theorem q82(h:p:=by simpa using hbig):p:=h
theorem q83(h:p:=by simp[go_sem,q0,q1,q2,q3,hs0,hs1]):p:=h
theorem q84(h:p:=by repeat' (first|(with_reducible first|exact bGL _ _|refine Below.drew ?_|refine aN ?_ _|refine gQ ?_ ?_ _ _|refine Below.setCell ?_ ?_ _|refine Below.alloc ?_ ?_ _|refine bT hb4 ?_ ?_|refine bT hbw5 ?_ ?_|refine bT hb2 ?_ ?_|refine bT hb1 ?_ ?_|refine bT hbr ?_ ?_|refine bT hb ?_ ?_)|(simp;done)|(simp;omega)|omega)):p:=h
theorem q85(h:p:=by rw[HRV.out,bGU (by simpa using hbig)];simp):p:=h
theorem q278(h:p:=by
 have hpl4:(dE p).length=4:=by simp[dE]
 have hkk:k<(dE p).length:=oM;have hp4:(dE p).all iF=true:=by
  unfold dE;rw[bHB];intro c hc;have:=List.mem_of_mem_take hc;rw[List.mem_append] at this;rcases this with h|h
  ·exact List.all_eq_true.1 (show p.all iF=true from HP.out) c h
  ·simp at h;subst h;decide
 have hg:=pM (List.all_eq_true.1 hp4 _ (bGG hkk));obtain⟨c,hcc⟩:=eX ((dE p)[k]);rw[hcc] at hg;obtain⟨W1,hW1⟩:=eX (fP wr I2 q4 (k+1));have hcq:∀h,q4[k]'h=c:=fun h=>by
  rw[<-hcc];have:q4.data.toList[k]' q10=(dE p)[k]:=by simp only[HQL.out]
  exact this
 have hks:k<q4.size:=q72;have hnx:∀ty,(Instr.next (.pointer (some ⟨I2,0,none⟩)) true ty).run prog wr=.ok (.tuple #[.bool true,.int .i64 k,.int .i32 c.toNat]) W1:=fun ty=>by
  have:=aLU wr I2 k q4 ty hit hks (by rw[hcq];omega);rw[hcq,hW1] at this;exact this
 have q0:W1.cell? ⟨w.heap.size,0,none⟩=some (.int .i64 u):=q51;have q1:W1.cell? ⟨w.heap.size+1,0,none⟩=some (.int .i64 0):=q52;have q2:W1.frozen? ⟨w.heap.size,0,none⟩=false:=q53;have q3:W1.frozen? ⟨w.heap.size+1,0,none⟩=false:=q54;have qb:Below w.heap.size w W1:=q55;have qi:W1.heap[I2]?=some (.stringIter q4 (k+1)):=q56;have hvs:10*u+(c.toNat-48)=val (a++(dE p).take (k+1)):=q73;have HV2:=Lh hvs;have HIP:=Lh (bGQ hit qi);have hub:10*u+(c.toNat-48)<1073741825*10 ^ (k+1):=q74;have hub2:10*u+(c.toNat-48)<10737418250000:=bGA hub (by
  have:10 ^ (k+1)<=10 ^ 4:=Nat.pow_le_pow_right dC oM;omega)
 have HUB:=Lh hub;clear hW1 r0 r1 r2 r3 hbr HV hit qi hvs hub hcq hcc hp4 hkk hpl4 hks HU;go_wp2;go_roundw
 case rel =>
  refine⟨k+1,10*u+(c.toNat-48),oM,hub2,HUB,?_,?_,?_,?_,?_,?_,HV2⟩
  ·rw[World.cell?_setCell_same _ _ _ q0];congr 2;omega
  ·rw[World.cell?_setCell_other _ _ _ _ sI];exact q1
  ·rw[World.frozen?_setCell];exact q2
  ·rw[World.frozen?_setCell];exact q3
  ·rw[bGK _ _ _ _ q75];exact HIP.out.2
  ·exact qb.setCell sI _
 case measure =>
  rw[iterPos_of q76,iterPos_of HIP.out.1];omega):p:=h
theorem q280(h:p:=by
 have hg:=pM (List.all_eq_true.1 (show a.all iF=true from HA.out) _ (bGG hlt));obtain⟨W1,hW1⟩:=eX (fP wr w4.heap.size ⟨a.toArray⟩ (k+1));have hnx:∀ty,(Instr.next (.pointer (some ⟨w4.heap.size,0,none⟩)) true ty).run prog wr=.ok (.tuple #[.bool true,.int .i64 k,.int .i32 a[k].toNat]) W1:=fun ty=>by
  rw[<-hW1];exact aLU wr _ k ⟨a.toArray⟩ ty hit q50 (by show a[k].toNat<128;omega)
 have q0:W1.cell? ⟨w.heap.size,0,none⟩=some (.int .i64 v):=q51;have q1:W1.cell? ⟨w.heap.size+1,0,none⟩=some (.int .i64 0):=q52;have q2:W1.frozen? ⟨w.heap.size,0,none⟩=false:=q53;have q3:W1.frozen? ⟨w.heap.size+1,0,none⟩=false:=q54;have qb:Below w.heap.size w W1:=q55;have qi:W1.heap[w4.heap.size]?=some (.stringIter ⟨a.toArray⟩ (k+1)):=q56;have HV2:=Lh (show 10*v+(a[k].toNat-48)=val (a.take (k+1)) from q57);have HIP:=Lh (bGQ hit qi);clear hW1 r0 r1 r2 r3 hbr HV hit qi;by_cases hbig:1073741824<10*v+(a[k].toNat-48)
 ·have HX := Lib.hid (show R=.bad 2 by
   rw[<-HR.out,bGU (by simpa using hemp),HA.out,HP.out];have:val (a.take (k+1))<=val (a++dE p):=by
    conv=>rhs;rw[<-List.take_append_drop (k+1) a,List.append_assoc]
    exact xL _ _
   have h2:=HV2.out;simp only[Bool.not_true,Bool.or_self,Bool.false_eq_true,if_false];rw[bGV (by split<;>split<;>omega)])
  go_wp2;refine bGW (f:=179) (args:=#[.pointer (some ⟨w.heap.size,0,none⟩),.pointer (some ⟨w.heap.size+1,0,none⟩)]) sI q39 ?_;refine(dH _ _ _).mono ?_;rintro e u' w'' ⟨rfl,rfl,rfl⟩;simp[Leaves,settle,results,results138,go_sem,q0,q1,q2,q3];exact⟨q28,q58⟩
 ·go_wp2;go_roundw
  case rel =>
   refine⟨k+1,10*v+(a[k].toNat-48),oM,oM,?_,?_,?_,?_,?_,?_,HV2⟩
   ·rw[World.cell?_setCell_same _ _ _ q0];congr 2;omega
   ·rw[World.cell?_setCell_other _ _ _ _ sI];exact q1
   ·rw[World.frozen?_setCell];exact q2
   ·rw[World.frozen?_setCell];exact q3
   ·rw[bGK _ _ _ _ q59];exact HIP.out.2
   ·exact qb.setCell sI _
  case measure =>
   rw[iterPos_of q60,iterPos_of HIP.out.1];omega):p:=h
theorem q281(h:p:=by
 have hk2:k=4:=oM;subst hk2;have hnx:∀ty,(Instr.next (.pointer (some ⟨I2,0,none⟩)) true ty).run prog wr=.ok (.tuple #[.bool false]) wr:=fun ty=>qG wr _ 4 q4 ty hit q72
 have HV1:=Lh (show u=val (a++dE p) from q77);have hb0:w.heap.size<wr.heap.size:=q78;have hb1:w.heap.size+1<wr.heap.size:=q78;clear HV HU;go_wp2_with fail;refine(aDF _ (aP p) q79 sO _).mono ?_;rintro e w5 ⟨rfl,hb5⟩;obtain⟨hc5,hf5⟩:=aZ hb5;have hbw5:Below w.heap.size w w5:=hbr.trans (hb5.mono oM);have q0:w5.cell? ⟨w.heap.size,0,none⟩=some (.int .i64 u):=(hc5 _ _ hb0).trans r0;have q1:w5.cell? ⟨w.heap.size+1,0,none⟩=some (.int .i64 0):=(hc5 _ _ hb1).trans r1;have q2:w5.frozen? ⟨w.heap.size,0,none⟩=false:=(hf5 _ _ hb0).trans r2;have q3:w5.frozen? ⟨w.heap.size+1,0,none⟩=false:=(hf5 _ _ hb1).trans r3;have hs0:w.heap.size<w5.heap.size:=q80;have hs1:w.heap.size+1<w5.heap.size:=q80;clear r0 r1 r2 r3 hc5 hf5 hb5 hit hbr hnx;cases hup:(!Op.bytesLess (aP p) [53])
 ·have HRV:=Lh (qI HR.out hemp HA.out HP.out false false HM.out ((aTZ p HP.out).symm.trans hup) u HV1.out);by_cases hbig:1073741824<u+(0:Nat)
  ·have HX:=Lh (show R=.bad 2 from q81);go_wp2_with fail;refine(kC w5.heap.size (u:Int) _ q39 oM oM oM).mono ?_;rintro e w6 ⟨rfl,rfl⟩;go_wp2;refine bGW (f:=179) (args:=#[.pointer (some ⟨w.heap.size,0,none⟩),.pointer (some ⟨w.heap.size+1,0,none⟩)]) sI q39 ?_;refine(kB _ _ _ _ _ ((u:Int)) 0 q83 q83 q83 q83 sI).mono ?_;rintro e u' w'' ⟨rfl,rfl,rfl⟩;simp[Leaves,settle,results,results138,go_sem,q0,q1,q2,q3,hs0,hs1];exact⟨q28,q84⟩
  ·have HX:=Lh (show R=.good ((u:Int)) from q85);go_wp2_with fail;refine(iT w5.heap.size (u:Int) _ q39 oM oM).mono ?_;rintro e w6 ⟨rfl,rfl⟩;go_wp2;refine bGW (f:=179) (args:=#[.pointer (some ⟨w.heap.size,0,none⟩),.pointer (some ⟨w.heap.size+1,0,none⟩)]) sI q39 ?_;refine(dH _ _ _).mono ?_;rintro e u' w'' ⟨rfl,rfl,rfl⟩;simp[Leaves,settle,results,results138,go_sem,q0,q1,q2,q3,hs0,hs1];exact⟨q28,q84⟩
 ·have HRV:=Lh (qI HR.out hemp HA.out HP.out false true HM.out ((aTZ p HP.out).symm.trans hup) u HV1.out);by_cases hbig:1073741824<u+(1:Nat)
  ·have HX:=Lh (show R=.bad 2 from q81);go_wp2_with fail;refine(kC w5.heap.size ((u:Int)+1) _ q39 oM oM oM).mono ?_;rintro e w6 ⟨rfl,rfl⟩;go_wp2;refine bGW (f:=179) (args:=#[.pointer (some ⟨w.heap.size,0,none⟩),.pointer (some ⟨w.heap.size+1,0,none⟩)]) sI q39 ?_;refine(kB _ _ _ _ _ ((u:Int)+1) 0 q83 q83 q83 q83 sI).mono ?_;rintro e u' w'' ⟨rfl,rfl,rfl⟩;simp[Leaves,settle,results,results138,go_sem,q0,q1,q2,q3,hs0,hs1];exact⟨q28,q84⟩
  ·have HX:=Lh (show R=.good ((u:Int)+1) from q85);go_wp2_with fail;refine(iT w5.heap.size ((u:Int)+1) _ q39 oM oM).mono ?_;rintro e w6 ⟨rfl,rfl⟩;go_wp2;refine bGW (f:=179) (args:=#[.pointer (some ⟨w.heap.size,0,none⟩),.pointer (some ⟨w.heap.size+1,0,none⟩)]) sI q39 ?_;refine(dH _ _ _).mono ?_;rintro e u' w'' ⟨rfl,rfl,rfl⟩;simp[Leaves,settle,results,results138,go_sem,q0,q1,q2,q3,hs0,hs1];exact⟨q28,q84⟩):p:=h
theorem q290(h:p:=by
 have HX:=Lh (show R=.bad 3 from q45);have hne:=uO hemp;have HA:=Lh hda;have HP:=Lh hdp;clear hda hdp hemp;go_wp2_with(first|(go_at_call 23;first|(refine(kZ _ [45] _ H45.out _).mono ?_;rintro e w' ⟨rfl,rfl⟩)|(refine(kZ _ [43] _ H43.out _).mono ?_;rintro e w' ⟨rfl,rfl⟩))|(go_at_call 180;refine(lN su a p HCa.out HCp.out hsl.out m _ hm2).mono ?_;rintro e w2 ⟨f,rfl,n1,rfl⟩))
 refine(gR a oM true HA.out _).mono ?_;rintro e w3 ⟨rfl,hb3⟩;have hz3:w.heap.size+2<=w3.heap.size:=q41;go_wp2_with fail;refine(gR p oM false HP.out _).mono ?_;rintro e w4 ⟨rfl,hb4⟩;replace hb4:=hb3.trans (hb4.mono sO);obtain⟨hc4,hf4⟩:=aZ hb4;have hz4:w.heap.size+1<w4.heap.size:=q46;have hz5:w.heap.size<w4.heap.size:=oM;clear hb3 hz3;have q0:w4.cell? ⟨w.heap.size,0,none⟩=some (.int .i64 0):=q47;have q1:w4.cell? ⟨w.heap.size+1,0,none⟩=some (.int .i64 0):=q47;have q2:w4.frozen? ⟨w.heap.size,0,none⟩=false:=q48;have q3:w4.frozen? ⟨w.heap.size+1,0,none⟩=false:=q48;go_wp2;refine bGW (f:=179) (args:=#[.pointer (some ⟨w.heap.size,0,none⟩),.pointer (some ⟨w.heap.size+1,0,none⟩)]) sI q39 ?_;refine(dH _ _ _).mono ?_;rintro e u' w'' ⟨rfl,rfl,rfl⟩;simp[Leaves,settle,results,results138,go_sem,q0,q1,q2,q3];exact⟨q28,q49⟩):p:=h
theorem q291(h:p:=by
 have HX:=Lh (show R=.bad 3 from q40);have hne:=uO hemp;have HA:=Lh hda;clear hda hemp;go_wp2_with(first|(go_at_call 23;first|(refine(kZ _ [45] _ H45.out _).mono ?_;rintro e w' ⟨rfl,rfl⟩)|(refine(kZ _ [43] _ H43.out _).mono ?_;rintro e w' ⟨rfl,rfl⟩))|(go_at_call 180;refine(lN su a p HCa.out HCp.out hsl.out m _ hm2).mono ?_;rintro e w2 ⟨f,rfl,n1,rfl⟩))
 refine(gR a oM false HA.out _).mono ?_;rintro e w3 ⟨rfl,hb3⟩;obtain⟨hc3,hf3⟩:=aZ hb3;have hz3:w.heap.size+1<w3.heap.size:=q41;have hz4:w.heap.size<w3.heap.size:=oM;have q0:w3.cell? ⟨w.heap.size,0,none⟩=some (.int .i64 0):=q42;have q1:w3.cell? ⟨w.heap.size+1,0,none⟩=some (.int .i64 0):=q42;have q2:w3.frozen? ⟨w.heap.size,0,none⟩=false:=q44;have q3:w3.frozen? ⟨w.heap.size+1,0,none⟩=false:=q44;go_wp2;refine bGW (f:=179) (args:=#[.pointer (some ⟨w.heap.size,0,none⟩),.pointer (some ⟨w.heap.size+1,0,none⟩)]) sI q39 ?_;refine(dH _ _ _).mono ?_;rintro e u' w'' ⟨rfl,rfl,rfl⟩;simp[Leaves,settle,results,results138,go_sem,q0,q1,q2,q3];exact⟨q28,bel⟩):p:=h
theorem q306(h:p:=by
 have hne:=aUB hemp;have HX:=Lh (show R=.bad 3 by rw[<-HR.out,bGV hemp]);clear hemp;go_wp2_with(first|(go_at_call 23;first|(refine(kZ _ [45] _ H45.out _).mono ?_;rintro e w' ⟨rfl,rfl⟩)|(refine(kZ _ [43] _ H43.out _).mono ?_;rintro e w' ⟨rfl,rfl⟩))|(go_at_call 180;refine(lN su a p HCa.out HCp.out hsl.out m _ hm2).mono ?_;rintro e w2 ⟨f,rfl,n1,rfl⟩))
 refine bGW (f:=179) (args:=#[.pointer (some ⟨w.heap.size,0,none⟩),.pointer (some ⟨w.heap.size+1,0,none⟩)]) sI q39 ?_;refine(dH _ _ _).mono ?_;rintro e u' w'' ⟨rfl,rfl,rfl⟩;simp[Leaves,settle,results,results138,go_sem];exact⟨q28,bel⟩):p:=h
theorem q311(h:p:=by
 rintro e u' w'' ⟨rfl,rfl,rfl⟩;simp[Leaves,settle,results,results138,go_sem,q0,q1,q2,q3,hs0,hs1];exact⟨q28,q84⟩):p:=h
theorem q372(h:p:=by rw[World.iter,World.frozen?_alloc_past _ _ _ oM,hf4 _ _ q43];simp[go_sem]):p:=h
theorem q375(h:p:=by rw[World.iter,World.cell?_alloc_past _ _ _ oM,hc4 _ _ q43];simp[go_sem]):p:=h
theorem q421(h:p:=by exact⟨0,0,oM,oM,n0,n1',n2,n3,World.iter_heap _ _ _,gQ hbw oM _ _,by show _=_;simp[val]⟩):p:=h
theorem q433(h:p:=by
 rintro e u' w'' ⟨rfl,rfl,rfl⟩;simp[Leaves,settle,results,results138,go_sem,q0,q1,q2,q3,hs0,hs1,k0];exact⟨q28,q84⟩):p:=h
theorem q438(h:p:=by exact⟨0,v,oM,oM,by show _<_;omega,z0,z1,z2,z3,zi,zb,by show _=_;rw[HV1.out];simp⟩):p:=h
theorem q562(h:p:=by
 have HA:=Lh hda;have HP:=Lh hdp;clear hda hdp;have hne:=uO hemp;go_wp2_with(first|(go_at_call 23;first|(refine(kZ _ [45] _ H45.out _).mono ?_;rintro e w' ⟨rfl,rfl⟩)|(refine(kZ _ [43] _ H43.out _).mono ?_;rintro e w' ⟨rfl,rfl⟩))|(go_at_call 180;refine(lN su a p HCa.out HCp.out hsl.out m _ hm2).mono ?_;rintro e w2 ⟨f,rfl,n1,rfl⟩))
 refine(gR a oM true HA.out _).mono ?_;rintro e w3 ⟨rfl,hb3⟩;obtain⟨hc3,hf3⟩:=aZ hb3;have hz3:w.heap.size+2<=w3.heap.size:=q41;go_wp2_with fail;refine(gR p oM true HP.out _).mono ?_;rintro e w4 ⟨rfl,hb4⟩;replace hb4:=hb3.trans (hb4.mono sO);obtain⟨hc4,hf4⟩:=aZ hb4;have hz4:w.heap.size+2<=w4.heap.size:=q46;clear hb3 hc3 hf3 hz3;go_wp2;have hbw:Below w.heap.size w w4:=q49;have n0:(w4.iter ⟨a.toArray⟩ 0).cell? ⟨w.heap.size,0,none⟩=some (.int .i64 0):=by
  exact q375
 have n1':(w4.iter ⟨a.toArray⟩ 0).cell? ⟨w.heap.size+1,0,none⟩=some (.int .i64 0):=by
  exact q375
 have n2:(w4.iter ⟨a.toArray⟩ 0).frozen? ⟨w.heap.size,0,none⟩=false:=by
  exact q372
 have n3:(w4.iter ⟨a.toArray⟩ 0).frozen? ⟨w.heap.size+1,0,none⟩=false:=by
  exact q372
 go_loopw [9] (fun _ wr=>∃(k v:Nat),k<=a.length/\v<=1073741824/\wr.cell? ⟨w.heap.size,0,none⟩=some (.int .i64 v)/\wr.cell? ⟨w.heap.size+1,0,none⟩=some (.int .i64 0)/\wr.frozen? ⟨w.heap.size,0,none⟩=false/\wr.frozen? ⟨w.heap.size+1,0,none⟩=false/\wr.heap[w4.heap.size]?=some (.stringIter ⟨a.toArray⟩ k)/\Below w.heap.size w wr/\Hid (v=val (a.take k))) (fun _ wr=>a.length-wr.iterPos w4.heap.size)
 case atStart=>exact q421
 case round =>
  obtain⟨k,v,hk,hv,r0,r1,r2,r3,hit,hbr,HV⟩:=hrel;clear n0 n1' n2 n3;by_cases hlt:k<a.length
  ·exact q280
  ·have hk2:k=a.length:=oM;subst hk2;have hnx:∀ty,(Instr.next (.pointer (some ⟨w4.heap.size,0,none⟩)) true ty).run prog wr=.ok (.tuple #[.bool false]) wr:=fun ty=>qG wr _ a.length ⟨a.toArray⟩ ty hit q61
   have HV1:=Lh (show v=val a from q62);clear HV;go_wp2;obtain⟨pp,hpp⟩:=eX ((ByteArray.mk p.toArray)++(ByteArray.mk #[48,48,48,48,48]));rw[hpp];have hpl2:pp.data.toList=p++[48,48,48,48,48]:=by rw[<-hpp];simp
   have hps:p.length+5=pp.size:=q63;obtain⟨q4,hq4⟩:=eX (pp.extract 0 4);have hq4l:q4.data.toList=dE p:=q64;have hq4s:q4.size=4:=q65;rw[hq4];clear hpp hq4;obtain⟨W2,hW2⟩:=eX (wr.iter q4 0);have hlt4:=bGJ hit;have z0:W2.cell? ⟨w.heap.size,0,none⟩=some (.int .i64 v):=q66;have z1:W2.cell? ⟨w.heap.size+1,0,none⟩=some (.int .i64 0):=q67;have z2:W2.frozen? ⟨w.heap.size,0,none⟩=false:=q68;have z3:W2.frozen? ⟨w.heap.size+1,0,none⟩=false:=q69;have zb:Below w.heap.size w W2:=q70;have zi:W2.heap[wr.heap.size]?=some (.stringIter q4 0):=q71;have hit2:w.heap.size+2<=wr.heap.size:=oM;obtain⟨I2,hI2⟩:=eX (wr.heap.size);rw[hI2] at zi hit2;rw[hW2,hI2];have HQL:=Lh hq4l;have HQS:=Lh hq4s;have HPL:=Lh hpl2;clear hW2 hI2 hit hbr r0 r1 r2 r3 hlt4 hnx hq4l hq4s hpl2;go_loopw [11] (fun _ wq=>∃(k u:Nat),k<=4/\u<10737418250000/\Hid (u<1073741825*10 ^ k)/\wq.cell? ⟨w.heap.size,0,none⟩=some (.int .i64 u)/\wq.cell? ⟨w.heap.size+1,0,none⟩=some (.int .i64 0)/\wq.frozen? ⟨w.heap.size,0,none⟩=false/\wq.frozen? ⟨w.heap.size+1,0,none⟩=false/\wq.heap[I2]?=some (.stringIter q4 k)/\Below w.heap.size w wq/\Hid (u=val (a++(dE p).take k))) (fun _ wq=>4-wq.iterPos I2)
   case atStart=>exact q438
   case round =>
    obtain⟨k,u,hk,hu,HU,r0,r1,r2,r3,hit,hbr,HV⟩:=hrel;clear z0 z1 z2 z3 zi zb;by_cases hlt:k<4
    ·exact q278
    ·exact q281):p:=h
theorem q605(h:p:=by
 go_enter_defers func138,ntmps138
 by_cases hemp:(a++p).isEmpty=true
 ·exact q306
 ·cases hda:eW a
  ·exact q291
  ·cases hdp:eW p
   ·exact q290
   ·exact q562):p:=h
end
namespace Go.Proofs.YtdjpkgccakgkbaaGreatDoor
open Go.Proofs.Tryz
open Go.RowKit Fo
theorem kZ(s:ByteArray)(p:L)(b:Bool)(h:p.isPrefixOf s.data.toList=b)(w:World) :
 Calls prog 23 #[.string s,.string ⟨p.toArray⟩] w fun e w'=>e=.returned (.bool b)/\w'=w:=by
 have:=Tryz.strings_HasPrefix s ⟨p.toArray⟩ w;rw[show Lib.hasPrefix s.data.toList (ByteArray.mk p.toArray).data.toList=b from h] at this;exact this
theorem aOG(s:ByteArray)(hs:40<s.size)(hs2:s.size<=140737488355327)(w:World) :
 Calls prog 138 #[.string s] w fun e w'=>e=.returned (bAK (pH s.data.toList))/\Below w.heap.size w w':=by
 have HX:Hid (pH s.data.toList=.bad 3):=by
  show _=_;unfold pH;rw[bGV (show 40<s.data.toList.length from hs)]
 go_enter_defers func138,ntmps138
 go_wp2;refine bGW (f:=179) (args:=#[.pointer (some ⟨w.heap.size,0,none⟩),.pointer (some ⟨w.heap.size+1,0,none⟩)]) sI q39 ?_;refine(dH _ _ _).mono ?_;rintro e u' w'' ⟨rfl,rfl,rfl⟩;simp[Leaves,settle,results,results138,go_sem];exact⟨q28,bel⟩
def fP(w:World)(b:Nat)(s:ByteArray)(p:Nat):World:={ w with heap:=w.heap.setIfInBounds b (.stringIter s p) }
theorem aLU(w:World)(b pos:Nat)(s:ByteArray)(ty:TypeId)(h:w.heap[b]?=some (.stringIter s pos))(hp:pos<s.size)(ha:(s[pos]'hp).toNat<128) :
 (Instr.next (.pointer (some ⟨b,0,none⟩)) true ty).run prog w=.ok (.tuple #[.bool true,.int .i64 pos,.int .i32 (s[pos]'hp).toNat]) (fP w b s (pos+1)):=by
 simp only[Instr.next,getObj,setObj,Sem.run_bind,Sem.run,h,Result.andThen,hp,if_true,decode_ascii s pos hp ha];simp[goInt,Sem.run,h,fP]
theorem qG(w:World)(b pos:Nat)(s:ByteArray)(ty:TypeId)(h:w.heap[b]?=some (.stringIter s pos))(hp:¬pos<s.size) :
 (Instr.next (.pointer (some ⟨b,0,none⟩)) true ty).run prog w=.ok (.tuple #[.bool false]) w:=by
 simp[Instr.next,getObj,Sem.run,h,hp]
theorem lA(w:World)(b k:Nat)(s:ByteArray)(p:Nat)(hk:k≠b):(fP w b s p).heap[k]?=w.heap[k]?:=by
 unfold fP;simp only[Array.getElem?_setIfInBounds];rw[bGU oM]
theorem aAH(w:World)(b:Nat)(s:ByteArray)(p:Nat)(hb:b<w.heap.size):(fP w b s p).heap[b]?=some (.stringIter s p):=by
 unfold fP;simp[Array.getElem?_setIfInBounds,hb]
theorem qH(w:World)(b k o:Nat)(s:ByteArray)(p:Nat)(hk:k≠b):(fP w b s p).cell? ⟨k,o,none⟩=w.cell? ⟨k,o,none⟩:=bGO (lA w b k s p hk)
theorem nL(w:World)(b k o:Nat)(s:ByteArray)(p:Nat)(hk:k≠b):(fP w b s p).frozen? ⟨k,o,none⟩=w.frozen? ⟨k,o,none⟩:=World.frozen?_of_block (lA w b k s p hk)
theorem xM{B b:Nat}{a w:World}(h:Below B a w)(hB:B<=b)(s:ByteArray)(p:Nat):Below B a (fP w b s p) :=
 h.trans ⟨rfl,rfl,rfl,by simp[fP],fun k hk=>lA w b k s p oM⟩
theorem bFA(a p:L):((ByteArray.mk a.toArray)++(ByteArray.mk p.toArray)).toList.isEmpty=(a++p).isEmpty:=by
 rw[Lib.toList_data];simp
theorem uO{a p:L}(h:¬(a++p).isEmpty=true):((ByteArray.mk a.toArray)++(ByteArray.mk p.toArray)).toList.isEmpty=false:=by
 rw[bFA];simpa using h
theorem aUB{a p:L}(h:(a++p).isEmpty=true):((ByteArray.mk a.toArray)++(ByteArray.mk p.toArray)).toList.isEmpty=true:=by
 rw[bFA];exact h
theorem aDF(x:ByteArray)(t:L)(h:Lib.trimRightS x.data.toList [48]=t)(hx:x.size<=9223372036854775807)(w:World) :
 Calls prog 182 #[.string x,.string ⟨#[48]⟩] w fun e w'=>e=.returned (.string ⟨t.toArray⟩)/\Below w.heap.size w w':=by
 have:=Tryz.strings_TrimRight_cut x ⟨#[48]⟩ w hx dC (ascii_of_all dC);rw[show Lib.trimRightS x.data.toList (ByteArray.mk #[48]).data.toList=t from h] at this;exact this
theorem qI{l a p:L}{R:Res Int}(HR:(if(a++p).isEmpty then(.bad 3:Res Int) else if !eW a||!eW p then .bad 3
 else
  let m:=val (a++dE p)
  let m:=if(if iG l then gA (p.drop 4) else mF (p.drop 4)) then m+1 else m
  if 1073741824<m then .bad 2 else .good (if iG l then -(m:Int) else m))=R)
 (hemp:¬(a++p).isEmpty=true) (ha:eW a=true) (hp:eW p=true) (bl up:Bool) (hm:iG l=bl) (hup:(if bl then gA (p.drop 4) else mF (p.drop 4))=up) (u:Nat) (hu:u=val (a++dE p)) :
 R=if 1073741824<u+(if up then 1 else 0) then .bad 2 else .good (if bl then -((u+(if up then 1 else 0):Nat):Int) else((u+(if up then 1 else 0):Nat):Int)):=by
 rw[<-HR,bGU hemp,ha,hp,hm,<-hu];simp only[Bool.not_true,Bool.or_self,Bool.false_eq_true,if_false,hup];cases up<;>simp
theorem aOH(l:L):(([45]:L).isPrefixOf l=false->([43]:L).isPrefixOf l=false->aL l=l/\iG l=false) /\
 (([43]:L).isPrefixOf l=true->aL l=l.drop 1/\iG l=false/\1<=l.length)/\(([45]:L).isPrefixOf l=true->aL l=l.drop 1/\iG l=true/\1<=l.length):=by
 cases l with
 |nil=>simp[aL,iG]
 |cons c l =>
  refine⟨fun h1 h2=>?_,fun h=>?_,fun h=>?_⟩
  ·have a1:¬c=45:=by rintro rfl;simp at h1
   have a2:¬c=43:=by rintro rfl;simp at h2
   simp[aL,aR,iG,a1,a2]
  ·have:c=43:=by simp at h;exact h.symm
   subst this;simp[aL,aR,iG]
  ·have:c=45:=by simp at h;exact h.symm
   subst this;simp[aL,aR,iG]
theorem bAL(s:ByteArray)(hs:s.size<=40)(m:Int)(w:World)(hm:aF w m) :
 Calls prog 138 #[.string s] w fun e w'=>e=.returned (bAK (pH s.data.toList))/\Below w.heap.size w w':=by
 obtain⟨R,hR⟩:=eX (pH s.data.toList);rw[hR];unfold pH at hR;rw[bGU (Nat.not_lt.2 (show s.data.toList.length<=40 from hs))] at hR;obtain⟨a,ha⟩:=eX (eC (aL s.data.toList));obtain⟨p,hp⟩:=eX (bU (aL s.data.toList));rw[ha,hp] at hR;have hm2:aF ((w.alloc (.cells #[.int .i64 0] 2)).alloc (.cells #[.int .i64 0] 24)) m:=hm.below bel;have hu:(aL s.data.toList).length<=s.size:=by
  have:s.data.toList.length=s.size:=rfl;cases h:s.data.toList with
  |nil=>simp[aL]
  |cons c l=>rw[h] at this;simp only[aL];split<;>simp_all<;>omega
 have hal:a.length<=40:=by
  rw[<-ha];unfold eC;exact bGC (List.takeWhile_sublist _).length_le oM
 have hpl:p.length<=40:=by
  rw[<-hp];unfold bU;exact bGC (List.drop_sublist _ _).length_le (bGC (List.dropWhile_sublist _).length_le oM)
 have HR:=Lh hR;clear hR;have hpre:=aOH s.data.toList;cases h45:([45]:L).isPrefixOf s.data.toList
 ·cases h43:([43]:L).isPrefixOf s.data.toList
  ·obtain⟨hun,hmi⟩:=hpre.1 h45 h43;rw[hun] at ha hp;have HCa:=Lh ha;have HCp:=Lh hp;have HM:=Lh hmi;have H45:=Lh h45;have H43:=Lh h43;obtain⟨su,hsu⟩:∃su,su=s:=⟨_,rfl⟩
   subst hsu;have hsl:=Lh hs;clear ha hp hun hmi h45 h43 hu hpre;exact q605
  ·obtain⟨hun,hmi,hpos⟩:=hpre.2.1 h43;have hpos2:1<=s.size:=hpos;obtain⟨su,hsu⟩:=eX (s.extract 1 s.size);have hsl2:su.data.toList=s.data.toList.drop 1:=by rw[<-hsu];exact Lib.extract_to_end _ _
   rw[hun,<-hsl2] at ha hp;have HCa:=Lh ha;have HCp:=Lh hp;have HM:=Lh hmi;have H45:=Lh h45;have H43:=Lh h43;have hsl:=Lh (show su.size<=40 by
    have:su.size=su.data.toList.length:=rfl;rw[this,hsl2,bGS];have:s.data.toList.length=s.size:=rfl;omega)
   clear ha hp hun hmi h45 h43 hu hpre hsl2 hpos;exact q605
 ·obtain⟨hun,hmi,hpos⟩:=hpre.2.2 h45;have h43:([43]:L).isPrefixOf s.data.toList=false:=by
   cases h:s.data.toList with
   |nil=>rfl
   |cons c l=>rw[h] at h45;simp[List.isPrefixOf] at h45 ⊢;rintro rfl;simp at h45
  have hpos2:1<=s.size:=hpos;obtain⟨su,hsu⟩:=eX (s.extract 1 s.size);have hsl2:su.data.toList=s.data.toList.drop 1:=by rw[<-hsu];exact Lib.extract_to_end _ _
  rw[hun,<-hsl2] at ha hp;have HCa:=Lh ha;have HCp:=Lh hp;have HM:=Lh hmi;have H45:=Lh h45;have H43:=Lh h43;have hsl:=Lh (show su.size<=40 by
   have:su.size=su.data.toList.length:=rfl;rw[this,hsl2,bGS];have:s.data.toList.length=s.size:=rfl;omega)
  clear ha hp hun hmi h45 h43 hu hpre hsl2 hpos;go_enter_defers func138,ntmps138
  by_cases hemp:(a++p).isEmpty=true
  ·exact q306
  ·cases hda:eW a
   ·exact q291
   ·cases hdp:eW p
    ·exact q290
    ·have HA:=Lh hda;have HP:=Lh hdp;clear hda hdp;have hne:=uO hemp;go_wp2_with(first|(go_at_call 23;first|(refine(kZ _ [45] _ H45.out _).mono ?_;rintro e w' ⟨rfl,rfl⟩)|(refine(kZ _ [43] _ H43.out _).mono ?_;rintro e w' ⟨rfl,rfl⟩))|(go_at_call 180;refine(lN su a p HCa.out HCp.out hsl.out m _ hm2).mono ?_;rintro e w2 ⟨f,rfl,n1,rfl⟩))
     refine(gR a oM true HA.out _).mono ?_;rintro e w3 ⟨rfl,hb3⟩;obtain⟨hc3,hf3⟩:=aZ hb3;have hz3:w.heap.size+2<=w3.heap.size:=q41;go_wp2_with fail;refine(gR p oM true HP.out _).mono ?_;rintro e w4 ⟨rfl,hb4⟩;replace hb4:=hb3.trans (hb4.mono sO);obtain⟨hc4,hf4⟩:=aZ hb4;have hz4:w.heap.size+2<=w4.heap.size:=q46;clear hb3 hc3 hf3 hz3;go_wp2;have hbw:Below w.heap.size w w4:=q49;have n0:(w4.iter ⟨a.toArray⟩ 0).cell? ⟨w.heap.size,0,none⟩=some (.int .i64 0):=by
      exact q375
     have n1':(w4.iter ⟨a.toArray⟩ 0).cell? ⟨w.heap.size+1,0,none⟩=some (.int .i64 0):=by
      exact q375
     have n2:(w4.iter ⟨a.toArray⟩ 0).frozen? ⟨w.heap.size,0,none⟩=false:=by
      exact q372
     have n3:(w4.iter ⟨a.toArray⟩ 0).frozen? ⟨w.heap.size+1,0,none⟩=false:=by
      exact q372
     go_loopw [9] (fun _ wr=>∃(k v:Nat),k<=a.length/\v<=1073741824/\wr.cell? ⟨w.heap.size,0,none⟩=some (.int .i64 v)/\wr.cell? ⟨w.heap.size+1,0,none⟩=some (.int .i64 0)/\wr.frozen? ⟨w.heap.size,0,none⟩=false/\wr.frozen? ⟨w.heap.size+1,0,none⟩=false/\wr.heap[w4.heap.size]?=some (.stringIter ⟨a.toArray⟩ k)/\Below w.heap.size w wr/\Hid (v=val (a.take k))) (fun _ wr=>a.length-wr.iterPos w4.heap.size)
     case atStart=>exact q421
     case round =>
      obtain⟨k,v,hk,hv,r0,r1,r2,r3,hit,hbr,HV⟩:=hrel;clear n0 n1' n2 n3;by_cases hlt:k<a.length
      ·exact q280
      ·have hk2:k=a.length:=oM;subst hk2;have hnx:∀ty,(Instr.next (.pointer (some ⟨w4.heap.size,0,none⟩)) true ty).run prog wr=.ok (.tuple #[.bool false]) wr:=fun ty=>qG wr _ a.length ⟨a.toArray⟩ ty hit q61
       have HV1:=Lh (show v=val a from q62);clear HV;go_wp2;obtain⟨pp,hpp⟩:=eX ((ByteArray.mk p.toArray)++(ByteArray.mk #[48,48,48,48,48]));rw[hpp];have hpl2:pp.data.toList=p++[48,48,48,48,48]:=by rw[<-hpp];simp
       have hps:p.length+5=pp.size:=q63;obtain⟨q4,hq4⟩:=eX (pp.extract 0 4);have hq4l:q4.data.toList=dE p:=q64;have hq4s:q4.size=4:=q65;rw[hq4];clear hpp hq4;obtain⟨W2,hW2⟩:=eX (wr.iter q4 0);have hlt4:=bGJ hit;have z0:W2.cell? ⟨w.heap.size,0,none⟩=some (.int .i64 v):=q66;have z1:W2.cell? ⟨w.heap.size+1,0,none⟩=some (.int .i64 0):=q67;have z2:W2.frozen? ⟨w.heap.size,0,none⟩=false:=q68;have z3:W2.frozen? ⟨w.heap.size+1,0,none⟩=false:=q69;have zb:Below w.heap.size w W2:=q70;have zi:W2.heap[wr.heap.size]?=some (.stringIter q4 0):=q71;have hit2:w.heap.size+2<=wr.heap.size:=oM;obtain⟨I2,hI2⟩:=eX (wr.heap.size);rw[hI2] at zi hit2;rw[hW2,hI2];have HQL:=Lh hq4l;have HQS:=Lh hq4s;have HPL:=Lh hpl2;clear hW2 hI2 hit hbr r0 r1 r2 r3 hlt4 hnx hq4l hq4s hpl2;go_loopw [11] (fun _ wq=>∃(k u:Nat),k<=4/\u<10737418250000/\Hid (u<1073741825*10 ^ k)/\wq.cell? ⟨w.heap.size,0,none⟩=some (.int .i64 u)/\wq.cell? ⟨w.heap.size+1,0,none⟩=some (.int .i64 0)/\wq.frozen? ⟨w.heap.size,0,none⟩=false/\wq.frozen? ⟨w.heap.size+1,0,none⟩=false/\wq.heap[I2]?=some (.stringIter q4 k)/\Below w.heap.size w wq/\Hid (u=val (a++(dE p).take k))) (fun _ wq=>4-wq.iterPos I2)
       case atStart=>exact q438
       case round =>
        obtain⟨k,u,hk,hu,HU,r0,r1,r2,r3,hit,hbr,HV⟩:=hrel;clear z0 z1 z2 z3 zi zb;by_cases hlt:k<4
        ·exact q278
        ·have hk2:k=4:=oM;subst hk2;have hnx:∀ty,(Instr.next (.pointer (some ⟨I2,0,none⟩)) true ty).run prog wr=.ok (.tuple #[.bool false]) wr:=fun ty=>qG wr _ 4 q4 ty hit q72
         have HV1:=Lh (show u=val (a++dE p) from q77);have hb0:w.heap.size<wr.heap.size:=q78;have hb1:w.heap.size+1<wr.heap.size:=q78;clear HV HU;go_wp2_with fail;refine(aDF _ (aP p) q79 sO _).mono ?_;rintro e w5 ⟨rfl,hb5⟩;obtain⟨hc5,hf5⟩:=aZ hb5;have hbw5:Below w.heap.size w w5:=hbr.trans (hb5.mono oM);have q0:w5.cell? ⟨w.heap.size,0,none⟩=some (.int .i64 u):=(hc5 _ _ hb0).trans r0;have q1:w5.cell? ⟨w.heap.size+1,0,none⟩=some (.int .i64 0):=(hc5 _ _ hb1).trans r1;have q2:w5.frozen? ⟨w.heap.size,0,none⟩=false:=(hf5 _ _ hb0).trans r2;have q3:w5.frozen? ⟨w.heap.size+1,0,none⟩=false:=(hf5 _ _ hb1).trans r3;have hs0:w.heap.size<w5.heap.size:=q80;have hs1:w.heap.size+1<w5.heap.size:=q80;clear r0 r1 r2 r3 hc5 hf5 hb5 hit hbr hnx;cases hup:(!(Op.bytesLess (aP p) [53]||aP p==[53]))
         ·have HRV:=Lh (qI HR.out hemp HA.out HP.out true false HM.out ((aUA p HP.out).symm.trans hup) u HV1.out);by_cases hbig:1073741824<u+(0:Nat)
          ·have HX:=Lh (show R=.bad 2 from q81);go_wp2_with fail;refine(kC w5.heap.size (-(u:Int)) _ q39 oM oM oM).mono ?_;rintro e w6 ⟨rfl,rfl⟩;go_wp2;refine bGW (f:=179) (args:=#[.pointer (some ⟨w.heap.size,0,none⟩),.pointer (some ⟨w.heap.size+1,0,none⟩)]) sI q39 ?_;refine(kB _ _ _ _ _ (-(u:Int)) 0 q83 q83 q83 q83 sI).mono ?_;exact q311
          ·have HX:=Lh (show R=.good (-(u:Int)) from q85);go_wp2_with fail;refine(iT w5.heap.size (-(u:Int)) _ q39 oM oM).mono ?_;rintro e w6 ⟨rfl,rfl⟩;go_wp2;refine bGW (f:=179) (args:=#[.pointer (some ⟨w.heap.size,0,none⟩),.pointer (some ⟨w.heap.size+1,0,none⟩)]) sI q39 ?_;refine(dH _ _ _).mono ?_;exact q311
         ·have HRV:=Lh (qI HR.out hemp HA.out HP.out true true HM.out ((aUA p HP.out).symm.trans hup) u HV1.out);by_cases hbig:1073741824<u+(1:Nat)
          ·have HX:=Lh (show R=.bad 2 from q81);go_wp2_with fail;refine(kC w5.heap.size (-((u:Int)+1)) _ q39 oM oM oM).mono ?_;rintro e w6 ⟨rfl,rfl⟩;have k0:((w5.setCell ⟨w.heap.size,0,none⟩ (.int .i64 ((u:Int)+1))).setCell ⟨w.heap.size,0,none⟩ (.int .i64 (-((u:Int)+1)))).cell? ⟨w.heap.size,0,none⟩=some (.int .i64 (-((u:Int)+1))):=by simp[go_sem,q0]
           go_wp2;refine bGW (f:=179) (args:=#[.pointer (some ⟨w.heap.size,0,none⟩),.pointer (some ⟨w.heap.size+1,0,none⟩)]) sI q39 ?_;refine(kB _ _ _ _ _ (-((u:Int)+1)) 0 q83 q83 q83 q83 sI).mono ?_;exact q433
          ·have HX:=Lh (show R=.good (-((u:Int)+1)) from q85);go_wp2_with fail;refine(iT w5.heap.size (-((u:Int)+1)) _ q39 oM oM).mono ?_;rintro e w6 ⟨rfl,rfl⟩;have k0:((w5.setCell ⟨w.heap.size,0,none⟩ (.int .i64 ((u:Int)+1))).setCell ⟨w.heap.size,0,none⟩ (.int .i64 (-((u:Int)+1)))).cell? ⟨w.heap.size,0,none⟩=some (.int .i64 (-((u:Int)+1))):=by simp[go_sem,q0]
           go_wp2;refine bGW (f:=179) (args:=#[.pointer (some ⟨w.heap.size,0,none⟩),.pointer (some ⟨w.heap.size+1,0,none⟩)]) sI q39 ?_;refine(dH _ _ _).mono ?_;exact q433
end Go.Proofs.YtdjpkgccakgkbaaGreatDoor
