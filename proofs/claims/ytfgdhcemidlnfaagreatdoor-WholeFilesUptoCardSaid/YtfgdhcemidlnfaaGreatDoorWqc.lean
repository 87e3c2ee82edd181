/- Parts of the proof: GPlB. -/
import Derived.Test.YtfgdhcemidlnfaaGreatDoorWqa
set_option linter.all false
set_option maxRecDepth 100000
set_option maxHeartbeats 8000000
namespace Fo
structure It where
 num : Int
 gen : Int
 ob : Ob
structure Dc where
 items : List It
 trail : Ob
structure Sl where
 num : Int
 kind : Int
 a : Int
 b : Int
deriving DecidableEq
def wType : L:=[84,121,112,101]
def wObjStm : L:=[79,98,106,83,116,109]
def wXRef : L:=[88,82,101,102]
def wRoot : L:=[82,111,111,116]
def wInfo : L:=[73,110,102,111]
def wID : L:=[73,68]
def wSize : L:=[83,105,122,101]
def idxS : List L → L → Option Nat
 | [],_ => none
 | x :: l,k => if x = k then some 0 else (idxS l k).map (· + 1)
def dictB (o : Ob) : Bool:=o.kind == 7 || o.kind == 9
def getO (o : Ob) (k : L) : Option Ob:=if dictB o then (match idxS o.keys k with | none => none | some i => o.kids[i]?) else none
def lowS : List L → L → Nat
 | [],_ => 0
 | x :: l,k => if x < k then lowS l k + 1 else 0
def Ob.withK (o : Ob) (ks : List L) (cs : List Ob) : Ob:=.mk o.kind o.n o.g o.s ks cs
def putO (o : Ob) (k : L) (v : Ob) : Ob :=
 let i:=lowS o.keys k
 let j:=if o.keys[i]? = some k then i + 1 else i
 o.withK (o.keys.take i ++ k :: o.keys.drop j) (o.kids.take i ++ v :: o.kids.drop j)
def setO (o : Ob) (k : L) (v : Ob) : Res Ob :=
 if !dictB o then .bad 10
 else if checkB 24 o ≠ 0 then .bad (checkB 24 o)
 else if checkB 24 (putO o k v) ≠ 0 then .bad (checkB 24 (putO o k v))
 else .good (putO o k v)
def holdB (o : Ob) : Bool:=o.kind == 9 && (match getO o wType with | some t => t.kind == 5 && (t.s == wObjStm || t.s == wXRef) | none => false)
def numsB (i : It) : Bool:=decide (1 ≤ i.num) && decide (i.num ≤ 8191) && decide (0 ≤ i.gen) && decide (i.gen ≤ 65535)
def contB (o : Ob) : Int:=if checkB 24 o ≠ 0 then checkB 24 o else if o.kind = 8 ∨ holdB o then 10 else 0
def notUp (p : Option Int) (n : Int) : Bool:=match p with | some q => decide (n ≤ q) | none => false
def itemsB : Option Int → List It → Int
 | _,[] => 0
 | p,i :: l => if !numsB i then 2 else if notUp p i.num then 9 else if contB i.ob ≠ 0 then contB i.ob else itemsB (some i.num) l
def followO (l : List It) (o : Ob) : Ob :=
 if o.kind ≠ 8 then o else match l.find? (fun i => i.num == o.n) with
   | none => .zero
   | some i => if i.gen = o.g then i.ob else .zero
def trailB (l : List It) (t : Ob) : Int :=
 if checkB 24 t ≠ 0 then checkB 24 t
 else if t.kind ≠ 7 then 10
 else if !(t.keys.all fun k => k == wID || k == wInfo || k == wRoot) then 3
 else if ((getO t wRoot).getD .zero).kind ≠ 8 ∨ (followO l ((getO t wRoot).getD .zero)).kind ≠ 7 then 22
 else 0
def docB (d : Dc) : Int:=if itemsB none d.items ≠ 0 then itemsB none d.items else trailB d.items d.trail
def escW (c : UInt8) : L:=if decide (32 < c) && decide (c ≤ 126) && c != 35 && !delim c then [c] else [35,hexD (c.toNat / 16),hexD (c.toNat % 16)]
def nameW (s : L) : L:=47 :: s.flatMap escW
def strC (c : UInt8) : L :=
 if c == 40 || c == 41 || c == 92 then [92,c]
 else if decide (c < 32) || decide (126 < c) then [92,48 + c / 64,48 + c / 8 % 8,48 + c % 8]
 else [c]
def strW (s : L) : L:=40 :: (s.flatMap strC ++ [41])
def leafW (o : Ob) : List L :=
 if o.kind = 1 then [if o.n = 1 then wTrue else wFalse]
 else if o.kind = 2 then [digI o.n]
 else if o.kind = 3 then [realT o.n]
 else if o.kind = 4 then [strW o.s]
 else if o.kind = 5 then [nameW o.s]
 else if o.kind = 8 then [digI o.n,digI o.g,[82]]
 else [wNull]
def toksW : Nat → Ob → List L
 | 0,_ => []
 | d + 1,o =>
   if o.kind = 6 then [91] :: (o.kids.flatMap (toksW d) ++ [[93]])
   else if o.kind = 7 then [60,60] :: ((o.keys.zip o.kids).flatMap (fun p => nameW p.1 :: toksW d p.2) ++ [[62,62]])
   else leafW o
def joinW : UInt8 → List L → L
 | _,[] => []
 | c,[] :: l => joinW c l
 | c,(x :: p) :: l => (if (regular c || c == 47) && regular x then [32] else []) ++ (x :: p) ++ joinW ((x :: p).getLast (by simp)) l
def textW (o : Ob) : L:=joinW 32 (toksW 24 o)
def writeW (o : Ob) : Res L:=if checkB 24 o ≠ 0 then .bad (checkB 24 o) else if o.kind = 9 then .bad 10 else .good (textW o)
def wObjL : L:=[32,111,98,106,10]
def wEndobj : L:=[101,110,100,111,98,106,10]
def wStream : L:=[115,116,114,101,97,109,10]
def wEndstream : L:=[10,101,110,100,115,116,114,101,97,109,10]
def headI (i : It) : L:=digI i.num ++ 32 :: (digI i.gen ++ wObjL)
def itemW (i : It) : Res L :=
 if !numsB i then .bad 2
 else if checkB 24 i.ob ≠ 0 then .bad (checkB 24 i.ob)
 else if i.ob.kind = 8 then .bad 10
 else if i.ob.kind = 9 then
   match setO (.mk 7 0 0 [] i.ob.keys i.ob.kids) wLength (.int i.ob.s.length) with
   | .bad k => .bad k
   | .good d => .good (headI i ++ (textW d ++ 10 :: (wStream ++ (i.ob.s ++ (wEndstream ++ wEndobj)))))
 else .good (headI i ++ (textW i.ob ++ 10 :: wEndobj))
def headW : L:=[37,80,68,70,45,49,46,55,10,37,226,227,207,211,10]
def partsW : L → List It → Res (L × List Sl)
 | s,[] => .good (s,[])
 | s,i :: l =>
   match itemW i with
   | .bad k => .bad k
   | .good t =>
     match partsW (s ++ t) l with
     | .bad k => .bad k
     | .good (r,ps) => .good (r,⟨i.num,1,s.length,i.gen⟩ :: ps)
def freeA (ps : List Sl) (most n : Nat) : Nat:=((List.range' (n + 1) (most - n)).find? fun (k : Nat) => ps.all fun x => x.num != (k : Int)).getD 0
def slotW (ps : List Sl) (most n : Nat) : Sl :=
 match ps.find? (fun x => x.num == (n : Int)) with
 | some x => x
 | none => ⟨n,0,freeA ps most n,if n = 0 then 65535 else 0⟩
def slotsW (ps : List Sl) (most : Nat) : List Sl:=(List.range (most + 1)).map (slotW ps most)
def padW (w n : Nat) : L:=List.replicate (w - (digU n).length) 48 ++ digU n
def rowW (x : Sl) : L:=padW 10 x.a.toNat ++ 32 :: (padW 5 x.b.toNat ++ [32,if x.kind = 1 then 110 else 102,32,10])
def wXref : L:=[120,114,101,102,10]
def wTrailer : L:=[116,114,97,105,108,101,114,10]
def tableW (l : List Sl) (t : Ob) : L:=wXref ++ (48 :: 32 :: (digU l.length ++ 10 :: (l.flatMap rowW ++ (wTrailer ++ (textW t ++ [10])))))
def wStart : L:=[115,116,97,114,116,120,114,101,102,10]
def wEof : L:=[10,37,37,69,79,70,10]
def tailW (n : Nat) : L:=wStart ++ (digU n ++ wEof)
def mostW (l : List It) : Nat:=match l.getLast? with | none => 0 | some i => i.num.toNat
def sizeT (d : Dc) : Ob:=putO d.trail wSize (.int (mostW d.items + 1))
def fileW (d : Dc) : Res (L × List Sl) :=
 if docB d ≠ 0 then .bad (docB d) else match partsW headW d.items with
   | .bad k => .bad k
   | .good (s,ps) =>
     let l:=slotsW ps (mostW d.items)
     let f:=s ++ (tableW l (sizeT d) ++ tailW s.length)
     if 1048576 < f.length then .bad 5 else .good (f,l)
theorem getD_lt {α : Type} {l : List α} (d : α) {i : Nat} (h : i < l.length) : l.getD i d = l[i]:=by rw [List.getD_eq_getElem?_getD,List.getElem?_eq_getElem h];rfl
theorem lowS_le : ∀ (l : List L) (k : L),lowS l k ≤ l.length
 | [],_ => Nat.le_refl _
 | x :: l,k => by unfold lowS;have:=lowS_le l k;split <;> simp <;> omega
theorem lowS_of : ∀ (l : List L) (k : L) (i : Nat),i ≤ l.length → (∀ j (h : j < l.length),j < i → l[j] < k) → (∀ h : i < l.length,¬ l[i] < k) → lowS l k = i
 | [],_,i,h,_,_ => by simp at h;subst h;rfl
 | x :: l,k,0,_,_,h2 => by
   unfold lowS
   rw [if_neg (show ¬ x < k from h2 (by simp))]
 | x :: l,k,i + 1,h,h1,h2 => by
   unfold lowS
   have hx : x < k:=h1 0 (by simp) (by omega)
   rw [if_pos hx,lowS_of l k i (by simpa using h) (fun j hj hi => h1 (j + 1) (by simpa using hj) (by omega)) (fun hi => h2 (by simpa using hi))]
theorem idxS_none : ∀ {l : List L} {k : L},(∀ j (h : j < l.length),l[j] ≠ k) → idxS l k = none
 | [],_,_ => rfl
 | x :: l,k,h => by
   unfold idxS
   rw [if_neg (show ¬ x = k from h 0 (by simp)),idxS_none (fun j hj => h (j + 1) (by simpa using hj))];rfl
theorem idxS_some : ∀ {l : List L} {k : L} {i : Nat} (h : i < l.length),l[i] = k → (∀ j (hj : j < l.length),j < i → l[j] ≠ k) → idxS l k = some i
 | x :: l,k,0,_,h1,_ => by unfold idxS;rw [if_pos (by simpa using h1)]
 | x :: l,k,i + 1,h,h1,h2 => by
   unfold idxS
   rw [if_neg (show ¬ x = k from h2 0 (by simp) (by omega)),idxS_some (l:=l) (i:=i) (by simpa using h) (by simpa using h1) (fun j hj hi => h2 (j + 1) (by simpa using hj) (by omega))];rfl
theorem idxS_spec : ∀ {l : List L} {k : L} {i : Nat},idxS l k = some i → ∃ h : i < l.length,l[i] = k
 | [],_,_,h => by cases h
 | x :: l,k,i,h => by
   unfold idxS at h
   by_cases hx : x = k
   · rw [if_pos hx] at h;cases h;exact ⟨by simp,hx⟩
   · rw [if_neg hx] at h
     cases hl : idxS l k with
     | none => rw [hl] at h;cases h
     | some j =>
       rw [hl] at h
       simp at h
       subst h
       obtain ⟨h1,h2⟩:=idxS_spec hl
       exact ⟨by simpa using h1,by simpa using h2⟩
theorem wkeys_up {ks : List L} (h : ∀ i,i + 1 < ks.length → ks.getD i [] < ks.getD (i + 1) []) : ks.Pairwise (· < ·):=by
 induction ks with
 | nil => exact .nil
 | cons x ks ih =>
   have ht : ks.Pairwise (· < ·):=ih (fun i hi => by have:=h (i + 1) (by simp;omega);simpa using this)
   refine List.pairwise_cons.2 ⟨?_,ht⟩
   cases ks with
   | nil => simp
   | cons y ks =>
     have hxy : x < y:=by have:=h 0 (by simp);simpa using this
     intro z hz
     rcases List.mem_cons.1 hz with rfl | hz
     · exact hxy
     · exact List.lt_trans hxy ((List.pairwise_cons.1 ht).1 z hz)
structure KeysOk (o : Ob) : Prop where
 len : o.keys.length = o.kids.length
 name : ∀ k ∈ o.keys,nameB k = true
 up : o.keys.Pairwise (· < ·)
 own : o.kind = 9 → ∀ k ∈ o.keys,k ≠ wLength
 kids : ∀ x ∈ o.kids,x.kind ≠ 0
theorem keysB_iff (o : Ob) (h : o.kind = 7 ∨ o.kind = 9) : keysB o = true ↔ KeysOk o:=by
 have e : keysB o = (o.keys.length == o.kids.length && (List.range o.keys.length).all (keyAt o)):=by
   unfold keysB
   rw [if_neg (by omega),if_neg (by omega)]
 rw [e]
 simp only [Bool.and_eq_true,beq_iff_eq,List.all_eq_true,List.mem_range]
 constructor
 · rintro ⟨hl,hk⟩
   have hk' : ∀ i (hi : i < o.keys.length),nameB o.keys[i] = true ∧ (i = 0 ∨ o.keys.getD (i - 1) [] < o.keys[i]) ∧ ¬ (o.keys[i] = wLength ∧ o.kind = 9) ∧ (o.kids[i]'(by omega)).kind ≠ 0:=by
     intro i hi
     have:=hk i hi
     unfold keyAt at this
     simp only [Bool.and_eq_true,Bool.or_eq_true,beq_iff_eq,decide_eq_true_eq,bne_iff_ne,ne_eq,Bool.not_eq_true',Bool.and_eq_false_iff,beq_eq_false_iff_ne] at this
     rw [getD_lt _ hi,getD_lt _ (show i < o.kids.length by omega)] at this
     obtain ⟨⟨⟨h1,h2⟩,h3⟩,h4⟩:=this
     exact ⟨h1,h2,fun hh => by rcases h3 with h3 | h3 <;> simp_all,h4⟩
   refine ⟨hl,fun k hkm => ?_,wkeys_up fun i hi => ?_,fun h9 k hkm => ?_,fun x hx => ?_⟩
   · obtain ⟨i,hi,rfl⟩:=List.mem_iff_getElem.1 hkm
     exact (hk' i hi).1
   · rcases (hk' (i + 1) hi).2.1 with h0 | h0
     · cases h0
     · rw [getD_lt _ hi];simpa using h0
   · obtain ⟨i,hi,rfl⟩:=List.mem_iff_getElem.1 hkm
     exact fun he => (hk' i hi).2.2.1 ⟨he,h9⟩
   · obtain ⟨i,hi,rfl⟩:=List.mem_iff_getElem.1 hx
     exact (hk' i (by omega)).2.2.2
 · rintro ⟨hl,hn,hu,ho,hk⟩
   refine ⟨hl,fun i hi => ?_⟩
   unfold keyAt
   rw [getD_lt _ hi,getD_lt _ (show i < o.kids.length by omega)]
   simp only [Bool.and_eq_true,Bool.or_eq_true,beq_iff_eq,decide_eq_true_eq,bne_iff_ne,ne_eq,Bool.not_eq_true',Bool.and_eq_false_iff,beq_eq_false_iff_ne]
   refine ⟨⟨⟨hn _ (List.getElem_mem _),?_⟩,?_⟩,hk _ (List.getElem_mem _)⟩
   · cases i with
     | zero => exact .inl rfl
     | succ i =>
       right
       rw [getD_lt _ (show i + 1 - 1 < o.keys.length by omega)]
       exact (List.pairwise_iff_getElem.1 hu) i (i + 1) (by omega) hi (by omega)
   · by_cases h9 : o.kind = 9
     · exact .inl (ho h9 _ (List.getElem_mem _))
     · exact .inr h9
theorem lowS_lt : ∀ (l : List L) (k : L),∀ x ∈ l.take (lowS l k),x < k
 | [],_,x,h => by simp at h
 | y :: l,k,x,h => by
   unfold lowS at h
   by_cases hy : y < k
   · rw [if_pos hy,List.take_succ_cons] at h
     rcases List.mem_cons.1 h with rfl | h
     · exact hy
     · exact lowS_lt l k x h
   · rw [if_neg hy] at h;simp at h
theorem lowS_ge : ∀ (l : List L) (k : L),l.Pairwise (· < ·) → ∀ x ∈ l.drop (lowS l k),¬ x < k
 | [],_,_,x,h => by simp at h
 | y :: l,k,hp,x,h => by
   unfold lowS at h
   by_cases hy : y < k
   · rw [if_pos hy,List.drop_succ_cons] at h
     exact lowS_ge l k (List.pairwise_cons.1 hp).2 x h
   · rw [if_neg hy,List.drop_zero] at h
     rcases List.mem_cons.1 h with rfl | h
     · exact hy
     · exact fun hx => hy (List.lt_trans ((List.pairwise_cons.1 hp).1 x h) hx)
theorem put_new {o : Ob} {k : L} (v : Ob) (hk : k ∉ o.keys) : putO o k v = o.withK (o.keys.take (lowS o.keys k) ++ k :: o.keys.drop (lowS o.keys k)) (o.kids.take (lowS o.keys k) ++ v :: o.kids.drop (lowS o.keys k)):=by
 unfold putO
 dsimp only
 rw [if_neg (fun h => hk (List.mem_of_getElem? h))]
theorem lt_of_not {x k : L} (h : ¬ x < k) (hne : x ≠ k) : k < x:=Classical.byContradiction fun hn => hne (List.le_antisymm hn h)
theorem KeysOk.put {o : Ob} {k : L} {v : Ob} (h : KeysOk o) (hk : k ∉ o.keys) (hn : nameB k = true) (hv : v.kind ≠ 0) (h9 : o.kind = 9 → k ≠ wLength) : KeysOk (putO o k v):=by
 rw [put_new v hk]
 have hl:=lowS_le o.keys k
 refine ⟨?_,?_,?_,?_,?_⟩
 · simp only [Ob.withK,Ob.keys,Ob.kids,List.length_append,List.length_cons,List.length_take,List.length_drop]
   have:=h.len
   simp only [Ob.keys,Ob.kids] at this hl
   omega
 · intro x hx
   simp only [Ob.withK,Ob.keys,List.mem_append,List.mem_cons] at hx
   rcases hx with hx | rfl | hx
   · exact h.name x (List.mem_of_mem_take hx)
   · exact hn
   · exact h.name x (List.mem_of_mem_drop hx)
 · show ((o.keys.take (lowS o.keys k) ++ k :: o.keys.drop (lowS o.keys k))).Pairwise (· < ·)
   have hup:=h.up
   rw [← List.take_append_drop (lowS o.keys k) o.keys] at hup
   rw [List.pairwise_append] at hup ⊢
   obtain ⟨a1,a2,a3⟩:=hup
   have hg : ∀ x ∈ o.keys.drop (lowS o.keys k),k < x:=fun x hx => lt_of_not (lowS_ge _ _ h.up x hx) (fun e => hk (e ▸ List.mem_of_mem_drop hx))
   refine ⟨a1,List.pairwise_cons.2 ⟨hg,a2⟩,fun x hx y hy => ?_⟩
   rcases List.mem_cons.1 hy with rfl | hy
   · exact lowS_lt _ _ x hx
   · exact a3 x hx y hy
 · intro hh x hx
   simp only [Ob.withK,Ob.kind] at hh
   simp only [Ob.withK,Ob.keys,List.mem_append,List.mem_cons] at hx
   rcases hx with hx | rfl | hx
   · exact h.own hh x (List.mem_of_mem_take hx)
   · exact h9 hh
   · exact h.own hh x (List.mem_of_mem_drop hx)
 · intro x hx
   simp only [Ob.withK,Ob.kids,List.mem_append,List.mem_cons] at hx
   rcases hx with hx | rfl | hx
   · exact h.kids x (List.mem_of_mem_take hx)
   · exact hv
   · exact h.kids x (List.mem_of_mem_drop hx)
structure ChkOk (n : Nat) (o : Ob) : Prop where
 uses : usesB o = true
 top : o.kind = 9 → n = 23
 fits : fitsB o = true
 short : o.s.length ≤ longB o.kind
 many : o.kids.length ≤ 8191
 keys : keysB o = true
 kids : ∀ x ∈ o.kids,checkB n x = 0
theorem firstBad_zero_iff {l : List Int} : firstBad l = 0 ↔ ∀ x ∈ l,x = 0:=by
 constructor
 · intro h x hx
   unfold firstBad at h
   cases hf : l.find? (· != 0) with
   | none => exact Classical.byContradiction fun hn => by have:=List.find?_eq_none.1 hf x hx;simp [hn] at this
   | some y =>
     rw [hf] at h
     have:=List.find?_some hf
     simp at h this;exact absurd h this
 · exact firstBad_zero
theorem checkB_iff (n : Nat) (o : Ob) : checkB (n + 1) o = 0 ↔ ChkOk n o:=by
 constructor
 · intro h
   unfold checkB at h
   by_cases h1 : (!usesB o || (o.kind == 9 && n != 23)) = true
   · rw [if_pos h1] at h;cases h
   rw [if_neg h1] at h
   by_cases h2 : (!fitsB o) = true
   · rw [if_pos h2] at h;cases h
   rw [if_neg h2] at h
   by_cases h3 : longB o.kind < o.s.length
   · rw [if_pos h3] at h;cases h
   rw [if_neg h3] at h
   by_cases h4 : 8191 < o.kids.length
   · rw [if_pos h4] at h;cases h
   rw [if_neg h4] at h
   by_cases h5 : (!keysB o) = true
   · rw [if_pos h5] at h;cases h
   rw [if_neg h5] at h
   have h6:=firstBad_zero_iff.1 h
   simp only [Bool.or_eq_true,Bool.not_eq_true',Bool.and_eq_true,beq_iff_eq,bne_iff_ne,ne_eq,not_or,not_and,Decidable.not_not,Bool.not_eq_false] at h1 h2 h5
   exact ⟨h1.1,h1.2,h2,by omega,by omega,h5,fun x hx => h6 _ (List.mem_map_of_mem hx)⟩
 · rintro ⟨h1,h2,h3,h4,h5,h6,h7⟩
   unfold checkB
   rw [if_neg (by simp only [Bool.or_eq_true,Bool.not_eq_true',Bool.and_eq_true,beq_iff_eq,bne_iff_ne,ne_eq,not_or,not_and,Decidable.not_not,Bool.not_eq_false];exact ⟨h1,h2⟩),if_neg (by simp [h3]),if_neg (by omega),if_neg (by omega),if_neg (by simp [h6])]
   exact firstBad_zero_iff.2 fun x hx => by obtain ⟨y,hy,rfl⟩:=List.mem_map.1 hx;exact h7 y hy
theorem checkB_put {n : Nat} {o : Ob} {k : L} {v : Ob} (hd : o.kind = 7 ∨ o.kind = 9) (h : checkB (n + 1) o = 0) (hk : k ∉ o.keys) (hn : nameB k = true) (hv : v.kind ≠ 0) (hvc : checkB n v = 0) (h9 : o.kind = 9 → k ≠ wLength) (hm : o.kids.length < 8191) :
   checkB (n + 1) (putO o k v) = 0:=by
 obtain ⟨h1,h2,h3,h4,h5,h6,h7⟩:=(checkB_iff n o).1 h
 have hK:=((keysB_iff o hd).1 h6).put (v:=v) hk hn hv h9
 have hK2:=(keysB_iff (putO o k v) (by rw [put_new v hk];simpa [Ob.withK,Ob.kind] using hd)).2 hK
 refine (checkB_iff n _).2 ?_
 rw [put_new v hk] at hK2 ⊢
 have hl:=lowS_le o.keys k
 obtain ⟨kd,n0,g0,s0,ks,cs⟩:=o
 refine ⟨?_,h2,h3,h4,?_,hK2,?_⟩
 · rcases hd with hd | hd
   · obtain rfl : kd = 7:=hd
     simpa [Ob.withK,usesB,zeroB,Ob.kind,Ob.n,Ob.g,Ob.s] using h1
   · obtain rfl : kd = 9:=hd
     simpa [Ob.withK,usesB,zeroB,Ob.kind,Ob.n,Ob.g,Ob.s] using h1
 · simp only [Ob.withK,Ob.kids,List.length_append,List.length_cons,List.length_take,List.length_drop]
   simp only [Ob.kids] at hm
   omega
 · intro x hx
   simp only [Ob.withK,Ob.kids,List.mem_append,List.mem_cons] at hx
   rcases hx with hx | rfl | hx
   · exact h7 x (List.mem_of_mem_take hx)
   · exact hvc
   · exact h7 x (List.mem_of_mem_drop hx)
theorem chk_int {m : Int} (h1 : -2147483647 ≤ m) (h2 : m ≤ 2147483647) (n : Nat) : checkB (n + 1) (.int m) = 0:=by
 refine (checkB_iff n _).2 ⟨by simp [usesB,Ob.int,Ob.kind,zeroB,Ob.n,Ob.g,Ob.s,Ob.keys,Ob.kids],by simp [Ob.int,Ob.kind],?_,by simp [Ob.int,Ob.s],by simp [Ob.int,Ob.kids],by simp [keysB,Ob.int,Ob.kind],by simp [Ob.int,Ob.kids]⟩
 simp [fitsB,Ob.int,Ob.kind,Ob.n,h1,h2]
theorem short3 {ks : List L} (hp : ks.Pairwise (· < ·)) (h : ∀ k ∈ ks,k = wID ∨ k = wInfo ∨ k = wRoot) : ks.length ≤ 3:=by
 match ks,hp,h with
 | [],_,_ => simp
 | [_],_,_ => simp
 | [_,_],_,_ => simp
 | [_,_,_],_,_ => simp
 | a :: b :: c :: d :: l,hp,h =>
   exfalso
   simp only [List.pairwise_cons,List.mem_cons] at hp
   have hab : a < b:=hp.1 b (.inl rfl)
   have hbc : b < c:=hp.2.1 c (.inl rfl)
   have hcd : c < d:=hp.2.2.1 d (.inl rfl)
   have e1 : ¬ wInfo < wID:=by decide
   have e2 : ¬ wRoot < wID:=by decide
   have e3 : ¬ wRoot < wInfo:=by decide
   have e4 : ∀ x : L,¬ x < x:=fun x => List.lt_irrefl x
   rcases h a (by simp) with rfl | rfl | rfl <;> rcases h b (by simp) with rfl | rfl | rfl <;> (try exact absurd hab (by first | exact e1 | exact e2 | exact e3 | exact e4 _)) <;>
     rcases h c (by simp) with rfl | rfl | rfl <;> (try exact absurd hbc (by first | exact e1 | exact e2 | exact e3 | exact e4 _)) <;>
     rcases h d (by simp) with rfl | rfl | rfl <;> exact absurd hcd (by first | exact e1 | exact e2 | exact e3 | exact e4 _)
structure TrailOk (l : List It) (t : Ob) : Prop where
 chk : checkB 24 t = 0
 kind : t.kind = 7
 keys : ∀ k ∈ t.keys,k = wID ∨ k = wInfo ∨ k = wRoot
 root : ((getO t wRoot).getD .zero).kind = 8 ∧ (followO l ((getO t wRoot).getD .zero)).kind = 7
theorem trailB_iff (l : List It) (t : Ob) : trailB l t = 0 ↔ TrailOk l t:=by
 unfold trailB
 constructor
 · intro h
   by_cases h1 : checkB 24 t ≠ 0
   · rw [if_pos h1] at h;exact absurd h h1
   rw [if_neg h1] at h
   by_cases h2 : t.kind ≠ 7
   · rw [if_pos h2] at h;cases h
   rw [if_neg h2] at h
   by_cases h3 : (!(t.keys.all fun k => k == wID || k == wInfo || k == wRoot)) = true
   · rw [if_pos h3] at h;cases h
   rw [if_neg h3] at h
   by_cases h4 : ((getO t wRoot).getD .zero).kind ≠ 8 ∨ (followO l ((getO t wRoot).getD .zero)).kind ≠ 7
   · rw [if_pos h4] at h;cases h
   simp only [Bool.not_eq_true',Bool.not_eq_false,List.all_eq_true,Bool.or_eq_true,beq_iff_eq] at h3
   refine ⟨by omega,by omega,fun k hk => by have:=h3 k hk;rcases this with (h | h) | h <;> simp [h],by omega⟩
 · rintro ⟨h1,h2,h3,h4⟩
   rw [if_neg (by omega),if_neg (by omega),if_neg,if_neg (by omega)]
   simp only [Bool.not_eq_true',Bool.not_eq_false,List.all_eq_true,Bool.or_eq_true,beq_iff_eq]
   intro k hk
   rcases h3 k hk with h | h | h <;> simp [h]
theorem TrailOk.ok {l : List It} {t : Ob} (h : TrailOk l t) : KeysOk t:=(keysB_iff t (.inl h.kind)).1 ((checkB_iff 23 t).1 h.chk).keys
theorem TrailOk.few {l : List It} {t : Ob} (h : TrailOk l t) : t.keys.length ≤ 3:=short3 h.ok.up h.keys
theorem TrailOk.no_size {l : List It} {t : Ob} (h : TrailOk l t) : wSize ∉ t.keys:=fun hm => by
 rcases h.keys _ hm with h | h | h <;> exact absurd h (by decide)
theorem TrailOk.size {l : List It} {t : Ob} (h : TrailOk l t) {m : Int} (h1 : -2147483647 ≤ m) (h2 : m ≤ 2147483647) : checkB 24 (putO t wSize (.int m)) = 0 :=
 checkB_put (.inl h.kind) h.chk h.no_size (by decide) (by simp [Ob.int,Ob.kind]) (chk_int h1 h2 22) (fun h9 => by rw [h.kind] at h9;cases h9) (by rw [← h.ok.len];have:=h.few;omega)
def ItemsOk : Option Int → List It → Prop
 | _,[] => True
 | p,i :: l => numsB i = true ∧ notUp p i.num = false ∧ contB i.ob = 0 ∧ ItemsOk (some i.num) l
theorem itemsB_iff : ∀ (p : Option Int) (l : List It),itemsB p l = 0 ↔ ItemsOk p l
 | _,[] => by simp [itemsB,ItemsOk]
 | p,i :: l => by
   unfold itemsB ItemsOk
   cases h1 : numsB i
   · simp
   cases h2 : notUp p i.num
   · by_cases h3 : contB i.ob = 0
     · simp [h3,itemsB_iff (some i.num) l]
     · simp [h3]
   · simp
theorem numsB_iff (i : It) : numsB i = true ↔ 1 ≤ i.num ∧ i.num ≤ 8191 ∧ 0 ≤ i.gen ∧ i.gen ≤ 65535:=by
 unfold numsB;simp [and_assoc]
theorem ItemsOk.all : ∀ {p : Option Int} {l : List It},ItemsOk p l → ∀ i ∈ l,numsB i = true ∧ contB i.ob = 0
 | _,_ :: _,⟨h1,_,h3,h4⟩,j,hj => by
   rcases List.mem_cons.1 hj with rfl | hj
   · exact ⟨h1,h3⟩
   · exact ItemsOk.all h4 j hj
theorem ItemsOk.up : ∀ {p : Option Int} {l : List It},ItemsOk p l → (∀ q,p = some q → ∀ i ∈ l,q < i.num) ∧ l.Pairwise fun a b => a.num < b.num
 | _,[],_ => ⟨by simp,.nil⟩
 | p,i :: l,⟨_,h2,_,h4⟩ => by
   obtain ⟨g1,g2⟩:=ItemsOk.up h4
   refine ⟨fun q hq j hj => ?_,List.pairwise_cons.2 ⟨g1 _ rfl,g2⟩⟩
   subst hq
   have hqi : q < i.num:=by simp [notUp] at h2;omega
   rcases List.mem_cons.1 hj with rfl | hj
   · exact hqi
   · exact Int.lt_trans hqi (g1 _ rfl j hj)
theorem mostW_mem (l : List It) : mostW l = 0 ∧ l = [] ∨ ∃ i ∈ l,mostW l = i.num.toNat:=by
 unfold mostW
 cases h : l.getLast? with
 | none => exact .inl ⟨rfl,by simpa using h⟩
 | some i => exact .inr ⟨i,List.mem_of_getLast? h,rfl⟩
theorem mostW_le {p : Option Int} {l : List It} (h : ItemsOk p l) : mostW l ≤ 8191:=by
 rcases mostW_mem l with ⟨h0,_⟩ | ⟨i,hi,he⟩
 · omega
 · have:=(numsB_iff i).1 (h.all i hi).1;omega
theorem docB_iff (d : Dc) : docB d = 0 ↔ ItemsOk none d.items ∧ TrailOk d.items d.trail:=by
 unfold docB
 by_cases h : itemsB none d.items ≠ 0
 · rw [if_pos h];exact ⟨fun h2 => absurd h2 h,fun h2 => absurd ((itemsB_iff _ _).2 h2.1) h⟩
 · rw [if_neg h,trailB_iff];exact ⟨fun h2 => ⟨(itemsB_iff _ _).1 (by omega),h2⟩,fun h2 => h2.2⟩
structure PartsOk (l : List It) (r : L) (ps : List Sl) : Prop where
 nums : ps.map (·.num) = l.map (·.num)
 gens : ps.map (·.b) = l.map (·.gen)
 kind : ∀ x ∈ ps,x.kind = 1
 pos : ∀ x ∈ ps,0 ≤ x.a
 far : ∀ x ∈ ps,x.a ≤ r.length
theorem partsW_ok : ∀ {s : L} {l : List It} {r : L} {ps : List Sl},partsW s l = .good (r,ps) → PartsOk l r ps ∧ s.length ≤ r.length
 | s,[],r,ps,h => by
   rw [partsW] at h
   cases h
   exact ⟨⟨rfl,rfl,by simp,by simp,by simp⟩,Nat.le_refl _⟩
 | s,i :: l,r,ps,h => by
   rw [partsW] at h
   cases h1 : itemW i with
   | bad k => rw [h1] at h;cases h
   | good t =>
     rw [h1] at h
     dsimp only at h
     cases h2 : partsW (s ++ t) l with
     | bad k => rw [h2] at h;cases h
     | good z =>
       obtain ⟨r2,p2⟩:=z
       rw [h2] at h
       cases h
       obtain ⟨⟨a1,a2,a3,a4,a5⟩,a6⟩:=partsW_ok h2
       rw [List.length_append] at a6
       refine ⟨⟨by simp [a1],by simp [a2],?_,?_,?_⟩,by omega⟩
       · intro x hx
         rcases List.mem_cons.1 hx with rfl | hx
         · rfl
         · exact a3 x hx
       · intro x hx
         rcases List.mem_cons.1 hx with rfl | hx
         · show (0 : Int) ≤ (s.length : Int);omega
         · exact a4 x hx
       · intro x hx
         rcases List.mem_cons.1 hx with rfl | hx
         · show (s.length : Int) ≤ _;omega
         · exact a5 x hx
theorem freeA_le (ps : List Sl) (most n : Nat) : freeA ps most n ≤ most:=by
 unfold freeA
 cases h : (List.range' (n + 1) (most - n)).find? fun (k : Nat) => ps.all fun x => x.num != (k : Int) with
 | none => simp
 | some k =>
   have:=List.mem_of_find?_eq_some h
   rw [List.mem_range'_1] at this
   simp;omega
theorem freeA_most (ps : List Sl) (most : Nat) : freeA ps most most = 0:=by simp [freeA]
theorem freeA_pred (ps : List Sl) (most n : Nat) (h : n < most) : freeA ps most n = if ps.all (fun x => x.num != ((n + 1 : Nat) : Int)) then n + 1 else freeA ps most (n + 1):=by
 unfold freeA
 rw [show most - n = (most - (n + 1)) + 1 by omega,List.range'_succ,List.find?_cons]
 cases ps.all (fun x => x.num != ((n + 1 : Nat) : Int)) <;> rfl
theorem find_none_all {ps : List Sl} {n : Nat} : ps.find? (fun x => x.num == (n : Int)) = none ↔ ps.all (fun x => x.num != (n : Int)) = true:=by
 rw [List.find?_eq_none,List.all_eq_true]
 constructor
 · intro h x hx;simpa using h x hx
 · intro h x hx;simpa using h x hx
structure SlotOk (n : Nat) (x : Sl) : Prop where
 num : x.num = n
 kind : x.kind = 0 ∨ x.kind = 1
 a0 : 0 ≤ x.a
 a1 : x.a ≤ 2147483647
 b0 : 0 ≤ x.b
 b1 : x.b ≤ 65535
 first : n = 0 → x.kind = 0 ∧ x.b = 65535
theorem slotW_ok {l : List It} {r : L} {ps : List Sl} (h : PartsOk l r ps) (hl : ItemsOk none l) (hr : r.length ≤ 2147483647) (most : Nat) (hm : most ≤ 8191) (n : Nat) (hn : n ≤ most) : SlotOk n (slotW ps most n):=by
 have hnum : ∀ x ∈ ps,∃ i ∈ l,i.num = x.num:=fun x hx => by
   have : x.num ∈ ps.map (·.num):=List.mem_map_of_mem hx
   rw [h.nums] at this
   obtain ⟨i,hi,he⟩:=List.mem_map.1 this
   exact ⟨i,hi,he⟩
 have hgen : ∀ x ∈ ps,∃ i ∈ l,i.gen = x.b:=fun x hx => by
   have : x.b ∈ ps.map (·.b):=List.mem_map_of_mem hx
   rw [h.gens] at this
   obtain ⟨i,hi,he⟩:=List.mem_map.1 this
   exact ⟨i,hi,he⟩
 unfold slotW
 cases hf : ps.find? (fun x => x.num == (n : Int)) with
 | none =>
   have:=freeA_le ps most n
   refine ⟨rfl,.inl rfl,by show (0 : Int) ≤ (freeA ps most n : Int);omega,by show (freeA ps most n : Int) ≤ 2147483647;omega,?_,?_,fun h0 => ⟨rfl,by simp [h0]⟩⟩
   · dsimp only;split <;> omega
   · dsimp only;split <;> omega
 | some x =>
   have hx:=List.mem_of_find?_eq_some hf
   have hxn : x.num = n:=by have:=List.find?_some hf;simpa using this
   obtain ⟨i,hi,hin⟩:=hnum x hx
   obtain ⟨j,hj,hjg⟩:=hgen x hx
   have g1:=(numsB_iff i).1 (hl.all i hi).1
   have g2:=(numsB_iff j).1 (hl.all j hj).1
   have g3:=h.far x hx
   exact ⟨hxn,.inr (h.kind x hx),h.pos x hx,show x.a ≤ _ by omega,show 0 ≤ x.b by omega,show x.b ≤ _ by omega,fun h0 => by omega⟩
theorem slotsW_len (ps : List Sl) (most : Nat) : (slotsW ps most).length = most + 1:=by simp [slotsW]
theorem slotsW_at (ps : List Sl) (most k : Nat) (h : k < (slotsW ps most).length) : (slotsW ps most)[k] = slotW ps most k:=by simp [slotsW]
def Stop (l : L) : Prop:=∃ c r,l = c :: r ∧ regular c = false
theorem nextT_run {x l : L} {t : Tok} (hx : ∀ a ∈ x,regular a = true) (hne : x ≠ []) (hl : Stop l) (ht : wordT x = .good t) : nextT (x ++ l) = (0,.good t) ∧ nextS (x ++ l) = .good (t,l):=by
 obtain ⟨c,r,rfl,hc⟩:=hl
 cases x with
 | nil => exact absurd rfl hne
 | cons a x =>
   have h1:=regN_run (a :: x) c r hx hc
   have ha:=regular_plain a (hx a (by simp))
   obtain ⟨g1,g2⟩:=wordT_good ht
   have hs : skipN false (a :: x ++ c :: r) = 0:=by simp [skipN,ha.1,ha.2.1]
   have htk : tokT (a :: x ++ c :: r) = .good t:=by
     rw [← ht,List.cons_append,tokT]
     simp only [ha.2.2.1,ha.2.2.2.1,ha.2.2.2.2.1,ha.2.2.2.2.2.1,ha.2.2.2.2.2.2.1,ha.2.2.2.2.2.2.2.1,ha.2.2.2.2.2.2.2.2.1,ha.2.2.2.2.2.2.2.2.2.1,ha.2.2.2.2.2.2.2.2.2.2,beq_eq_false_iff_ne.2,ne_eq,not_false_eq_true,Bool.false_eq_true,Bool.or_self,if_false]
     rw [← List.cons_append,h1,List.take_left]
   have hn : nextT (a :: x ++ c :: r) = (0,.good t):=by
     unfold nextT
     rw [hs]
     simp only [List.drop_zero]
     rw [if_neg (by simp),htk]
   refine ⟨hn,?_⟩
   unfold nextS
   rw [hn]
   dsimp only
   rw [if_neg (by omega),g1,Nat.zero_add,List.drop_left]
theorem escW_regular (c : UInt8) : (escW c).all regular = true:=u8_every (fun c => (escW c).all regular) (by decide +kernel) c
theorem escW_run (s : L) : ∀ c ∈ s.flatMap escW,regular c = true:=by
 intro c h
 obtain ⟨a,_,hc⟩:=List.mem_flatMap.1 h
 exact List.all_eq_true.1 (escW_regular a) c hc
theorem plainW {c : UInt8} (h : (decide (32 < c) && decide (c ≤ 126) && c != 35 && !delim c) = true) : c ≠ 35:=by
 rintro rfl;revert h;decide
theorem nameS_escW (acc : L) (c : UInt8) (l : L) (h : c ≠ 0) : nameS acc 0 (escW c ++ l) = nameS (acc ++ [c]) 0 l:=by
 unfold escW
 cases ha : (decide (32 < c) && decide (c ≤ 126) && c != 35 && !delim c)
 · simp only [Bool.false_eq_true,if_false]
   obtain ⟨e1,e2⟩:=hexD_val c
   obtain ⟨x,hx⟩ : ∃ x,hexD (c.toNat / 16) = x:=⟨_,rfl⟩
   obtain ⟨y,hy⟩ : ∃ y,hexD (c.toNat % 16) = y:=⟨_,rfl⟩
   rw [hx] at e1
   rw [hy] at e2
   rw [hx,hy]
   have hc : (16 : Int) * hexv x + hexv y = c.toNat:=by rw [e1,e2];omega
   have hn : ¬ (hexv x < 0 ∨ hexv y < 0 ∨ 16 * hexv x + hexv y = 0):=by
     rw [hc,e1,e2]
     have : c.toNat ≠ 0:=fun h0 => h (by apply UInt8.toNat_inj.1;simpa using h0)
     omega
   have hb : UInt8.ofNat ((16 : Int) * hexv x + hexv y).toNat = c:=by rw [hc];simp
   simp only [List.cons_append,List.nil_append,nameS,beq_self_eq_true,if_true,if_neg hn,hb]
 · have:=plainW ha
   simp [nameS,this]
theorem nameS_escWs (s : L) : ∀ (acc : L),(∀ c ∈ s,c ≠ 0) → nameS acc 0 (s.flatMap escW) = .good (acc ++ s):=by
 induction s with
 | nil => intro acc _;simp [nameS]
 | cons c s ih =>
   intro acc h
   rw [List.flatMap_cons,nameS_escW acc c _ (h c (by simp)),ih _ (fun x hx => h x (by simp [hx]))]
   simp
theorem next_nameW (s l : L) (h : nameB s = true) (hl : Stop l) : nextS (nameW s ++ l) = .good (⟨4,(nameW s).length,0,s⟩,l):=by
 obtain ⟨h0,hn⟩:=nameB_ne h
 obtain ⟨c,r,rfl,hc⟩:=hl
 have h1:=regN_run (s.flatMap escW) c r (escW_run s) hc
 have h2 : nameT (s.flatMap escW ++ c :: r) = .good ⟨4,(s.flatMap escW).length + 1,0,s⟩:=by
   unfold nameT
   rw [h1,List.take_left,nameS_escWs s [] h0]
   simp [nameOf,told];omega
 unfold nameW nextS nextT
 have hs : skipN false (47 :: s.flatMap escW ++ c :: r) = 0:=by simp [skipN,white]
 rw [hs]
 have ht : tokT (47 :: s.flatMap escW ++ c :: r) = .good ⟨4,(s.flatMap escW).length + 1,0,s⟩:=by rw [← h2];simp [tokT]
 simp only [List.drop_zero,ht]
 simp
theorem octW_eq (c : UInt8) : ([92,48 + c / 64,48 + c / 8 % 8,48 + c % 8] : L) = [92,UInt8.ofNat (48 + c.toNat / 64),UInt8.ofNat (48 + c.toNat / 8 % 8),UInt8.ofNat (48 + c.toNat % 8)]:=by
 have:=u8_every (fun c => ([92,48 + c / 64,48 + c / 8 % 8,48 + c % 8] : L) == [92,UInt8.ofNat (48 + c.toNat / 64),UInt8.ofNat (48 + c.toNat / 8 % 8),UInt8.ofNat (48 + c.toNat % 8)]) (by decide +kernel) c
 simpa using this
theorem strC_plain {c : UInt8} (h1 : (c == 40 || c == 41 || c == 92) = false) (h2 : (decide (c < 32) || decide (126 < c)) = false) : eol c = false ∧ (c == 92) = false ∧ (c == 40) = false ∧ (c == 41) = false:=by
 have:=u8_every (fun c => (c == 40 || c == 41 || c == 92) || (decide (c < 32) || decide (126 < c)) || (!eol c && !(c == 92) && !(c == 40) && !(c == 41))) (by decide +kernel) c
 rw [h1,h2] at this
 simp at this
 obtain ⟨⟨⟨g1,g2⟩,g3⟩,g4⟩:=this
 exact ⟨g1,by simpa using g2,by simpa using g3,by simpa using g4⟩
theorem textS_strC (acc : L) (n op : Nat) (c : UInt8) (l : L) : textS acc n op 0 (strC c ++ l) = textS (acc ++ [c]) (n + (strC c).length) op 0 l:=by
 unfold strC
 by_cases h1 : (c == 40 || c == 41 || c == 92) = true
 · rw [if_pos h1]
   simp only [Bool.or_eq_true,beq_iff_eq] at h1
   rcases h1 with (rfl | rfl) | rfl
   · simp [textS,eol,esc,octN,oct]
   · simp [textS,eol,esc,octN,oct]
   · simp [textS,eol,esc,octN,oct]
 · rw [if_neg h1]
   have h1' : (c == 40 || c == 41 || c == 92) = false:=by simpa using h1
   by_cases h2 : (decide (c < 32) || decide (126 < c)) = true
   · rw [if_pos h2,octW_eq]
     have h5:=esc_three c l
     rw [List.cons_append,List.cons_append,List.cons_append,List.cons_append,List.nil_append,textS]
     rw [if_neg (by decide),if_pos (by decide),if_neg (by simp),h5]
     simp only [textS,List.length_cons,List.length_nil]
   · rw [if_neg h2]
     obtain ⟨g1,g2,g3,g4⟩:=strC_plain h1' (by simpa using h2)
     rw [List.cons_append,List.nil_append,textS,g1,g2,g3,g4]
     simp
theorem textS_strCs (s : L) : ∀ (acc : L) (n : Nat) (r : L),textS acc n 1 0 (s.flatMap strC ++ 41 :: r) = .good (acc ++ s,n + (s.flatMap strC).length + 1):=by
 induction s with
 | nil => intro acc n r;simp [textS,eol]
 | cons c s ih =>
   intro acc n r
   rw [List.flatMap_cons,List.append_assoc,textS_strC,ih]
   simp;omega
theorem next_strW (s l : L) (hs : s.length ≤ 32767) : nextS (strW s ++ l) = .good (⟨3,(strW s).length,0,s⟩,l):=by
 have h2 : textT (s.flatMap strC ++ 41 :: l) = .good ⟨3,(s.flatMap strC).length + 2,0,s⟩:=by
   unfold textT
   rw [textS_strCs s [] 0 l]
   simp [strOf,told];omega
 unfold strW
 obtain ⟨X,hX⟩ : ∃ X,s.flatMap strC = X:=⟨_,rfl⟩
 rw [hX] at h2 ⊢
 have e : 40 :: (X ++ [41]) ++ l = 40 :: (X ++ 41 :: l):=by simp
 rw [e]
 unfold nextS nextT
 have hs : skipN false (40 :: (X ++ 41 :: l)) = 0:=by simp [skipN,white]
 rw [hs]
 have ht : tokT (40 :: (X ++ 41 :: l)) = .good ⟨3,X.length + 2,0,s⟩:=by rw [← h2];simp [tokT]
 simp only [List.drop_zero,reduceCtorEq,if_false,ht]
 simp
def lastB : L → UInt8
 | [] => 32
 | x :: p => (x :: p).getLast (by simp)
def headB : L → UInt8
 | [] => 32
 | x :: _ => x
def lastW (c : UInt8) (ts : List L) : UInt8:=ts.foldl (fun c p => if p = [] then c else lastB p) c
def J (c : UInt8) (ts : List L) (r : L) : L:=joinW c ts ++ 10 :: r
def full (ts : List L) : Prop:=∀ q ∈ ts,q ≠ []
theorem full_cons {p : L} {ts : List L} (h : full (p :: ts)) : p ≠ [] ∧ full ts:=⟨h p (by simp),fun q hq => h q (by simp [hq])⟩
theorem full_append {a b : List L} (ha : full a) (hb : full b) : full (a ++ b):=fun q hq => by
 rcases List.mem_append.1 hq with h | h
 · exact ha q h
 · exact hb q h
theorem full_mk {p : L} {ts : List L} (h1 : p ≠ []) (h : full ts) : full (p :: ts):=fun q hq => by
 rcases List.mem_cons.1 hq with rfl | hq
 · exact h1
 · exact h q hq
theorem joinW_cons (c : UInt8) {p : L} (h : p ≠ []) (ts : List L) : joinW c (p :: ts) = (if (regular c || c == 47) && regular (headB p) then [32] else []) ++ p ++ joinW (lastB p) ts:=by
 cases p with
 | nil => exact absurd rfl h
 | cons x p => rw [joinW];rfl
theorem J_cons (c : UInt8) {p : L} (h : p ≠ []) (ts : List L) (r : L) : J c (p :: ts) r = (if (regular c || c == 47) && regular (headB p) then [32] else []) ++ (p ++ J (lastB p) ts r):=by
 unfold J;rw [joinW_cons c h];simp
theorem joinW_append : ∀ (a b : List L) (c : UInt8),full a → joinW c (a ++ b) = joinW c a ++ joinW (lastW c a) b
 | [],b,c,_ => rfl
 | p :: a,b,c,h => by
   obtain ⟨h1,h2⟩:=full_cons h
   rw [List.cons_append,joinW_cons c h1,joinW_cons c h1,joinW_append a b (lastB p) h2]
   simp [lastW,h1]
theorem J_stop (c : UInt8) (ts : List L) (r : L) (hc : regular c = true ∨ c = 47) (hf : full ts) : Stop (J c ts r):=by
 cases ts with
 | nil => exact ⟨10,r,rfl,by decide⟩
 | cons p ts =>
   obtain ⟨h1,_⟩:=full_cons hf
   rw [J_cons c h1]
   have hc' : (regular c || c == 47) = true:=by rcases hc with h | h <;> simp [h]
   rw [hc']
   cases hp : regular (headB p)
   · cases p with
     | nil => exact absurd rfl h1
     | cons x p => exact ⟨x,p ++ J (lastB (x :: p)) ts r,by simp,hp⟩
   · exact ⟨32,p ++ J (lastB p) ts r,by simp,by decide⟩
structure TokP (p : L) (t : Tok) : Prop where
 ne : p ≠ []
 stop : (∀ l,nextS (p ++ l) = .good (t,l)) ∨ (∀ l,Stop l → nextS (p ++ l) = .good (t,l)) ∧ (regular (lastB p) = true ∨ lastB p = 47)
theorem TokP.next {p : L} {t : Tok} (h : TokP p t) (c : UInt8) {ts : List L} (r : L) (hf : full ts) : nextS (J c (p :: ts) r) = .good (t,J (lastB p) ts r):=by
 rw [J_cons c h.ne]
 have h2 : nextS (p ++ J (lastB p) ts r) = .good (t,J (lastB p) ts r):=by
   rcases h.stop with h3 | ⟨h3,h4⟩
   · exact h3 _
   · exact h3 _ (J_stop _ _ _ h4 hf)
 split
 · rw [List.cons_append,List.nil_append,nextS_sep 32 _ sep32];exact h2
 · exact h2
theorem lastB_mem {p : L} (h : p ≠ []) : lastB p ∈ p:=by
 cases p with
 | nil => exact absurd rfl h
 | cons x p => exact List.getLast_mem _
theorem lastB_append {p q : L} (h : q ≠ []) : lastB (p ++ q) = lastB q:=by
 cases q with
 | nil => exact absurd rfl h
 | cons y q =>
   cases p with
   | nil => rfl
   | cons x p => exact List.getLast_append_of_ne_nil (l:=x :: p) (l':=y :: q) (by simp) (by simp)
theorem tokP_run {p : L} {t : Tok} (hx : ∀ a ∈ p,regular a = true) (hne : p ≠ []) (ht : wordT p = .good t) : TokP p t :=
 ⟨hne,.inr ⟨fun _ hl => (nextT_run hx hne hl ht).2,.inl (hx _ (lastB_mem hne))⟩⟩
theorem tokP_int (n : Int) (h1 : -2147483647 ≤ n) (h2 : n ≤ 2147483647) : TokP (digI n) ⟨1,(digI n).length,n,[]⟩:=by
 obtain ⟨g1,g2,g3⟩:=digI_ok n h1 h2
 exact tokP_run g2 g3 g1
theorem tokP_real (n : Int) (h1 : -1073741824 ≤ n) (h2 : n ≤ 1073741824) : TokP (realT n) ⟨2,(realT n).length,n,[]⟩:=by
 obtain ⟨g1,g2,g3⟩:=realT_ok n h1 h2
 exact tokP_run g2 g3 g1
theorem tokP_name {s : L} (h : nameB s = true) : TokP (nameW s) ⟨4,(nameW s).length,0,s⟩:=by
 refine ⟨by simp [nameW],.inr ⟨fun l hl => next_nameW s l h hl,?_⟩⟩
 by_cases h0 : s.flatMap escW = []
 · right;unfold nameW;rw [h0];rfl
 · left
   have e : lastB (nameW s) = lastB (s.flatMap escW):=by
     show lastB ([47] ++ s.flatMap escW) = _
     exact lastB_append h0
   rw [e]
   exact escW_run s _ (lastB_mem h0)
theorem tokP_str {s : L} (h : s.length ≤ 32767) : TokP (strW s) ⟨3,(strW s).length,0,s⟩:=⟨by simp [strW],.inl fun l => next_strW s l h⟩
theorem tokP_mark1 {c : UInt8} (h : c = 91 ∨ c = 93) : TokP [c] ⟨6,1,0,[c]⟩:=⟨by simp,.inl fun l => next_mark1 c l h⟩
theorem tokP_mark2 {c : UInt8} (h : c = 60 ∨ c = 62) : TokP [c,c] ⟨6,2,0,[c,c]⟩:=⟨by simp,.inl fun l => next_mark2 c l h⟩
theorem tokP_word {x : L} (h : x = wTrue ∨ x = wFalse ∨ x = wNull ∨ x = [82]) : TokP x ⟨5,x.length,0,x⟩:=by
 rcases h with rfl | rfl | rfl | rfl
 · exact tokP_run (by decide) (by decide) rfl
 · exact tokP_run (by decide) (by decide) rfl
 · exact tokP_run (by decide) (by decide) rfl
 · exact tokP_run (by decide) (by decide) rfl
theorem realT_ne (n : Int) : realT n ≠ []:=by unfold realT realU;split <;> simp
theorem leafW_full {o : Ob} : full (leafW o):=by
 have hd : ∀ n,digI n ≠ []:=fun n => by
   unfold digI;split
   · simp
   · rw [digU];split <;> simp
 unfold leafW
 intro q hq
 split at hq
 · simp only [List.mem_singleton] at hq;subst hq;split <;> decide
 split at hq
 · simp only [List.mem_singleton] at hq;subst hq;exact hd _
 split at hq
 · simp only [List.mem_singleton] at hq;subst hq;exact realT_ne _
 split at hq
 · simp only [List.mem_singleton] at hq;subst hq;simp [strW]
 split at hq
 · simp only [List.mem_singleton] at hq;subst hq;simp [nameW]
 split at hq
 · simp only [List.mem_cons,List.not_mem_nil,or_false] at hq
   rcases hq with rfl | rfl | rfl
   · exact hd _
   · exact hd _
   · simp
 · simp only [List.mem_singleton] at hq;subst hq;decide
theorem toksW_full : ∀ (d : Nat) (o : Ob),full (toksW d o)
 | 0,_ => fun q hq => by simp [toksW] at hq
 | d + 1,o => by
   unfold toksW
   split
   · refine full_mk (by simp) (full_append (fun q hq => ?_) (full_mk (by simp) (fun q hq => by simp at hq)))
     obtain ⟨k,_,hk⟩:=List.mem_flatMap.1 hq
     exact toksW_full d k q hk
   split
   · refine full_mk (by simp) (full_append (fun q hq => ?_) (full_mk (by simp) (fun q hq => by simp at hq)))
     obtain ⟨k,_,hk⟩:=List.mem_flatMap.1 hq
     rcases List.mem_cons.1 hk with rfl | hk
     · simp [nameW]
     · exact toksW_full d _ q hk
   · exact leafW_full
theorem leafW_ne {o : Ob} : leafW o ≠ []:=by
 unfold leafW
 split;· simp
 split;· simp
 split;· simp
 split;· simp
 split;· simp
 split <;> simp
theorem toksW_ne (d : Nat) (o : Ob) : toksW (d + 1) o ≠ []:=by
 unfold toksW
 split
 · simp
 split
 · simp
 · exact leafW_ne
theorem J_append {a : List L} (b : List L) (c : UInt8) (r : L) (h : full a) : J c (a ++ b) r = joinW c a ++ J (lastW c a) b r:=by
 unfold J;rw [joinW_append a b c h];simp
theorem joinW_pos {a : List L} (c : UInt8) (h : full a) (hne : a ≠ []) : 0 < (joinW c a).length:=by
 cases a with
 | nil => exact absurd rfl hne
 | cons p a =>
   obtain ⟨h1,_⟩:=full_cons h
   rw [joinW_cons c h1]
   have:=List.length_pos_iff.2 h1
   simp;omega
def kidsK (d : Nat) (cs : List Ob) : List L:=cs.flatMap (toksW d)
def pairsK (d : Nat) (ps : List (L × Ob)) : List L:=ps.flatMap (fun p => nameW p.1 :: toksW d p.2)
theorem kidsK_full (d : Nat) (cs : List Ob) : full (kidsK d cs):=fun q hq => by
 obtain ⟨k,_,hk⟩:=List.mem_flatMap.1 hq
 exact toksW_full d k q hk
theorem pairsK_full (d : Nat) (ps : List (L × Ob)) : full (pairsK d ps):=fun q hq => by
 obtain ⟨k,_,hk⟩:=List.mem_flatMap.1 hq
 rcases List.mem_cons.1 hk with rfl | hk
 · simp [nameW]
 · exact toksW_full d _ q hk
theorem first_tokW {d : Nat} {o : Ob} (h : okO (d + 1) o) (c : UInt8) (ts : List L) (r : L) (hf : full ts) :
   ∃ t l,nextS (J c (toksW (d + 1) o ++ ts) r) = .good (t,l) ∧ beginsS t = true ∧ ¬ (t.kind = 6 ∧ t.s = [93]) ∧ ¬ (t.kind = 5 ∧ t.s = [82]) ∧
     ((o.kind = 2 ∧ t.kind = 1 ∧ t.n = o.n ∧ l = J (lastB (digI o.n)) ts r ∧ o = .int o.n ∧ toksW (d + 1) o = [digI o.n]) ∨
      (o.kind = 8 ∧ t.kind = 1 ∧ t.n = o.n ∧ l = J (lastB (digI o.n)) (digI o.g :: [82] :: ts) r ∧ o = .ref o.n o.g ∧ toksW (d + 1) o = [digI o.n,digI o.g,[82]] ∧ 1 ≤ o.n ∧ o.n ≤ 8191 ∧ 0 ≤ o.g ∧ o.g ≤ 65535) ∨
      (t.kind ≠ 1 ∧ o.kind ≠ 2 ∧ ((∃ p, toksW (d + 1) o = [p] ∧ p ≠ [] ∧ l = J (lastB p) ts r ∧ ∀ e, objS (e + 1) t l = .good (o, l)) ∨
         (o.kind = 6 ∧ t.kind = 6 ∧ t.s = [91] ∧ l = J 91 (kidsK d o.kids ++ [93] :: ts) r ∧ o = .mk 6 0 0 [] [] o.kids ∧ toksW (d + 1) o = [91] :: (kidsK d o.kids ++ [[93]])) ∨
         (o.kind = 7 ∧ t.kind = 6 ∧ t.s = [60,60] ∧ l = J 60 (pairsK d (o.keys.zip o.kids) ++ [62,62] :: ts) r ∧ o = .mk 7 0 0 [] o.keys o.kids ∧ keysB o = true ∧ toksW (d + 1) o = [60,60] :: (pairsK d (o.keys.zip o.kids) ++ [[62,62]]))))):=by
 cases o with
 | mk k n g s ks cs =>
   rcases okO_kinds h with ⟨rfl,rfl,rfl,rfl,rfl,rfl⟩ | ⟨rfl,hn,rfl,rfl,rfl,rfl⟩ | ⟨rfl,hn,rfl,rfl,rfl,rfl⟩ | ⟨rfl,hn,rfl,rfl,rfl,rfl⟩ | ⟨rfl,rfl,rfl,hs,rfl,rfl⟩ | ⟨rfl,rfl,rfl,hs,rfl,rfl⟩ | ⟨rfl,hn,rfl,rfl,rfl⟩ | ⟨rfl,rfl,rfl,rfl,rfl⟩ | ⟨rfl,rfl,rfl,rfl,hk⟩
   · have e : toksW (d + 1) (.mk 0 0 0 [] [] []) = [wNull]:=rfl
     rw [e]
     refine ⟨_,_,(tokP_word (.inr (.inr (.inl rfl)))).next c r hf,rfl,by simp,by decide,.inr (.inr ⟨by simp,by simp [Ob.kind],.inl ⟨_,rfl,by decide,rfl,fun e => ?_⟩⟩)⟩
     rfl
   · rcases hn with rfl | rfl
     · have e : toksW (d + 1) (.mk 1 0 0 [] [] []) = [wFalse]:=rfl
       rw [e]
       refine ⟨_,_,(tokP_word (.inr (.inl rfl))).next c r hf,rfl,by simp,by decide,.inr (.inr ⟨by simp,by simp [Ob.kind],.inl ⟨_,rfl,by decide,rfl,fun e => ?_⟩⟩)⟩
       rfl
     · have e : toksW (d + 1) (.mk 1 1 0 [] [] []) = [wTrue]:=rfl
       rw [e]
       refine ⟨_,_,(tokP_word (.inl rfl)).next c r hf,rfl,by simp,by decide,.inr (.inr ⟨by simp,by simp [Ob.kind],.inl ⟨_,rfl,by decide,rfl,fun e => ?_⟩⟩)⟩
       rfl
   · have e : toksW (d + 1) (.mk 2 n 0 [] [] []) = [digI n]:=rfl
     rw [e]
     exact ⟨_,_,(tokP_int n hn.1 hn.2).next c r hf,rfl,by simp,by simp,.inl ⟨rfl,rfl,rfl,rfl,rfl,rfl⟩⟩
   · have e : toksW (d + 1) (.mk 3 n 0 [] [] []) = [realT n]:=rfl
     rw [e]
     exact ⟨_,_,(tokP_real n hn.1 hn.2).next c r hf,rfl,by simp,by simp,.inr (.inr ⟨by simp,by simp [Ob.kind],.inl ⟨_,rfl,realT_ne n,rfl,fun e => rfl⟩⟩)⟩
   · have e : toksW (d + 1) (.mk 4 0 0 s [] []) = [strW s]:=rfl
     rw [e]
     exact ⟨_,_,(tokP_str hs).next c r hf,rfl,by simp,by simp,.inr (.inr ⟨by simp,by simp [Ob.kind],.inl ⟨_,rfl,by simp [strW],rfl,fun e => rfl⟩⟩)⟩
   · have e : toksW (d + 1) (.mk 5 0 0 s [] []) = [nameW s]:=rfl
     rw [e]
     exact ⟨_,_,(tokP_name hs).next c r hf,rfl,by simp,by simp,.inr (.inr ⟨by simp,by simp [Ob.kind],.inl ⟨_,rfl,by simp [nameW],rfl,fun e => rfl⟩⟩)⟩
   · have e : toksW (d + 1) (.mk 8 n g [] [] []) = [digI n,digI g,[82]]:=rfl
     rw [e]
     exact ⟨_,_,(tokP_int n (by omega) (by omega)).next c r (full_mk (tokP_int g (by omega) (by omega)).ne (full_mk (by simp) hf)),rfl,by simp,by simp,.inr (.inl ⟨rfl,rfl,rfl,rfl,rfl,rfl,hn⟩)⟩
   · have e : toksW (d + 1) (.mk 6 0 0 [] [] cs) = [91] :: (kidsK d cs ++ [[93]]):=rfl
     have e2 : [91] :: (kidsK d cs ++ [[93]]) ++ ts = [91] :: (kidsK d cs ++ [93] :: ts):=by simp
     rw [e,e2]
     exact ⟨_,_,(tokP_mark1 (.inl rfl)).next c r (full_append (kidsK_full d cs) (full_mk (by simp) hf)),rfl,by simp,by simp,.inr (.inr ⟨by simp,by simp [Ob.kind],.inr (.inl ⟨rfl,rfl,rfl,rfl,rfl,rfl⟩)⟩)⟩
   · have e : toksW (d + 1) (.mk 7 0 0 [] ks cs) = [60,60] :: (pairsK d (ks.zip cs) ++ [[62,62]]):=rfl
     have e2 : [60,60] :: (pairsK d (ks.zip cs) ++ [[62,62]]) ++ ts = [60,60] :: (pairsK d (ks.zip cs) ++ [62,62] :: ts):=by simp
     rw [e,e2]
     exact ⟨_,_,(tokP_mark2 (.inl rfl)).next c r (full_append (pairsK_full d _) (full_mk (by simp) hf)),rfl,by simp,by simp,.inr (.inr ⟨by simp,by simp [Ob.kind],.inr (.inr ⟨rfl,rfl,rfl,rfl,rfl,hk,rfl⟩)⟩)⟩
theorem lastW_one {p : L} (c : UInt8) (h : p ≠ []) : lastW c [p] = lastB p:=by simp [lastW,h]
theorem lastW_snoc {p : L} (c : UInt8) (ts : List L) (h : p ≠ []) : lastW c (ts ++ [p]) = lastB p:=by simp [lastW,h]
theorem lastW_cons {p : L} (c : UInt8) (ts : List L) (h : p ≠ []) : lastW c (p :: ts) = lastW (lastB p) ts:=by simp [lastW,h]
theorem J_less {a : List L} (b : List L) (c : UInt8) (r : L) (h : full a) (hne : a ≠ []) : (J (lastW c a) b r).length < (J c (a ++ b) r).length:=by
 rw [J_append b c r h,List.length_append]
 have:=joinW_pos c h hne
 omega
theorem fol_mkW (b : UInt8) (ts : List L) (r : L) {c : UInt8} (h : c = 91 ∨ c = 93) (hf : full ts) : fol (J b ([c] :: ts) r):=fol_of ((tokP_mark1 h).next b r hf) (by simp)
theorem fre_mkW (b : UInt8) (ts : List L) (r : L) {c : UInt8} (h : c = 91 ∨ c = 93) (hf : full ts) : fre (J b ([c] :: ts) r):=fre_of ((tokP_mark1 h).next b r hf) (by simp)
theorem fre_mk2W (b : UInt8) (ts : List L) (r : L) {c : UInt8} (h : c = 60 ∨ c = 62) (hf : full ts) : fre (J b ([c,c] :: ts) r):=fre_of ((tokP_mark2 h).next b r hf) (by simp)
theorem fol_textW {d : Nat} {o : Ob} (h : okO (d + 1) o) (c : UInt8) (ts : List L) (r : L) (hf : full ts) : fol (J c (toksW (d + 1) o ++ ts) r):=by
 obtain ⟨t,l,h1,_,_,h4,_⟩:=first_tokW h c ts r hf
 exact fol_of h1 h4
theorem fre_textW {d : Nat} {o : Ob} (h : okO (d + 1) o) (c : UInt8) (ts : List L) (r : L) (hf : full ts) (hfo : ∀ b,fol (J b ts r)) : fre (J c (toksW (d + 1) o ++ ts) r):=by
 obtain ⟨t,l,h1,_,_,_,h5⟩:=first_tokW h c ts r hf
 rcases h5 with ⟨_,_,_,rfl,_⟩ | ⟨_,_,_,rfl,_,_,h6,h7,h8,h9⟩ | ⟨h5,_⟩
 · exact fre_int h1 (hfo _)
 · exact fre_int h1 (fol_of ((tokP_int o.g (by omega) (by omega)).next _ r (full_mk (by simp) hf)) (by simp))
 · exact fre_of h1 h5
theorem kidsK_cons (d : Nat) (k : Ob) (cs : List Ob) (X : List L) : kidsK d (k :: cs) ++ X = toksW d k ++ (kidsK d cs ++ X):=by simp [kidsK]
theorem pairsK_cons (d : Nat) (p : L × Ob) (ps : List (L × Ob)) (X : List L) : pairsK d (p :: ps) ++ X = nameW p.1 :: (toksW d p.2 ++ (pairsK d ps ++ X)):=by simp [pairsK]
theorem fol_kidsW {d : Nat} {cs : List Ob} (h : ∀ k ∈ cs,okO (d + 1) k) (b : UInt8) (ts : List L) (r : L) (hf : full ts) : fol (J b (kidsK (d + 1) cs ++ [93] :: ts) r):=by
 cases cs with
 | nil => exact fol_mkW b ts r (.inr rfl) hf
 | cons k cs => rw [kidsK_cons];exact fol_textW (h k (by simp)) b _ r (full_append (kidsK_full _ _) (full_mk (by simp) hf))
theorem fre_kidsW {d : Nat} {cs : List Ob} (h : ∀ k ∈ cs,okO (d + 1) k) (b : UInt8) (ts : List L) (r : L) (hf : full ts) : fre (J b (kidsK (d + 1) cs ++ [93] :: ts) r):=by
 cases cs with
 | nil => exact fre_mkW b ts r (.inr rfl) hf
 | cons k cs => rw [kidsK_cons];exact fre_textW (h k (by simp)) b _ r (full_append (kidsK_full _ _) (full_mk (by simp) hf)) (fun b => fol_kidsW (fun x hx => h x (by simp [hx])) b ts r hf)
theorem fre_pairsW {d : Nat} {ps : List (L × Ob)} (h : ∀ p ∈ ps,nameB p.1 = true) (b : UInt8) (ts : List L) (r : L) (hf : full ts) : fre (J b (pairsK d ps ++ [62,62] :: ts) r):=by
 cases ps with
 | nil => exact fre_mk2W b ts r (.inr rfl) hf
 | cons p ps =>
   rw [pairsK_cons]
   exact fre_of ((tokP_name (h p (by simp))).next b r (full_append (toksW_full _ _) (full_append (pairsK_full _ _) (full_mk (by simp) hf)))) (by simp)
def BackW (d : Nat) : Prop:=∀ o,okO d o → ∀ (c : UInt8) (ts : List L) (r : L),full ts → (o.kind = 2 → fre (J (lastB (digI o.n)) ts r)) →
 ∃ t l,nextS (J c (toksW d o ++ ts) r) = .good (t,l) ∧ beginsS t = true ∧ ¬ (t.kind = 6 ∧ t.s = [93]) ∧ objS d t l = .good (o,J (lastW c (toksW d o)) ts r)
theorem arr_backW {d : Nat} (HB : BackW (d + 1)) : ∀ (cs acc : List Ob) (fuel : Nat) (c : UInt8) (ts : List L) (r : L), full ts → (∀ k ∈ cs, okO (d + 1) k) → acc.length + cs.length ≤ 8191 → (J c (kidsK (d + 1) cs ++ [93] :: ts) r).length < fuel →
   arrS (objS (d + 1)) (d + 1) fuel (J c (kidsK (d + 1) cs ++ [93] :: ts) r) acc = .good (acc ++ cs,J 93 ts r)
 | [],acc,0,c,ts,r,_,_,_,h => by omega
 | [],acc,fuel + 1,c,ts,r,hf,_,_,_ => by
   rw [show kidsK (d + 1) [] ++ [93] :: ts = [93] :: ts from rfl,arrS,(tokP_mark1 (.inr rfl)).next c r hf]
   simp [lastB]
 | k :: cs,acc,0,c,ts,r,_,_,_,h => by omega
 | k :: cs,acc,fuel + 1,c,ts,r,hf,hk,hl,hfu => by
   rw [kidsK_cons] at hfu ⊢
   have hk2 : ∀ x ∈ cs,okO (d + 1) x:=fun x hx => hk x (by simp [hx])
   obtain ⟨t,l,h1,h2,h3,h4⟩:=HB k (hk k (by simp)) c (kidsK (d + 1) cs ++ [93] :: ts) r (full_append (kidsK_full _ _) (full_mk (by simp) hf)) (fun _ => fre_kidsW hk2 _ ts r hf)
   have hless:=J_less (kidsK (d + 1) cs ++ [93] :: ts) c r (toksW_full (d + 1) k) (toksW_ne d k)
   simp only [List.length_cons] at hl
   rw [arrS,h1]
   dsimp only
   rw [if_neg h3,if_neg (by omega),h4]
   dsimp only
   rw [arr_backW HB cs (acc ++ [k]) fuel _ ts r hf hk2 (by simp;omega) (by omega)]
   simp
theorem dict_backW {d : Nat} (HB : BackW (d + 1)) : ∀ (ps acc : List (L × Ob)) (fuel : Nat) (c : UInt8) (ts : List L) (r : L), full ts → (∀ p ∈ ps, nameB p.1 = true ∧ okO (d + 1) p.2) → (acc ++ ps).Pairwise (fun p q => p.1 ≠ q.1) → acc.length + ps.length ≤ 8191 → (J c (pairsK (d + 1) ps ++ [62, 62] :: ts) r).length < fuel →
   dictS (objS (d + 1)) fuel (J c (pairsK (d + 1) ps ++ [62,62] :: ts) r) acc = .good (acc ++ ps,J 62 ts r)
 | [],acc,0,c,ts,r,_,_,_,_,h => by omega
 | [],acc,fuel + 1,c,ts,r,hf,_,_,_,_ => by
   rw [show pairsK (d + 1) [] ++ [62,62] :: ts = [62,62] :: ts from rfl,dictS,(tokP_mark2 (.inr rfl)).next c r hf]
   simp [lastB]
 | p :: ps,acc,0,c,ts,r,_,_,_,_,h => by omega
 | p :: ps,acc,fuel + 1,c,ts,r,hf,hk,hd,hl,hfu => by
   rw [pairsK_cons] at hfu ⊢
   obtain ⟨hp1,hp2⟩:=hk p (by simp)
   have hk2 : ∀ x ∈ ps,nameB x.1 = true ∧ okO (d + 1) x.2:=fun x hx => hk x (by simp [hx])
   have hfull : full (pairsK (d + 1) ps ++ [62,62] :: ts):=full_append (pairsK_full _ _) (full_mk (by simp) hf)
   obtain ⟨t,l,h1,h2,h3,h4⟩:=HB p.2 hp2 (lastB (nameW p.1)) (pairsK (d + 1) ps ++ [62,62] :: ts) r hfull (fun _ => fre_pairsW (d:=d + 1) (fun x hx => (hk2 x hx).1) _ ts r hf)
   have hless : (J (lastW (lastB (nameW p.1)) (toksW (d + 1) p.2)) (pairsK (d + 1) ps ++ [62,62] :: ts) r).length < (J c (nameW p.1 :: (toksW (d + 1) p.2 ++ (pairsK (d + 1) ps ++ [62,62] :: ts))) r).length:=by
     have:=J_less (a:=nameW p.1 :: toksW (d + 1) p.2) (pairsK (d + 1) ps ++ [62,62] :: ts) c r (full_mk (by simp [nameW]) (toksW_full _ _)) (by simp)
     rw [lastW_cons _ _ (by simp [nameW])] at this
     simpa using this
   simp only [List.length_cons] at hl
   have hany : ¬ (acc.any fun q => q.1 == p.1) = true:=by
     intro hh
     obtain ⟨q,hq,he⟩:=List.any_eq_true.1 hh
     exact (List.pairwise_append.1 hd).2.2 q hq p (by simp) (by simpa using he)
   rw [dictS,(tokP_name hp1).next c r (full_append (toksW_full _ _) hfull)]
   dsimp only
   rw [if_neg (by simp),if_neg (by simp),if_neg hany,if_neg (by omega),h1]
   dsimp only
   rw [h4]
   dsimp only
   rw [dict_backW HB ps (acc ++ [p]) fuel _ ts r hf hk2 (by simpa using hd) (by simp;omega) (by omega)]
   simp
theorem ref_backW (n g : Int) (t : Tok) (b : UInt8) (ts : List L) (r : L) (hf : full ts) (hn : t.n = n) (h : 1 ≤ n ∧ n ≤ 8191 ∧ 0 ≤ g ∧ g ≤ 65535) : refS t (J b (digI g :: [82] :: ts) r) = some (g,J 82 ts r):=by
 have h1:=(tokP_int g (by omega) (by omega)).next b r (full_mk (p:=[82]) (by simp) hf)
 obtain ⟨g1,_,g3⟩:=nextS_good h1
 have h2:=(tokP_word (.inr (.inr (.inr rfl)))).next (lastB (digI g)) r hf
 obtain ⟨w1,_,w3⟩:=nextS_good h2
 unfold refS
 rw [if_neg (by omega),g1]
 dsimp only
 rw [if_neg (by simp;omega)]
 dsimp only at g3
 rw [← g3,w1]
 dsimp only
 dsimp only at w3
 rw [if_pos ⟨rfl,rfl⟩,← w3]
 rfl
theorem back_allW : ∀ d,BackW d
 | 0 => fun o h => h.elim
 | d + 1 => by
   intro o h c ts r hf hfr
   obtain ⟨t,l,h1,h2,h3,_,h5⟩:=first_tokW h c ts r hf
   refine ⟨t,l,h1,h2,h3,?_⟩
   rcases h5 with ⟨hk,hk1,hn,rfl,ho,ht⟩ | ⟨hk,hk1,hn,rfl,ho,ht,g1,g2,g3,g4⟩ | ⟨hk,hk2,⟨p,ht,hp,rfl,h6⟩ | ⟨h6,h7,h8,rfl,ho,ht⟩ | ⟨h6,h7,h8,rfl,ho,hkb,ht⟩⟩
   · rw [objS,if_pos h2,if_pos hk1,hfr hk t,ht,lastW_one _ (by have:=(tokP_int 0 (by omega) (by omega)).ne;have e:=toksW_full (d + 1) o;rw [ht] at e;exact (full_cons e).1),hn,← ho]
   · rw [objS,if_pos h2,if_pos hk1,ref_backW o.n o.g t _ ts r hf hn ⟨g1,g2,g3,g4⟩]
     dsimp only
     rw [hn,← ho,ht,show ([digI o.n,digI o.g,[82]] : List L) = [digI o.n,digI o.g] ++ [[82]] from rfl,lastW_snoc _ _ (by simp)]
     rfl
   · rw [ht,lastW_one _ hp];exact h6 d
   · obtain ⟨e1,_,_,_,hl,_,hks⟩:=h
     rw [ht,← List.cons_append,lastW_snoc _ _ (by simp)]
     rw [objS,if_pos h2,if_neg (by omega),if_neg (by omega),if_neg (by omega),if_neg (by omega),if_neg (by omega),if_pos h8]
     cases d with
     | zero =>
       have hc0 : o.kids = []:=by
         cases hh : o.kids with
         | nil => rfl
         | cons k ks => exact (hks k (by rw [hh];simp)).elim
       rw [hc0] at ho
       rw [hc0,show kidsK 0 [] ++ [93] :: ts = [93] :: ts from rfl,arrS,(tokP_mark1 (.inr rfl)).next 91 r hf]
       simp [← ho]
     | succ d =>
       rw [arr_backW (back_allW (d + 1)) o.kids [] _ 91 ts r hf hks (by simpa using hl) (by omega)]
       dsimp only
       rw [List.nil_append,← ho]
       rfl
   · obtain ⟨e1,_,_,_,hl,_,hks⟩:=h
     rw [ht,← List.cons_append,lastW_snoc _ _ (by simp)]
     rw [objS,if_pos h2,if_neg (by omega),if_neg (by omega),if_neg (by omega),if_neg (by omega),if_neg (by omega),if_neg (by rw [h8];decide)]
     rw [ho] at hkb
     obtain ⟨s1,s2,s3,s4⟩:=dict_same hkb
     cases d with
     | zero =>
       have hc0 : o.kids = []:=by
         cases hh : o.kids with
         | nil => rfl
         | cons k ks => exact (hks k (by rw [hh];simp)).elim
       have hk0 : o.keys = []:=List.eq_nil_of_length_eq_zero (by rw [hc0] at s1;simpa using s1)
       rw [hk0,hc0] at ho s4
       rw [hk0,hc0,show pairsK 0 (([] : List L).zip ([] : List Ob)) ++ [62,62] :: ts = [62,62] :: ts from rfl,dictS,(tokP_mark2 (.inr rfl)).next 60 r hf]
       simp only [List.zip_nil_left] at s4
       simp [s4]
       exact ho.symm
     | succ d =>
       have hz : (o.keys.zip o.kids).length ≤ 8191:=by simp;omega
       rw [dict_backW (back_allW (d + 1)) (o.keys.zip o.kids) [] _ 60 ts r hf ?_ ?_ (by simpa using hz) (by omega)]
       · dsimp only
         rw [List.nil_append,s4,← ho]
         rfl
       · intro p hp
         exact ⟨s2 p.1 (List.of_mem_zip hp).1,hks p.2 (List.of_mem_zip hp).2⟩
       · rw [List.nil_append]
         have : ((o.keys.zip o.kids).map (·.1)).Pairwise (· ≠ ·):=by
           rw [List.map_fst_zip (by omega)]
           exact s3.imp (fun h he => by subst he;exact absurd h (List.lt_irrefl _))
         exact List.pairwise_map.1 this
theorem readS_text {o : Ob} (h : okO 24 o) (r : L) (hfr : o.kind = 2 → fre (10 :: r)) : readS (textW o ++ 10 :: r) = .good (o,10 :: r):=by
 obtain ⟨t,l,h1,_,_,h4⟩:=back_allW 24 o h 32 [] r (fun q hq => by simp at hq) hfr
 unfold readS
 rw [List.append_nil] at h1
 have e : J 32 (toksW 24 o) r = textW o ++ 10 :: r:=rfl
 rw [e] at h1
 rw [h1];exact h4
def numR (l : L) (lo hi : Int) : Option (Int × L) :=
 match (nextT l).2 with
 | .bad _ => none
 | .good t => if t.kind = 1 ∧ lo ≤ t.n ∧ t.n ≤ hi then some (t.n,l.drop ((nextT l).1 + t.len)) else none
def wordR (l w : L) : Option L :=
 match (nextT l).2 with
 | .bad _ => none
 | .good t => if t.kind = 5 ∧ t.s = w then some (l.drop ((nextT l).1 + t.len)) else none
def entryR (num : Int) (l : L) : Option (Sl × L) :=
 match numR l 0 2147483647 with
 | none => none
 | some (a,l1) =>
   match numR l1 0 65535 with
   | none => none
   | some (b,l2) =>
     match wordR l2 [110] with
     | some l3 => some (⟨num,1,a,b⟩,l3)
     | none =>
       match wordR l2 [102] with
       | some l3 => some (⟨num,0,a,b⟩,l3)
       | none => none
def layR : List Sl → Sl → Option (List Sl)
 | [],x => some [x]
 | y :: l,x => if y.num < x.num then (layR l x).map (y :: ·) else if y.num = x.num then none else some (x :: y :: l)
def entriesR : Nat → Int → L → List Sl → Option (List Sl × L)
 | 0,_,l,acc => some (acc,l)
 | n + 1,num,l,acc =>
   match entryR num l with
   | none => none
   | some (x,l1) =>
     match layR acc x with
     | none => none
     | some acc1 => entriesR n (num + 1) l1 acc1
def wordX : L:=[120,114,101,102]
def wordTr : L:=[116,114,97,105,108,101,114]
def sectR : Nat → L → List Sl → Option (List Sl × L)
 | 0,_,_ => none
 | f + 1,l,acc =>
   match wordR l wordTr with
   | some l1 => some (acc,l1)
   | none =>
     match numR l 0 8191 with
     | none => none
     | some (first,l1) =>
       match numR l1 0 (8192 - first) with
       | none => none
       | some (count,l2) =>
         match entriesR count.toNat first l2 acc with
         | none => none
         | some (acc1,l3) => sectR f l3 acc1
def tableR (l : L) : Option (List Sl × Ob × L) :=
 if l.take 4 = wordX then
   match wordR l wordX with
   | none => none
   | some l1 =>
     match sectR (l1.length + 1) l1 [] with
     | none => none
     | some (ps,l2) =>
       match readS l2 with
       | .bad _ => none
       | .good (o,l3) => if o.kind = 7 then some (ps,o,l3) else none
 else none
theorem numR_of {l r : L} {t : Tok} {lo hi : Int} (h : nextS l = .good (t,r)) (hk : t.kind = 1) (h1 : lo ≤ t.n) (h2 : t.n ≤ hi) : numR l lo hi = some (t.n,r):=by
 obtain ⟨g1,_,g3⟩:=nextS_good h
 unfold numR
 rw [g1]
 dsimp only
 rw [if_pos ⟨hk,h1,h2⟩,g3]
theorem wordR_of {l r w : L} {t : Tok} (h : nextS l = .good (t,r)) (hk : t.kind = 5) (hs : t.s = w) : wordR l w = some r:=by
 obtain ⟨g1,_,g3⟩:=nextS_good h
 unfold wordR
 rw [g1]
 dsimp only
 rw [if_pos ⟨hk,hs⟩,g3]
theorem wordR_no {l r w : L} {t : Tok} (h : nextS l = .good (t,r)) (hk : ¬ (t.kind = 5 ∧ t.s = w)) : wordR l w = none:=by
 obtain ⟨g1,_,g3⟩:=nextS_good h
 unfold wordR
 rw [g1]
 dsimp only
 rw [if_neg hk]
theorem val_zeros (k : Nat) (l : L) : val (List.replicate k 48 ++ l) = val l:=by
 induction k with
 | zero => simp
 | succ k ih =>
   rw [List.replicate_succ,List.cons_append,← ih]
   simp [val]
theorem padW_ok (w n : Nat) (h : n ≤ 2147483647) : wordT (padW w n) = .good ⟨1,(padW w n).length,n,[]⟩ ∧ (∀ c ∈ padW w n,regular c = true) ∧ padW w n ≠ []:=by
 obtain ⟨g1,g2,g3,g4⟩:=digU_ok n
 have hr : ∀ c ∈ padW w n,regular c = true ∧ c ≠ 46 ∧ sign c = false:=by
   intro c hc
   rcases List.mem_append.1 hc with hc | hc
   · rw [(List.mem_replicate.1 hc).2];decide
   · exact g4 c hc
 have hne : padW w n ≠ []:=by unfold padW;simp [g3]
 have hu:=unsigned_no (fun c hc => (hr c hc).2.2)
 have hm:=minus_no (fun c hc => (hr c hc).2.2)
 have ha : allDig (padW w n) = true:=by
   unfold padW allDig at *
   rw [List.all_append,g1]
   simp only [List.all_replicate,Bool.and_true]
   split <;> decide
 have hv : val (padW w n) = n:=by unfold padW;rw [val_zeros,g2]
 have hi : isInt (padW w n) = true:=by unfold isInt;rw [hu,ha];simp [hne]
 refine ⟨?_,fun c hc => (hr c hc).1,hne⟩
 unfold wordT wholeV
 rw [if_pos hi,hu,hv,if_neg (by omega),hm]
 simp
theorem next_digU (n : Nat) (h : n ≤ 2147483647) {l : L} (hl : Stop l) : nextS (digU n ++ l) = .good (⟨1,(digU n).length,n,[]⟩,l):=by
 obtain ⟨g1,g2,g3⟩:=digI_ok n (by omega) (by omega)
 have e : digI (n : Int) = digU n:=by unfold digI;rw [if_neg (by omega)];rfl
 rw [e] at g1 g2 g3
 exact (nextT_run g2 g3 hl g1).2
theorem next_padW (w n : Nat) (h : n ≤ 2147483647) {l : L} (hl : Stop l) : nextS (padW w n ++ l) = .good (⟨1,(padW w n).length,n,[]⟩,l):=by
 obtain ⟨g1,g2,g3⟩:=padW_ok w n h
 exact (nextT_run g2 g3 hl g1).2
theorem stop32 (l : L) : Stop (32 :: l):=⟨32,l,rfl,by decide⟩
theorem stop10 (l : L) : Stop (10 :: l):=⟨10,l,rfl,by decide⟩
theorem next_chr {c : UInt8} (h : c = 110 ∨ c = 102) {l : L} (hl : Stop l) : nextS (c :: l) = .good (⟨5,1,0,[c]⟩,l):=by
 rcases h with rfl | rfl
 · exact (nextT_run (x:=[110]) (by decide) (by decide) hl rfl).2
 · exact (nextT_run (x:=[102]) (by decide) (by decide) hl rfl).2
theorem entry_back {n : Nat} {x : Sl} (hx : SlotOk n x) (c : UInt8) (hc : sep c) (r : L) : entryR n (c :: (rowW x ++ r)) = some (x,32 :: 10 :: r):=by
 obtain ⟨num,kind,a,b⟩:=x
 obtain ⟨h1,h2,h3,h4,h5,h6,h7⟩:=hx
 dsimp only at h1 h2 h3 h4 h5 h6 h7
 obtain rfl:=h1
 have e : rowW ⟨n,kind,a,b⟩ ++ r = padW 10 a.toNat ++ 32 :: (padW 5 b.toNat ++ 32 :: ((if kind = 1 then 110 else 102) :: 32 :: 10 :: r)):=by unfold rowW;simp
 rw [e]
 unfold entryR
 have n1:=(nextS_sep c (padW 10 a.toNat ++ 32 :: (padW 5 b.toNat ++ 32 :: ((if kind = 1 then 110 else 102) :: 32 :: 10 :: r))) hc).trans (next_padW 10 a.toNat (by omega) (stop32 _))
 rw [numR_of n1 rfl (by show (0 : Int) ≤ (a.toNat : Int);omega) (by show ((a.toNat : Nat) : Int) ≤ 2147483647;omega)]
 dsimp only
 have n2:=(nextS_sep 32 (padW 5 b.toNat ++ 32 :: ((if kind = 1 then 110 else 102) :: 32 :: 10 :: r)) sep32).trans (next_padW 5 b.toNat (by omega) (stop32 _))
 rw [numR_of n2 rfl (by show (0 : Int) ≤ (b.toNat : Int);omega) (by show ((b.toNat : Nat) : Int) ≤ 65535;omega)]
 dsimp only
 rcases h2 with rfl | rfl
 · rw [if_neg (by decide)]
   have n3:=(nextS_sep 32 (102 :: 32 :: 10 :: r) sep32).trans (next_chr (.inr rfl) (stop32 _))
   rw [wordR_no n3 (by simp),wordR_of n3 rfl rfl]
   simp [Int.toNat_of_nonneg h3,Int.toNat_of_nonneg h5]
 · rw [if_pos rfl]
   have n3:=(nextS_sep 32 (110 :: 32 :: 10 :: r) sep32).trans (next_chr (.inl rfl) (stop32 _))
   rw [wordR_of n3 rfl rfl]
   simp [Int.toNat_of_nonneg h3,Int.toNat_of_nonneg h5]
theorem layR_last : ∀ (l : List Sl) (x : Sl),(∀ y ∈ l,y.num < x.num) → layR l x = some (l ++ [x])
 | [],_,_ => rfl
 | y :: l,x,h => by
   rw [layR,if_pos (h y (by simp)),layR_last l x (fun z hz => h z (by simp [hz]))]
   rfl
theorem entriesR_sep (n : Nat) (num : Int) (c : UInt8) (hc : sep c) (l : L) (acc : List Sl) (hn : n ≠ 0) : entriesR n num (c :: l) acc = entriesR n num l acc:=by
 have h1 : ∀ lo hi,numR (c :: l) lo hi = numR l lo hi:=fun lo hi => by
   unfold numR
   rw [nextT_sep c l hc]
   dsimp only
   cases (nextT l).2 with
   | bad e => rfl
   | good t => dsimp only;rw [show (nextT l).1 + 1 + t.len = ((nextT l).1 + t.len) + 1 by omega,List.drop_succ_cons]
 cases n with
 | zero => exact absurd rfl hn
 | succ n => rw [entriesR,entriesR];unfold entryR;rw [h1]
theorem entries_back : ∀ (xs acc : List Sl) (num : Nat) (c : UInt8) (r : L), xs ≠ [] → sep c → (∀ i (h : i < xs.length), SlotOk (num + i) xs[i]) → (∀ y ∈ acc, y.num < num) →
   entriesR xs.length num (c :: (xs.flatMap rowW ++ r)) acc = some (acc ++ xs,32 :: 10 :: r)
 | [],_,_,_,_,h,_,_,_ => absurd rfl h
 | x :: xs,acc,num,c,r,_,hc,hx,ha => by
   have h0 : SlotOk num x:=hx 0 (by simp)
   have hlay : layR acc x = some (acc ++ [x]):=layR_last acc x (fun y hy => by rw [h0.num];exact ha y hy)
   rw [List.length_cons,entriesR,List.flatMap_cons,List.append_assoc,entry_back h0 c hc]
   dsimp only
   rw [hlay]
   dsimp only
   have e1 : ((num : Nat) : Int) + 1 = ((num + 1 : Nat) : Int):=by omega
   rw [e1]
   cases xs with
   | nil => rw [List.length_nil,entriesR];simp
   | cons y ys =>
     rw [entriesR_sep _ _ 32 sep32 _ _ (by simp)]
     rw [entries_back (y :: ys) (acc ++ [x]) (num + 1) 10 r (by simp) (.inr rfl) (fun i hi => by have:=hx (i + 1) (by simpa using hi);rw [show num + 1 + i = num + (i + 1) by omega];simpa using this) (fun z hz => by
       rcases List.mem_append.1 hz with hz | hz
       · have:=ha z hz;omega
       · simp only [List.mem_singleton] at hz;subst hz;rw [h0.num];omega)]
     simp
theorem okO_of_check {o : Ob} (h : checkB 24 o = 0) (h9 : o.kind ≠ 9) : okO 24 o:=by
 have key : ∀ (d : Nat) (o : Ob),d ≤ 24 → checkB d o = 0 → o.kind ≠ 9 → okO d o:=by
   intro d
   induction d with
   | zero => intro o _ h _;cases h
   | succ d ih =>
     intro o hd h h9
     obtain ⟨h1,h2,h3,h4,h5,h6,h7⟩:=(checkB_iff d o).1 h
     refine ⟨h1,h9,h3,h4,h5,h6,fun k hk => ih k (by omega) (h7 k hk) (fun hk9 => ?_)⟩
     have:=h7 k hk
     cases d with
     | zero => cases this
     | succ d =>
       have:=((checkB_iff d k).1 this).top hk9
       omega
 exact key 24 o (Nat.le_refl _) h h9
theorem table_back {l : List Sl} {t : Ob} (r : L) (hl : l ≠ []) (hn : l.length ≤ 8192) (hs : ∀ i (h : i < l.length), SlotOk i l[i]) (ht : checkB 24 t = 0) (hk : t.kind = 7) :
   tableR (tableW l t ++ r) = some (l,t,10 :: r):=by
 have e : tableW l t ++ r = wordX ++ 10 :: (48 :: 32 :: (digU l.length ++ 10 :: (l.flatMap rowW ++ (wTrailer ++ (textW t ++ 10 :: r))))):=by unfold tableW wXref wordX;simp
 rw [e]
 obtain ⟨T,hT⟩ : ∃ T,textW t ++ 10 :: r = T:=⟨_,rfl⟩
 have hback:=readS_text (okO_of_check ht (by omega)) r (fun h2 => by omega)
 rw [hT] at hback
 rw [hT]
 unfold tableR
 rw [if_pos (show (wordX ++ 10 :: 48 :: 32 :: (digU l.length ++ 10 :: (List.flatMap rowW l ++ (wTrailer ++ T)))).take 4 = wordX from rfl)]
 have n0 : nextS (wordX ++ 10 :: (48 :: 32 :: (digU l.length ++ 10 :: (l.flatMap rowW ++ (wTrailer ++ T))))) = .good (⟨5,4,0,wordX⟩,_):=(nextT_run (x:=wordX) (by decide) (by decide) (stop10 _) rfl).2
 rw [wordR_of n0 rfl rfl]
 dsimp only
 have d0 : digU 0 = [48]:=by unfold digU;rfl
 have n1 : nextS (10 :: (48 :: 32 :: (digU l.length ++ 10 :: (l.flatMap rowW ++ (wTrailer ++ T))))) = .good (⟨1,1,0,[]⟩,32 :: (digU l.length ++ 10 :: (l.flatMap rowW ++ (wTrailer ++ T)))):=by
   have:=next_digU 0 (by omega) (stop32 (digU l.length ++ 10 :: (l.flatMap rowW ++ (wTrailer ++ T))))
   rw [d0] at this
   rw [nextS_sep 10 _ (.inr rfl)]
   exact this
 rw [sectR,wordR_no n1 (by simp),numR_of n1 rfl (by simp) (by simp)]
 dsimp only
 have n2:=(nextS_sep 32 (digU l.length ++ 10 :: (l.flatMap rowW ++ (wTrailer ++ T))) sep32).trans (next_digU l.length (by omega) (stop10 _))
 rw [numR_of n2 rfl (by simp) (by simp;omega)]
 dsimp only
 have hE:=entries_back l [] 0 10 (wTrailer ++ T) hl (.inr rfl) (fun i hi => by rw [Nat.zero_add];exact hs i hi) (by simp)
 have e0 : ((0 : Nat) : Int) = 0:=rfl
 rw [e0] at hE
 have e2 : (((l.length : Nat) : Int)).toNat = l.length:=by simp
 rw [e2,hE]
 dsimp only
 rw [List.nil_append]
 have n3 : nextS (32 :: 10 :: (wTrailer ++ T)) = .good (⟨5,7,0,wordTr⟩,10 :: T):=by
   rw [nextS_sep 32 _ sep32,nextS_sep 10 _ (.inr rfl)]
   exact (nextT_run (x:=wordTr) (l:=10 :: T) (by decide) (by decide) (stop10 _) rfl).2
 have hlen : ∃ f,(10 :: 48 :: 32 :: (digU l.length ++ 10 :: (List.flatMap rowW l ++ (wTrailer ++ T)))).length = f + 1:=⟨_,rfl⟩
 obtain ⟨f,hf⟩:=hlen
 rw [hf,sectR,wordR_of n3 rfl rfl]
 dsimp only
 have hr : readS (10 :: T) = readS T:=by unfold readS;rw [nextS_sep 10 _ (.inr rfl)]
 rw [hr,hback]
 dsimp only
 rw [if_pos hk]
def wordObj : L:=[111,98,106]
def wordEnd : L:=[101,110,100,111,98,106]
def wordStm : L:=[115,116,114,101,97,109]
def wordEst : L:=[101,110,100,115,116,114,101,97,109]
theorem next_wd {x l : L} (h : x = wordObj ∨ x = wordEnd ∨ x = wordStm ∨ x = wordEst ∨ x = wordX ∨ x = wordTr) (hl : Stop l) : nextS (x ++ l) = .good (⟨5,x.length,0,x⟩,l):=by
 rcases h with rfl | rfl | rfl | rfl | rfl | rfl
 · exact (nextT_run (by decide) (by decide) hl rfl).2
 · exact (nextT_run (by decide) (by decide) hl rfl).2
 · exact (nextT_run (by decide) (by decide) hl rfl).2
 · exact (nextT_run (by decide) (by decide) hl rfl).2
 · exact (nextT_run (by decide) (by decide) hl rfl).2
 · exact (nextT_run (by decide) (by decide) hl rfl).2
theorem next_digI (n : Int) (h1 : -2147483647 ≤ n) (h2 : n ≤ 2147483647) {l : L} (hl : Stop l) : nextS (digI n ++ l) = .good (⟨1,(digI n).length,n,[]⟩,l):=by
 obtain ⟨g1,g2,g3⟩:=digI_ok n h1 h2
 exact (nextT_run g2 g3 hl g1).2
theorem head_back {i : It} (h : numsB i = true) (X : L) : ∃ l1 l2,numR (headI i ++ X) 1 8191 = some (i.num,l1) ∧ numR l1 0 65535 = some (i.gen,l2) ∧ wordR l2 wordObj = some (10 :: X):=by
 obtain ⟨h1,h2,h3,h4⟩:=(numsB_iff i).1 h
 have e : headI i ++ X = digI i.num ++ 32 :: (digI i.gen ++ 32 :: (wordObj ++ 10 :: X)):=by unfold headI wObjL wordObj;simp
 rw [e]
 refine ⟨_,_,numR_of (next_digI i.num (by omega) (by omega) (stop32 _)) rfl h1 h2,numR_of ((nextS_sep 32 _ sep32).trans (next_digI i.gen (by omega) (by omega) (stop32 _))) rfl h3 h4,?_⟩
 exact wordR_of ((nextS_sep 32 _ sep32).trans (next_wd (.inl rfl) (stop10 _))) rfl rfl
def lenO (o : Ob) : Ob:=putO (.mk 7 0 0 [] o.keys o.kids) wLength (.int o.s.length)
def lastR (p : L) : L → Option Nat
 | [] => if p = [] then some 0 else none
 | c :: l => match lastR p l with
   | some k => some (k + 1)
   | none => if p.isPrefixOf (c :: l) then some 0 else none
def wordSx : L:=[115,116,97,114,116,120,114,101,102]
theorem lastR_app (p : L) : ∀ (a b : L) (k : Nat),lastR p b = some k → lastR p (a ++ b) = some (a.length + k)
 | [],b,k,h => by simpa using h
 | c :: a,b,k,h => by
   rw [List.cons_append,lastR,lastR_app p a b k h]
   simp;omega
theorem lastR_no (l : L) (h : ∀ c ∈ l,c ≠ 115) : lastR wordSx l = none:=by
 induction l with
 | nil => rfl
 | cons c l ih =>
   rw [lastR,ih (fun x hx => h x (by simp [hx]))]
   have : (wordSx.isPrefixOf (c :: l)) = false:=by
     unfold wordSx
     rw [List.isPrefixOf]
     have hc:=h c (by simp)
     have : ((115 : UInt8) == c) = false:=by simpa using fun e => hc e.symm
     rw [this];rfl
   dsimp only
   rw [this];rfl
theorem digU_no (n : Nat) : ∀ c ∈ digU n,c ≠ 115:=by
 intro c hc
 have h1:=(digU_ok n).1
 unfold allDig at h1
 have:=List.all_eq_true.1 h1 c hc
 rintro rfl
 revert this;decide
theorem last_start (a : L) (n : Nat) : lastR wordSx (a ++ tailW n) = some a.length:=by
 have h0 : lastR wordSx (tailW n) = some 0:=by
   have e : tailW n = 115 :: ([116,97,114,116,120,114,101,102,10] ++ (digU n ++ wEof)):=by unfold tailW wStart;simp
   rw [e,lastR,lastR_no _ (fun c hc => ?_)]
   · rfl
   · rcases List.mem_append.1 hc with hc | hc
     · exact (show ∀ c ∈ ([116,97,114,116,120,114,101,102,10] : L),c ≠ 115 by decide) c hc
     · rcases List.mem_append.1 hc with hc | hc
       · exact digU_no n c hc
       · exact (show ∀ c ∈ wEof,c ≠ 115 by decide) c hc
 have:=lastR_app wordSx a (tailW n) 0 h0
 simpa using this
theorem start_back (n : Nat) (h : n ≤ 2147483647) : nextS ((tailW n).drop 9) = .good (⟨1,(digU n).length,n,[]⟩,wEof):=by
 have e : (tailW n).drop 9 = 10 :: (digU n ++ wEof):=rfl
 rw [e,nextS_sep 10 _ (.inr rfl)]
 exact next_digU n h ⟨10,[37,37,69,79,70,10],rfl,by decide⟩
def dropO (o : Ob) (k : L) : Ob:=o.withK (((o.keys.zip o.kids).filter fun p => !(p.1 == k)).map (·.1)) (((o.keys.zip o.kids).filter fun p => !(p.1 == k)).map (·.2))
theorem drop_put {o : Ob} {k : L} (v : Ob) (hk : k ∉ o.keys) (hl : o.keys.length = o.kids.length) : dropO (putO o k v) k = o:=by
 rw [put_new v hk]
 obtain ⟨kd,n,g,s,ks,cs⟩:=o
 have hle:=lowS_le ks k
 obtain ⟨i,hi⟩ : ∃ i,lowS ks k = i:=⟨_,rfl⟩
 simp only [Ob.keys,Ob.kids] at hk hl hi ⊢
 rw [hi] at hle ⊢
 unfold dropO
 simp only [Ob.withK,Ob.keys,Ob.kids,Ob.kind,Ob.n,Ob.g,Ob.s]
 have hz : (ks.take i ++ k :: ks.drop i).zip (cs.take i ++ v :: cs.drop i) = (ks.take i).zip (cs.take i) ++ (k,v) :: (ks.drop i).zip (cs.drop i):=by
   rw [List.zip_append (by simp;omega)];rfl
 have hkeep : ∀ (a : List L) (b : List Ob),(∀ x ∈ a,x ∈ ks) → (a.zip b).filter (fun p => !(p.1 == k)) = a.zip b:=fun a b ha => by
   rw [List.filter_eq_self]
   rintro ⟨x,y⟩ hp
   have:=ha x (List.of_mem_zip hp).1
   have : x ≠ k:=fun e => hk (e ▸ this)
   simpa using this
 rw [hz,List.filter_append,List.filter_cons,hkeep _ _ (fun x hx => List.mem_of_mem_take hx),hkeep _ _ (fun x hx => List.mem_of_mem_drop hx)]
 rw [if_neg (by simp)]
 have hz2 : (ks.take i).zip (cs.take i) ++ (ks.drop i).zip (cs.drop i) = ks.zip cs:=by
   rw [← List.zip_append (by simp;omega),List.take_append_drop,List.take_append_drop]
 rw [hz2,List.map_fst_zip (by omega),List.map_snd_zip (by omega)]
theorem lenO_drop {o : Ob} (h : checkB 24 o = 0) (h9 : o.kind = 9) : wLength ∉ o.keys ∧ o.keys.length = o.kids.length ∧ dropO (lenO o) wLength = .mk 7 0 0 [] o.keys o.kids ∧ o = .mk 9 0 0 o.s o.keys o.kids:=by
 have hc:=(checkB_iff 23 o).1 h
 have hK:=(keysB_iff o (.inr h9)).1 hc.keys
 have hno : wLength ∉ o.keys:=fun hm => hK.own h9 _ hm rfl
 refine ⟨hno,hK.len,drop_put _ (by simpa [Ob.keys] using hno) (by simpa [Ob.keys,Ob.kids] using hK.len),?_⟩
 have hu:=hc.uses
 obtain ⟨kd,n,g,s,ks,cs⟩:=o
 obtain rfl : kd = 9:=h9
 simp [usesB,zeroB,Ob.kind,Ob.n,Ob.g,Ob.s,Ob.keys,Ob.kids] at hu
 obtain ⟨rfl,rfl⟩:=hu
 rfl
theorem dict_chk {o : Ob} (h : checkB 24 o = 0) (h9 : o.kind = 9) : checkB 24 (.mk 7 0 0 [] o.keys o.kids) = 0:=by
 have hc:=(checkB_iff 23 o).1 h
 have hK:=(keysB_iff o (.inr h9)).1 hc.keys
 refine (checkB_iff 23 _).2 ⟨by simp [usesB,zeroB,Ob.kind,Ob.n,Ob.g,Ob.s],by simp [Ob.kind],by simp [fitsB,Ob.kind],by simp [Ob.s],hc.many,?_,hc.kids⟩
 exact (keysB_iff _ (.inl rfl)).2 ⟨hK.len,hK.name,hK.up,by simp [Ob.kind],hK.kids⟩
theorem lenO_kind (o : Ob) : (lenO o).kind = 7:=by unfold lenO putO;rfl
theorem itemW_good {i : It} {t : L} (h : itemW i = .good t) : numsB i = true ∧ checkB 24 i.ob = 0 ∧ i.ob.kind ≠ 8 ∧
   ((i.ob.kind ≠ 9 ∧ t = headI i ++ (textW i.ob ++ 10 :: wEndobj)) ∨ (i.ob.kind = 9 ∧ checkB 24 (lenO i.ob) = 0 ∧ t = headI i ++ (textW (lenO i.ob) ++ 10 :: (wStream ++ (i.ob.s ++ (wEndstream ++ wEndobj)))))):=by
 unfold itemW at h
 cases h1 : numsB i
 · rw [h1] at h;cases h
 rw [h1] at h
 simp only [Bool.not_true,Bool.false_eq_true,if_false] at h
 by_cases h2 : checkB 24 i.ob ≠ 0
 · rw [if_pos h2] at h;cases h
 rw [if_neg h2] at h
 have h2' : checkB 24 i.ob = 0:=by omega
 by_cases h3 : i.ob.kind = 8
 · rw [if_pos h3] at h;cases h
 rw [if_neg h3] at h
 refine ⟨rfl,h2',h3,?_⟩
 by_cases h4 : i.ob.kind = 9
 · rw [if_pos h4] at h
   right
   refine ⟨h4,?_⟩
   unfold setO at h
   rw [if_neg (by simp [dictB,Ob.kind]),if_neg (by rw [dict_chk h2' h4];simp)] at h
   by_cases h5 : checkB 24 (lenO i.ob) ≠ 0
   · unfold lenO at h5
     rw [if_pos h5] at h;cases h
   · have h6 : checkB 24 (lenO i.ob) = 0:=by omega
     unfold lenO at h5
     rw [if_neg h5] at h
     cases h
     exact ⟨h6,rfl⟩
 · rw [if_neg h4] at h
   cases h
   exact .inl ⟨h4,rfl⟩
theorem partsW_at : ∀ {s : L} {l : List It} {r : L} {ps : List Sl}, partsW s l = .good (r, ps) → ps.length = l.length ∧ (∃ y, r = s ++ y) ∧
   ∀ k (h1 : k < l.length) (h2 : k < ps.length),∃ t rest,itemW l[k] = .good t ∧ r.drop ps[k].a.toNat = t ++ rest ∧ 0 ≤ ps[k].a ∧ ps[k].a ≤ r.length ∧ ps[k].num = l[k].num ∧ ps[k].b = l[k].gen ∧ ps[k].kind = 1
 | s,[],r,ps,h => by
   rw [partsW] at h
   cases h
   exact ⟨rfl,⟨[],by simp⟩,fun k h1 => by simp at h1⟩
 | s,i :: l,r,ps,h => by
   rw [partsW] at h
   cases h1 : itemW i with
   | bad k => rw [h1] at h;cases h
   | good t =>
     rw [h1] at h
     dsimp only at h
     cases h2 : partsW (s ++ t) l with
     | bad k => rw [h2] at h;cases h
     | good z =>
       obtain ⟨r2,p2⟩:=z
       rw [h2] at h
       cases h
       obtain ⟨a1,⟨y,rfl⟩,a3⟩:=partsW_at h2
       refine ⟨by simp [a1],⟨t ++ y,by simp⟩,fun k g1 g2 => ?_⟩
       cases k with
       | zero => exact ⟨t,y,h1,by simp,by simp,by simp;omega,rfl,rfl,rfl⟩
       | succ k =>
         obtain ⟨t2,rest,b1,b2⟩:=a3 k (by simpa using g1) (by simpa using g2)
         exact ⟨t2,rest,by simpa using b1,by simpa using b2⟩
theorem fileW_good {d : Dc} {f : L} {l : List Sl} (h : fileW d = .good (f,l)) : docB d = 0 ∧ f.length ≤ 1048576 ∧ ∃ s ps,partsW headW d.items = .good (s,ps) ∧ l = slotsW ps (mostW d.items) ∧ f = s ++ (tableW l (sizeT d) ++ tailW s.length):=by
 unfold fileW at h
 by_cases h1 : docB d ≠ 0
 · rw [if_pos h1] at h;cases h
 rw [if_neg h1] at h
 cases h2 : partsW headW d.items with
 | bad k => rw [h2] at h;cases h
 | good z =>
   obtain ⟨s,ps⟩:=z
   rw [h2] at h
   dsimp only at h
   by_cases h3 : 1048576 < (s ++ (tableW (slotsW ps (mostW d.items)) (sizeT d) ++ tailW s.length)).length
   · rw [if_pos h3] at h;cases h
   · rw [if_neg h3] at h
     cases h
     exact ⟨by omega,by omega,s,ps,rfl,rfl,rfl⟩
structure FileOk (d : Dc) (f : L) (l : List Sl) : Prop where
 short : f.length ≤ 1048576
 start : ∃ at',lastR wordSx f = some at' ∧ ∃ n t r,nextS (f.drop (at' + 9)) = .good (t,r) ∧ t.kind = 1 ∧ t.n = (n : Nat) ∧ n < f.length ∧ tableR (f.drop n) = some (l,sizeT d,10 :: tailW n) ∧ n ≤ f.length
 items : ∃ ps : List Sl,l = slotsW ps (mostW d.items) ∧ ps.Pairwise (fun a b => a.num < b.num) ∧ ps.length = d.items.length ∧
   ∀ k (h1 : k < d.items.length) (h2 : k < ps.length),∃ t rest,itemW d.items[k] = .good t ∧ f.drop ps[k].a.toNat = t ++ rest ∧ 0 ≤ ps[k].a ∧ ps[k].a ≤ f.length ∧ ps[k].num = d.items[k].num ∧ ps[k].b = d.items[k].gen ∧ ps[k].kind = 1
theorem fileW_ok {d : Dc} {f : L} {l : List Sl} (h : fileW d = .good (f,l)) : FileOk d f l:=by
 obtain ⟨hd,hf,s,ps,hp,rfl,rfl⟩:=fileW_good h
 obtain ⟨hI,hT⟩:=(docB_iff d).1 hd
 obtain ⟨hPO,_⟩:=partsW_ok hp
 obtain ⟨hlen,⟨y,hy⟩,hat⟩:=partsW_at hp
 have hsl : s.length ≤ 1048576:=by rw [List.length_append] at hf;omega
 have hmost:=mostW_le hI
 have hup : ps.Pairwise (fun a b => a.num < b.num):=by
   have h1:=(ItemsOk.up hI).2
   have h2 : (d.items.map (·.num)).Pairwise (· < ·):=List.pairwise_map.2 h1
   rw [← hPO.nums] at h2
   exact List.pairwise_map.1 h2
 refine ⟨hf,⟨(s ++ tableW (slotsW ps (mostW d.items)) (sizeT d)).length,?_,s.length,⟨1,(digU s.length).length,s.length,[]⟩,wEof,?_,rfl,rfl,?_,?_,by simp⟩,⟨ps,rfl,hup,hlen,?_⟩⟩
 · rw [← List.append_assoc];exact last_start _ _
 · rw [← List.append_assoc,List.drop_append,show (s ++ tableW (slotsW ps (mostW d.items)) (sizeT d)).length + 9 - (s ++ tableW (slotsW ps (mostW d.items)) (sizeT d)).length = 9 by omega,List.drop_of_length_le (by omega),List.nil_append]
   exact start_back s.length (by omega)
 · have : 0 < (tailW s.length).length:=by unfold tailW wStart;simp
   simp only [List.length_append];omega
 · rw [List.drop_left]
   refine table_back (tailW s.length) (fun h0 => ?_) (by rw [slotsW_len];omega) (fun i hi => ?_) ?_ ?_
   · have:=slotsW_len ps (mostW d.items);rw [h0] at this;simp at this
   · rw [slotsW_at]
     exact slotW_ok hPO hI (by omega) _ hmost i (by rw [slotsW_len] at hi;omega)
   · exact hT.size (by omega) (by omega)
   · unfold sizeT putO;exact hT.kind
 · intro k h1 h2
   obtain ⟨t,rest,b1,b2,b3,b4,b5⟩:=hat k h1 h2
   refine ⟨t,rest ++ (tableW (slotsW ps (mostW d.items)) (sizeT d) ++ tailW s.length),b1,?_,b3,by simp only [List.length_append];omega,b5⟩
   rw [List.drop_append_of_le_length (by omega),b2,List.append_assoc]
def keepT (k : L) : Bool:=k == wID || k == wInfo || k == wRoot
def trailR (o : Ob) : Ob :=
 if dictB o && checkB 24 o == 0 then .mk 7 0 0 [] (((o.keys.zip o.kids).filter fun p => keepT p.1).map (·.1)) (((o.keys.zip o.kids).filter fun p => keepT p.1).map (·.2))
 else .mk 7 0 0 [] [] []
theorem escW_le (c : UInt8) : (escW c).length ≤ 3:=by unfold escW;split <;> simp
theorem nameW_le (s : L) : (nameW s).length ≤ 3 * s.length + 1:=by
 have : ∀ l : L,(l.flatMap escW).length ≤ 3 * l.length:=by
   intro l
   induction l with
   | nil => simp
   | cons c l ih =>
     have:=escW_le c
     rw [List.flatMap_cons,List.length_append,List.length_cons];omega
 have:=this s
 simp only [nameW,List.length_cons];omega
theorem strC_le (c : UInt8) : (strC c).length ≤ 4:=by unfold strC;split <;> (try split) <;> simp
theorem strW_le (s : L) : (strW s).length ≤ 4 * s.length + 2:=by
 have : ∀ l : L,(l.flatMap strC).length ≤ 4 * l.length:=by
   intro l
   induction l with
   | nil => simp
   | cons c l ih =>
     have:=strC_le c
     rw [List.flatMap_cons,List.length_append,List.length_cons];omega
 have:=this s
 simp only [strW,List.length_cons,List.length_append,List.length_nil];omega
def lenK (ts : List L) : Nat:=(ts.map fun p => p.length + 1).sum
theorem lenK_cons (p : L) (ts : List L) : lenK (p :: ts) = p.length + 1 + lenK ts:=by simp [lenK]
theorem lenK_append (a b : List L) : lenK (a ++ b) = lenK a + lenK b:=by simp [lenK]
theorem lenK_one (p : L) : lenK [p] = p.length + 1:=by simp [lenK]
theorem lenK_len (ts : List L) : ts.length ≤ lenK ts:=by
 induction ts with
 | nil => simp
 | cons p ts ih => rw [lenK_cons,List.length_cons];omega
theorem lenK_mem {ts : List L} {p : L} (h : p ∈ ts) : p.length ≤ lenK ts:=by
 induction ts with
 | nil => cases h
 | cons q ts ih =>
   rw [lenK_cons]
   rcases List.mem_cons.1 h with rfl | h
   · omega
   · have:=ih h;omega
theorem joinW_le : ∀ (c : UInt8) (ts : List L),(joinW c ts).length ≤ lenK ts
 | _,[] => by simp [joinW]
 | c,[] :: ts => by
   have:=joinW_le c ts
   rw [joinW,lenK_cons];omega
 | c,(x :: p) :: ts => by
   have:=joinW_le ((x :: p).getLast (by simp)) ts
   rw [joinW,lenK_cons]
   simp only [List.length_append,List.length_cons]
   split <;> simp <;> omega
theorem kidsK_le {d : Nat} {cs : List Ob} (h : ∀ k ∈ cs,lenK (toksW d k) + 6 ≤ 48 * bulkO d k) : lenK (kidsK d cs) ≤ 48 * (cs.map (bulkO d)).sum:=by
 induction cs with
 | nil => simp [kidsK,lenK]
 | cons k cs ih =>
   have h1:=h k (by simp)
   have h2:=ih (fun x hx => h x (by simp [hx]))
   have h3:=kidsK_cons d k cs []
   rw [List.append_nil,List.append_nil] at h3
   rw [h3,lenK_append]
   simp only [List.map_cons,List.sum_cons]
   omega
theorem pairsK_le {d : Nat} : ∀ {ks : List L} {cs : List Ob},(∀ k ∈ cs,lenK (toksW d k) + 6 ≤ 48 * bulkO d k) → lenK (pairsK d (ks.zip cs)) ≤ 48 * (ks.map (fun k => k.length + 1)).sum + 48 * (cs.map (bulkO d)).sum
 | [],cs,_ => by simp [pairsK,lenK]
 | k :: ks,[],_ => by simp [pairsK,lenK]
 | k :: ks,c :: cs,h => by
   have h1:=h c (by simp)
   have h2:=pairsK_le (ks:=ks) (cs:=cs) (fun x hx => h x (by simp [hx]))
   have h3:=pairsK_cons d (k,c) (ks.zip cs) []
   rw [List.append_nil,List.append_nil] at h3
   have h4:=nameW_le k
   rw [List.zip_cons_cons,h3,lenK_cons,lenK_append]
   simp only [List.map_cons,List.sum_cons]
   omega
theorem toksW_le : ∀ (d : Nat) (o : Ob),okO d o → lenK (toksW d o) + 6 ≤ 48 * bulkO d o
 | 0,_,h => h.elim
 | d + 1,o,h => by
   have hk : ∀ k ∈ o.kids,lenK (toksW d k) + 6 ≤ 48 * bulkO d k:=fun k hk => toksW_le d k (h.2.2.2.2.2.2 k hk)
   have e:=bulk_pos d o
   cases o with
   | mk k n g s ks cs =>
     rcases okO_kinds h with ⟨rfl,rfl,rfl,rfl,rfl,rfl⟩ | ⟨rfl,hn,rfl,rfl,rfl,rfl⟩ | ⟨rfl,hn,rfl,rfl,rfl,rfl⟩ | ⟨rfl,hn,rfl,rfl,rfl,rfl⟩ | ⟨rfl,rfl,rfl,hs,rfl,rfl⟩ | ⟨rfl,rfl,rfl,hs,rfl,rfl⟩ | ⟨rfl,hn,rfl,rfl,rfl⟩ | ⟨rfl,rfl,rfl,rfl,rfl⟩ | ⟨rfl,rfl,rfl,rfl,hkb⟩
     · have : lenK (toksW (d + 1) (.mk 0 0 0 [] [] [])) = 5:=rfl
       omega
     · rcases hn with rfl | rfl
       · have : lenK (toksW (d + 1) (.mk 1 0 0 [] [] [])) = 6:=rfl
         omega
       · have : lenK (toksW (d + 1) (.mk 1 1 0 [] [] [])) = 5:=rfl
         omega
     · have e1 : toksW (d + 1) (.mk 2 n 0 [] [] []) = [digI n]:=rfl
       have:=digI_le n hn.1 hn.2
       rw [e1,lenK_one];omega
     · have e1 : toksW (d + 1) (.mk 3 n 0 [] [] []) = [realT n]:=rfl
       have:=realT_le n hn.1 hn.2
       rw [e1,lenK_one];omega
     · have e1 : toksW (d + 1) (.mk 4 0 0 s [] []) = [strW s]:=rfl
       have e2:=strW_le s
       have e3 : bulkO (d + 1) (.mk 4 0 0 s [] []) = 1 + s.length + 0 + 0:=rfl
       rw [e1,lenK_one];omega
     · have e1 : toksW (d + 1) (.mk 5 0 0 s [] []) = [nameW s]:=rfl
       have e2:=nameW_le s
       have e3 : bulkO (d + 1) (.mk 5 0 0 s [] []) = 1 + s.length + 0 + 0:=rfl
       rw [e1,lenK_one];omega
     · have e1 : toksW (d + 1) (.mk 8 n g [] [] []) = [digI n,digI g,[82]]:=rfl
       have:=digI_le n (by omega) (by omega)
       have:=digI_le g (by omega) (by omega)
       rw [e1,lenK_cons,lenK_cons,lenK_one]
       simp only [List.length_cons,List.length_nil]
       omega
     · have e1 : toksW (d + 1) (.mk 6 0 0 [] [] cs) = [91] :: (kidsK d cs ++ [[93]]):=rfl
       have e2:=kidsK_le hk
       have e3 : bulkO (d + 1) (.mk 6 0 0 [] [] cs) = 1 + 0 + 0 + (cs.map (bulkO d)).sum:=rfl
       simp only [Ob.kids] at e2
       rw [e1,lenK_cons,lenK_append,lenK_one]
       simp only [List.length_cons,List.length_nil]
       omega
     · have e1 : toksW (d + 1) (.mk 7 0 0 [] ks cs) = [60,60] :: (pairsK d (ks.zip cs) ++ [[62,62]]):=rfl
       have e2:=pairsK_le (ks:=ks) hk
       have e3 : bulkO (d + 1) (.mk 7 0 0 [] ks cs) = 1 + 0 + (ks.map (fun k => k.length + 1)).sum + (cs.map (bulkO d)).sum:=rfl
       simp only [Ob.kids] at e2
       rw [e1,lenK_cons,lenK_append,lenK_one]
       simp only [List.length_cons,List.length_nil]
       omega
theorem textW_le {o : Ob} (h : okO 24 o) : (textW o).length ≤ 48 * bulkO 24 o:=by
 have h1:=joinW_le 32 (toksW 24 o)
 have h2:=toksW_le 24 o h
 unfold textW;omega
theorem sum_mid {α : Type} (f : α → Nat) (a b : List α) (x : α) : ((a ++ x :: b).map f).sum = f x + ((a ++ b).map f).sum:=by
 simp only [List.map_append,List.map_cons,List.sum_append,List.sum_cons];omega
theorem bulk_put {o : Ob} {k : L} (v : Ob) (hk : k ∉ o.keys) (d : Nat) : bulkO (d + 1) (putO o k v) = bulkO (d + 1) o + (k.length + 1) + bulkO d v:=by
 rw [put_new v hk]
 obtain ⟨kd,n,g,s,ks,cs⟩:=o
 obtain ⟨i,hi⟩ : ∃ i,lowS ks k = i:=⟨_,rfl⟩
 simp only [Ob.keys,Ob.kids,hi]
 show 1 + s.length + ((ks.take i ++ k :: ks.drop i).map (fun k => k.length + 1)).sum + ((cs.take i ++ v :: cs.drop i).map (bulkO d)).sum = 1 + s.length + (ks.map (fun k => k.length + 1)).sum + (cs.map (bulkO d)).sum + (k.length + 1) + bulkO d v
 rw [sum_mid,sum_mid,List.take_append_drop,List.take_append_drop]
 omega
theorem bulk_int (d : Nat) (n : Int) : bulkO (d + 1) (.int n) = 1:=rfl
theorem itemW_le {i : It} {t : L} (h : itemW i = .good t) : t.length ≤ 48 * bulkO 24 i.ob + 1000:=by
 obtain ⟨h1,h2,h3,h4⟩:=itemW_good h
 obtain ⟨g1,g2,g3,g4⟩:=(numsB_iff i).1 h1
 have d1:=digI_le i.num (by omega) (by omega)
 have d2:=digI_le i.gen (by omega) (by omega)
 rcases h4 with ⟨h9,rfl⟩ | ⟨h9,hc,rfl⟩
 · have:=textW_le (okO_of_check h2 h9)
   simp only [headI,wObjL,wEndobj,List.length_append,List.length_cons,List.length_nil];omega
 · obtain ⟨e1,e2,e3,e4⟩:=lenO_drop h2 h9
   have e5:=textW_le (okO_of_check hc (by rw [lenO_kind];decide))
   have e6 : bulkO 24 (lenO i.ob) = bulkO 24 (.mk 7 0 0 [] i.ob.keys i.ob.kids) + (wLength.length + 1) + bulkO 23 (.int i.ob.s.length):=bulk_put _ (by simpa [Ob.keys] using e1) 23
   rw [bulk_int] at e6
   have e7 : bulkO 24 (.mk 7 0 0 [] i.ob.keys i.ob.kids) + i.ob.s.length = bulkO 24 i.ob:=by
     show 1 + 0 + (i.ob.keys.map (fun k => k.length + 1)).sum + (i.ob.kids.map (bulkO 23)).sum + i.ob.s.length = 1 + i.ob.s.length + (i.ob.keys.map (fun k => k.length + 1)).sum + (i.ob.kids.map (bulkO 23)).sum
     omega
   have e8 : wLength.length = 6:=rfl
   simp only [headI,wObjL,wEndobj,wStream,wEndstream,List.length_append,List.length_cons,List.length_nil];omega
theorem partsW_len : ∀ {s : L} {l : List It} {r : L} {ps : List Sl},partsW s l = .good (r,ps) → r.length ≤ s.length + 48 * (l.map fun i => bulkO 24 i.ob).sum + 1000 * l.length
 | s,[],r,ps,h => by rw [partsW] at h;cases h;simp
 | s,i :: l,r,ps,h => by
   rw [partsW] at h
   cases h1 : itemW i with
   | bad k => rw [h1] at h;cases h
   | good t =>
     rw [h1] at h
     dsimp only at h
     cases h2 : partsW (s ++ t) l with
     | bad k => rw [h2] at h;cases h
     | good z =>
       obtain ⟨r2,p2⟩:=z
       rw [h2] at h
       cases h
       have:=partsW_len h2
       have:=itemW_le h1
       rw [List.length_append] at *
       simp only [List.map_cons,List.sum_cons,List.length_cons]
       omega
def sizeO : Nat → Ob → Nat
 | 0,_ => 0
 | d + 1,o => 1 + o.s.length / 50 + (o.keys.map fun k => k.length / 50).sum + (o.kids.map (sizeO d)).sum
theorem map_sum_le {α : Type} {f g : α → Nat} : ∀ {l : List α},(∀ x ∈ l,f x ≤ g x) → (l.map f).sum ≤ (l.map g).sum
 | [],_ => by simp
 | x :: l,h => by
   have h1:=h x (by simp)
   have h2:=map_sum_le (l:=l) (fun y hy => h y (by simp [hy]))
   simp only [List.map_cons,List.sum_cons];omega
theorem size_bulk : ∀ (d : Nat) (o : Ob),sizeO d o ≤ bulkO d o
 | 0,_ => Nat.zero_le _
 | d + 1,o => by
   have h1:=map_sum_le (l:=o.kids) (fun k _ => size_bulk d k)
   have h2:=map_sum_le (l:=o.keys) (f:=fun k => k.length / 50) (g:=fun k => k.length + 1) (fun k _ => Nat.le_trans (Nat.div_le_self _ _) (Nat.le_succ _))
   have h3 : o.s.length / 50 ≤ o.s.length:=Nat.div_le_self _ _
   unfold sizeO bulkO;omega
theorem take_sum_le {α : Type} (f : α → Nat) (l : List α) (k : Nat) : ((l.take k).map f).sum ≤ (l.map f).sum:=by
 have h : ((l.take k ++ l.drop k).map f).sum = (l.map f).sum:=by rw [List.take_append_drop]
 rw [List.map_append,List.sum_append] at h;omega
theorem take_sum_succ {α : Type} (f : α → Nat) (l : List α) (k : Nat) (h : k < l.length) : ((l.take (k + 1)).map f).sum = ((l.take k).map f).sum + f l[k]:=by
 rw [List.take_succ_eq_append_getElem h,List.map_append,List.sum_append];simp
def sizeD (d : Nat) (D : Dc) : Nat:=sizeO d D.trail + (D.items.map fun i => sizeO d i.ob).sum
def bulkD (d : Nat) (D : Dc) : Nat:=bulkO d D.trail + (D.items.map fun i => bulkO d i.ob).sum
theorem mem_sum_le {α : Type} (f : α → Nat) : ∀ {l : List α} {x : α},x ∈ l → f x ≤ (l.map f).sum
 | y :: l,x,h => by
   rcases List.mem_cons.1 h with rfl | h
   · simp
   · have:=mem_sum_le f h
     simp only [List.map_cons,List.sum_cons];omega
theorem partsW_cons {s : L} {i : It} {l : List It} {r : L} {ps : List Sl} (h : partsW s (i :: l) = .good (r, ps)) :
   ∃ t ps',itemW i = .good t ∧ partsW (s ++ t) l = .good (r,ps') ∧ ps = ⟨i.num,1,s.length,i.gen⟩ :: ps':=by
 rw [partsW] at h
 cases h1 : itemW i with
 | bad k => rw [h1] at h;cases h
 | good t =>
   rw [h1] at h
   dsimp only at h
   cases h2 : partsW (s ++ t) l with
   | bad k => rw [h2] at h;cases h
   | good z =>
     obtain ⟨r2,p2⟩:=z
     rw [h2] at h
     cases h
     exact ⟨t,p2,rfl,h2,rfl⟩
theorem partsW_step {s : L} {l : List It} {k : Nat} {r : L} {ps : List Sl} {i : It} (h : partsW s (l.drop k) = .good (r, ps)) (hi : l[k]? = some i) :
   ∃ t ps',itemW i = .good t ∧ partsW (s ++ t) (l.drop (k + 1)) = .good (r,ps') ∧ ps = ⟨i.num,1,s.length,i.gen⟩ :: ps':=by
 obtain ⟨hk,rfl⟩:=List.getElem?_eq_some_iff.1 hi
 rw [List.drop_eq_getElem_cons hk] at h
 exact partsW_cons h
structure Fit (i : It) : Prop where
 nums : numsB i = true
 chk : checkB 24 i.ob = 0
 kind : i.ob.kind ≠ 8
 bulk : bulkO 24 i.ob ≤ 1048576
 len : i.ob.kind = 9 → checkB 24 (lenO i.ob) = 0 ∧ bulkO 24 (lenO i.ob) ≤ 2000000 ∧ i.ob.s.length ≤ 1000000000
theorem itemW_fit {i : It} (h : Fit i) : ∃ t,itemW i = .good t:=by
 unfold itemW
 rw [if_neg (by simp [h.nums]),if_neg (by simp [h.chk]),if_neg h.kind]
 by_cases h9 : i.ob.kind = 9
 · rw [if_pos h9]
   have hl:=(h.len h9).1
   unfold lenO at hl
   unfold setO
   rw [if_neg (by simp [dictB,Ob.kind]),if_neg (by rw [dict_chk h.chk h9];simp),if_neg (by simp [hl])]
   exact ⟨_,rfl⟩
 · rw [if_neg h9];exact ⟨_,rfl⟩
theorem partsW_fit : ∀ {l : List It} (s : L),(∀ i ∈ l,Fit i) → ∃ r ps,partsW s l = .good (r,ps)
 | [],s,_ => ⟨s,[],rfl⟩
 | i :: l,s,h => by
   obtain ⟨t,ht⟩:=itemW_fit (h i (by simp))
   obtain ⟨r,ps,hr⟩:=partsW_fit (l:=l) (s ++ t) (fun x hx => h x (by simp [hx]))
   refine ⟨r,⟨i.num,1,s.length,i.gen⟩ :: ps,?_⟩
   rw [partsW,ht]
   dsimp only
   rw [hr]
theorem cont_zero {o : Ob} (h : contB o = 0) : checkB 24 o = 0 ∧ o.kind ≠ 8:=by
 unfold contB at h
 by_cases h1 : checkB 24 o = 0
 · rw [if_neg (by simp [h1])] at h
   refine ⟨h1,fun h8 => ?_⟩
   rw [if_pos (.inl h8)] at h;cases h
 · rw [if_pos h1] at h;exact absurd h h1
theorem fit_of {i : It} (h1 : numsB i = true) (h2 : contB i.ob = 0) (hb : bulkO 24 i.ob ≤ 1048576) (hk : i.ob.kids.length ≤ 8190) : Fit i:=by
 obtain ⟨h3,h4⟩:=cont_zero h2
 refine ⟨h1,h3,h4,hb,fun h9 => ?_⟩
 obtain ⟨e1,e2,e3,e4⟩:=lenO_drop h3 h9
 have hs : i.ob.s.length ≤ bulkO 24 i.ob:=bulk_s 23 i.ob
 have e6 : bulkO 24 (lenO i.ob) = bulkO 24 (.mk 7 0 0 [] i.ob.keys i.ob.kids) + (wLength.length + 1) + bulkO 23 (.int i.ob.s.length):=bulk_put _ (by simpa [Ob.keys] using e1) 23
 rw [bulk_int] at e6
 have e7 : bulkO 24 (.mk 7 0 0 [] i.ob.keys i.ob.kids) + i.ob.s.length = bulkO 24 i.ob:=by
   show 1 + 0 + (i.ob.keys.map (fun k => k.length + 1)).sum + (i.ob.kids.map (bulkO 23)).sum + i.ob.s.length = 1 + i.ob.s.length + (i.ob.keys.map (fun k => k.length + 1)).sum + (i.ob.kids.map (bulkO 23)).sum
   omega
 have e8 : wLength.length = 6:=rfl
 refine ⟨?_,by omega,by omega⟩
 exact checkB_put (.inl rfl) (dict_chk h3 h9) (by simpa [Ob.keys] using e1) (by decide) (by simp [Ob.int,Ob.kind]) (chk_int (by omega) (by omega) 22) (fun h9 => by cases h9) (by show i.ob.kids.length < 8191;omega)
structure DocFit (D : Dc) : Prop where
 many : D.items.length ≤ 1000000
 bulk : bulkD 24 D ≤ 1048576
 kids : ∀ i ∈ D.items,i.ob.kids.length ≤ 8190
theorem DocFit.items {D : Dc} (h : DocFit D) (h0 : docB D = 0) : ∀ i ∈ D.items,Fit i:=by
 intro i hi
 have hc:=((docB_iff D).1 h0).1.all i hi
 have:=mem_sum_le (fun i : It => bulkO 24 i.ob) hi
 have hb:=h.bulk
 unfold bulkD at hb
 exact fit_of hc.1 hc.2 (by omega) (h.kids i hi)
theorem find_fresh {ps1 ps2 ps : List Sl} {x : Sl} (h : ps1 ++ x :: ps2 = ps) (hp : ps.Pairwise fun a b => a.num < b.num) : ps1.find? (fun y => y.num == x.num) = none:=by
 subst h
 rw [List.find?_eq_none]
 intro y hy
 have:=(List.pairwise_append.1 hp).2.2 y hy x (by simp)
 simp;omega
theorem parts_up {l : List It} {s r : L} {ps : List Sl} (h : partsW s l = .good (r,ps)) (hl : ItemsOk none l) : ps.Pairwise fun a b => a.num < b.num:=by
 have h1:=(partsW_ok h).1.nums
 have h2:=hl.up.2
 have h3 : (l.map (·.num)).Pairwise (· < ·):=List.pairwise_map.2 h2
 rw [← h1] at h3
 exact List.pairwise_map.1 h3
theorem parts_mono {s : L} {l : List It} {r : L} {ps : List Sl} (h : partsW s l = .good (r,ps)) : s.length ≤ r.length:=(partsW_ok h).2
theorem valid_items {D : Dc} (h : docB D = 0) : D.items ≠ []:=fun h0 => by
 have hT:=((docB_iff D).1 h).2
 have:=hT.root.2
 rw [h0] at this
 unfold followO at this
 rw [if_neg (by rw [hT.root.1];decide)] at this
 simp [Ob.zero,Ob.kind] at this
theorem mostW_last {l : List It} {j : Nat} {i : It} (hl : l.length = j + 1) (hi : l[j]? = some i) : mostW l = i.num.toNat:=by
 unfold mostW
 rw [List.getLast?_eq_getElem?,hl,Nat.add_sub_cancel,hi]
structure MadeOk (D : Dc) (r : L) (ps : List Sl) : Prop where
 parts : partsW headW D.items = .good (r,ps)
 items : ItemsOk none D.items
 trail : TrailOk D.items D.trail
 fit : ∀ i ∈ D.items,Fit i
 rlen : r.length ≤ 1051000000
 rne : r ≠ []
 most : mostW D.items ≤ 8191
 chk : checkB 24 (sizeT D) = 0
 kind : (sizeT D).kind = 7
 bulk : bulkO 24 (sizeT D) ≤ 2000000
 zero : ps.find? (fun x => x.num == 0) = none
theorem made_ok {D : Dc} (h : docB D = 0) (hf : DocFit D) : ∃ r ps,MadeOk D r ps:=by
 obtain ⟨hI,hT⟩:=(docB_iff D).1 h
 have hF:=hf.items h
 obtain ⟨r,ps,hp⟩:=partsW_fit headW hF
 have hb:=hf.bulk
 unfold bulkD at hb
 have hlen:=partsW_len hp
 have hm:=mostW_le hI
 have hh : headW.length = 15:=rfl
 have h2:=hf.many
 have hbk : bulkO 24 (sizeT D) = bulkO 24 D.trail + (wSize.length + 1) + bulkO 23 (.int (mostW D.items + 1)):=bulk_put _ hT.no_size 23
 rw [bulk_int] at hbk
 have hs : wSize.length = 4:=rfl
 refine ⟨r,ps,hp,hI,hT,hF,by omega,?_,hm,hT.size (by omega) (by omega),?_,by omega,?_⟩
 · intro h0
   have:=(partsW_ok hp).2
   rw [h0,hh] at this;simp at this
 · unfold sizeT putO;exact hT.kind
 · rw [List.find?_eq_none]
   intro x hx
   have hn:=(partsW_ok hp).1.nums
   have : x.num ∈ ps.map (·.num):=List.mem_map_of_mem hx
   rw [hn] at this
   obtain ⟨i,hi,he⟩:=List.mem_map.1 this
   have:=((numsB_iff i).1 (hI.all i hi).1).1
   simp;omega
theorem rowW_le {n : Nat} {x : Sl} (h : SlotOk n x) : (rowW x).length ≤ 3000:=by
 have h1 : (digU x.a.toNat).length ≤ 1000:=Nat.le_trans (digU_len _ 10 (by have:=h.a1;have:=h.a0;omega)) (by decide)
 have h2 : (digU x.b.toNat).length ≤ 1000:=Nat.le_trans (digU_len _ 10 (by have:=h.b1;have:=h.b0;omega)) (by decide)
 simp only [rowW,padW,List.length_append,List.length_cons,List.length_nil,List.length_replicate]
 omega
theorem rows_le : ∀ {l : List Sl},(∀ x ∈ l,(rowW x).length ≤ 3000) → (l.flatMap rowW).length ≤ 3000 * l.length
 | [],_ => by simp
 | x :: l,h => by
   have h1:=h x (by simp)
   have h2:=rows_le (l:=l) (fun y hy => h y (by simp [hy]))
   rw [List.flatMap_cons,List.length_append,List.length_cons];omega
theorem slots_ok {D : Dc} {r : L} {ps : List Sl} (h : MadeOk D r ps) : ∀ (k : Nat) (x : Sl),(slotsW ps (mostW D.items))[k]? = some x → SlotOk k x:=by
 intro k x hx
 obtain ⟨hk,rfl⟩:=List.getElem?_eq_some_iff.1 hx
 rw [slotsW_at]
 exact slotW_ok (partsW_ok h.parts).1 h.items (by have:=h.rlen;omega) _ h.most k (by rw [slotsW_len] at hk;omega)
theorem tableW_le {D : Dc} {r : L} {ps : List Sl} (h : MadeOk D r ps) : (tableW (slotsW ps (mostW D.items)) (sizeT D)).length ≤ 1000000000:=by
 have h1:=textW_le (okO_of_check h.chk (by rw [h.kind];decide))
 have h2:=h.bulk
 have h3:=rows_le (l:=slotsW ps (mostW D.items)) (fun x hx => by
   obtain ⟨k,hk,rfl⟩:=List.mem_iff_getElem.1 hx
   exact rowW_le (slots_ok h k _ (List.getElem?_eq_getElem hk)))
 have h4:=slotsW_len ps (mostW D.items)
 have h5:=h.most
 have h6 : (digU (slotsW ps (mostW D.items)).length).length ≤ 1000:=Nat.le_trans (digU_len _ 10 (by omega)) (by decide)
 simp only [tableW,wXref,wTrailer,List.length_append,List.length_cons,List.length_nil]
 omega
theorem tailW_le {n : Nat} (h : n ≤ 2147483647) : (tailW n).length ≤ 2000:=by
 have h6 : (digU n).length ≤ 1000:=Nat.le_trans (digU_len _ 10 (by omega)) (by decide)
 simp only [tailW,wStart,wEof,List.length_append,List.length_cons,List.length_nil]
 omega
theorem fileW_of {D : Dc} {r : L} {ps : List Sl} (h0 : docB D = 0) (h : MadeOk D r ps) :
   fileW D = if 1048576 < (r ++ (tableW (slotsW ps (mostW D.items)) (sizeT D) ++ tailW r.length)).length then .bad 5 else .good (r ++ (tableW (slotsW ps (mostW D.items)) (sizeT D) ++ tailW r.length),slotsW ps (mostW D.items)):=by
 unfold fileW
 rw [if_neg (by simp [h0]),h.parts]
theorem fileW_bad {D : Dc} (h0 : docB D ≠ 0) : fileW D = .bad (docB D):=by unfold fileW;rw [if_pos h0]
end Fo
