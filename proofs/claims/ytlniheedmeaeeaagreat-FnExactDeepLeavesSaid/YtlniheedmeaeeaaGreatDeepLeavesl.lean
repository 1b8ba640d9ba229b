/- What the functions do that the law reaches; and the law. -/
import Derived.Test.YtlniheedmeaeeaaGreatDeepLeavesl2
set_option autoImplicit false
set_option linter.unusedVariables false
set_option linter.unusedSimpArgs false
namespace GoAm
open Go
set_option maxHeartbeats 8000000 in
set_option maxRecDepth 20000 in
theorem c_laws_FnExactDeepLeaves (M:Mem) (v_d:List V) (d:ty_Deep.D) (h_d:Rep ty_Deep M v_d d) (hb_d:Bd 9223372036854775807 ty_Deep d) (v_ids:V) (ids:List ty_Int.D) (h_ids:Rep (.sl ty_Int) M [v_ids] ids) (hb_ids:Bd 9223372036854775807 (.sl ty_Int) ids) (v_ds:V) (ds:List ty_Int.D) (h_ds:Rep (.sl ty_Int) M [v_ds] ds) (hb_ds:Bd 9223372036854775807 (.sl ty_Int) ds):∃ M',aCall T0 F_laws_FnExactDeepLeaves [.agg v_d.toArray,v_ids,v_ds] M=some (.bool true,M'):=by
  have hl_v_d:v_d.length=16:=(h_d).len
  have ho_v_d:=(h_d).one
  by_cases hg_ids:1048576 < (ids.length:Int)
  · refine ⟨M,?_⟩
    obtain ⟨_,_,rfl⟩:=h_ids.slen
    obtain ⟨_,_,rfl⟩:=h_ds.slen
    rw [aCall_eq T_laws_FnExactDeepLeaves]; unfold A_laws_FnExactDeepLeaves C_laws_FnExactDeepLeaves; simp [apA,hl_v_d,ho_v_d,hg_ids]
  have hb1_ids:Bd 1048576 (.sl ty_Int) ids:=⟨by omega,fun _ _=>trivial⟩
  by_cases hg_ds:1048576 < (ds.length:Int)
  · refine ⟨M,?_⟩
    obtain ⟨_,_,rfl⟩:=h_ids.slen
    obtain ⟨_,_,rfl⟩:=h_ds.slen
    rw [aCall_eq T_laws_FnExactDeepLeaves]; unfold A_laws_FnExactDeepLeaves C_laws_FnExactDeepLeaves; simp [apA,hl_v_d,ho_v_d,hg_ids,hg_ds]
  have hb1_ds:Bd 1048576 (.sl ty_Int) ds:=⟨by omega,fun _ _=>trivial⟩
  obtain ⟨l_d,s1_d,s2_d,s3_d⟩:=k_laws_szDeep (M++[⟨v_d,1,2⟩]) v_d d 1048576 (h_d.mono ((List.prefix_refl _).trans (List.prefix_append _ _))) hb_d (by omega) (by omega)
  have r1:rdn (M++[⟨v_d,1,2⟩]) (M.length) 0 16=some v_d:=rdn_box (by first | simp | rfl) hl_v_d.symm
  by_cases hl_d:l_d < 0
  · refine ⟨M,?_⟩
    obtain ⟨_,_,rfl⟩:=h_ids.slen
    obtain ⟨_,_,rfl⟩:=h_ds.slen
    rw [aCall_eq T_laws_FnExactDeepLeaves]; unfold A_laws_FnExactDeepLeaves C_laws_FnExactDeepLeaves; simp [apA,hl_v_d,ho_v_d,r1,hg_ids,hg_ds,s2_d,hl_d]
  have hb1_d:=s3_d (by omega)
  have hr_0:Bd 1048576 (.sl ty_Int) (lvA d ids ds):=lvA_bd d ids ds hb1_ids
  have ht_0:=tot_IntS _ hr_0
  have hr_1:Bd 1048576 (.sl ty_Int) (lvB d ids ds):=lvB_bd d ids ds hb1_ids
  have ht_1:=tot_IntS _ hr_1
  have ht_d:=tot_Deep _ hb1_d
  have ht_ids:=tot_IntS _ hb1_ids
  have ht_ds:=tot_IntS _ hb1_ds
  have r2:rdn (M++[⟨v_d,1,2⟩]) (M.length) 0 16=some v_d:=rdn_box (by first | simp | rfl) hl_v_d.symm
  obtain ⟨M3,u4,L5,p6,t7,o8,F9⟩:=k_laws_toDeep (M++[⟨v_d,1,2⟩]) v_d d (h_d.mono ((List.prefix_refl _).trans (List.prefix_append _ _))) hb1_d
  have f10:∀ l ∈ L5,M.length+1≤l∧l < M3.length:=by intro l hl; have:=F9.2 l hl; (try simp only [List.length_append,List.length_cons,List.length_nil] at this); omega
  have q11:M <+: M3:=(List.prefix_append _ _).trans p6
  have ln12:M.length+1≤M3.length:=by have:=p6.length_le; (try simp only [List.length_append,List.length_cons,List.length_nil] at this); omega
  have b13:M3[M.length]?=some ⟨v_d,1,2⟩:=get_pre p6 (by simp)
  have z14:M <+: M3:=(List.prefix_refl _).trans q11
  have hl_u4:u4.length=16:=(o8.rep).len
  have ho_u4:=(o8.rep).one
  obtain ⟨M16,u17,L18,p19,t20,o21,F22⟩:=k_laws_toIntS M3 v_ids ids (h_ids.mono (z14.trans (List.prefix_refl _))) hb1_ids
  have f23:∀ l ∈ L18,M3.length≤l∧l < M16.length:=by intro l hl; have:=F22.2 l hl; (try simp only [List.length_append,List.length_cons,List.length_nil] at this); omega
  have q24:M3 <+: M16:=(List.prefix_refl _).trans p19
  have ln25:M3.length≤M16.length:=by have:=p19.length_le; (try simp only [List.length_append,List.length_cons,List.length_nil] at this); omega
  have b26:M16[M.length]?=some ⟨v_d,1,2⟩:=get_pre q24 b13
  have o27:=Own.grow q24 o8
  have z28:M <+: M16:=z14.trans q24
  obtain ⟨M30,u31,L32,p33,t34,o35,F36⟩:=k_laws_toIntS M16 v_ds ds (h_ds.mono (z28.trans (List.prefix_refl _))) hb1_ds
  have f37:∀ l ∈ L32,M16.length≤l∧l < M30.length:=by intro l hl; have:=F36.2 l hl; (try simp only [List.length_append,List.length_cons,List.length_nil] at this); omega
  have q38:M16 <+: M30:=(List.prefix_refl _).trans p33
  have ln39:M16.length≤M30.length:=by have:=p33.length_le; (try simp only [List.length_append,List.length_cons,List.length_nil] at this); omega
  have b40:M30[M.length]?=some ⟨v_d,1,2⟩:=get_pre q38 b26
  have o41:=Own.grow q38 o27
  have o42:=Own.grow q38 o21
  have z43:M <+: M30:=z28.trans q38
  obtain ⟨M45,g48,g49,p46,s47,o50,o51⟩:=d_spec_DeepLeaves M30 u4 d ((Own.grow (List.prefix_refl _) o41)).rep hb1_d u17 ids ((Own.grow (List.prefix_refl _) o42)).rep hb1_ids u31 ds ((Own.grow (List.prefix_refl _) o35)).rep hb1_ds
  have q52:M30 <+: M45:=(List.prefix_refl _).trans p46
  have ln53:M30.length≤M45.length:=by have:=p46.length_le; (try simp only [List.length_append,List.length_cons,List.length_nil] at this); omega
  have b54:M45[M.length]?=some ⟨v_d,1,2⟩:=get_pre q52 b40
  have o55:=Own.grow q52 o41
  have o56:=Own.grow q52 o42
  have o57:=Own.grow q52 o35
  have z58:M <+: M45:=z43.trans q52
  have r61:rdn M45 (M.length) 0 16=some v_d:=rdn_box b54 hl_v_d.symm
  obtain ⟨M62,u63,L64,p65,t66,o67,F68⟩:=k_laws_toDeep M45 v_d d (h_d.mono (z58.trans (List.prefix_refl _))) hb1_d
  have f69:∀ l ∈ L64,M45.length≤l∧l < M62.length:=by intro l hl; have:=F68.2 l hl; (try simp only [List.length_append,List.length_cons,List.length_nil] at this); omega
  have q70:M45 <+: M62:=(List.prefix_refl _).trans p65
  have ln71:M45.length≤M62.length:=by have:=p65.length_le; (try simp only [List.length_append,List.length_cons,List.length_nil] at this); omega
  have b72:M62[M.length]?=some ⟨v_d,1,2⟩:=get_pre q70 b54
  have z73:M <+: M62:=z58.trans q70
  have y74:M45 <+: M62:=(List.prefix_refl _).trans q70
  have hl_u63:u63.length=16:=(o67.rep).len
  have ho_u63:=(o67.rep).one
  obtain ⟨M76,u77,L78,p79,t80,o81,F82⟩:=k_laws_toIntS (M62++[⟨u63,1,2⟩]) v_ids ids (h_ids.mono (z73.trans (List.prefix_append _ _))) hb1_ids
  have f83:∀ l ∈ L78,M62.length+1≤l∧l < M76.length:=by intro l hl; have:=F82.2 l hl; (try simp only [List.length_append,List.length_cons,List.length_nil] at this); omega
  have q84:M62 <+: M76:=(List.prefix_append _ _).trans p79
  have ln85:M62.length+1≤M76.length:=by have:=p79.length_le; (try simp only [List.length_append,List.length_cons,List.length_nil] at this); omega
  have b86:M76[M.length]?=some ⟨v_d,1,2⟩:=get_pre q84 b72
  have b87:M76[M62.length]?=some ⟨u63,1,2⟩:=get_pre p79 (by simp)
  have o88:=Own.grow q84 o67
  have z89:M <+: M76:=z73.trans q84
  have y90:M45 <+: M76:=y74.trans q84
  obtain ⟨M92,u93,L94,p95,t96,o97,F98⟩:=k_laws_toIntS M76 v_ds ds (h_ds.mono (z89.trans (List.prefix_refl _))) hb1_ds
  have f99:∀ l ∈ L94,M76.length≤l∧l < M92.length:=by intro l hl; have:=F98.2 l hl; (try simp only [List.length_append,List.length_cons,List.length_nil] at this); omega
  have q100:M76 <+: M92:=(List.prefix_refl _).trans p95
  have ln101:M76.length≤M92.length:=by have:=p95.length_le; (try simp only [List.length_append,List.length_cons,List.length_nil] at this); omega
  have b102:M92[M.length]?=some ⟨v_d,1,2⟩:=get_pre q100 b86
  have b103:M92[M62.length]?=some ⟨u63,1,2⟩:=get_pre q100 b87
  have o104:=Own.grow q100 o88
  have o105:=Own.grow q100 o81
  have z106:M <+: M92:=z89.trans q100
  have y107:M45 <+: M92:=y90.trans q100
  have r109:rdn M92 (M62.length) 0 16=some u63:=rdn_box b103 hl_u63.symm
  obtain ⟨M110,g113,g114,L115,L116,p111,s112,o117,o118,F119⟩:=d_impl_DeepLeaves M92 u63 d ((Own.grow (List.prefix_refl _) o104)).rep hb1_d u77 ids ((Own.grow (List.prefix_refl _) o105)).rep hb1_ids u93 ds ((Own.grow (List.prefix_refl _) o97)).rep hb1_ds
  have q120:M92 <+: M110:=(List.prefix_refl _).trans p111
  have ln121:M92.length≤M110.length:=by have:=p111.length_le; (try simp only [List.length_append,List.length_cons,List.length_nil] at this); omega
  have b122:M110[M.length]?=some ⟨v_d,1,2⟩:=get_pre q120 b102
  have b123:M110[M62.length]?=some ⟨u63,1,2⟩:=get_pre q120 b103
  have o124:=Own.grow q120 o104
  have o125:=Own.grow q120 o105
  have o126:=Own.grow q120 o97
  have z127:M <+: M110:=z106.trans q120
  have y128:M45 <+: M110:=y107.trans q120
  have f129:∀ l ∈ L115,M92.length≤l∧l < M110.length:=by intro l hl; have:=F119.2 l (by simp [hl]); (try simp only [List.length_append,List.length_cons,List.length_nil] at this); omega
  have nd130:L115.Nodup:=by have:=F119.1; first | exact this | (simp only [List.nodup_append] at this; simp [this])
  have f132:∀ l ∈ L116,M92.length≤l∧l < M110.length:=by intro l hl; have:=F119.2 l (by simp [hl]); (try simp only [List.length_append,List.length_cons,List.length_nil] at this); omega
  have nd133:L116.Nodup:=by have:=F119.1; first | exact this | (simp only [List.nodup_append] at this; simp [this])
  have dj135:∀ l,l ∈ L116→l ∈ L115→False:=by intro l h1 h2; have:=F119.1; simp only [List.nodup_append,List.mem_append] at this; grind
  have dj136:∀ l,l ∈ L115→l ∈ L116→False:=by intro l h1 h2; have:=F119.1; simp only [List.nodup_append,List.mem_append] at this; grind
  have e137:=(ans_of (k_laws_eqIntS M110 _ _ _ _ ((Own.grow (List.prefix_refl _) o117)).rep (o50.mono (y128.trans (List.prefix_refl _))) (hr_0.mono (by decide)))).1 rfl
  have e138:=(ans_of (k_laws_eqIntS M110 _ _ _ _ ((Own.grow (List.prefix_refl _) o118)).rep (o51.mono (y128.trans (List.prefix_refl _))) (hr_1.mono (by decide)))).1 rfl
  have r139:rdn M110 (M62.length) 0 16=some u63:=rdn_box b123 hl_u63.symm
  have r140:rdn M110 (M.length) 0 16=some v_d:=rdn_box b122 hl_v_d.symm
  obtain ⟨M141,u142,L143,p144,t145,o146,F147⟩:=k_laws_toDeep M110 v_d d (h_d.mono (z127.trans (List.prefix_refl _))) hb1_d
  have f148:∀ l ∈ L143,M110.length≤l∧l < M141.length:=by intro l hl; have:=F147.2 l hl; (try simp only [List.length_append,List.length_cons,List.length_nil] at this); omega
  have q149:M110 <+: M141:=(List.prefix_refl _).trans p144
  have ln150:M110.length≤M141.length:=by have:=p144.length_le; (try simp only [List.length_append,List.length_cons,List.length_nil] at this); omega
  have b151:M141[M.length]?=some ⟨v_d,1,2⟩:=get_pre q149 b122
  have b152:M141[M62.length]?=some ⟨u63,1,2⟩:=get_pre q149 b123
  have o153:=Own.grow q149 o124
  have o154:=Own.grow q149 o125
  have o155:=Own.grow q149 o126
  have o156:=Own.grow q149 o117
  have o157:=Own.grow q149 o118
  have z158:M <+: M141:=z127.trans q149
  have y159:M45 <+: M141:=y128.trans q149
  have hl_u142:u142.length=16:=(o146.rep).len
  have ho_u142:=(o146.rep).one
  have e161:=(ans_of (k_laws_eqDeep M141 _ _ _ _ ((Own.grow (List.prefix_refl _) o153)).rep ((Own.grow (List.prefix_refl _) o146)).rep (hb1_d.mono (by decide)))).1 rfl
  obtain ⟨M162,u163,L164,p165,t166,o167,F168⟩:=k_laws_toIntS M141 v_ids ids (h_ids.mono (z158.trans (List.prefix_refl _))) hb1_ids
  have f169:∀ l ∈ L164,M141.length≤l∧l < M162.length:=by intro l hl; have:=F168.2 l hl; (try simp only [List.length_append,List.length_cons,List.length_nil] at this); omega
  have q170:M141 <+: M162:=(List.prefix_refl _).trans p165
  have ln171:M141.length≤M162.length:=by have:=p165.length_le; (try simp only [List.length_append,List.length_cons,List.length_nil] at this); omega
  have b172:M162[M.length]?=some ⟨v_d,1,2⟩:=get_pre q170 b151
  have b173:M162[M62.length]?=some ⟨u63,1,2⟩:=get_pre q170 b152
  have o174:=Own.grow q170 o153
  have o175:=Own.grow q170 o154
  have o176:=Own.grow q170 o155
  have o177:=Own.grow q170 o156
  have o178:=Own.grow q170 o157
  have z179:M <+: M162:=z158.trans q170
  have y180:M45 <+: M162:=y159.trans q170
  have e182:=(ans_of (k_laws_eqIntS M162 _ _ _ _ ((Own.grow (List.prefix_refl _) o175)).rep ((Own.grow (List.prefix_refl _) o167)).rep (hb1_ids.mono (by decide)))).1 rfl
  obtain ⟨M183,u184,L185,p186,t187,o188,F189⟩:=k_laws_toIntS M162 v_ds ds (h_ds.mono (z179.trans (List.prefix_refl _))) hb1_ds
  have f190:∀ l ∈ L185,M162.length≤l∧l < M183.length:=by intro l hl; have:=F189.2 l hl; (try simp only [List.length_append,List.length_cons,List.length_nil] at this); omega
  have q191:M162 <+: M183:=(List.prefix_refl _).trans p186
  have ln192:M162.length≤M183.length:=by have:=p186.length_le; (try simp only [List.length_append,List.length_cons,List.length_nil] at this); omega
  have b193:M183[M.length]?=some ⟨v_d,1,2⟩:=get_pre q191 b172
  have b194:M183[M62.length]?=some ⟨u63,1,2⟩:=get_pre q191 b173
  have o195:=Own.grow q191 o174
  have o196:=Own.grow q191 o175
  have o197:=Own.grow q191 o176
  have o198:=Own.grow q191 o177
  have o199:=Own.grow q191 o178
  have z200:M <+: M183:=z179.trans q191
  have y201:M45 <+: M183:=y180.trans q191
  have e203:=(ans_of (k_laws_eqIntS M183 _ _ _ _ ((Own.grow (List.prefix_refl _) o197)).rep ((Own.grow (List.prefix_refl _) o188)).rep (hb1_ds.mono (by decide)))).1 rfl
  have r204:rdn M183 (M62.length) 0 16=some u63:=rdn_box b194 hl_u63.symm
  obtain ⟨M205,m206,up207,o208⟩:=k_laws_markDeep M183 _ _ _ (1) (Own.grow (List.prefix_refl _) o195) F68.1 hb1_d (by omega) (by omega)
  have ln209:M183.length≤M205.length:=by have:=up207.1; (try simp only [List.length_append,List.length_cons,List.length_nil] at this); omega
  have hh211:M183[M.length]?=some ⟨v_d,1,2⟩:=get_pre (List.prefix_refl _) b193
  have b210:M205[M.length]?=some ⟨v_d,1,2⟩:=UpdG.get up207 hh211 (fun hl=>by have:=f69 _ hl; omega)
  have hh213:M183[M62.length]?=some ⟨u63,1,2⟩:=get_pre (List.prefix_refl _) b194
  have b212:M205[M62.length]?=some ⟨u63,1,2⟩:=UpdG.get up207 hh213 (fun hl=>by have:=f69 _ hl; omega)
  have o214:=Own.updg up207 (Own.grow (List.prefix_refl _) o196) (fun l hl hk=>(by have:=f83 l hl; have:=f69 l hk; omega))
  have o215:=Own.updg up207 (Own.grow (List.prefix_refl _) o197) (fun l hl hk=>(by have:=f99 l hl; have:=f69 l hk; omega))
  have o216:=Own.updg up207 (Own.grow (List.prefix_refl _) o198) (fun l hl hk=>(by have:=f129 l hl; have:=f69 l hk; omega))
  have o217:=Own.updg up207 (Own.grow (List.prefix_refl _) o199) (fun l hl hk=>(by have:=f132 l hl; have:=f69 l hk; omega))
  have z218:M <+: M205:=UpdG.pre up207 (z200.trans (List.prefix_refl _)) (fun l hl=>by have:=f69 l hl; omega)
  have y219:M45 <+: M205:=UpdG.pre up207 (y201.trans (List.prefix_refl _)) (fun l hl=>by have:=f69 l hl; omega)
  obtain ⟨M220,m221,up222,o223⟩:=k_laws_markIntS M205 _ _ _ (1+gt_Deep d) (Own.grow (List.prefix_refl _) o214) F82.1 hb1_ids (by omega) (by omega)
  have ln224:M205.length≤M220.length:=by have:=up222.1; (try simp only [List.length_append,List.length_cons,List.length_nil] at this); omega
  have hh226:M205[M.length]?=some ⟨v_d,1,2⟩:=get_pre (List.prefix_refl _) b210
  have b225:M220[M.length]?=some ⟨v_d,1,2⟩:=UpdG.get up222 hh226 (fun hl=>by have:=f83 _ hl; omega)
  have hh228:M205[M62.length]?=some ⟨u63,1,2⟩:=get_pre (List.prefix_refl _) b212
  have b227:M220[M62.length]?=some ⟨u63,1,2⟩:=UpdG.get up222 hh228 (fun hl=>by have:=f83 _ hl; omega)
  have o229:=Own.updg up222 (Own.grow (List.prefix_refl _) o208) (fun l hl hk=>(by have:=f69 l hl; have:=f83 l hk; omega))
  have o230:=Own.updg up222 (Own.grow (List.prefix_refl _) o215) (fun l hl hk=>(by have:=f99 l hl; have:=f83 l hk; omega))
  have o231:=Own.updg up222 (Own.grow (List.prefix_refl _) o216) (fun l hl hk=>(by have:=f129 l hl; have:=f83 l hk; omega))
  have o232:=Own.updg up222 (Own.grow (List.prefix_refl _) o217) (fun l hl hk=>(by have:=f132 l hl; have:=f83 l hk; omega))
  have z233:M <+: M220:=UpdG.pre up222 (z218.trans (List.prefix_refl _)) (fun l hl=>by have:=f83 l hl; omega)
  have y234:M45 <+: M220:=UpdG.pre up222 (y219.trans (List.prefix_refl _)) (fun l hl=>by have:=f83 l hl; omega)
  obtain ⟨M235,m236,up237,o238⟩:=k_laws_markIntS M220 _ _ _ (1+gt_Deep d+gt_IntS ids) (Own.grow (List.prefix_refl _) o230) F98.1 hb1_ds (by omega) (by omega)
  have ln239:M220.length≤M235.length:=by have:=up237.1; (try simp only [List.length_append,List.length_cons,List.length_nil] at this); omega
  have hh241:M220[M.length]?=some ⟨v_d,1,2⟩:=get_pre (List.prefix_refl _) b225
  have b240:M235[M.length]?=some ⟨v_d,1,2⟩:=UpdG.get up237 hh241 (fun hl=>by have:=f99 _ hl; omega)
  have hh243:M220[M62.length]?=some ⟨u63,1,2⟩:=get_pre (List.prefix_refl _) b227
  have b242:M235[M62.length]?=some ⟨u63,1,2⟩:=UpdG.get up237 hh243 (fun hl=>by have:=f99 _ hl; omega)
  have o244:=Own.updg up237 (Own.grow (List.prefix_refl _) o229) (fun l hl hk=>(by have:=f69 l hl; have:=f99 l hk; omega))
  have o245:=Own.updg up237 (Own.grow (List.prefix_refl _) o223) (fun l hl hk=>(by have:=f83 l hl; have:=f99 l hk; omega))
  have o246:=Own.updg up237 (Own.grow (List.prefix_refl _) o231) (fun l hl hk=>(by have:=f129 l hl; have:=f99 l hk; omega))
  have o247:=Own.updg up237 (Own.grow (List.prefix_refl _) o232) (fun l hl hk=>(by have:=f132 l hl; have:=f99 l hk; omega))
  have z248:M <+: M235:=UpdG.pre up237 (z233.trans (List.prefix_refl _)) (fun l hl=>by have:=f99 l hl; omega)
  have y249:M45 <+: M235:=UpdG.pre up237 (y234.trans (List.prefix_refl _)) (fun l hl=>by have:=f99 l hl; omega)
  have c250:¬ (1+gt_Deep d+gt_IntS ids+gt_IntS ds < 0):=by omega
  have e251:=(ans_of (k_laws_eqIntS M235 _ _ _ _ ((Own.grow (List.prefix_refl _) o246)).rep (o50.mono (y249.trans (List.prefix_refl _))) (hr_0.mono (by decide)))).1 rfl
  have e252:=(ans_of (k_laws_eqIntS M235 _ _ _ _ ((Own.grow (List.prefix_refl _) o247)).rep (o51.mono (y249.trans (List.prefix_refl _))) (hr_1.mono (by decide)))).1 rfl
  obtain ⟨M253,m254,up255,o256⟩:=k_laws_markIntS M235 _ _ _ (1) (Own.grow (List.prefix_refl _) o246) nd130 hr_0 (by omega) (by omega)
  have ln257:M235.length≤M253.length:=by have:=up255.1; (try simp only [List.length_append,List.length_cons,List.length_nil] at this); omega
  have hh259:M235[M.length]?=some ⟨v_d,1,2⟩:=get_pre (List.prefix_refl _) b240
  have b258:M253[M.length]?=some ⟨v_d,1,2⟩:=UpdG.get up255 hh259 (fun hl=>by have:=f129 _ hl; omega)
  have hh261:M235[M62.length]?=some ⟨u63,1,2⟩:=get_pre (List.prefix_refl _) b242
  have b260:M253[M62.length]?=some ⟨u63,1,2⟩:=UpdG.get up255 hh261 (fun hl=>by have:=f129 _ hl; omega)
  have o262:=Own.updg up255 (Own.grow (List.prefix_refl _) o244) (fun l hl hk=>(by have:=f69 l hl; have:=f129 l hk; omega))
  have o263:=Own.updg up255 (Own.grow (List.prefix_refl _) o245) (fun l hl hk=>(by have:=f83 l hl; have:=f129 l hk; omega))
  have o264:=Own.updg up255 (Own.grow (List.prefix_refl _) o238) (fun l hl hk=>(by have:=f99 l hl; have:=f129 l hk; omega))
  have o265:=Own.updg up255 (Own.grow (List.prefix_refl _) o247) (fun l hl hk=>dj135 l hl hk)
  have z266:M <+: M253:=UpdG.pre up255 (z248.trans (List.prefix_refl _)) (fun l hl=>by have:=f129 l hl; omega)
  have y267:M45 <+: M253:=UpdG.pre up255 (y249.trans (List.prefix_refl _)) (fun l hl=>by have:=f129 l hl; omega)
  obtain ⟨M268,m269,up270,o271⟩:=k_laws_markIntS M253 _ _ _ (1+gt_IntS (lvA d ids ds)) (Own.grow (List.prefix_refl _) o265) nd133 hr_1 (by omega) (by omega)
  have ln272:M253.length≤M268.length:=by have:=up270.1; (try simp only [List.length_append,List.length_cons,List.length_nil] at this); omega
  have hh274:M253[M.length]?=some ⟨v_d,1,2⟩:=get_pre (List.prefix_refl _) b258
  have b273:M268[M.length]?=some ⟨v_d,1,2⟩:=UpdG.get up270 hh274 (fun hl=>by have:=f132 _ hl; omega)
  have hh276:M253[M62.length]?=some ⟨u63,1,2⟩:=get_pre (List.prefix_refl _) b260
  have b275:M268[M62.length]?=some ⟨u63,1,2⟩:=UpdG.get up270 hh276 (fun hl=>by have:=f132 _ hl; omega)
  have o277:=Own.updg up270 (Own.grow (List.prefix_refl _) o262) (fun l hl hk=>(by have:=f69 l hl; have:=f132 l hk; omega))
  have o278:=Own.updg up270 (Own.grow (List.prefix_refl _) o263) (fun l hl hk=>(by have:=f83 l hl; have:=f132 l hk; omega))
  have o279:=Own.updg up270 (Own.grow (List.prefix_refl _) o264) (fun l hl hk=>(by have:=f99 l hl; have:=f132 l hk; omega))
  have o280:=Own.updg up270 (Own.grow (List.prefix_refl _) o256) (fun l hl hk=>dj136 l hl hk)
  have z281:M <+: M268:=UpdG.pre up270 (z266.trans (List.prefix_refl _)) (fun l hl=>by have:=f132 l hl; omega)
  have y282:M45 <+: M268:=UpdG.pre up270 (y267.trans (List.prefix_refl _)) (fun l hl=>by have:=f132 l hl; omega)
  have c283:¬ (1+gt_IntS (lvA d ids ds)+gt_IntS (lvB d ids ds) < 0):=by omega
  have d284:=k_laws_heldIntS M268 _ _ (1) ((Own.grow (List.prefix_refl _) o280)).rep hr_0 (by omega) (by omega)
  have c285:¬ (1+gt_IntS (lvA d ids ds) < 0):=by omega
  have d286:=k_laws_heldIntS M268 _ _ (1+gt_IntS (lvA d ids ds)) ((Own.grow (List.prefix_refl _) o271)).rep hr_1 (by omega) (by omega)
  have c287:¬ (1+gt_IntS (lvA d ids ds)+gt_IntS (lvB d ids ds) < 0):=by omega
  have r288:rdn M268 (M.length) 0 16=some v_d:=rdn_box b273 hl_v_d.symm
  obtain ⟨M289,u290,L291,p292,t293,o294,F295⟩:=k_laws_toDeep M268 v_d d (h_d.mono (z281.trans (List.prefix_refl _))) hb1_d
  have f296:∀ l ∈ L291,M268.length≤l∧l < M289.length:=by intro l hl; have:=F295.2 l hl; (try simp only [List.length_append,List.length_cons,List.length_nil] at this); omega
  have q297:M268 <+: M289:=(List.prefix_refl _).trans p292
  have ln298:M268.length≤M289.length:=by have:=p292.length_le; (try simp only [List.length_append,List.length_cons,List.length_nil] at this); omega
  have b299:M289[M.length]?=some ⟨v_d,1,2⟩:=get_pre q297 b273
  have b300:M289[M62.length]?=some ⟨u63,1,2⟩:=get_pre q297 b275
  have o301:=Own.grow q297 o277
  have o302:=Own.grow q297 o278
  have o303:=Own.grow q297 o279
  have o304:=Own.grow q297 o280
  have o305:=Own.grow q297 o271
  have z306:M <+: M289:=z281.trans q297
  have y307:M45 <+: M289:=y282.trans q297
  have hl_u290:u290.length=16:=(o294.rep).len
  have ho_u290:=(o294.rep).one
  obtain ⟨M309,u310,L311,p312,t313,o314,F315⟩:=k_laws_toIntS M289 v_ids ids (h_ids.mono (z306.trans (List.prefix_refl _))) hb1_ids
  have f316:∀ l ∈ L311,M289.length≤l∧l < M309.length:=by intro l hl; have:=F315.2 l hl; (try simp only [List.length_append,List.length_cons,List.length_nil] at this); omega
  have q317:M289 <+: M309:=(List.prefix_refl _).trans p312
  have ln318:M289.length≤M309.length:=by have:=p312.length_le; (try simp only [List.length_append,List.length_cons,List.length_nil] at this); omega
  have b319:M309[M.length]?=some ⟨v_d,1,2⟩:=get_pre q317 b299
  have b320:M309[M62.length]?=some ⟨u63,1,2⟩:=get_pre q317 b300
  have o321:=Own.grow q317 o301
  have o322:=Own.grow q317 o302
  have o323:=Own.grow q317 o303
  have o324:=Own.grow q317 o304
  have o325:=Own.grow q317 o305
  have o326:=Own.grow q317 o294
  have z327:M <+: M309:=z306.trans q317
  have y328:M45 <+: M309:=y307.trans q317
  obtain ⟨M330,u331,L332,p333,t334,o335,F336⟩:=k_laws_toIntS M309 v_ds ds (h_ds.mono (z327.trans (List.prefix_refl _))) hb1_ds
  have f337:∀ l ∈ L332,M309.length≤l∧l < M330.length:=by intro l hl; have:=F336.2 l hl; (try simp only [List.length_append,List.length_cons,List.length_nil] at this); omega
  have q338:M309 <+: M330:=(List.prefix_refl _).trans p333
  have ln339:M309.length≤M330.length:=by have:=p333.length_le; (try simp only [List.length_append,List.length_cons,List.length_nil] at this); omega
  have b340:M330[M.length]?=some ⟨v_d,1,2⟩:=get_pre q338 b319
  have b341:M330[M62.length]?=some ⟨u63,1,2⟩:=get_pre q338 b320
  have o342:=Own.grow q338 o321
  have o343:=Own.grow q338 o322
  have o344:=Own.grow q338 o323
  have o345:=Own.grow q338 o324
  have o346:=Own.grow q338 o325
  have o347:=Own.grow q338 o326
  have o348:=Own.grow q338 o314
  have z349:M <+: M330:=z327.trans q338
  have y350:M45 <+: M330:=y328.trans q338
  obtain ⟨M352,g355,g356,L357,L358,p353,s354,o359,o360,F361⟩:=d_impl_DeepLeaves M330 u290 d ((Own.grow (List.prefix_refl _) o347)).rep hb1_d u310 ids ((Own.grow (List.prefix_refl _) o348)).rep hb1_ids u331 ds ((Own.grow (List.prefix_refl _) o335)).rep hb1_ds
  have q362:M330 <+: M352:=(List.prefix_refl _).trans p353
  have ln363:M330.length≤M352.length:=by have:=p353.length_le; (try simp only [List.length_append,List.length_cons,List.length_nil] at this); omega
  have b364:M352[M.length]?=some ⟨v_d,1,2⟩:=get_pre q362 b340
  have b365:M352[M62.length]?=some ⟨u63,1,2⟩:=get_pre q362 b341
  have o366:=Own.grow q362 o342
  have o367:=Own.grow q362 o343
  have o368:=Own.grow q362 o344
  have o369:=Own.grow q362 o345
  have o370:=Own.grow q362 o346
  have o371:=Own.grow q362 o347
  have o372:=Own.grow q362 o348
  have o373:=Own.grow q362 o335
  have z374:M <+: M352:=z349.trans q362
  have y375:M45 <+: M352:=y350.trans q362
  have f376:∀ l ∈ L357,M330.length≤l∧l < M352.length:=by intro l hl; have:=F361.2 l (by simp [hl]); (try simp only [List.length_append,List.length_cons,List.length_nil] at this); omega
  have nd377:L357.Nodup:=by have:=F361.1; first | exact this | (simp only [List.nodup_append] at this; simp [this])
  have f379:∀ l ∈ L358,M330.length≤l∧l < M352.length:=by intro l hl; have:=F361.2 l (by simp [hl]); (try simp only [List.length_append,List.length_cons,List.length_nil] at this); omega
  have nd380:L358.Nodup:=by have:=F361.1; first | exact this | (simp only [List.nodup_append] at this; simp [this])
  have dj382:∀ l,l ∈ L358→l ∈ L357→False:=by intro l h1 h2; have:=F361.1; simp only [List.nodup_append,List.mem_append] at this; grind
  have dj383:∀ l,l ∈ L357→l ∈ L358→False:=by intro l h1 h2; have:=F361.1; simp only [List.nodup_append,List.mem_append] at this; grind
  have e384:=(ans_of (k_laws_eqIntS M352 _ _ _ _ ((Own.grow (List.prefix_refl _) o359)).rep (o50.mono (y375.trans (List.prefix_refl _))) (hr_0.mono (by decide)))).1 rfl
  have e385:=(ans_of (k_laws_eqIntS M352 _ _ _ _ ((Own.grow (List.prefix_refl _) o360)).rep (o51.mono (y375.trans (List.prefix_refl _))) (hr_1.mono (by decide)))).1 rfl
  have d386:=k_laws_heldIntS M352 _ _ (1) ((Own.grow (List.prefix_refl _) o369)).rep hr_0 (by omega) (by omega)
  have c387:¬ (1+gt_IntS (lvA d ids ds) < 0):=by omega
  have d388:=k_laws_heldIntS M352 _ _ (1+gt_IntS (lvA d ids ds)) ((Own.grow (List.prefix_refl _) o370)).rep hr_1 (by omega) (by omega)
  have c389:¬ (1+gt_IntS (lvA d ids ds)+gt_IntS (lvB d ids ds) < 0):=by omega
  obtain ⟨_,_,rfl⟩:=h_ids.slen
  obtain ⟨_,_,rfl⟩:=h_ds.slen
  rw [aCall_eq T_laws_FnExactDeepLeaves]; unfold A_laws_FnExactDeepLeaves C_laws_FnExactDeepLeaves; simp (maxSteps:=4000000) [apA,hl_v_d,ho_v_d,r1,hg_ids,hg_ds,s2_d,hl_d,r2,t7,p6,hl_u4,ho_u4,t20,p19,t34,p33,s47,p46,r61,t66,p65,hl_u63,ho_u63,t80,p79,t96,p95,r109,s112,p111,e137,e138,r139,r140,t145,p144,hl_u142,ho_u142,e161,t166,p165,e182,t187,p186,e203,r204,m206,m221,m236,c250,e251,e252,m254,m269,c283,d284,c285,d286,c287,r288,t293,p292,hl_u290,ho_u290,t313,p312,t334,p333,s354,p353,e384,e385,d386,c387,d388,c389,thenD_pre]
  all_goals exact gc_ex _ _ _
theorem law_laws_FnExactDeepLeaves (M:Mem) (avs:List V) (_:∀ b ∈ M,b.st ≠ 2) (h:Ins [(true,(.pr (.int .i64) (.pr (.sl (.int .i64)) (.pr (.pr (.int .i64) (.pr (.int .i64) (.pr (.int .i64) (.pr (.pr (.int .i64) (.pr (.sl (.sl .u8)) (.sl (.pr (.int .i64) (.pr (.int .i64) (.int .i64)))))) (.sl (.pr (.int .i64) (.pr (.int .i64) (.sl .u8)))))))) (.pr (.int .i64) (.pr (.int .i64) (.pr (.int .i64) (.pr (.pr (.int .i64) (.pr (.sl (.sl .u8)) (.sl (.pr (.int .i64) (.pr (.int .i64) (.int .i64)))))) (.sl (.pr (.int .i64) (.pr (.int .i64) (.sl .u8)))))))))))),(false,(.sl (.int .i64))),(false,(.sl (.int .i64)))] M avs):∃ M',aCall T0 F_laws_FnExactDeepLeaves avs M=some (.bool true,M'):=by
  obtain ⟨v_d,_,d,rfl,h_d,f_d,h⟩:=ins_cons h
  obtain ⟨v_ids,_,ids,rfl,h_ids,f_ids,h⟩:=ins_cons h
  obtain ⟨v_ds,_,ds,rfl,h_ds,f_ds,h⟩:=ins_cons h
  obtain rfl:=ins_nil h
  obtain ⟨c_d,rfl,h2_d⟩:=repv_agg h_d
  exact c_laws_FnExactDeepLeaves M c_d d h2_d (fit_bd f_d) v_ids ids (repv_one h_ids) (fit_bd f_ids) v_ds ds (repv_one h_ds) (fit_bd f_ds)
end GoAm
